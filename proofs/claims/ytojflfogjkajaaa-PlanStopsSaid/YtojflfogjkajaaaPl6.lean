/-
  law15: awake, PlanTells, PlanBounds, PlanStops.
-/
import Derived.Test.YtojflfogjkajaaaPl4
section
namespace Go.Proofs.Ytojflfogjkajaaa.Od
open Go.Vm Go.Proofs.Ytojflfogjkajaaa.Gr Go.Proofs.Ytojflfogjkajaaa.Rc
abbrev RInv (R : GI) (dirty : List Int) (chg : Int → Bool) (i : Int) (out : List Int) (W : List (Int × Int)) : Prop := PInv R dirty chg (ordA R (RcF R dirty)) ((ordA R (RcF R dirty)).drop i.toNat) out W
def RInv2 (R : GI) (dirty : List Int) (chg : Int → Bool) (i : Int) (out called : List Int) (W : List (Int × Int)) : Prop := RInv R dirty chg i out W ∧ called = out
theorem RInv.next {R : GI} (hG : GOk R) {dirty : List Int} {chg : Int → Bool} {i v : Int} {out : List Int} {W : List (Int × Int)} (h : RInv R dirty chg i out W) (h0 : 0 ≤ i) (hv : (ordA R (RcF R dirty))[i.toNat]? = some v) :
    RInv R dirty chg (i + 1) (stepD (frstW dirty W v) v out) (stepW R chg (frstW dirty W v) v) ∧ DOk R (frstW dirty W v) ∧ out.length ≤ 20000 ∧ Dom (List.length (α := List Int) R) v := by
  have e : (ordA R (RcF R dirty)).drop i.toNat = v :: (ordA R (RcF R dirty)).drop (i + 1).toNat := by
    rw [show (i + 1).toNat = i.toNat + 1 by omega]
    obtain ⟨hi, e⟩ := List.getElem?_eq_some_iff.1 hv
    rw [List.drop_eq_getElem_cons hi, e]
  unfold RInv at h
  rw [e] at h
  have hl := ordA_len R (RcF R dirty)
  have hR := hG.1
  have hol := h.ol
  obtain ⟨h1, B, h2, h3⟩ := h.step hG
  exact ⟨h1, ⟨hG, h3.mono (by omega)⟩, by omega, h.dm v (List.mem_cons_self ..)⟩
theorem PInv.wok {R : GI} {dirty : List Int} {chg : Int → Bool} {i : Int} {out : List Int} {W : List (Int × Int)} (h : RInv R dirty chg i out W) : WOk (List.length (α := List Int) R) (2 * (ordA R (RcF R dirty)).length) W := by
  have := h.le
  exact (PInv.ok h).mono (by omega)
theorem RInv.fin {R : GI} {dirty : List Int} {chg : Int → Bool} {i : Int} {out : List Int} {W : List (Int × Int)} (h : RInv R dirty chg i out W) (hi : ¬ i < (ordA R (RcF R dirty)).length) : out = runF R dirty chg := by
  unfold RInv at h
  rw [List.drop_of_length_le (by omega)] at h
  exact h.stop
theorem RInv.begin {R : GI} (hG : GOk R) {dirty : List Int} {chg : Int → Bool} (he : ordE R (RcF R dirty) = 0) : RInv R dirty chg 0 [] [] := by
  rcases pst hG dirty with ⟨h1, _⟩ | ⟨_, h⟩
  · rw [he] at h1
    exact absurd h1 (by decide)
  · exact PInv.start h.nd h.dom
theorem run_fault {R : GI} (hG : GOk R) {dirty : List Int} {chg : Int → Bool} (he : ordE R (RcF R dirty) ≠ 0) : runF R dirty chg = [] := by
  rcases pst hG dirty with ⟨_, h2⟩ | ⟨h1, _⟩
  · unfold runF
    rw [h2]
    rfl
  · exact absurd h1 he
noncomputable def env_runn (R : GI) (dirty : List Int) : Env where
  P := Try.prog
  ty := tys2
  specs := specsOf [sp_pplan, sp_first]
  upd := updsOf [so_stepn.upd]
  asMap := fun | 24 => some .mii | _ => none
  heads := fun | 7 => some { slots := [(30, .int .i64)], boxes := [(26, [.fop .graph, .nf, .opq 24 .mii, .slc 7000 I])], keep := [4], inv := fun _ (x : Int × GI × Unit × List (Int × Int) × List Int × Unit) => 0 ≤ x.1 ∧ x.1 ≤ (ordA R (RcF R dirty)).length ∧ x.2.1 = R ∧ RInv R dirty allT x.1 x.2.2.2.2.1 x.2.2.2.1, measure := fun _ (x : Int × GI × Unit × List (Int × Int) × List Int × Unit) => ((ordA R (RcF R dirty)).length - x.1).toNat } | _ => none
def g_runn_vc (R : GI) (dirty : List Int) : Prop :=
  ((List.length R ≤ (20000 : Nat) ∧ ∀ (v : Nat) (l : List Int), R[v]? = some l → l.Nodup ∧ ∀ (x : Int), x ∈ l → (0 : Int) ≤ x ∧ x < (↑(List.length R) : Int) ∧ x ≠ (↑v : Int)) ∧ dirty.length ≤ (1000000000 : Nat)) ∧ ((!decide (ordE R (RcF R dirty) = (0 : Int))) = true → ([], ordE R (RcF R dirty), ()) = (runF R dirty allT, ordE R (RcF R dirty), ())) ∧ ((!decide (ordE R (RcF R dirty) = (0 : Int))) = false → ((some (Obj.box [V.list LK.tmp I dirty]) = some (Obj.box [V.list LK.tmp I dirty]) ∧ True) ∧ (0 : Int) ≤ (0 : Int) ∧ (0 : Int) ≤ (↑(ordA R (RcF R dirty)).length : Int) ∧ R = R ∧ RInv R dirty allT (0 : Int) [] []) ∧ ∀ (x : Int × List (List Int) × Unit × List (Int × Int) × List Int × Unit), (0 : Int) ≤ x.1 ∧ x.1 ≤ (↑(ordA R (RcF R dirty)).length : Int) ∧ x.2.1 = R ∧ RInv R dirty allT x.1 x.2.2.2.2.1 x.2.2.2.1 → (decide (x.1 < (↑(ordA R (RcF R dirty)).length : Int)) = true → ((0 : Int) ≤ x.1 ∧ x.1 < (↑(ordA R (RcF R dirty)).length : Int)) ∧ ∀ (x_1 : Int), (ordA R (RcF R dirty))[x.1.toNat]? = some x_1 → dirty.length ≤ (1000000000 : Nat) ∧ (dirty.contains x_1 = true → ((-9223372036854775808 : Int) ≤ x_1 ∧ x_1 ≤ (9223372036854775807 : Int)) ∧ ((-9223372036854775808 : Int) ≤ mGet x.2.2.2.1 x_1 + (1 : Int) ∧ mGet x.2.2.2.1 x_1 + (1 : Int) ≤ (9223372036854775807 : Int)) ∧ (((-9223372036854775808 : Int) ≤ x_1 ∧ x_1 ≤ (9223372036854775807 : Int)) ∧ ((-9223372036854775808 : Int) ≤ mGet x.2.2.2.1 x_1 + (1 : Int) ∧ mGet x.2.2.2.1 x_1 + (1 : Int) ≤ (9223372036854775807 : Int)) ∧ x.2.2.2.1.length ≤ (1000000000 : Nat)) ∧ (DOk x.2.1 (mPut x.2.2.2.1 x_1 (mGet x.2.2.2.1 x_1 + (1 : Int))) ∧ x.2.2.2.2.1.length ≤ (1000000 : Nat) ∧ Dom x.2.1.length x_1) ∧ ((-9223372036854775808 : Int) ≤ x.1 + (1 : Int) ∧ x.1 + (1 : Int) ≤ (9223372036854775807 : Int)) ∧ (some (Obj.box [V.list LK.tmp I dirty]) = some (Obj.box [V.list LK.tmp I dirty]) ∧ True) ∧ ((0 : Int) ≤ x.1 + (1 : Int) ∧ x.1 + (1 : Int) ≤ (↑(ordA R (RcF R dirty)).length : Int) ∧ x.2.1 = R ∧ RInv R dirty allT (x.1 + (1 : Int)) (stepD (mPut x.2.2.2.1 x_1 (mGet x.2.2.2.1 x_1 + (1 : Int))) x_1 x.2.2.2.2.1) (stepW x.2.1 allT (mPut x.2.2.2.1 x_1 (mGet x.2.2.2.1 x_1 + (1 : Int))) x_1)) ∧ ((↑(ordA R (RcF R dirty)).length : Int) - (x.1 + (1 : Int))).toNat < ((↑(ordA R (RcF R dirty)).length : Int) - x.1).toNat) ∧ (dirty.contains x_1 = false → (DOk x.2.1 x.2.2.2.1 ∧ x.2.2.2.2.1.length ≤ (1000000 : Nat) ∧ Dom x.2.1.length x_1) ∧ ((-9223372036854775808 : Int) ≤ x.1 + (1 : Int) ∧ x.1 + (1 : Int) ≤ (9223372036854775807 : Int)) ∧ (some (Obj.box [V.list LK.tmp I dirty]) = some (Obj.box [V.list LK.tmp I dirty]) ∧ True) ∧ ((0 : Int) ≤ x.1 + (1 : Int) ∧ x.1 + (1 : Int) ≤ (↑(ordA R (RcF R dirty)).length : Int) ∧ x.2.1 = R ∧ RInv R dirty allT (x.1 + (1 : Int)) (stepD x.2.2.2.1 x_1 x.2.2.2.2.1) (stepW x.2.1 allT x.2.2.2.1 x_1)) ∧ ((↑(ordA R (RcF R dirty)).length : Int) - (x.1 + (1 : Int))).toNat < ((↑(ordA R (RcF R dirty)).length : Int) - x.1).toNat)) ∧ (decide (x.1 < (↑(ordA R (RcF R dirty)).length : Int)) = false → (x.2.2.2.2.1, (0 : Int), ()) = (runF R dirty allT, ordE R (RcF R dirty), ())))
theorem g_runn_eq (R : GI) (dirty : List Int) : Cond (env_runn R dirty) Try.f50 [.fopq .graph R, .list .tmp I dirty, .nilf] [.list .part I, .int .i64] (runF R dirty allT, ordE R (RcF R dirty), ()) = g_runn_vc R dirty := by kernel_rfl
theorem g_runn_ok (R : GI) (dirty : List Int) (h : GOk R ∧ dirty.length ≤ 1000000000) : g_runn_vc R dirty := by
  unfold g_runn_vc
  simp only [decide_eq_true_eq, decide_eq_false_iff_not, Bool.not_eq_true', Bool.not_eq_false', Bool.not_true, Bool.not_false]
  obtain ⟨hG, hd⟩ := h
  have hl := ordA_len R (RcF R dirty)
  have hR := hG.1
  refine ⟨⟨hG, hd⟩, fun he => by rw [run_fault hG he], fun he => ⟨⟨⟨trivial, trivial⟩, by omega, by omega, trivial, RInv.begin hG he⟩, fun x hx => ?_⟩⟩
  obtain ⟨a1, a2, a3, a4⟩ := hx
  refine ⟨fun c => ⟨⟨a1, c⟩, fun v hv => ⟨hd, fun hf => ?_, fun hf => ?_⟩⟩, fun c => by rw [a4.fin c, he]⟩
  · obtain ⟨b1, b2, b3, b4⟩ := a4.next hG a1 hv
    have b5 := (b2.2.len)
    have hb := ((PInv.wok a4).bnd v)
    rw [frstW, if_pos hf] at b1 b2
    have hv2 := b4
    unfold Dom at hv2
    have hWl := (PInv.wok a4).len
    rw [a3]
    exact ⟨by omega, by omega, ⟨by omega, by omega, by omega⟩, ⟨b2, by omega, b4⟩, by omega, ⟨trivial, trivial⟩, ⟨by omega, by omega, rfl, b1⟩, by omega⟩
  · obtain ⟨b1, b2, b3, b4⟩ := a4.next hG a1 hv
    rw [frstW, if_neg (by rw [hf]; decide)] at b1 b2
    rw [a3]
    exact ⟨⟨b2, by omega, b4⟩, by omega, ⟨trivial, trivial⟩, ⟨by omega, by omega, rfl, b1⟩, by omega⟩
set_option maxRecDepth 20000
theorem runn_pure (R : GI) (dirty : List Int) (h : GOk R ∧ dirty.length ≤ 1000000000) : Pure Try.prog 50 [.fopq .graph R, .list .tmp I dirty, .nilf] (.tuple [.list .part I (runF R dirty allT), .int .i64 (ordE R (RcF R dirty))]) :=
  by have k := Pure.of_cond (g_runn_eq R dirty) (g_runn_ok R dirty h) (specs_ok rfl [sp_pplan, sp_first] [so_stepn.upd] rfl rfl) mixed Try.func50; exact k
noncomputable def q_runn (R : GI) (dirty : List Int) : Prop × V := (GOk R ∧ dirty.length ≤ 1000000000, (.tuple [.list .part I (runF R dirty allT), .int .i64 (ordE R (RcF R dirty))]))
noncomputable def sp_runn : FSpec Try.prog where
 f := 50
 run := fun
  | [.fopq .graph R, v1, .nilf] => (asL I v1 : Option (List Int)).bind fun dirty => some (q_runn R dirty)
  | _ => none
 ok := fun args pre r h hp => by
  split at h
  · rename_i R v1
    obtain ⟨dirty, h1, h⟩ := Option.bind_eq_some_iff.1 h
    exact of_q h hp fun h => (runn_pure R dirty h).weak (.cons (.refl _) (.cons (asL_weak h1) (.cons (.refl _) .nil)))
  · cases h
noncomputable def env_runp (R : GI) (dirty : List Int) (ch : List Bool) : Env where
  P := Try.prog
  ty := tys2
  specs := specsOf [sp_pplan, sp_first]
  upd := updsOf [so_stepc.upd]
  asMap := fun | 24 => some .mii | _ => none
  pins := [9000, 9001]
  heads := fun | 7 => some { slots := [(30, .int .i64)], boxes := [(26, [.fop .graph, .clo 82 [9000, 9001], .opq 24 .mii, .slc 7000 I]), (9000, [.any, .slc 7001 I])], keep := [4, 9001], inv := fun _ (x : Int × GI × Unit × List (Int × Int) × List Int × Unit × List Int × Unit) => 0 ≤ x.1 ∧ x.1 ≤ (ordA R (RcF R dirty)).length ∧ x.2.1 = R ∧ RInv2 R dirty (chgF ch) x.1 x.2.2.2.2.1 x.2.2.2.2.2.2.1 x.2.2.2.1, measure := fun _ (x : Int × GI × Unit × List (Int × Int) × List Int × Unit × List Int × Unit) => ((ordA R (RcF R dirty)).length - x.1).toNat } | _ => none
abbrev ann_runp : Ann := { slots := numP 0 [.list .part I, .int .i64], boxes := [(9000, [.any, .list .part I]), (9001, [.list .tmp .bool])], inv := fun _ _ => True }
def g_runp_vc (R : GI) (dirty : List Int) (ch : List Bool) : Prop :=
  ((List.length R ≤ (20000 : Nat) ∧ ∀ (v : Nat) (l : List Int), R[v]? = some l → l.Nodup ∧ ∀ (x : Int), x ∈ l → (0 : Int) ≤ x ∧ x < (↑(List.length R) : Int) ∧ x ≠ (↑v : Int)) ∧ dirty.length ≤ (1000000000 : Nat)) ∧ ((!decide (ordE R (RcF R dirty) = (0 : Int))) = true → True ∧ ([], ordE R (RcF R dirty), (), [], ch, ()) = (runF R dirty (chgF ch), ordE R (RcF R dirty), (), runF R dirty (chgF ch), ch, ())) ∧ ((!decide (ordE R (RcF R dirty) = (0 : Int))) = false → ((some (Obj.box [V.list LK.tmp I dirty]) = some (Obj.box [V.list LK.tmp I dirty]) ∧ some (Obj.box [V.list LK.tmp Ty.bool ch]) = some (Obj.box [V.list LK.tmp Ty.bool ch]) ∧ True) ∧ (0 : Int) ≤ (0 : Int) ∧ (0 : Int) ≤ (↑(ordA R (RcF R dirty)).length : Int) ∧ R = R ∧ RInv2 R dirty (chgF ch) (0 : Int) [] [] []) ∧ ∀ (x : Int × List (List Int) × Unit × List (Int × Int) × List Int × Unit × List Int × Unit), (0 : Int) ≤ x.1 ∧ x.1 ≤ (↑(ordA R (RcF R dirty)).length : Int) ∧ x.2.1 = R ∧ RInv2 R dirty (chgF ch) x.1 x.2.2.2.2.1 x.2.2.2.2.2.2.1 x.2.2.2.1 → (decide (x.1 < (↑(ordA R (RcF R dirty)).length : Int)) = true → ((0 : Int) ≤ x.1 ∧ x.1 < (↑(ordA R (RcF R dirty)).length : Int)) ∧ ∀ (x_1 : Int), (ordA R (RcF R dirty))[x.1.toNat]? = some x_1 → dirty.length ≤ (1000000000 : Nat) ∧ (dirty.contains x_1 = true → ((-9223372036854775808 : Int) ≤ x_1 ∧ x_1 ≤ (9223372036854775807 : Int)) ∧ ((-9223372036854775808 : Int) ≤ mGet x.2.2.2.1 x_1 + (1 : Int) ∧ mGet x.2.2.2.1 x_1 + (1 : Int) ≤ (9223372036854775807 : Int)) ∧ (((-9223372036854775808 : Int) ≤ x_1 ∧ x_1 ≤ (9223372036854775807 : Int)) ∧ ((-9223372036854775808 : Int) ≤ mGet x.2.2.2.1 x_1 + (1 : Int) ∧ mGet x.2.2.2.1 x_1 + (1 : Int) ≤ (9223372036854775807 : Int)) ∧ x.2.2.2.1.length ≤ (1000000000 : Nat)) ∧ (DOk x.2.1 (mPut x.2.2.2.1 x_1 (mGet x.2.2.2.1 x_1 + (1 : Int))) ∧ x.2.2.2.2.1.length ≤ (1000000 : Nat) ∧ x.2.2.2.2.2.2.1.length ≤ (1000000 : Nat) ∧ Dom x.2.1.length x_1) ∧ ((-9223372036854775808 : Int) ≤ x.1 + (1 : Int) ∧ x.1 + (1 : Int) ≤ (9223372036854775807 : Int)) ∧ (some (Obj.box [V.list LK.tmp I dirty]) = some (Obj.box [V.list LK.tmp I dirty]) ∧ some (Obj.box [V.list LK.tmp Ty.bool ch]) = some (Obj.box [V.list LK.tmp Ty.bool ch]) ∧ True) ∧ ((0 : Int) ≤ x.1 + (1 : Int) ∧ x.1 + (1 : Int) ≤ (↑(ordA R (RcF R dirty)).length : Int) ∧ x.2.1 = R ∧ RInv2 R dirty (chgF ch) (x.1 + (1 : Int)) (stepD (mPut x.2.2.2.1 x_1 (mGet x.2.2.2.1 x_1 + (1 : Int))) x_1 x.2.2.2.2.1) (stepD (mPut x.2.2.2.1 x_1 (mGet x.2.2.2.1 x_1 + (1 : Int))) x_1 x.2.2.2.2.2.2.1) (stepW x.2.1 (chgF ch) (mPut x.2.2.2.1 x_1 (mGet x.2.2.2.1 x_1 + (1 : Int))) x_1)) ∧ ((↑(ordA R (RcF R dirty)).length : Int) - (x.1 + (1 : Int))).toNat < ((↑(ordA R (RcF R dirty)).length : Int) - x.1).toNat) ∧ (dirty.contains x_1 = false → (DOk x.2.1 x.2.2.2.1 ∧ x.2.2.2.2.1.length ≤ (1000000 : Nat) ∧ x.2.2.2.2.2.2.1.length ≤ (1000000 : Nat) ∧ Dom x.2.1.length x_1) ∧ ((-9223372036854775808 : Int) ≤ x.1 + (1 : Int) ∧ x.1 + (1 : Int) ≤ (9223372036854775807 : Int)) ∧ (some (Obj.box [V.list LK.tmp I dirty]) = some (Obj.box [V.list LK.tmp I dirty]) ∧ some (Obj.box [V.list LK.tmp Ty.bool ch]) = some (Obj.box [V.list LK.tmp Ty.bool ch]) ∧ True) ∧ ((0 : Int) ≤ x.1 + (1 : Int) ∧ x.1 + (1 : Int) ≤ (↑(ordA R (RcF R dirty)).length : Int) ∧ x.2.1 = R ∧ RInv2 R dirty (chgF ch) (x.1 + (1 : Int)) (stepD x.2.2.2.1 x_1 x.2.2.2.2.1) (stepD x.2.2.2.1 x_1 x.2.2.2.2.2.2.1) (stepW x.2.1 (chgF ch) x.2.2.2.1 x_1)) ∧ ((↑(ordA R (RcF R dirty)).length : Int) - (x.1 + (1 : Int))).toNat < ((↑(ordA R (RcF R dirty)).length : Int) - x.1).toNat)) ∧ (decide (x.1 < (↑(ordA R (RcF R dirty)).length : Int)) = false → True ∧ (x.2.2.2.2.1, (0 : Int), (), x.2.2.2.2.2.2.1, ch, ()) = (runF R dirty (chgF ch), ordE R (RcF R dirty), (), runF R dirty (chgF ch), ch, ())))
theorem g_runp_eq (R : GI) (dirty : List Int) (ch : List Bool) : CondO (env_runp R dirty ch) Try.f50 [.fopq .graph R, .list .tmp I dirty, .fn (.func 82) [] [.ptr 9000 0, .ptr 9001 0]] [(9000, .box [.nils, .nils]), (9001, .box [.list .tmp .bool ch])] [none, none] ann_runp (runF R dirty (chgF ch), ordE R (RcF R dirty), (), runF R dirty (chgF ch), ch, ()) = g_runp_vc R dirty ch := by kernel_rfl
theorem g_runp_ok (R : GI) (dirty : List Int) (ch : List Bool) (h : GOk R ∧ dirty.length ≤ 1000000000) : g_runp_vc R dirty ch := by
  unfold g_runp_vc
  simp only [decide_eq_true_eq, decide_eq_false_iff_not, Bool.not_eq_true', Bool.not_eq_false', Bool.not_true, Bool.not_false]
  obtain ⟨hG, hd⟩ := h
  have hl := ordA_len R (RcF R dirty)
  have hR := hG.1
  refine ⟨⟨hG, hd⟩, fun he => ⟨trivial, by rw [run_fault hG he]⟩, fun he => ⟨⟨⟨trivial, trivial, trivial⟩, by omega, by omega, trivial, RInv.begin hG he, rfl⟩, fun x hx => ?_⟩⟩
  obtain ⟨a1, a2, a3, a4, a5⟩ := hx
  refine ⟨fun c => ⟨⟨a1, c⟩, fun v hv => ⟨hd, fun hf => ?_, fun hf => ?_⟩⟩, fun c => ⟨trivial, by rw [a5, a4.fin c, he]⟩⟩
  · obtain ⟨b1, b2, b3, b4⟩ := a4.next hG a1 hv
    have b5 := (b2.2.len)
    have hb := ((PInv.wok a4).bnd v)
    rw [frstW, if_pos hf] at b1 b2
    have hv2 := b4
    unfold Dom at hv2
    have hWl := (PInv.wok a4).len
    rw [a3]
    exact ⟨by omega, by omega, ⟨by omega, by omega, by omega⟩, ⟨b2, by omega, by rw [a5]; omega, b4⟩, by omega, ⟨trivial, trivial, trivial⟩, ⟨by omega, by omega, rfl, b1, by rw [a5]⟩, by omega⟩
  · obtain ⟨b1, b2, b3, b4⟩ := a4.next hG a1 hv
    rw [frstW, if_neg (by rw [hf]; decide)] at b1 b2
    rw [a3]
    exact ⟨⟨b2, by omega, by rw [a5]; omega, b4⟩, by omega, ⟨trivial, trivial, trivial⟩, ⟨by omega, by omega, rfl, b1, by rw [a5]⟩, by omega⟩
theorem runp_upd (R : GI) (dirty : List Int) (ch : List Bool) (h : GOk R ∧ dirty.length ≤ 1000000000) : UpdC Try.prog 50 [.fopq .graph R, .list .tmp I dirty, .fn (.func 82) [] [.ptr 9000 0, .ptr 9001 0]] [(9000, .box [.nils, .nils]), (9001, .box [.list .tmp .bool ch])] (.tuple [.list .part I (runF R dirty (chgF ch)), .int .i64 (ordE R (RcF R dirty))]) [(9000, .box [.any, .list .part I (runF R dirty (chgF ch))]), (9001, .box [.list .tmp .bool ch])] :=
  by have k := UpdC.of_cond (g_runp_eq R dirty ch) (g_runp_ok R dirty ch h) (specs_ok rfl [sp_pplan, sp_first] [so_stepc.upd] rfl rfl) mixed Try.func50; exact k
noncomputable def q_runp (R : GI) (dirty : List Int) (ch : List Bool) : Prop × V × Store := (GOk R ∧ dirty.length ≤ 1000000000, .tuple [.list .part I (runF R dirty (chgF ch)), .int .i64 (ordE R (RcF R dirty))], [(9000, .box [.any, .list .part I (runF R dirty (chgF ch))]), (9001, .box [.list .tmp .bool ch])])
noncomputable def so_runp : OSpec Try.prog where
 f := 50
 run := fun args σ => match args, σ with
  | [.fopq .graph R, v1, .fn (.func 82) [] [.ptr 9000 0, .ptr 9001 0]], [(9000, .box [.nils, .nils]), (9001, .box [.list .tmp .bool ch])] => (asL I v1 : Option (List Int)).bind fun dirty => some (q_runp R dirty ch)
  | _, _ => none
 ok := fun args σ pre r σ' h hp => by
  try dsimp only at h
  split at h
  · rename_i R v1 ch
    obtain ⟨dirty, h1, h⟩ := Option.bind_eq_some_iff.1 h
    exact of_qo h hp fun h => (runp_upd R dirty ch h).weak (.cons (.refl _) (.cons (asL_weak h1) (.cons (.refl _) .nil)))
  · cases h
noncomputable def env_lrun (R : GI) (dirty : List Int) (ch : List Bool) : Env where
  P := Try.prog
  ty := tys2
  upd := updsOf [so_runp.upd]
abbrev ann_lrun : Ann := { slots := numP 0 [.list .part I, .list .part I, .int .i64], boxes := [], inv := fun _ _ => True }
def g_lrun_vc (R : GI) (dirty : List Int) (ch : List Bool) : Prop :=
  ((List.length R ≤ (20000 : Nat) ∧ ∀ (v : Nat) (l : List Int), R[v]? = some l → l.Nodup ∧ ∀ (x : Int), x ∈ l → (0 : Int) ≤ x ∧ x < (↑(List.length R) : Int) ∧ x ≠ (↑v : Int)) ∧ dirty.length ≤ (1000000000 : Nat)) ∧ True ∧ (runF R dirty (chgF ch), runF R dirty (chgF ch), ordE R (RcF R dirty), ()) = (runF R dirty (chgF ch), runF R dirty (chgF ch), ordE R (RcF R dirty), ())
theorem g_lrun_eq (R : GI) (dirty : List Int) (ch : List Bool) : CondG (env_lrun R dirty ch) Try.f48 [.fopq .graph R, .list .tmp I dirty, .list .tmp .bool ch] [some 2, none] ann_lrun (runF R dirty (chgF ch), runF R dirty (chgF ch), ordE R (RcF R dirty), ()) = g_lrun_vc R dirty ch := by kernel_rfl
theorem g_lrun_ok (R : GI) (dirty : List Int) (ch : List Bool) (h : GOk R ∧ dirty.length ≤ 1000000000) : g_lrun_vc R dirty ch := by
  unfold g_lrun_vc
  exact ⟨h, trivial, rfl⟩
theorem lrun_pure (R : GI) (dirty : List Int) (ch : List Bool) (h : GOk R ∧ dirty.length ≤ 1000000000) : Pure Try.prog 48 [.fopq .graph R, .list .tmp I dirty, .list .tmp .bool ch] (.tuple [.agg [.list .part I (runF R dirty (chgF ch)), .list .part I (runF R dirty (chgF ch))], .int .i64 (ordE R (RcF R dirty))]) :=
  by have k := Pure.of_condG (r := (.tuple [.agg [.list .part I (runF R dirty (chgF ch)), .list .part I (runF R dirty (chgF ch))], .int .i64 (ordE R (RcF R dirty))])) (g_lrun_eq R dirty ch) (g_lrun_ok R dirty ch h) rfl (specs_ok rfl [] [so_runp.upd] rfl rfl) mixed Try.func48; exact k
noncomputable def q_lrun (R : GI) (dirty : List Int) (ch : List Bool) : Prop × V := (GOk R ∧ dirty.length ≤ 1000000000, (.tuple [.agg [.list .part I (runF R dirty (chgF ch)), .list .part I (runF R dirty (chgF ch))], .int .i64 (ordE R (RcF R dirty))]))
noncomputable def sp_lrun : FSpec Try.prog where
 f := 48
 run := fun
  | [.fopq .graph R, v1, v2] => (asL I v1 : Option (List Int)).bind fun dirty => (asL .bool v2 : Option (List Bool)).bind fun ch => some (q_lrun R dirty ch)
  | _ => none
 ok := fun args pre r h hp => by
  split at h
  · rename_i R v1 v2
    obtain ⟨dirty, h1, h⟩ := Option.bind_eq_some_iff.1 h
    obtain ⟨ch, h2, h⟩ := Option.bind_eq_some_iff.1 h
    exact of_q h hp fun h => (lrun_pure R dirty ch h).weak (.cons (.refl _) (.cons (asL_weak h1) (.cons (asL_weak h2) .nil)))
  · cases h
theorem reads_at' {R : GI} {v : Int} (hv : Dom (List.length (α := List Int) R) v) : R[v.toNat]? = some (readsF R v) := Gr.reads_at hv
noncomputable def env_rrun (R : GI) (dirty : List Int) (ch : List Bool) : Env where
  P := Try.prog
  ty := tys2
  specs := specsOf [sp_rplan, sp_has', sp_chg]
  frz := fun | 57 => true | _ => false
  heads := fun
    | 4 => some { slots := [(10, .slc 68 I), (11, .int .i64)], boxes := [], keep := [3], inv := fun _ (x : List Int × Int × Unit) => 0 ≤ x.2.1 ∧ x.2.1 ≤ (ordA R (RcF R dirty)).length ∧ x.1.length ≤ x.2.1 ∧ doneR (readsF R) dirty (chgF ch) ((ordA R (RcF R dirty)).drop x.2.1.toNat) x.1 = runF R dirty (chgF ch), measure := fun _ (x : List Int × Int × Unit) => ((ordA R (RcF R dirty)).length - x.2.1).toNat }
    | 9 => some { slots := [(13, .bool), (14, .int .i64)], boxes := [], keep := [3, 68], inv := fun st (x : Bool × Int × Unit) => 0 ≤ x.2.1 ∧ x.2.1 ≤ (readsF R (st.int 12)).length ∧ x.1 = (dirty.contains (st.int 12) || ((readsF R (st.int 12)).take x.2.1.toNat).any fun w => (st.ints 68).contains w && chgF ch w), measure := fun st (x : Bool × Int × Unit) => ((readsF R (st.int 12)).length - x.2.1).toNat }
    | _ => none
def g_rrun_vc (R : GI) (dirty : List Int) (ch : List Bool) : Prop :=
  ((List.length R ≤ (20000 : Nat) ∧ ∀ (v : Nat) (l : List Int), R[v]? = some l → l.Nodup ∧ ∀ (x : Int), x ∈ l → (0 : Int) ≤ x ∧ x < (↑(List.length R) : Int) ∧ x ≠ (↑v : Int)) ∧ dirty.length ≤ (1000000000 : Nat)) ∧ ((some (Obj.box [V.list LK.part LI R]) = some (Obj.box [V.list LK.part LI R]) ∧ True) ∧ (0 : Int) ≤ (0 : Int) ∧ (0 : Int) ≤ (↑(ordA R (RcF R dirty)).length : Int) ∧ (↑(0 : Nat) : Int) ≤ (0 : Int) ∧ doneR (readsF R) dirty (chgF ch) (List.drop (Int.toNat (0 : Int)) (ordA R (RcF R dirty))) [] = runF R dirty (chgF ch)) ∧ ∀ (x : List Int × Int × Unit), (0 : Int) ≤ x.2.1 ∧ x.2.1 ≤ (↑(ordA R (RcF R dirty)).length : Int) ∧ (↑x.1.length : Int) ≤ x.2.1 ∧ doneR (readsF R) dirty (chgF ch) (List.drop x.2.1.toNat (ordA R (RcF R dirty))) x.1 = runF R dirty (chgF ch) → (decide (x.2.1 < (↑(ordA R (RcF R dirty)).length : Int)) = true → ((0 : Int) ≤ x.2.1 ∧ x.2.1 < (↑(ordA R (RcF R dirty)).length : Int)) ∧ ∀ (x_1 : Int), (ordA R (RcF R dirty))[x.2.1.toNat]? = some x_1 → dirty.length ≤ (1000000000 : Nat) ∧ ((some (Obj.box [V.list LK.part LI R]) = some (Obj.box [V.list LK.part LI R]) ∧ some (Obj.arr (0 : Nat) I x.1) = some (Obj.arr (0 : Nat) I x.1) ∧ True) ∧ (0 : Int) ≤ (0 : Int) ∧ (0 : Int) ≤ (↑(readsF R x_1).length : Int) ∧ dirty.contains x_1 = (dirty.contains x_1 || (List.take (Int.toNat (0 : Int)) (readsF R x_1)).any fun w => x.1.contains w && chgF ch w)) ∧ ∀ (x_2 : Bool × Int × Unit), (0 : Int) ≤ x_2.2.1 ∧ x_2.2.1 ≤ (↑(readsF R x_1).length : Int) ∧ x_2.1 = (dirty.contains x_1 || (List.take x_2.2.1.toNat (readsF R x_1)).any fun w => x.1.contains w && chgF ch w) → ((0 : Int) ≤ x_1 ∧ x_1 < (↑(List.length R) : Int)) ∧ ∀ (x_3 : List Int), R[x_1.toNat]? = some x_3 → (decide (x_2.2.1 < (↑x_3.length : Int)) = true → ((0 : Int) ≤ x_1 ∧ x_1 < (↑(List.length R) : Int)) ∧ ∀ (x_4 : List Int), R[x_1.toNat]? = some x_4 → ((0 : Int) ≤ x_2.2.1 ∧ x_2.2.1 < (↑x_4.length : Int)) ∧ ∀ (x_5 : Int), x_4[x_2.2.1.toNat]? = some x_5 → (x_2.1 = false → x.1.length ≤ (1000000000 : Nat) ∧ (x.1.contains x_5 = true → True ∧ ((-9223372036854775808 : Int) ≤ x_2.2.1 + (1 : Int) ∧ x_2.2.1 + (1 : Int) ≤ (9223372036854775807 : Int)) ∧ (some (Obj.box [V.list LK.part LI R]) = some (Obj.box [V.list LK.part LI R]) ∧ some (Obj.arr (0 : Nat) I x.1) = some (Obj.arr (0 : Nat) I x.1) ∧ True) ∧ ((0 : Int) ≤ x_2.2.1 + (1 : Int) ∧ x_2.2.1 + (1 : Int) ≤ (↑(readsF R x_1).length : Int) ∧ chgF ch x_5 = (dirty.contains x_1 || (List.take (x_2.2.1 + (1 : Int)).toNat (readsF R x_1)).any fun w => x.1.contains w && chgF ch w)) ∧ ((↑(readsF R x_1).length : Int) - (x_2.2.1 + (1 : Int))).toNat < ((↑(readsF R x_1).length : Int) - x_2.2.1).toNat) ∧ (x.1.contains x_5 = !true → ((-9223372036854775808 : Int) ≤ x_2.2.1 + (1 : Int) ∧ x_2.2.1 + (1 : Int) ≤ (9223372036854775807 : Int)) ∧ (some (Obj.box [V.list LK.part LI R]) = some (Obj.box [V.list LK.part LI R]) ∧ some (Obj.arr (0 : Nat) I x.1) = some (Obj.arr (0 : Nat) I x.1) ∧ True) ∧ ((0 : Int) ≤ x_2.2.1 + (1 : Int) ∧ x_2.2.1 + (1 : Int) ≤ (↑(readsF R x_1).length : Int) ∧ false = (dirty.contains x_1 || (List.take (x_2.2.1 + (1 : Int)).toNat (readsF R x_1)).any fun w => x.1.contains w && chgF ch w)) ∧ ((↑(readsF R x_1).length : Int) - (x_2.2.1 + (1 : Int))).toNat < ((↑(readsF R x_1).length : Int) - x_2.2.1).toNat)) ∧ (x_2.1 = !false → ((-9223372036854775808 : Int) ≤ x_2.2.1 + (1 : Int) ∧ x_2.2.1 + (1 : Int) ≤ (9223372036854775807 : Int)) ∧ (some (Obj.box [V.list LK.part LI R]) = some (Obj.box [V.list LK.part LI R]) ∧ some (Obj.arr (0 : Nat) I x.1) = some (Obj.arr (0 : Nat) I x.1) ∧ True) ∧ ((0 : Int) ≤ x_2.2.1 + (1 : Int) ∧ x_2.2.1 + (1 : Int) ≤ (↑(readsF R x_1).length : Int) ∧ true = (dirty.contains x_1 || (List.take (x_2.2.1 + (1 : Int)).toNat (readsF R x_1)).any fun w => x.1.contains w && chgF ch w)) ∧ ((↑(readsF R x_1).length : Int) - (x_2.2.1 + (1 : Int))).toNat < ((↑(readsF R x_1).length : Int) - x_2.2.1).toNat)) ∧ (decide (x_2.2.1 < (↑x_3.length : Int)) = false → (x_2.1 = true → ((x.1.length + (1 : Nat)) * (8 : Nat) ≤ (140737488355328 : Nat) ∧ x.1.length + (1 : Nat) ≤ (4611686018427387904 : Nat)) ∧ ((-9223372036854775808 : Int) ≤ x.2.1 + (1 : Int) ∧ x.2.1 + (1 : Int) ≤ (9223372036854775807 : Int)) ∧ (some (Obj.box [V.list LK.part LI R]) = some (Obj.box [V.list LK.part LI R]) ∧ True) ∧ ((0 : Int) ≤ x.2.1 + (1 : Int) ∧ x.2.1 + (1 : Int) ≤ (↑(ordA R (RcF R dirty)).length : Int) ∧ (↑(x.1 ++ [x_1]).length : Int) ≤ x.2.1 + (1 : Int) ∧ doneR (readsF R) dirty (chgF ch) (List.drop (x.2.1 + (1 : Int)).toNat (ordA R (RcF R dirty))) (x.1 ++ [x_1]) = runF R dirty (chgF ch)) ∧ ((↑(ordA R (RcF R dirty)).length : Int) - (x.2.1 + (1 : Int))).toNat < ((↑(ordA R (RcF R dirty)).length : Int) - x.2.1).toNat) ∧ (x_2.1 = false → ((-9223372036854775808 : Int) ≤ x.2.1 + (1 : Int) ∧ x.2.1 + (1 : Int) ≤ (9223372036854775807 : Int)) ∧ (some (Obj.box [V.list LK.part LI R]) = some (Obj.box [V.list LK.part LI R]) ∧ True) ∧ ((0 : Int) ≤ x.2.1 + (1 : Int) ∧ x.2.1 + (1 : Int) ≤ (↑(ordA R (RcF R dirty)).length : Int) ∧ (↑x.1.length : Int) ≤ x.2.1 + (1 : Int) ∧ doneR (readsF R) dirty (chgF ch) (List.drop (x.2.1 + (1 : Int)).toNat (ordA R (RcF R dirty))) x.1 = runF R dirty (chgF ch)) ∧ ((↑(ordA R (RcF R dirty)).length : Int) - (x.2.1 + (1 : Int))).toNat < ((↑(ordA R (RcF R dirty)).length : Int) - x.2.1).toNat))) ∧ (decide (x.2.1 < (↑(ordA R (RcF R dirty)).length : Int)) = false → (x.1, ordE R (RcF R dirty), ()) = (runF R dirty (chgF ch), ordE R (RcF R dirty), ()))
theorem g_rrun_eq (R : GI) (dirty : List Int) (ch : List Bool) : Cond (env_rrun R dirty ch) Try.f49 [.agg [.list .part LI R], .list .tmp I dirty, .list .tmp .bool ch] [.list .part I, .int .i64] (runF R dirty (chgF ch), ordE R (RcF R dirty), ()) = g_rrun_vc R dirty ch := by kernel_rfl
theorem g_rrun_ok (R : GI) (dirty : List Int) (ch : List Bool) (h : GOk R ∧ dirty.length ≤ 1000000000) : g_rrun_vc R dirty ch := by
  unfold g_rrun_vc
  simp only [decide_eq_true_eq, decide_eq_false_iff_not, Bool.not_eq_true', Bool.not_eq_false', Bool.not_true, Bool.not_false]
  obtain ⟨hG, hd⟩ := h
  have hl := ordA_len R (RcF R dirty)
  have hR := hG.1
  refine ⟨⟨hG, hd⟩, ⟨⟨trivial, trivial⟩, by omega, by omega, by omega, rfl⟩, fun x hx => ?_⟩
  obtain ⟨out, i, ⟨⟩⟩ := x
  obtain ⟨a1, a2, a3, a4⟩ := hx
  dsimp only at a1 a2 a3 a4 ⊢
  refine ⟨fun c => ⟨⟨a1, c⟩, fun v hv => ?_⟩, fun c => ?_⟩
  · have hdom : Dom (List.length (α := List Int) R) v := (pst hG dirty).elim (fun h => by rw [h.2] at hv; simp at hv) fun h => h.2.dom v (List.mem_of_getElem? hv)
    have hRv := reads_at' hdom
    unfold Dom at hdom
    have hrl := (reads_at hG v).1
    have e : (ordA R (RcF R dirty)).drop i.toNat = v :: (ordA R (RcF R dirty)).drop (i + 1).toNat := by
      rw [show (i + 1).toNat = i.toNat + 1 by omega]
      obtain ⟨hi, e⟩ := List.getElem?_eq_some_iff.1 hv
      rw [List.drop_eq_getElem_cons hi, e]
    rw [e, doneR] at a4
    refine ⟨hd, ⟨⟨trivial, trivial, trivial⟩, by omega, by omega, by simp⟩, fun y hy => ?_⟩
    obtain ⟨b, k, ⟨⟩⟩ := y
    obtain ⟨b1, b2, b3⟩ := hy
    dsimp only at b1 b2 b3 ⊢
    refine ⟨hdom, fun r hr => ?_⟩
    rw [hRv] at hr
    cases hr
    refine ⟨fun d => ⟨hdom, fun r2 hr2 => ?_⟩, fun d => ?_⟩
    · rw [hRv] at hr2
      cases hr2
      refine ⟨⟨b1, d⟩, fun w hw => ?_⟩
      have ht : ((readsF R v).take (k + 1).toNat).any (fun w => out.contains w && chgF ch w) = (((readsF R v).take k.toNat).any (fun w => out.contains w && chgF ch w) || (out.contains w && chgF ch w)) := by
        rw [show (k + 1).toNat = k.toNat + 1 by omega, take_snoc hw, List.any_append]
        simp
      have hb : (dirty.contains v || ((readsF R v).take (k + 1).toNat).any fun w => out.contains w && chgF ch w) = (b || (out.contains w && chgF ch w)) := by
        rw [ht, b3, Bool.or_assoc]
      rw [hb]
      refine ⟨fun f => ⟨by omega, fun g => ⟨trivial, by omega, ⟨trivial, trivial, trivial⟩, ⟨by omega, by omega, by rw [f, g, Bool.false_or, Bool.true_and]⟩, by omega⟩, fun g => ⟨by omega, ⟨trivial, trivial, trivial⟩, ⟨by omega, by omega, by rw [f, g, Bool.false_or, Bool.false_and]⟩, by omega⟩⟩, fun f => ⟨by omega, ⟨trivial, trivial, trivial⟩, ⟨by omega, by omega, by rw [f, Bool.true_or]⟩, by omega⟩⟩
    · rw [List.take_of_length_le (by omega)] at b3
      have hb : b = isD (readsF R) dirty (chgF ch) out v := b3
      rw [← hb] at a4
      refine ⟨fun f => ⟨by omega, by omega, ⟨trivial, trivial⟩, ⟨by omega, by omega, by rw [List.length_append, List.length_singleton]; push_cast; omega, by rw [f, if_pos rfl] at a4; exact a4⟩, by omega⟩, fun f => ⟨by omega, ⟨trivial, trivial⟩, ⟨by omega, by omega, by omega, by rw [f, if_neg (by decide)] at a4; exact a4⟩, by omega⟩⟩
  · rw [List.drop_of_length_le (by omega), doneR] at a4
    rw [a4]
theorem rrun_pure (R : GI) (dirty : List Int) (ch : List Bool) (h : GOk R ∧ dirty.length ≤ 1000000000) : Pure Try.prog 49 [.agg [.list .part LI R], .list .tmp I dirty, .list .tmp .bool ch] (.tuple [.list .part I (runF R dirty (chgF ch)), .int .i64 (ordE R (RcF R dirty))]) :=
  by have k := Pure.of_cond (g_rrun_eq R dirty ch) (g_rrun_ok R dirty ch h) (specs_ok rfl [sp_rplan, sp_has', sp_chg] [] rfl rfl) mixed Try.func49; exact k
noncomputable def q_rrun (R : GI) (dirty : List Int) (ch : List Bool) : Prop × V := (GOk R ∧ dirty.length ≤ 1000000000, (.tuple [.list .part I (runF R dirty (chgF ch)), .int .i64 (ordE R (RcF R dirty))]))
noncomputable def sp_rrun : FSpec Try.prog where
 f := 49
 run := fun
  | [.agg [v0_0], v1, v2] => (asP LI v0_0 : Option (GI)).bind fun R => (asL I v1 : Option (List Int)).bind fun dirty => (asL .bool v2 : Option (List Bool)).bind fun ch => some (q_rrun R dirty ch)
  | _ => none
 ok := fun args pre r h hp => by
  split at h
  · rename_i v0_0 v1 v2
    obtain ⟨R, h0_0, h⟩ := Option.bind_eq_some_iff.1 h
    obtain ⟨dirty, h1, h⟩ := Option.bind_eq_some_iff.1 h
    obtain ⟨ch, h2, h⟩ := Option.bind_eq_some_iff.1 h
    exact of_q h hp fun h => (rrun_pure R dirty ch h).weak (.cons (Weak.agg (.cons (asP_weak h0_0) .nil)) (.cons (asL_weak h1) (.cons (asL_weak h2) .nil)))
  · cases h
noncomputable def few15 (m : Int) (l : List Ac) (dirty : List Int) (ch : List Bool) : Bool := fewF l && (decide (m ≤ 12) && (decide ((dirty.length : Int) ≤ 60) && decide ((ch.length : Int) ≤ 60)))
noncomputable def env_few15 (m : Int) (l : List Ac) (dirty : List Int) (ch : List Bool) : Env where
  P := Try.prog
  ty := tys2
  specs := specsOf [sp_few]
def g_few15_vc (m : Int) (l : List Ac) (dirty : List Int) (ch : List Bool) : Prop :=
  True ∧ (fewF l = true → (decide (m ≤ (12 : Int)) = true → (decide ((↑dirty.length : Int) ≤ (60 : Int)) = true → (decide ((↑ch.length : Int) ≤ (60 : Int)), ()) = (few15 m l dirty ch, ())) ∧ (decide ((↑dirty.length : Int) ≤ (60 : Int)) = !true → (false, ()) = (few15 m l dirty ch, ()))) ∧ (decide (m ≤ (12 : Int)) = !true → (false, ()) = (few15 m l dirty ch, ()))) ∧ (fewF l = !true → (false, ()) = (few15 m l dirty ch, ()))
theorem g_few15_eq (m : Int) (l : List Ac) (dirty : List Int) (ch : List Bool) : Cond (env_few15 m l dirty ch) Try.f44 [.int .i64 m, .list .tmp AcT l, .agg [.list .tmp I dirty, .list .tmp .bool ch]] [.bool] (few15 m l dirty ch, ()) = g_few15_vc m l dirty ch := by kernel_rfl
theorem g_few15_ok (m : Int) (l : List Ac) (dirty : List Int) (ch : List Bool) : g_few15_vc m l dirty ch := by
  unfold g_few15_vc
  simp only [decide_eq_true_eq, decide_eq_false_iff_not, Bool.not_eq_true', Bool.not_eq_false', Bool.not_true, Bool.not_false]
  unfold few15
  refine ⟨trivial, fun h1 => ⟨fun h2 => ⟨fun h3 => ?_, fun h3 => ?_⟩, fun h2 => ?_⟩, fun h1 => ?_⟩
  · rw [h1, decide_eq_true h2, decide_eq_true h3, Bool.true_and, Bool.true_and, Bool.true_and]
  · rw [decide_eq_false h3, Bool.false_and, Bool.and_false, Bool.and_false]
  · rw [decide_eq_false h2, Bool.false_and, Bool.and_false]
  · rw [h1, Bool.false_and]
theorem few15_pure (m : Int) (l : List Ac) (dirty : List Int) (ch : List Bool) : Pure Try.prog 44 [.int .i64 m, .list .tmp AcT l, .agg [.list .tmp I dirty, .list .tmp .bool ch]] (.bool (few15 m l dirty ch)) :=
  by have k := Pure.of_cond (g_few15_eq m l dirty ch) (g_few15_ok m l dirty ch) (specs_ok rfl [sp_few] [] rfl rfl) mixed Try.func44; exact k
noncomputable def q_few15 (m : Int) (l : List Ac) (dirty : List Int) (ch : List Bool) : Prop × V := (True, (.bool (few15 m l dirty ch)))
noncomputable def sp_few15 : FSpec Try.prog where
 f := 44
 run := fun
  | [.int .i64 m, v1, .agg [v2_0, v2_1]] => (asL AcT v1 : Option (List Ac)).bind fun l => (asL I v2_0 : Option (List Int)).bind fun dirty => (asL .bool v2_1 : Option (List Bool)).bind fun ch => some (q_few15 m l dirty ch)
  | _ => none
 ok := fun args pre r h hp => by
  split at h
  · rename_i m v1 v2_0 v2_1
    obtain ⟨l, h1, h⟩ := Option.bind_eq_some_iff.1 h
    obtain ⟨dirty, h2_0, h⟩ := Option.bind_eq_some_iff.1 h
    obtain ⟨ch, h2_1, h⟩ := Option.bind_eq_some_iff.1 h
    exact of_q h hp fun h => (few15_pure m l dirty ch).weak (.cons (.refl _) (.cons (asL_weak h1) (.cons (Weak.agg (.cons (asL_weak h2_0) (.cons (asL_weak h2_1) .nil))) .nil)))
  · cases h
end Go.Proofs.Ytojflfogjkajaaa.Od
end
section
namespace Go.Proofs.Ytojflfogjkajaaa.Od
open Go.Vm Go.Proofs.Ytojflfogjkajaaa.Gr Go.Proofs.Ytojflfogjkajaaa.Rc
noncomputable def env_pawake : Env where
  P := Try.prog
  ty := tys1
  specs := specsOf [sp_pplan, sp_lrun, sp_runn, sp_sameInts]
  upd := updsOf [so_made.upd]
def g_pawake_vc : Prop :=
  fewF [((1 : Int), [(0 : Int)]), ((2 : Int), [(1 : Int)])] = true ∧ fewF [((0 : Int), [(1 : Int)]), ((1 : Int), [(0 : Int)])] = true ∧ ((!true) = false → ((!true) = false → (decide (List.length (actsR (Gr.newR (3 : Int)) [((1 : Int), [(0 : Int)]), ((2 : Int), [(1 : Int)])]) = (0 : Nat)) = false → (decide (List.length (actsR (Gr.newR (2 : Int)) [((0 : Int), [(1 : Int)]), ((1 : Int), [(0 : Int)])]) = (0 : Nat)) = true → (false, ()) = (true, ())) ∧ (decide (List.length (actsR (Gr.newR (2 : Int)) [((0 : Int), [(1 : Int)]), ((1 : Int), [(0 : Int)])]) = (0 : Nat)) = false → ((List.length (actsR (Gr.newR (3 : Int)) [((1 : Int), [(0 : Int)]), ((2 : Int), [(1 : Int)])]) ≤ (20000 : Nat) ∧ ∀ (v : Nat) (l : List Int), (actsR (Gr.newR (3 : Int)) [((1 : Int), [(0 : Int)]), ((2 : Int), [(1 : Int)])])[v]? = some l → l.Nodup ∧ ∀ (x : Int), x ∈ l → (0 : Int) ≤ x ∧ x < (↑(List.length (actsR (Gr.newR (3 : Int)) [((1 : Int), [(0 : Int)]), ((2 : Int), [(1 : Int)])])) : Int) ∧ x ≠ (↑v : Int)) ∧ (1 : Nat) ≤ (1000000000 : Nat)) ∧ ((List.length (actsR (Gr.newR (3 : Int)) [((1 : Int), [(0 : Int)]), ((2 : Int), [(1 : Int)])]) ≤ (20000 : Nat) ∧ ∀ (v : Nat) (l : List Int), (actsR (Gr.newR (3 : Int)) [((1 : Int), [(0 : Int)]), ((2 : Int), [(1 : Int)])])[v]? = some l → l.Nodup ∧ ∀ (x : Int), x ∈ l → (0 : Int) ≤ x ∧ x < (↑(List.length (actsR (Gr.newR (3 : Int)) [((1 : Int), [(0 : Int)]), ((2 : Int), [(1 : Int)])])) : Int) ∧ x ≠ (↑v : Int)) ∧ (1 : Nat) ≤ (1000000000 : Nat)) ∧ ((List.length (actsR (Gr.newR (3 : Int)) [((1 : Int), [(0 : Int)]), ((2 : Int), [(1 : Int)])]) ≤ (20000 : Nat) ∧ ∀ (v : Nat) (l : List Int), (actsR (Gr.newR (3 : Int)) [((1 : Int), [(0 : Int)]), ((2 : Int), [(1 : Int)])])[v]? = some l → l.Nodup ∧ ∀ (x : Int), x ∈ l → (0 : Int) ≤ x ∧ x < (↑(List.length (actsR (Gr.newR (3 : Int)) [((1 : Int), [(0 : Int)]), ((2 : Int), [(1 : Int)])])) : Int) ∧ x ≠ (↑v : Int)) ∧ (1 : Nat) ≤ (1000000000 : Nat)) ∧ ((List.length (actsR (Gr.newR (2 : Int)) [((0 : Int), [(1 : Int)]), ((1 : Int), [(0 : Int)])]) ≤ (20000 : Nat) ∧ ∀ (v : Nat) (l : List Int), (actsR (Gr.newR (2 : Int)) [((0 : Int), [(1 : Int)]), ((1 : Int), [(0 : Int)])])[v]? = some l → l.Nodup ∧ ∀ (x : Int), x ∈ l → (0 : Int) ≤ x ∧ x < (↑(List.length (actsR (Gr.newR (2 : Int)) [((0 : Int), [(1 : Int)]), ((1 : Int), [(0 : Int)])])) : Int) ∧ x ≠ (↑v : Int)) ∧ (1 : Nat) ≤ (1000000000 : Nat)) ∧ (ordA (actsR (Gr.newR (3 : Int)) [((1 : Int), [(0 : Int)]), ((2 : Int), [(1 : Int)])]) (RcF (actsR (Gr.newR (3 : Int)) [((1 : Int), [(0 : Int)]), ((2 : Int), [(1 : Int)])]) [(1 : Int)])).length ≤ (1000000000 : Nat) ∧ (decide (ordA (actsR (Gr.newR (3 : Int)) [((1 : Int), [(0 : Int)]), ((2 : Int), [(1 : Int)])]) (RcF (actsR (Gr.newR (3 : Int)) [((1 : Int), [(0 : Int)]), ((2 : Int), [(1 : Int)])]) [(1 : Int)]) = [(1 : Int), (2 : Int)]) = true → (decide (ordE (actsR (Gr.newR (3 : Int)) [((1 : Int), [(0 : Int)]), ((2 : Int), [(1 : Int)])]) (RcF (actsR (Gr.newR (3 : Int)) [((1 : Int), [(0 : Int)]), ((2 : Int), [(1 : Int)])]) [(1 : Int)]) = (0 : Int)) = true → (runF (actsR (Gr.newR (3 : Int)) [((1 : Int), [(0 : Int)]), ((2 : Int), [(1 : Int)])]) [(0 : Int)] (chgF [true, false, true])).length ≤ (1000000000 : Nat) ∧ (decide (runF (actsR (Gr.newR (3 : Int)) [((1 : Int), [(0 : Int)]), ((2 : Int), [(1 : Int)])]) [(0 : Int)] (chgF [true, false, true]) = [(0 : Int), (1 : Int)]) = true → (runF (actsR (Gr.newR (3 : Int)) [((1 : Int), [(0 : Int)]), ((2 : Int), [(1 : Int)])]) [(0 : Int)] (chgF [true, false, true])).length ≤ (1000000000 : Nat) ∧ (decide (runF (actsR (Gr.newR (3 : Int)) [((1 : Int), [(0 : Int)]), ((2 : Int), [(1 : Int)])]) [(0 : Int)] (chgF [true, false, true]) = runF (actsR (Gr.newR (3 : Int)) [((1 : Int), [(0 : Int)]), ((2 : Int), [(1 : Int)])]) [(0 : Int)] (chgF [true, false, true])) = true → (decide (ordE (actsR (Gr.newR (3 : Int)) [((1 : Int), [(0 : Int)]), ((2 : Int), [(1 : Int)])]) (RcF (actsR (Gr.newR (3 : Int)) [((1 : Int), [(0 : Int)]), ((2 : Int), [(1 : Int)])]) [(0 : Int)]) = (0 : Int)) = true → (runF (actsR (Gr.newR (3 : Int)) [((1 : Int), [(0 : Int)]), ((2 : Int), [(1 : Int)])]) [(0 : Int)] allT).length ≤ (1000000000 : Nat) ∧ (decide (runF (actsR (Gr.newR (3 : Int)) [((1 : Int), [(0 : Int)]), ((2 : Int), [(1 : Int)])]) [(0 : Int)] allT = [(0 : Int), (1 : Int), (2 : Int)]) = true → (decide (ordE (actsR (Gr.newR (3 : Int)) [((1 : Int), [(0 : Int)]), ((2 : Int), [(1 : Int)])]) (RcF (actsR (Gr.newR (3 : Int)) [((1 : Int), [(0 : Int)]), ((2 : Int), [(1 : Int)])]) [(0 : Int)]) = (0 : Int)) = true → (decide (ordE (actsR (Gr.newR (2 : Int)) [((0 : Int), [(1 : Int)]), ((1 : Int), [(0 : Int)])]) (RcF (actsR (Gr.newR (2 : Int)) [((0 : Int), [(1 : Int)]), ((1 : Int), [(0 : Int)])]) [(0 : Int)]) = (26 : Int)), ()) = (true, ())) ∧ (decide (ordE (actsR (Gr.newR (3 : Int)) [((1 : Int), [(0 : Int)]), ((2 : Int), [(1 : Int)])]) (RcF (actsR (Gr.newR (3 : Int)) [((1 : Int), [(0 : Int)]), ((2 : Int), [(1 : Int)])]) [(0 : Int)]) = (0 : Int)) = !true → (false, ()) = (true, ()))) ∧ (decide (runF (actsR (Gr.newR (3 : Int)) [((1 : Int), [(0 : Int)]), ((2 : Int), [(1 : Int)])]) [(0 : Int)] allT = [(0 : Int), (1 : Int), (2 : Int)]) = !true → (false, ()) = (true, ()))) ∧ (decide (ordE (actsR (Gr.newR (3 : Int)) [((1 : Int), [(0 : Int)]), ((2 : Int), [(1 : Int)])]) (RcF (actsR (Gr.newR (3 : Int)) [((1 : Int), [(0 : Int)]), ((2 : Int), [(1 : Int)])]) [(0 : Int)]) = (0 : Int)) = !true → (false, ()) = (true, ()))) ∧ (decide (runF (actsR (Gr.newR (3 : Int)) [((1 : Int), [(0 : Int)]), ((2 : Int), [(1 : Int)])]) [(0 : Int)] (chgF [true, false, true]) = runF (actsR (Gr.newR (3 : Int)) [((1 : Int), [(0 : Int)]), ((2 : Int), [(1 : Int)])]) [(0 : Int)] (chgF [true, false, true])) = !true → (false, ()) = (true, ()))) ∧ (decide (runF (actsR (Gr.newR (3 : Int)) [((1 : Int), [(0 : Int)]), ((2 : Int), [(1 : Int)])]) [(0 : Int)] (chgF [true, false, true]) = [(0 : Int), (1 : Int)]) = !true → (false, ()) = (true, ()))) ∧ (decide (ordE (actsR (Gr.newR (3 : Int)) [((1 : Int), [(0 : Int)]), ((2 : Int), [(1 : Int)])]) (RcF (actsR (Gr.newR (3 : Int)) [((1 : Int), [(0 : Int)]), ((2 : Int), [(1 : Int)])]) [(1 : Int)]) = (0 : Int)) = !true → (false, ()) = (true, ()))) ∧ (decide (ordA (actsR (Gr.newR (3 : Int)) [((1 : Int), [(0 : Int)]), ((2 : Int), [(1 : Int)])]) (RcF (actsR (Gr.newR (3 : Int)) [((1 : Int), [(0 : Int)]), ((2 : Int), [(1 : Int)])]) [(1 : Int)]) = [(1 : Int), (2 : Int)]) = !true → (false, ()) = (true, ())))) ∧ (decide (List.length (actsR (Gr.newR (3 : Int)) [((1 : Int), [(0 : Int)]), ((2 : Int), [(1 : Int)])]) = (0 : Nat)) = !false → (false, ()) = (true, ()))) ∧ ((!true) = !false → (false, ()) = (true, ()))) ∧ ((!true) = !false → (false, ()) = (true, ()))
theorem g_pawake_eq  : Cond (env_pawake ) Try.f45 [] [.bool] (true, ()) = g_pawake_vc  := by kernel_rfl
theorem g_pawake_ok : g_pawake_vc := by
  unfold g_pawake_vc
  have hR : actsR (Gr.newR 3) [(1, [0]), (2, [1])] = [[], [0], [1]] := by decide
  have hH : actsR (Gr.newR 2) [(0, [1]), (1, [0])] = [[1], [0]] := by decide
  have hG : GOk (actsR (Gr.newR 3) [(1, [0]), (2, [1])]) := gok_acts _ _ (gok_new 3)
  have hK : GOk (actsR (Gr.newR 2) [(0, [1]), (1, [0])]) := gok_acts _ _ (gok_new 2)
  have f1 : fewF [(1, [0]), (2, [1])] = true := by simp [fewF]
  have f2 : fewF [(0, [1]), (1, [0])] = true := by simp [fewF]
  rw [hR] at hG ⊢
  rw [hH] at hK ⊢
  have e1 : stepsF 3 (rdsF [[], [0], [1]]) (Rc.Fr 3 [1]) = [-1, 0, 1] := steps_of hG (by decide)
  have e2 : stepsF 3 (rdsF [[], [0], [1]]) (Rc.Fr 3 [0]) = [0, 1, 2] := steps_of hG (by decide)
  have e3 : stepsF 2 (rdsF [[1], [0]]) (Rc.Fr 2 [0]) = [0, 1] := steps_of hK (by decide)
  have r1 : RcF [[], [0], [1]] [1] = [1, 2] := by
    show metF (stepsF 3 (rdsF [[], [0], [1]]) (Rc.Fr 3 [1])) = _
    rw [e1]
    decide
  have r2 : RcF [[], [0], [1]] [0] = [0, 1, 2] := by
    show metF (stepsF 3 (rdsF [[], [0], [1]]) (Rc.Fr 3 [0])) = _
    rw [e2]
    decide
  have r3 : RcF [[1], [0]] [0] = [0, 1] := by
    show metF (stepsF 2 (rdsF [[1], [0]]) (Rc.Fr 2 [0])) = _
    rw [e3]
    decide
  have a1 : ordA [[], [0], [1]] [1, 2] = [1, 2] := by decide
  have a2 : ordE [[], [0], [1]] [1, 2] = 0 := by decide
  have a3 : ordA [[], [0], [1]] [0, 1, 2] = [0, 1, 2] := by decide
  have a4 : ordE [[], [0], [1]] [0, 1, 2] = 0 := by decide
  have a5 : ordE [[1], [0]] [0, 1] = 26 := by decide
  have u1 : runF [[], [0], [1]] [0] (chgF [true, false, true]) = [0, 1] := by
    unfold runF
    rw [r2, a3]
    decide
  have u2 : runF [[], [0], [1]] [0] allT = [0, 1, 2] := by
    unfold runF
    rw [r2, a3]
    decide
  rw [r1, r2, r3, a1, a2, a4, a5, u1, u2, f1, f2]
  have hl : (1 : Nat) ≤ 1000000000 := by omega
  simp only [decide_eq_true_eq, decide_eq_false_iff_not, Bool.not_eq_true', Bool.not_eq_false', Bool.not_true, Bool.not_false]
  exact ⟨trivial, trivial, ⟨fun _ => ⟨fun _ => ⟨fun _ => ⟨fun h => absurd h (by decide), fun _ => ⟨⟨hG, hl⟩, ⟨hG, hl⟩, ⟨hG, hl⟩, ⟨hK, hl⟩, by decide, ⟨fun _ => ⟨fun _ => ⟨by decide, ⟨fun _ => ⟨by decide, ⟨fun _ => ⟨fun _ => ⟨by decide, ⟨fun _ => ⟨fun _ => by simp, fun h => absurd trivial h⟩, fun h => absurd trivial h⟩⟩, fun h => absurd trivial h⟩, fun h => absurd trivial h⟩⟩, fun h => absurd trivial h⟩⟩, fun h => absurd trivial h⟩, fun h => absurd trivial h⟩⟩⟩, fun h => absurd h (by decide)⟩, fun e => by cases e⟩, fun e => by cases e⟩⟩
set_option maxRecDepth 20000
theorem pawake_pure  : Pure Try.prog 45 [] (.bool true) :=
  by have k := Pure.of_cond (g_pawake_eq ) (g_pawake_ok ) (specs_ok rfl [sp_pplan, sp_lrun, sp_runn, sp_sameInts] [so_made.upd] rfl rfl) mixed Try.func45; exact k
noncomputable def q_pawake  : Prop × V := (True, (.bool true))
noncomputable def sp_pawake : FSpec Try.prog where
 f := 45
 run := fun
  | [] => some (q_pawake )
  | _ => none
 ok := fun args pre r h hp => by
  split at h
  · skip
    exact of_q h hp fun h => (pawake_pure ).weak .nil
  · cases h
theorem few15_of {m : Int} {l : List Ac} {dirty : List Int} {ch : List Bool} (h : few15 m l dirty ch = true) : fewF l = true ∧ m ≤ 12 ∧ dirty.length ≤ 60 ∧ ch.length ≤ 60 := by
  unfold few15 at h
  simp only [Bool.and_eq_true, decide_eq_true_eq] at h
  exact ⟨h.1, h.2.1, by omega, by omega⟩
noncomputable def env_ptells (m : Int) (l : List Ac) (dirty : List Int) (ch : List Bool) : Env where
  P := Try.prog
  ty := tys2
  specs := specsOf [sp_few15, sp_pawake, sp_pplan, sp_rplan, sp_lrun, sp_rrun, sp_sameInts]
  upd := updsOf [so_made.upd]
def g_ptells_vc (m : Int) (l : List Ac) (dirty : List Int) (ch : List Bool) : Prop :=
  True ∧ ((!few15 m l dirty ch) = true → True ∧ (true, ()) = (true, ())) ∧ ((!few15 m l dirty ch) = false → fewF l = true ∧ ((!true) = true → (false, ()) = (true, ())) ∧ ((!true) = false → (decide (List.length (actsR (Gr.newR m) l) = (0 : Nat)) = true → True ∧ (true, ()) = (true, ())) ∧ (decide (List.length (actsR (Gr.newR m) l) = (0 : Nat)) = false → ((List.length (actsR (Gr.newR m) l) ≤ (20000 : Nat) ∧ ∀ (v : Nat) (l_1 : List Int), (actsR (Gr.newR m) l)[v]? = some l_1 → l_1.Nodup ∧ ∀ (x : Int), x ∈ l_1 → (0 : Int) ≤ x ∧ x < (↑(List.length (actsR (Gr.newR m) l)) : Int) ∧ x ≠ (↑v : Int)) ∧ dirty.length ≤ (1000000000 : Nat)) ∧ ((List.length (actsR (Gr.newR m) l) ≤ (20000 : Nat) ∧ ∀ (v : Nat) (l_1 : List Int), (actsR (Gr.newR m) l)[v]? = some l_1 → l_1.Nodup ∧ ∀ (x : Int), x ∈ l_1 → (0 : Int) ≤ x ∧ x < (↑(List.length (actsR (Gr.newR m) l)) : Int) ∧ x ≠ (↑v : Int)) ∧ dirty.length ≤ (1000000000 : Nat)) ∧ ((List.length (actsR (Gr.newR m) l) ≤ (20000 : Nat) ∧ ∀ (v : Nat) (l_1 : List Int), (actsR (Gr.newR m) l)[v]? = some l_1 → l_1.Nodup ∧ ∀ (x : Int), x ∈ l_1 → (0 : Int) ≤ x ∧ x < (↑(List.length (actsR (Gr.newR m) l)) : Int) ∧ x ≠ (↑v : Int)) ∧ dirty.length ≤ (1000000000 : Nat)) ∧ ((List.length (actsR (Gr.newR m) l) ≤ (20000 : Nat) ∧ ∀ (v : Nat) (l_1 : List Int), (actsR (Gr.newR m) l)[v]? = some l_1 → l_1.Nodup ∧ ∀ (x : Int), x ∈ l_1 → (0 : Int) ≤ x ∧ x < (↑(List.length (actsR (Gr.newR m) l)) : Int) ∧ x ≠ (↑v : Int)) ∧ dirty.length ≤ (1000000000 : Nat)) ∧ (ordA (actsR (Gr.newR m) l) (RcF (actsR (Gr.newR m) l) dirty)).length ≤ (1000000000 : Nat) ∧ (decide (ordA (actsR (Gr.newR m) l) (RcF (actsR (Gr.newR m) l) dirty) = ordA (actsR (Gr.newR m) l) (RcF (actsR (Gr.newR m) l) dirty)) = true → (decide (ordE (actsR (Gr.newR m) l) (RcF (actsR (Gr.newR m) l) dirty) = ordE (actsR (Gr.newR m) l) (RcF (actsR (Gr.newR m) l) dirty)) = true → (runF (actsR (Gr.newR m) l) dirty (chgF ch)).length ≤ (1000000000 : Nat) ∧ (decide (runF (actsR (Gr.newR m) l) dirty (chgF ch) = runF (actsR (Gr.newR m) l) dirty (chgF ch)) = true → (runF (actsR (Gr.newR m) l) dirty (chgF ch)).length ≤ (1000000000 : Nat) ∧ (decide (runF (actsR (Gr.newR m) l) dirty (chgF ch) = runF (actsR (Gr.newR m) l) dirty (chgF ch)) = true → (decide (ordE (actsR (Gr.newR m) l) (RcF (actsR (Gr.newR m) l) dirty) = ordE (actsR (Gr.newR m) l) (RcF (actsR (Gr.newR m) l) dirty)) = true → True ∧ (true, ()) = (true, ())) ∧ (decide (ordE (actsR (Gr.newR m) l) (RcF (actsR (Gr.newR m) l) dirty) = ordE (actsR (Gr.newR m) l) (RcF (actsR (Gr.newR m) l) dirty)) = !true → (false, ()) = (true, ()))) ∧ (decide (runF (actsR (Gr.newR m) l) dirty (chgF ch) = runF (actsR (Gr.newR m) l) dirty (chgF ch)) = !true → (false, ()) = (true, ()))) ∧ (decide (runF (actsR (Gr.newR m) l) dirty (chgF ch) = runF (actsR (Gr.newR m) l) dirty (chgF ch)) = !true → (false, ()) = (true, ()))) ∧ (decide (ordE (actsR (Gr.newR m) l) (RcF (actsR (Gr.newR m) l) dirty) = ordE (actsR (Gr.newR m) l) (RcF (actsR (Gr.newR m) l) dirty)) = !true → (false, ()) = (true, ()))) ∧ (decide (ordA (actsR (Gr.newR m) l) (RcF (actsR (Gr.newR m) l) dirty) = ordA (actsR (Gr.newR m) l) (RcF (actsR (Gr.newR m) l) dirty)) = !true → (false, ()) = (true, ())))))
theorem g_ptells_eq (m : Int) (l : List Ac) (dirty : List Int) (ch : List Bool) : Cond (env_ptells m l dirty ch) Try.f12 [.int .i64 m, .list .tmp AcT l, .agg [.list .tmp I dirty, .list .tmp .bool ch]] [.bool] (true, ()) = g_ptells_vc m l dirty ch := by kernel_rfl
theorem g_ptells_ok (m : Int) (l : List Ac) (dirty : List Int) (ch : List Bool) : g_ptells_vc m l dirty ch := by
  unfold g_ptells_vc
  simp only [decide_eq_true_eq, decide_eq_false_iff_not, Bool.not_eq_true', Bool.not_eq_false', Bool.not_true, Bool.not_false]
  have hG := gok_acts l _ (gok_new m)
  refine ⟨trivial, fun _ => ⟨trivial, trivial⟩, fun hf => ?_⟩
  obtain ⟨f1, f2, f3, f4⟩ := few15_of hf
  generalize actsR (Gr.newR m) l = R at hG ⊢
  have hR := hG.1
  have hd : dirty.length ≤ 1000000000 := by omega
  have h1 := ordA_len R (RcF R dirty)
  have h2 := runF_len R dirty (chgF ch)
  generalize ordA R (RcF R dirty) = A at h1 ⊢
  generalize ordE R (RcF R dirty) = e
  generalize runF R dirty (chgF ch) = D at h2 ⊢
  refine ⟨f1, (fun e => by cases e), fun _ => ⟨fun _ => ⟨trivial, trivial⟩, fun _ => ⟨⟨hG, hd⟩, ⟨hG, hd⟩, ⟨hG, hd⟩, ⟨hG, hd⟩, by omega, ?_⟩⟩⟩
  exact ⟨fun _ => ⟨fun _ => ⟨by omega, ⟨fun _ => ⟨by omega, ⟨fun _ => ⟨fun _ => ⟨trivial, trivial⟩, fun h => absurd trivial h⟩, fun h => absurd trivial h⟩⟩, fun h => absurd trivial h⟩⟩, fun h => absurd trivial h⟩, fun h => absurd trivial h⟩
theorem ptells_pure (m : Int) (l : List Ac) (dirty : List Int) (ch : List Bool) : Pure Try.prog 12 [.int .i64 m, .list .tmp AcT l, .agg [.list .tmp I dirty, .list .tmp .bool ch]] (.bool true) :=
  by have k := Pure.of_cond (g_ptells_eq m l dirty ch) (g_ptells_ok m l dirty ch) (specs_ok rfl [sp_few15, sp_pawake, sp_pplan, sp_rplan, sp_lrun, sp_rrun, sp_sameInts] [so_made.upd] rfl rfl) mixed Try.func12; exact k
abbrev nB : List Bool := []
noncomputable def env_pbounds (m : Int) (l : List Ac) (dirty : List Int) (ch : List Bool) : Env where
  P := Try.prog
  ty := tys2
  specs := specsOf [sp_few15, sp_pawake, sp_pplan, sp_lrun, sp_runn, sp_has', sp_has, sp_sameInts]
  upd := updsOf [so_made.upd]
  frz := fun | 152 => true | _ => false
  heads := fun
    | 17 => .some { slots := [(18, .int .i64)], boxes := [], keep := [100100, 5, 8, 12, 14], inv := fun _ (x : Int × Unit) => 0 ≤ x.1 ∧ x.1 ≤ (runF (RR m l) dirty (chgF ch)).length, measure := fun _ (x : Int × Unit) => ((runF (RR m l) dirty (chgF ch)).length - x.1).toNat }
    | 23 => .some { slots := [(20, .int .i64)], boxes := [], keep := [100100, 5, 8, 12, 14], inv := fun st (x : Int × Unit) => st.int 18 ≤ x.1 ∧ x.1 ≤ (runF (RR m l) dirty (chgF ch)).length, measure := fun _ (x : Int × Unit) => ((runF (RR m l) dirty (chgF ch)).length - x.1).toNat }
    | 28 => .some { slots := [(21, .int .i64)], boxes := [], keep := [100100, 5, 8, 12, 14], inv := fun _ (x : Int × Unit) => 0 ≤ x.1 ∧ x.1 ≤ (runF (RR m l) dirty (chgF nB)).length, measure := fun _ (x : Int × Unit) => ((runF (RR m l) dirty (chgF nB)).length - x.1).toNat }
    | _ => .none
noncomputable abbrev bx_pbounds_1 (m : Int) (l : List Ac) (dirty : List Int) (ch : List Bool) : _root_.Go.Vm.Obj := Obj.box [V.list LK.part I (runF (actsR (Gr.newR m) l) dirty (chgF ch)), V.list LK.part I (runF (actsR (Gr.newR m) l) dirty (chgF ch))]
noncomputable abbrev bx_pbounds_2 (m : Int) (l : List Ac) (dirty : List Int) : _root_.Go.Vm.Obj := Obj.box [V.list LK.part I (runF (actsR (Gr.newR m) l) dirty (chgF [])), V.list LK.part I (runF (actsR (Gr.newR m) l) dirty (chgF []))]
def g_pbounds_vc (m : Int) (l : List Ac) (dirty : List Int) (ch : List Bool) : Prop :=
  True ∧ ((!few15 m l dirty ch) = true → True ∧ (true, ()) = (true, ())) ∧ ((!few15 m l dirty ch) = false → fewF l = true ∧ ((!true) = true → (false, ()) = (true, ())) ∧ ((!true) = false → (decide (List.length (actsR (Gr.newR m) l) = (0 : Nat)) = true → True ∧ (true, ()) = (true, ())) ∧ (decide (List.length (actsR (Gr.newR m) l) = (0 : Nat)) = false → ((List.length (actsR (Gr.newR m) l) ≤ (20000 : Nat) ∧ ∀ (v : Nat) (l_1 : List Int), (actsR (Gr.newR m) l)[v]? = some l_1 → l_1.Nodup ∧ ∀ (x : Int), x ∈ l_1 → (0 : Int) ≤ x ∧ x < (↑(List.length (actsR (Gr.newR m) l)) : Int) ∧ x ≠ (↑v : Int)) ∧ dirty.length ≤ (1000000000 : Nat)) ∧ ((List.length (actsR (Gr.newR m) l) ≤ (20000 : Nat) ∧ ∀ (v : Nat) (l_1 : List Int), (actsR (Gr.newR m) l)[v]? = some l_1 → l_1.Nodup ∧ ∀ (x : Int), x ∈ l_1 → (0 : Int) ≤ x ∧ x < (↑(List.length (actsR (Gr.newR m) l)) : Int) ∧ x ≠ (↑v : Int)) ∧ dirty.length ≤ (1000000000 : Nat)) ∧ ((List.length (actsR (Gr.newR m) l) ≤ (20000 : Nat) ∧ ∀ (v : Nat) (l_1 : List Int), (actsR (Gr.newR m) l)[v]? = some l_1 → l_1.Nodup ∧ ∀ (x : Int), x ∈ l_1 → (0 : Int) ≤ x ∧ x < (↑(List.length (actsR (Gr.newR m) l)) : Int) ∧ x ≠ (↑v : Int)) ∧ dirty.length ≤ (1000000000 : Nat)) ∧ ((List.length (actsR (Gr.newR m) l) ≤ (20000 : Nat) ∧ ∀ (v : Nat) (l_1 : List Int), (actsR (Gr.newR m) l)[v]? = some l_1 → l_1.Nodup ∧ ∀ (x : Int), x ∈ l_1 → (0 : Int) ≤ x ∧ x < (↑(List.length (actsR (Gr.newR m) l)) : Int) ∧ x ≠ (↑v : Int)) ∧ dirty.length ≤ (1000000000 : Nat)) ∧ ((!decide (ordE (actsR (Gr.newR m) l) (RcF (actsR (Gr.newR m) l) dirty) = ordE (actsR (Gr.newR m) l) (RcF (actsR (Gr.newR m) l) dirty))) = false → ((!decide (ordE (actsR (Gr.newR m) l) (RcF (actsR (Gr.newR m) l) dirty) = ordE (actsR (Gr.newR m) l) (RcF (actsR (Gr.newR m) l) dirty))) = false → ((!decide (ordE (actsR (Gr.newR m) l) (RcF (actsR (Gr.newR m) l) dirty) = ordE (actsR (Gr.newR m) l) (RcF (actsR (Gr.newR m) l) dirty))) = true → (false, ()) = (true, ())) ∧ ((!decide (ordE (actsR (Gr.newR m) l) (RcF (actsR (Gr.newR m) l) dirty) = ordE (actsR (Gr.newR m) l) (RcF (actsR (Gr.newR m) l) dirty))) = false → ((!decide (ordE (actsR (Gr.newR m) l) (RcF (actsR (Gr.newR m) l) dirty) = (0 : Int))) = true → (decide ((↑(runF (actsR (Gr.newR m) l) dirty (chgF ch)).length : Int) = (0 : Int)) = true → (decide ((↑(runF (actsR (Gr.newR m) l) dirty (chgF ch)).length : Int) = (0 : Int)) = true → True ∧ (true, ()) = (true, ())) ∧ (decide ((↑(runF (actsR (Gr.newR m) l) dirty (chgF ch)).length : Int) = (0 : Int)) = !true → (false, ()) = (true, ()))) ∧ (decide ((↑(runF (actsR (Gr.newR m) l) dirty (chgF ch)).length : Int) = (0 : Int)) = !true → (false, ()) = (true, ()))) ∧ ((!decide (ordE (actsR (Gr.newR m) l) (RcF (actsR (Gr.newR m) l) dirty) = (0 : Int))) = false → ((some (Obj.opq OK.graph (actsR (Gr.newR m) l)) = some (Obj.opq OK.graph (actsR (Gr.newR m) l)) ∧ some (Obj.box [V.list LK.tmp I dirty, V.list LK.tmp Ty.bool ch]) = some (Obj.box [V.list LK.tmp I dirty, V.list LK.tmp Ty.bool ch]) ∧ some (Obj.box [V.list LK.part LI (actsR (Gr.newR m) l)]) = some (Obj.box [V.list LK.part LI (actsR (Gr.newR m) l)]) ∧ some (bx_pbounds_1 m l dirty ch) = some (bx_pbounds_1 m l dirty ch) ∧ some (bx_pbounds_2 m l dirty) = some (bx_pbounds_2 m l dirty) ∧ True) ∧ (0 : Int) ≤ (0 : Int) ∧ (0 : Int) ≤ (↑(runF (RR m l) dirty (chgF ch)).length : Int)) ∧ ∀ (x : Int × Unit), (0 : Int) ≤ x.1 ∧ x.1 ≤ (↑(runF (RR m l) dirty (chgF ch)).length : Int) → (decide (x.1 < (↑(runF (actsR (Gr.newR m) l) dirty (chgF ch)).length : Int)) = true → ((0 : Int) ≤ x.1 ∧ x.1 < (↑(runF (actsR (Gr.newR m) l) dirty (chgF ch)).length : Int)) ∧ ∀ (x_1 : Int), (runF (actsR (Gr.newR m) l) dirty (chgF ch))[x.1.toNat]? = some x_1 → (ordA (actsR (Gr.newR m) l) (RcF (actsR (Gr.newR m) l) dirty)).length ≤ (1000000000 : Nat) ∧ ((!(ordA (actsR (Gr.newR m) l) (RcF (actsR (Gr.newR m) l) dirty)).contains x_1) = false → ((0 : Int) ≤ x.1 ∧ x.1 ≤ (↑(runF (actsR (Gr.newR m) l) dirty (chgF ch)).length : Int)) ∧ (List.take x.1.toNat (runF (actsR (Gr.newR m) l) dirty (chgF ch))).length ≤ (1000000000 : Nat) ∧ ((List.take x.1.toNat (runF (actsR (Gr.newR m) l) dirty (chgF ch))).contains x_1 = true → (false, ()) = (true, ())) ∧ ((List.take x.1.toNat (runF (actsR (Gr.newR m) l) dirty (chgF ch))).contains x_1 = false → ((some (Obj.opq OK.graph (actsR (Gr.newR m) l)) = some (Obj.opq OK.graph (actsR (Gr.newR m) l)) ∧ some (Obj.box [V.list LK.tmp I dirty, V.list LK.tmp Ty.bool ch]) = some (Obj.box [V.list LK.tmp I dirty, V.list LK.tmp Ty.bool ch]) ∧ some (Obj.box [V.list LK.part LI (actsR (Gr.newR m) l)]) = some (Obj.box [V.list LK.part LI (actsR (Gr.newR m) l)]) ∧ some (bx_pbounds_1 m l dirty ch) = some (bx_pbounds_1 m l dirty ch) ∧ some (bx_pbounds_2 m l dirty) = some (bx_pbounds_2 m l dirty) ∧ True) ∧ x.1 ≤ x.1 ∧ x.1 ≤ (↑(runF (RR m l) dirty (chgF ch)).length : Int)) ∧ ∀ (x_2 : Int × Unit), x.1 ≤ x_2.1 ∧ x_2.1 ≤ (↑(runF (RR m l) dirty (chgF ch)).length : Int) → (decide (x_2.1 < (↑(runF (actsR (Gr.newR m) l) dirty (chgF ch)).length : Int)) = true → ((0 : Int) ≤ x_2.1 ∧ x_2.1 < (↑(runF (actsR (Gr.newR m) l) dirty (chgF ch)).length : Int)) ∧ ∀ (x_3 : Int), (runF (actsR (Gr.newR m) l) dirty (chgF ch))[x_2.1.toNat]? = some x_3 → True ∧ ((readsF (actsR (Gr.newR m) l) x_1).contains x_3 = true → (false, ()) = (true, ())) ∧ ((readsF (actsR (Gr.newR m) l) x_1).contains x_3 = false → ((-9223372036854775808 : Int) ≤ x_2.1 + (1 : Int) ∧ x_2.1 + (1 : Int) ≤ (9223372036854775807 : Int)) ∧ (some (Obj.opq OK.graph (actsR (Gr.newR m) l)) = some (Obj.opq OK.graph (actsR (Gr.newR m) l)) ∧ some (Obj.box [V.list LK.tmp I dirty, V.list LK.tmp Ty.bool ch]) = some (Obj.box [V.list LK.tmp I dirty, V.list LK.tmp Ty.bool ch]) ∧ some (Obj.box [V.list LK.part LI (actsR (Gr.newR m) l)]) = some (Obj.box [V.list LK.part LI (actsR (Gr.newR m) l)]) ∧ some (bx_pbounds_1 m l dirty ch) = some (bx_pbounds_1 m l dirty ch) ∧ some (bx_pbounds_2 m l dirty) = some (bx_pbounds_2 m l dirty) ∧ True) ∧ (x.1 ≤ x_2.1 + (1 : Int) ∧ x_2.1 + (1 : Int) ≤ (↑(runF (RR m l) dirty (chgF ch)).length : Int)) ∧ ((↑(runF (RR m l) dirty (chgF ch)).length : Int) - (x_2.1 + (1 : Int))).toNat < ((↑(runF (RR m l) dirty (chgF ch)).length : Int) - x_2.1).toNat)) ∧ (decide (x_2.1 < (↑(runF (actsR (Gr.newR m) l) dirty (chgF ch)).length : Int)) = false → ((-9223372036854775808 : Int) ≤ x.1 + (1 : Int) ∧ x.1 + (1 : Int) ≤ (9223372036854775807 : Int)) ∧ (some (Obj.opq OK.graph (actsR (Gr.newR m) l)) = some (Obj.opq OK.graph (actsR (Gr.newR m) l)) ∧ some (Obj.box [V.list LK.tmp I dirty, V.list LK.tmp Ty.bool ch]) = some (Obj.box [V.list LK.tmp I dirty, V.list LK.tmp Ty.bool ch]) ∧ some (Obj.box [V.list LK.part LI (actsR (Gr.newR m) l)]) = some (Obj.box [V.list LK.part LI (actsR (Gr.newR m) l)]) ∧ some (bx_pbounds_1 m l dirty ch) = some (bx_pbounds_1 m l dirty ch) ∧ some (bx_pbounds_2 m l dirty) = some (bx_pbounds_2 m l dirty) ∧ True) ∧ ((0 : Int) ≤ x.1 + (1 : Int) ∧ x.1 + (1 : Int) ≤ (↑(runF (RR m l) dirty (chgF ch)).length : Int)) ∧ ((↑(runF (RR m l) dirty (chgF ch)).length : Int) - (x.1 + (1 : Int))).toNat < ((↑(runF (RR m l) dirty (chgF ch)).length : Int) - x.1).toNat))) ∧ ((!(ordA (actsR (Gr.newR m) l) (RcF (actsR (Gr.newR m) l) dirty)).contains x_1) = !false → (false, ()) = (true, ()))) ∧ (decide (x.1 < (↑(runF (actsR (Gr.newR m) l) dirty (chgF ch)).length : Int)) = false → ((some (Obj.opq OK.graph (actsR (Gr.newR m) l)) = some (Obj.opq OK.graph (actsR (Gr.newR m) l)) ∧ some (Obj.box [V.list LK.tmp I dirty, V.list LK.tmp Ty.bool ch]) = some (Obj.box [V.list LK.tmp I dirty, V.list LK.tmp Ty.bool ch]) ∧ some (Obj.box [V.list LK.part LI (actsR (Gr.newR m) l)]) = some (Obj.box [V.list LK.part LI (actsR (Gr.newR m) l)]) ∧ some (bx_pbounds_1 m l dirty ch) = some (bx_pbounds_1 m l dirty ch) ∧ some (bx_pbounds_2 m l dirty) = some (bx_pbounds_2 m l dirty) ∧ True) ∧ (0 : Int) ≤ (0 : Int) ∧ (0 : Int) ≤ (↑(runF (RR m l) dirty (chgF nB)).length : Int)) ∧ ∀ (x : Int × Unit), (0 : Int) ≤ x.1 ∧ x.1 ≤ (↑(runF (RR m l) dirty (chgF nB)).length : Int) → (decide (x.1 < (↑(runF (actsR (Gr.newR m) l) dirty (chgF [])).length : Int)) = true → ((0 : Int) ≤ x.1 ∧ x.1 < (↑(runF (actsR (Gr.newR m) l) dirty (chgF [])).length : Int)) ∧ ∀ (x_1 : Int), (runF (actsR (Gr.newR m) l) dirty (chgF []))[x.1.toNat]? = some x_1 → dirty.length ≤ (1000000000 : Nat) ∧ ((!dirty.contains x_1) = true → (false, ()) = (true, ())) ∧ ((!dirty.contains x_1) = false → ((-9223372036854775808 : Int) ≤ x.1 + (1 : Int) ∧ x.1 + (1 : Int) ≤ (9223372036854775807 : Int)) ∧ (some (Obj.opq OK.graph (actsR (Gr.newR m) l)) = some (Obj.opq OK.graph (actsR (Gr.newR m) l)) ∧ some (Obj.box [V.list LK.tmp I dirty, V.list LK.tmp Ty.bool ch]) = some (Obj.box [V.list LK.tmp I dirty, V.list LK.tmp Ty.bool ch]) ∧ some (Obj.box [V.list LK.part LI (actsR (Gr.newR m) l)]) = some (Obj.box [V.list LK.part LI (actsR (Gr.newR m) l)]) ∧ some (bx_pbounds_1 m l dirty ch) = some (bx_pbounds_1 m l dirty ch) ∧ some (bx_pbounds_2 m l dirty) = some (bx_pbounds_2 m l dirty) ∧ True) ∧ ((0 : Int) ≤ x.1 + (1 : Int) ∧ x.1 + (1 : Int) ≤ (↑(runF (RR m l) dirty (chgF nB)).length : Int)) ∧ ((↑(runF (RR m l) dirty (chgF nB)).length : Int) - (x.1 + (1 : Int))).toNat < ((↑(runF (RR m l) dirty (chgF nB)).length : Int) - x.1).toNat)) ∧ (decide (x.1 < (↑(runF (actsR (Gr.newR m) l) dirty (chgF [])).length : Int)) = false → (runF (actsR (Gr.newR m) l) dirty allT).length ≤ (1000000000 : Nat) ∧ (decide (runF (actsR (Gr.newR m) l) dirty allT = ordA (actsR (Gr.newR m) l) (RcF (actsR (Gr.newR m) l) dirty)) = true → True ∧ (true, ()) = (true, ())) ∧ (decide (runF (actsR (Gr.newR m) l) dirty allT = ordA (actsR (Gr.newR m) l) (RcF (actsR (Gr.newR m) l) dirty)) = !true → (false, ()) = (true, ()))))))) ∧ ((!decide (ordE (actsR (Gr.newR m) l) (RcF (actsR (Gr.newR m) l) dirty) = ordE (actsR (Gr.newR m) l) (RcF (actsR (Gr.newR m) l) dirty))) = !false → (false, ()) = (true, ()))) ∧ ((!decide (ordE (actsR (Gr.newR m) l) (RcF (actsR (Gr.newR m) l) dirty) = ordE (actsR (Gr.newR m) l) (RcF (actsR (Gr.newR m) l) dirty))) = !false → (false, ()) = (true, ())))))
theorem g_pbounds_eq (m : Int) (l : List Ac) (dirty : List Int) (ch : List Bool) : Cond (env_pbounds m l dirty ch) Try.f13 [.int .i64 m, .list .tmp AcT l, .agg [.list .tmp I dirty, .list .tmp .bool ch]] [.bool] (true, ()) = g_pbounds_vc m l dirty ch := by kernel_rfl
theorem g_pbounds_ok (m : Int) (l : List Ac) (dirty : List Int) (ch : List Bool) : g_pbounds_vc m l dirty ch := by
  unfold g_pbounds_vc
  simp only [decide_eq_true_eq, decide_eq_false_iff_not, Bool.not_eq_true', Bool.not_eq_false', Bool.not_true, Bool.not_false, RR]
  have hG := gok_acts l _ (gok_new m)
  refine ⟨trivial, fun _ => ⟨trivial, trivial⟩, fun hf => ?_⟩
  obtain ⟨f1, f2, f3, f4⟩ := few15_of hf
  have hp := pst (gok_acts l _ (gok_new m)) dirty
  generalize actsR (Gr.newR m) l = R at hG hp ⊢
  have hR := hG.1
  have hd : dirty.length ≤ 1000000000 := by omega
  have h1 := ordA_len R (RcF R dirty)
  have h2 := runF_len R dirty (chgF ch)
  have h3 := runF_len R dirty (chgF nB)
  have h3' : (runF R dirty (chgF nB)).length = (runF R dirty (chgF [])).length := rfl
  have h4 := runF_len R dirty allT
  refine ⟨f1, (fun e => by cases e), fun _ => ⟨fun _ => ⟨trivial, trivial⟩, fun _ => ⟨⟨hG, hd⟩, ⟨hG, hd⟩, ⟨hG, hd⟩, ⟨hG, hd⟩, ?_⟩⟩⟩
  have hf26 : ordE R (RcF R dirty) ≠ 0 → (runF R dirty (chgF ch)).length = 0 := fun he => by rw [run_fault hG he]; rfl
  have hnone : ∀ v ∈ runF R dirty (chgF nB), v ∈ dirty := by
    have e : chgF nB = fun _ => false := funext fun v => by
      unfold chgF
      have : ¬ (0 ≤ v ∧ v < ((nB.length : Nat) : Int)) := fun h => by
        have : nB.length = 0 := rfl
        omega
      by_cases h0 : 0 ≤ v
      · rw [decide_eq_false (fun h => this ⟨h0, h⟩), Bool.false_and, Bool.and_false]
      · rw [decide_eq_false h0, Bool.false_and]
    unfold runF
    rw [e]
    exact done_none _ [] (fun v hv => by cases hv)
  refine ⟨fun _ => ⟨fun _ => ⟨fun h => absurd trivial h, fun _ => ⟨fun he => ⟨fun _ => ⟨fun _ => ⟨trivial, trivial⟩, fun hn => absurd (by have := hf26 he; omega) hn⟩, fun hn => absurd (by have := hf26 he; omega) hn⟩, fun he => ?_⟩⟩, fun h => absurd trivial h⟩, fun h => absurd trivial h⟩
  have hP : PSt R dirty (ordA R (RcF R dirty)) := hp.elim (fun h => absurd (h.1.symm.trans he) (by decide)) fun h => h.2
  have hsub := runF_sub R dirty (chgF ch)
  have hnd := hP.rnd (chgF ch)
  have hord := hP.ord (chgF ch)
  have hwh := hP.whole
  refine ⟨⟨⟨trivial, trivial, trivial, trivial, trivial, trivial⟩, by omega, by omega⟩, fun x ⟨a1, a2⟩ => ⟨fun b1 => ⟨⟨a1, b1⟩, fun u hu => ⟨by omega, fun c1 => ⟨⟨a1, by omega⟩, by rw [List.length_take]; omega, fun d1 => absurd (List.contains_iff_mem.1 d1) (nd_notin hnd hu), fun _ => ⟨⟨⟨trivial, trivial, trivial, trivial, trivial, trivial⟩, by omega, by omega⟩, fun y ⟨e1, e2⟩ => ⟨fun g1 => ⟨⟨by omega, g1⟩, fun w hw => ⟨trivial, fun k1 => absurd (List.contains_iff_mem.1 k1) (hord x.1.toNat y.1.toNat u w (by omega) hu hw), fun _ => ⟨by omega, ⟨trivial, trivial, trivial, trivial, trivial, trivial⟩, ⟨by omega, by omega⟩, by omega⟩⟩⟩, fun g1 => ⟨by omega, ⟨trivial, trivial, trivial, trivial, trivial, trivial⟩, ⟨by omega, by omega⟩, by omega⟩⟩⟩⟩, fun c1 => ?_⟩⟩, fun _ => ⟨⟨⟨trivial, trivial, trivial, trivial, trivial, trivial⟩, by omega, by omega⟩, fun y ⟨c1, c2⟩ => ⟨fun d1 => ⟨⟨c1, d1⟩, fun u hu => ⟨hd, fun e1 => ?_, fun _ => ⟨by omega, ⟨trivial, trivial, trivial, trivial, trivial, trivial⟩, ⟨by omega, by omega⟩, by omega⟩⟩⟩, fun _ => ⟨by omega, fun _ => ⟨trivial, trivial⟩, fun hn => absurd hwh hn⟩⟩⟩⟩⟩
  · rw [List.contains_iff_mem.2 (hsub.subset (List.mem_of_getElem? hu))] at c1
    cases c1
  · rw [List.contains_iff_mem.2 (hnone u (List.mem_of_getElem? hu))] at e1
    cases e1
theorem pbounds_pure (m : Int) (l : List Ac) (dirty : List Int) (ch : List Bool) : Pure Try.prog 13 [.int .i64 m, .list .tmp AcT l, .agg [.list .tmp I dirty, .list .tmp .bool ch]] (.bool true) :=
  by have k := Pure.of_cond (g_pbounds_eq m l dirty ch) (g_pbounds_ok m l dirty ch) (specs_ok rfl [sp_few15, sp_pawake, sp_pplan, sp_lrun, sp_runn, sp_has', sp_has, sp_sameInts] [so_made.upd] rfl rfl) mixed Try.func13; exact k
def anyD (R : GI) (dn : List Int) (chg : Int → Bool) (v : Int) (k : Nat) : Bool := (List.range k).any fun (w : Nat) => (readsF R v).contains (w : Int) && (dn.contains (w : Int) && chg w)
theorem anyD_succ (R : GI) (dn : List Int) (chg : Int → Bool) (v : Int) (k : Nat) : anyD R dn chg v (k + 1) = (anyD R dn chg v k || ((readsF R v).contains (k : Int) && (dn.contains (k : Int) && chg k))) := by simp [anyD, List.range_succ]
theorem anyD_all {R : GI} (hG : GOk R) (dn : List Int) (chg : Int → Bool) (v : Int) : anyD R dn chg v (List.length (α := List Int) R) = (readsF R v).any fun w => dn.contains w && chg w := by
  unfold anyD
  rw [Bool.eq_iff_iff, List.any_eq_true, List.any_eq_true]
  constructor
  · rintro ⟨w, h1, h2⟩
    rw [Bool.and_eq_true, List.contains_iff_mem] at h2
    exact ⟨w, h2.1, h2.2⟩
  · rintro ⟨w, h1, h2⟩
    have hw := (reads_at hG v).2 w h1
    unfold Dom at hw
    refine ⟨w.toNat, List.mem_range.2 (by omega), ?_⟩
    rw [Int.toNat_of_nonneg hw.1, Bool.and_eq_true, List.contains_iff_mem]
    exact ⟨h1, h2⟩
noncomputable def env_pstops (m : Int) (l : List Ac) (dirty : List Int) (ch : List Bool) : Env where
  P := Try.prog
  ty := tys2
  specs := specsOf [sp_few15, sp_pawake, sp_lrun, sp_has', sp_has, sp_chg]
  upd := updsOf [so_made.upd]
  heads := fun
    | 10 => .some { slots := [(12, .int .i64)], boxes := [], keep := [100100, 5, 8, 10], inv := fun _ (x : Int × Unit) => 0 ≤ x.1 ∧ x.1 ≤ m, measure := fun _ (x : Int × Unit) => (m - x.1).toNat }
    | 14 => .some { slots := [(13, .bool), (14, .int .i64)], boxes := [], keep := [100100, 5, 8, 10], inv := fun st (x : Bool × Int × Unit) => 0 ≤ x.2.1 ∧ x.2.1 ≤ m ∧ x.1 = (dirty.contains (st.int 12) || anyD (RR m l) (runF (RR m l) dirty (chgF ch)) (chgF ch) (st.int 12) x.2.1.toNat), measure := fun _ (x : Bool × Int × Unit) => (m - x.2.1).toNat }
    | _ => .none
noncomputable abbrev bx_pstops_1 (m : Int) (l : List Ac) (dirty : List Int) (ch : List Bool) : _root_.Go.Vm.Obj := Obj.box [V.list LK.part I (runF (actsR (Gr.newR m) l) dirty (chgF ch)), V.list LK.part I (runF (actsR (Gr.newR m) l) dirty (chgF ch))]
def g_pstops_vc (m : Int) (l : List Ac) (dirty : List Int) (ch : List Bool) : Prop :=
  True ∧ ((!few15 m l dirty ch) = true → True ∧ (true, ()) = (true, ())) ∧ ((!few15 m l dirty ch) = false → fewF l = true ∧ ((!true) = true → (false, ()) = (true, ())) ∧ ((!true) = false → (decide (List.length (actsR (Gr.newR m) l) = (0 : Nat)) = true → True ∧ (true, ()) = (true, ())) ∧ (decide (List.length (actsR (Gr.newR m) l) = (0 : Nat)) = false → ((List.length (actsR (Gr.newR m) l) ≤ (20000 : Nat) ∧ ∀ (v : Nat) (l_1 : List Int), (actsR (Gr.newR m) l)[v]? = some l_1 → l_1.Nodup ∧ ∀ (x : Int), x ∈ l_1 → (0 : Int) ≤ x ∧ x < (↑(List.length (actsR (Gr.newR m) l)) : Int) ∧ x ≠ (↑v : Int)) ∧ dirty.length ≤ (1000000000 : Nat)) ∧ ((some (Obj.opq OK.graph (actsR (Gr.newR m) l)) = some (Obj.opq OK.graph (actsR (Gr.newR m) l)) ∧ some (Obj.box [V.list LK.tmp I dirty, V.list LK.tmp Ty.bool ch]) = some (Obj.box [V.list LK.tmp I dirty, V.list LK.tmp Ty.bool ch]) ∧ some (Obj.box [V.list LK.part LI (actsR (Gr.newR m) l)]) = some (Obj.box [V.list LK.part LI (actsR (Gr.newR m) l)]) ∧ some (bx_pstops_1 m l dirty ch) = some (bx_pstops_1 m l dirty ch) ∧ True) ∧ (0 : Int) ≤ (0 : Int) ∧ (0 : Int) ≤ m) ∧ ∀ (x : Int × Unit), (0 : Int) ≤ x.1 ∧ x.1 ≤ m → (decide (x.1 < m) = true → (decide (ordE (actsR (Gr.newR m) l) (RcF (actsR (Gr.newR m) l) dirty) = (0 : Int)) = true → dirty.length ≤ (1000000000 : Nat) ∧ ((some (Obj.opq OK.graph (actsR (Gr.newR m) l)) = some (Obj.opq OK.graph (actsR (Gr.newR m) l)) ∧ some (Obj.box [V.list LK.tmp I dirty, V.list LK.tmp Ty.bool ch]) = some (Obj.box [V.list LK.tmp I dirty, V.list LK.tmp Ty.bool ch]) ∧ some (Obj.box [V.list LK.part LI (actsR (Gr.newR m) l)]) = some (Obj.box [V.list LK.part LI (actsR (Gr.newR m) l)]) ∧ some (bx_pstops_1 m l dirty ch) = some (bx_pstops_1 m l dirty ch) ∧ True) ∧ (0 : Int) ≤ (0 : Int) ∧ (0 : Int) ≤ m ∧ dirty.contains x.1 = (dirty.contains x.1 || anyD (RR m l) (runF (RR m l) dirty (chgF ch)) (chgF ch) x.1 (Int.toNat (0 : Int)))) ∧ ∀ (x_1 : Bool × Int × Unit), (0 : Int) ≤ x_1.2.1 ∧ x_1.2.1 ≤ m ∧ x_1.1 = (dirty.contains x.1 || anyD (RR m l) (runF (RR m l) dirty (chgF ch)) (chgF ch) x.1 x_1.2.1.toNat) → (decide (x_1.2.1 < m) = true → (x_1.1 = false → True ∧ ((readsF (actsR (Gr.newR m) l) x.1).contains x_1.2.1 = true → (runF (actsR (Gr.newR m) l) dirty (chgF ch)).length ≤ (1000000000 : Nat) ∧ ((runF (actsR (Gr.newR m) l) dirty (chgF ch)).contains x_1.2.1 = true → True ∧ ((-9223372036854775808 : Int) ≤ x_1.2.1 + (1 : Int) ∧ x_1.2.1 + (1 : Int) ≤ (9223372036854775807 : Int)) ∧ (some (Obj.opq OK.graph (actsR (Gr.newR m) l)) = some (Obj.opq OK.graph (actsR (Gr.newR m) l)) ∧ some (Obj.box [V.list LK.tmp I dirty, V.list LK.tmp Ty.bool ch]) = some (Obj.box [V.list LK.tmp I dirty, V.list LK.tmp Ty.bool ch]) ∧ some (Obj.box [V.list LK.part LI (actsR (Gr.newR m) l)]) = some (Obj.box [V.list LK.part LI (actsR (Gr.newR m) l)]) ∧ some (bx_pstops_1 m l dirty ch) = some (bx_pstops_1 m l dirty ch) ∧ True) ∧ ((0 : Int) ≤ x_1.2.1 + (1 : Int) ∧ x_1.2.1 + (1 : Int) ≤ m ∧ chgF ch x_1.2.1 = (dirty.contains x.1 || anyD (RR m l) (runF (RR m l) dirty (chgF ch)) (chgF ch) x.1 (x_1.2.1 + (1 : Int)).toNat)) ∧ (m - (x_1.2.1 + (1 : Int))).toNat < (m - x_1.2.1).toNat) ∧ ((runF (actsR (Gr.newR m) l) dirty (chgF ch)).contains x_1.2.1 = !true → ((-9223372036854775808 : Int) ≤ x_1.2.1 + (1 : Int) ∧ x_1.2.1 + (1 : Int) ≤ (9223372036854775807 : Int)) ∧ (some (Obj.opq OK.graph (actsR (Gr.newR m) l)) = some (Obj.opq OK.graph (actsR (Gr.newR m) l)) ∧ some (Obj.box [V.list LK.tmp I dirty, V.list LK.tmp Ty.bool ch]) = some (Obj.box [V.list LK.tmp I dirty, V.list LK.tmp Ty.bool ch]) ∧ some (Obj.box [V.list LK.part LI (actsR (Gr.newR m) l)]) = some (Obj.box [V.list LK.part LI (actsR (Gr.newR m) l)]) ∧ some (bx_pstops_1 m l dirty ch) = some (bx_pstops_1 m l dirty ch) ∧ True) ∧ ((0 : Int) ≤ x_1.2.1 + (1 : Int) ∧ x_1.2.1 + (1 : Int) ≤ m ∧ false = (dirty.contains x.1 || anyD (RR m l) (runF (RR m l) dirty (chgF ch)) (chgF ch) x.1 (x_1.2.1 + (1 : Int)).toNat)) ∧ (m - (x_1.2.1 + (1 : Int))).toNat < (m - x_1.2.1).toNat)) ∧ ((readsF (actsR (Gr.newR m) l) x.1).contains x_1.2.1 = !true → ((-9223372036854775808 : Int) ≤ x_1.2.1 + (1 : Int) ∧ x_1.2.1 + (1 : Int) ≤ (9223372036854775807 : Int)) ∧ (some (Obj.opq OK.graph (actsR (Gr.newR m) l)) = some (Obj.opq OK.graph (actsR (Gr.newR m) l)) ∧ some (Obj.box [V.list LK.tmp I dirty, V.list LK.tmp Ty.bool ch]) = some (Obj.box [V.list LK.tmp I dirty, V.list LK.tmp Ty.bool ch]) ∧ some (Obj.box [V.list LK.part LI (actsR (Gr.newR m) l)]) = some (Obj.box [V.list LK.part LI (actsR (Gr.newR m) l)]) ∧ some (bx_pstops_1 m l dirty ch) = some (bx_pstops_1 m l dirty ch) ∧ True) ∧ ((0 : Int) ≤ x_1.2.1 + (1 : Int) ∧ x_1.2.1 + (1 : Int) ≤ m ∧ false = (dirty.contains x.1 || anyD (RR m l) (runF (RR m l) dirty (chgF ch)) (chgF ch) x.1 (x_1.2.1 + (1 : Int)).toNat)) ∧ (m - (x_1.2.1 + (1 : Int))).toNat < (m - x_1.2.1).toNat)) ∧ (x_1.1 = !false → ((-9223372036854775808 : Int) ≤ x_1.2.1 + (1 : Int) ∧ x_1.2.1 + (1 : Int) ≤ (9223372036854775807 : Int)) ∧ (some (Obj.opq OK.graph (actsR (Gr.newR m) l)) = some (Obj.opq OK.graph (actsR (Gr.newR m) l)) ∧ some (Obj.box [V.list LK.tmp I dirty, V.list LK.tmp Ty.bool ch]) = some (Obj.box [V.list LK.tmp I dirty, V.list LK.tmp Ty.bool ch]) ∧ some (Obj.box [V.list LK.part LI (actsR (Gr.newR m) l)]) = some (Obj.box [V.list LK.part LI (actsR (Gr.newR m) l)]) ∧ some (bx_pstops_1 m l dirty ch) = some (bx_pstops_1 m l dirty ch) ∧ True) ∧ ((0 : Int) ≤ x_1.2.1 + (1 : Int) ∧ x_1.2.1 + (1 : Int) ≤ m ∧ true = (dirty.contains x.1 || anyD (RR m l) (runF (RR m l) dirty (chgF ch)) (chgF ch) x.1 (x_1.2.1 + (1 : Int)).toNat)) ∧ (m - (x_1.2.1 + (1 : Int))).toNat < (m - x_1.2.1).toNat)) ∧ (decide (x_1.2.1 < m) = false → (runF (actsR (Gr.newR m) l) dirty (chgF ch)).length ≤ (1000000000 : Nat) ∧ ((!x_1.1 == (runF (actsR (Gr.newR m) l) dirty (chgF ch)).contains x.1) = true → (false, ()) = (true, ())) ∧ ((!x_1.1 == (runF (actsR (Gr.newR m) l) dirty (chgF ch)).contains x.1) = false → ((-9223372036854775808 : Int) ≤ x.1 + (1 : Int) ∧ x.1 + (1 : Int) ≤ (9223372036854775807 : Int)) ∧ (some (Obj.opq OK.graph (actsR (Gr.newR m) l)) = some (Obj.opq OK.graph (actsR (Gr.newR m) l)) ∧ some (Obj.box [V.list LK.tmp I dirty, V.list LK.tmp Ty.bool ch]) = some (Obj.box [V.list LK.tmp I dirty, V.list LK.tmp Ty.bool ch]) ∧ some (Obj.box [V.list LK.part LI (actsR (Gr.newR m) l)]) = some (Obj.box [V.list LK.part LI (actsR (Gr.newR m) l)]) ∧ some (bx_pstops_1 m l dirty ch) = some (bx_pstops_1 m l dirty ch) ∧ True) ∧ ((0 : Int) ≤ x.1 + (1 : Int) ∧ x.1 + (1 : Int) ≤ m) ∧ (m - (x.1 + (1 : Int))).toNat < (m - x.1).toNat))) ∧ (decide (ordE (actsR (Gr.newR m) l) (RcF (actsR (Gr.newR m) l) dirty) = (0 : Int)) = false → True ∧ (true, ()) = (true, ()))) ∧ (decide (x.1 < m) = !true → True ∧ (true, ()) = (true, ())))))
theorem g_pstops_eq (m : Int) (l : List Ac) (dirty : List Int) (ch : List Bool) : Cond (env_pstops m l dirty ch) Try.f14 [.int .i64 m, .list .tmp AcT l, .agg [.list .tmp I dirty, .list .tmp .bool ch]] [.bool] (true, ()) = g_pstops_vc m l dirty ch := by kernel_rfl
theorem g_pstops_ok (m : Int) (l : List Ac) (dirty : List Int) (ch : List Bool) : g_pstops_vc m l dirty ch := by
  unfold g_pstops_vc
  simp only [decide_eq_true_eq, decide_eq_false_iff_not, Bool.not_eq_true', Bool.not_eq_false', Bool.not_true, Bool.not_false, RR]
  have hG := gok_acts l _ (gok_new m)
  refine ⟨trivial, fun _ => ⟨trivial, trivial⟩, fun hf => ?_⟩
  obtain ⟨f1, f2, f3, f4⟩ := few15_of hf
  have hp := pst (gok_acts l _ (gok_new m)) dirty
  have hmade : ¬ List.length (actsR (Gr.newR m) l) = 0 → ((List.length (actsR (Gr.newR m) l) : Nat) : Int) = m := made_len
  generalize actsR (Gr.newR m) l = R at hG hp hmade ⊢
  have hR := hG.1
  have hd : dirty.length ≤ 1000000000 := by omega
  have h2 := runF_len R dirty (chgF ch)
  refine ⟨f1, (fun e => by cases e), fun _ => ⟨fun _ => ⟨trivial, trivial⟩, fun hne => ?_⟩⟩
  have hm := hmade hne
  refine ⟨⟨hG, hd⟩, ?_⟩
  refine ⟨⟨⟨trivial, trivial, trivial, trivial, trivial⟩, by omega, by omega⟩, fun x ⟨a1, a2⟩ => ⟨fun b1 => ⟨fun he => ?_, fun _ => ⟨trivial, trivial⟩⟩, fun _ => ⟨trivial, trivial⟩⟩⟩
  have hP : PSt R dirty (ordA R (RcF R dirty)) := hp.elim (fun h => absurd (h.1.symm.trans he) (by decide)) fun h => h.2
  have hstop := hP.stops (chgF ch) (v := x.1) ⟨a1, by omega⟩
  refine ⟨hd, ⟨⟨trivial, trivial, trivial, trivial, trivial⟩, by omega, by omega, by simp [anyD]⟩, fun y hy => ?_⟩
  obtain ⟨b, w, ⟨⟩⟩ := y
  obtain ⟨c1, c2, c3⟩ := hy
  dsimp only at c1 c2 c3 ⊢
  have hs := anyD_succ R (runF R dirty (chgF ch)) (chgF ch) x.1 w.toNat
  rw [show w.toNat + 1 = (w + 1).toNat by omega, Int.toNat_of_nonneg c1] at hs
  have hb : (dirty.contains x.1 || anyD R (runF R dirty (chgF ch)) (chgF ch) x.1 (w + 1).toNat) = (b || ((readsF R x.1).contains w && ((runF R dirty (chgF ch)).contains w && chgF ch w))) := by rw [hs, c3, Bool.or_assoc]
  rw [hb]
  refine ⟨fun d1 => ⟨fun f => ⟨trivial, fun g => ⟨by omega, fun k => ⟨trivial, by omega, ⟨trivial, trivial, trivial, trivial, trivial⟩, ⟨by omega, by omega, by rw [f, g, k, Bool.false_or, Bool.true_and, Bool.true_and]⟩, by omega⟩, fun k => ⟨by omega, ⟨trivial, trivial, trivial, trivial, trivial⟩, ⟨by omega, by omega, by rw [f, k, Bool.false_or, Bool.false_and, Bool.and_false]⟩, by omega⟩⟩, fun g => ⟨by omega, ⟨trivial, trivial, trivial, trivial, trivial⟩, ⟨by omega, by omega, by rw [f, g, Bool.false_or, Bool.false_and]⟩, by omega⟩⟩, fun f => ⟨by omega, ⟨trivial, trivial, trivial, trivial, trivial⟩, ⟨by omega, by omega, by rw [f, Bool.true_or]⟩, by omega⟩⟩, fun d1 => ⟨by omega, fun f => ?_, fun _ => ⟨by omega, ⟨trivial, trivial, trivial, trivial, trivial⟩, ⟨by omega, by omega⟩, by omega⟩⟩⟩
  rw [show w.toNat = List.length (α := List Int) R by omega, anyD_all hG] at c3
  have : b = isD (readsF R) dirty (chgF ch) (runF R dirty (chgF ch)) x.1 := c3
  rw [this, ← hstop] at f
  simp at f
theorem pstops_pure (m : Int) (l : List Ac) (dirty : List Int) (ch : List Bool) : Pure Try.prog 14 [.int .i64 m, .list .tmp AcT l, .agg [.list .tmp I dirty, .list .tmp .bool ch]] (.bool true) :=
  by have k := Pure.of_cond (g_pstops_eq m l dirty ch) (g_pstops_ok m l dirty ch) (specs_ok rfl [sp_few15, sp_pawake, sp_lrun, sp_has', sp_has, sp_chg] [so_made.upd] rfl rfl) mixed Try.func14; exact k
end Go.Proofs.Ytojflfogjkajaaa.Od
end
