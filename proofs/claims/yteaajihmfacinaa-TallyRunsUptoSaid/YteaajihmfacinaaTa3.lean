/-
  made, putter, Add.
-/
import Derived.Test.YteaajihmfacinaaTa2
namespace Go.Proofs.Yteaajihmfacinaa.Ta
open Go.Vm
noncomputable def env_tmade (G : List (Sp × List Rw)) (H : List (Sp × List Int)) (e n : Int) : Env where
  P := Try.prog
  ty := tys0
def g_tmade_vc (G : List (Sp × List Rw)) (H : List (Sp × List Int)) (e : Int) (n : Int) : Prop :=
  (!false, ()) = (true, ())
theorem g_tmade_eq (G : List (Sp × List Rw)) (H : List (Sp × List Int)) (e n : Int) : Cond (env_tmade G H e n) Try.f32 [.fptr [.fopq .grw (G, none), .fopq .gpe (H, none), .int .i64 e, .int .i64 n]] [.bool] (true, ()) = g_tmade_vc G H e n := by kernel_rfl
theorem g_tmade_ok (G : List (Sp × List Rw)) (H : List (Sp × List Int)) (e n : Int) : g_tmade_vc G H e n := by
  rfl
set_option maxRecDepth 20000
theorem tmade_pure (G : List (Sp × List Rw)) (H : List (Sp × List Int)) (e n : Int) : Pure Try.prog 32 [.fptr [.fopq .grw (G, none), .fopq .gpe (H, none), .int .i64 e, .int .i64 n]] (.bool true) :=
  by have k := Pure.of_cond (g_tmade_eq G H e n) (g_tmade_ok G H e n) (specs_ok rfl [] [] rfl rfl) mixed Try.func32; exact k
noncomputable def q_tmade (G : List (Sp × List Rw)) (H : List (Sp × List Int)) (e n : Int) : Prop × V := (True, (.bool true))
noncomputable def sp_tmade : FSpec Try.prog where
 f := 32
 run := fun
  | [.fptr [.fopq .grw (G, none), .fopq .gpe (H, none), .int .i64 e, .int .i64 n]] => some (q_tmade G H e n)
  | _ => none
 ok := fun args pre r h hp => by
  split at h
  · rename_i G H e n
    exact of_q h hp fun h => (tmade_pure G H e n).weak (.cons (.refl _) .nil)
  · cases h
noncomputable def env_tmade0 : Env where
  P := Try.prog
  ty := tys0
def g_tmade0_vc : Prop :=
  (false, ()) = (false, ())
theorem g_tmade0_eq  : Cond (env_tmade0 ) Try.f32 [.nilp] [.bool] (false, ()) = g_tmade0_vc  := by kernel_rfl
theorem g_tmade0_ok : g_tmade0_vc := by
  rfl
theorem tmade0_pure  : Pure Try.prog 32 [.nilp] (.bool false) :=
  by have k := Pure.of_cond (g_tmade0_eq ) (g_tmade0_ok ) (specs_ok rfl [] [] rfl rfl) mixed Try.func32; exact k
noncomputable def q_tmade0  : Prop × V := (True, (.bool false))
noncomputable def sp_tmade0 : FSpec Try.prog where
 f := 32
 run := fun
  | [.nilp] => some (q_tmade0 )
  | _ => none
 ok := fun args pre r h hp => by
  split at h
  · skip
    exact of_q h hp fun h => (tmade0_pure ).weak (.cons (.refl _) .nil)
  · cases h
noncomputable def env_putter (G : List (Sp × List Rw)) (H : List (Sp × List Int)) (e n : Int) : Env where
  P := Try.prog
  ty := tys0
  pins := [9000, 9001, 9002]
abbrev ann_putter : Ann := { slots := numP 0 [.clo 52 [1]], boxes := [(1, [.bp 9000]), (9000, [.opq 9001 .grw, .opq 9002 .gpe, .int .i64, .int .i64])], inv := fun _ _ => True }
def g_putter_vc (G : List (Sp × List Rw)) (H : List (Sp × List Int)) (e : Int) (n : Int) : Prop :=
  True ∧ ((), (), (G, none), (H, none), e, n, ()) = ((), (), (G, nS), (H, nS), e, n, ())
theorem g_putter_eq (G : List (Sp × List Rw)) (H : List (Sp × List Int)) (e n : Int) : CondO (env_putter G H e n) Try.f33 [.ptr 9000 0] [(9000, .box [.oref 9001, .oref 9002, .int .i64 e, .int .i64 n]), (9001, .opq .grw (G, none)), (9002, .opq .gpe (H, none))] [none] ann_putter ((), (), (G, nS), (H, nS), e, n, ()) = g_putter_vc G H e n := by kernel_rfl
theorem g_putter_ok (G : List (Sp × List Rw)) (H : List (Sp × List Int)) (e n : Int) : g_putter_vc G H e n := by
  exact ⟨trivial, rfl⟩
theorem putter_upd (G : List (Sp × List Rw)) (H : List (Sp × List Int)) (e n : Int) : UpdC Try.prog 33 [.ptr 9000 0] [(9000, .box [.oref 9001, .oref 9002, .int .i64 e, .int .i64 n]), (9001, .opq .grw (G, none)), (9002, .opq .gpe (H, none))] (.fn (.func 52) [] [.ptr 1 0]) [(9001, .opq .grw (G, none)), (9002, .opq .gpe (H, none)), (1, .box [.ptr 9000 0]), (9000, .box [.oref 9001, .oref 9002, .int .i64 e, .int .i64 n])] :=
  by have k := UpdC.of_cond (g_putter_eq G H e n) (g_putter_ok G H e n) (specs_ok rfl [] [] rfl rfl) mixed Try.func33; exact k
noncomputable def q_putter (G : List (Sp × List Rw)) (H : List (Sp × List Int)) (e n : Int) : Prop × V × Store := (True, .fn (.func 52) [] [.ptr 1 0], [(9001, .opq .grw (G, none)), (9002, .opq .gpe (H, none)), (1, .box [.ptr 9000 0]), (9000, .box [.oref 9001, .oref 9002, .int .i64 e, .int .i64 n])])
noncomputable def so_putter : OSpec Try.prog where
 f := 33
 run := fun args σ => match args, σ with
  | [.ptr 9000 0], [(9000, .box [.oref 9001, .oref 9002, .int .i64 e, .int .i64 n]), (9001, .opq .grw (G, none)), (9002, .opq .gpe (H, none))] => some (q_putter G H e n)
  | _, _ => none
 ok := fun args σ pre r σ' h hp => by
  try dsimp only at h
  split at h
  · rename_i e n G H
    exact of_qo h hp fun h => (putter_upd G H e n).weak (.cons (.refl _) .nil)
  · cases h
noncomputable def putRun : List V → Store → Option (Prop × V × Store)
  | [.int .i64 p, .agg [.int .i64 a, .int .i64 b, .int .i64 c, .int .i64 m], .ptr 9000 0], [(9000, .box [.ptr 9001 0]), (9001, .box [.oref 9002, .oref 9003, .int .i64 e, .int .i64 n]), (9002, .opq .grw g), (9003, .opq .gpe h)] =>
    some ((g.2 = nS ∧ h.2 = nS) ∧ POk ⟨g.1, h.1, e, n⟩ (p, a, b, c, m), .tuple [], [(9002, .opq .grw ((putD ⟨g.1, h.1, e, n⟩ (p, a, b, c, m)).G, none)), (9003, .opq .gpe ((putD ⟨g.1, h.1, e, n⟩ (p, a, b, c, m)).H, none)), (9000, .box [.ptr 9001 0]), (9001, .box [.oref 9002, .oref 9003, .int .i64 e, .int .i64 (n + 1)])])
  | _, _ => none
noncomputable def so_put' : OSpec Try.prog where
  f := 52
  run := putRun
  ok := fun args σ pre r σ' h hp => by
    unfold putRun at h
    split at h
    · rename_i p a b c m e n g k
      cases h
      obtain ⟨⟨h1, h2⟩, h3⟩ := hp
      obtain ⟨g1, g2⟩ := g
      obtain ⟨k1, k2⟩ := k
      cases h1
      cases h2
      exact put_upd _ _ _ _ _ _ _ _ _ h3
    · cases h
def LOk (d : TD) (p : Int) (ls : List Ln) : Prop := (∃ L, Tells d L) ∧ d.n + ls.length < big ∧ WordI p ∧ ∀ y ∈ ls, WL y
abbrev tdF (x : (List (Sp × List Rw) × Option Sp) × (List (Sp × List Int) × Option Sp) × Int × Int × Unit) : TD := ⟨x.1.1, x.2.1.1, x.2.2.1, x.2.2.2.1⟩
def AInv (d : TD) (p : Int) (ls : List Ln) (i : Int) (x : (List (Sp × List Rw) × Option Sp) × (List (Sp × List Int) × Option Sp) × Int × Int × Unit) : Prop :=
  0 ≤ i ∧ i ≤ ls.length ∧ x.1.2 = nS ∧ x.2.1.2 = nS ∧ tdF x = putsD d (lnP p (ls.take i.toNat))
theorem putsD_n (d : TD) (L : List Pu) : (putsD d L).n = d.n + L.length := by
  induction L generalizing d with
  | nil => simp [putsD]
  | cons u r ih =>
    have : (putsD d (u :: r)).n = (putsD (putD d u) r).n := rfl
    rw [this, ih, List.length_cons]
    show d.n + 1 + _ = _
    push_cast
    omega
theorem AInv.next {d : TD} {p : Int} {ls : List Ln} (h : LOk d p ls) {i : Int} {x : (List (Sp × List Rw) × Option Sp) × (List (Sp × List Int) × Option Sp) × Int × Int × Unit} (hx : AInv d p ls i x) {y : Ln} (hy : ls[i.toNat]? = some y) :
    POk (tdF x) (p, y) ∧ putD (tdF x) (p, y) = putsD d (lnP p (ls.take (i + 1).toNat)) := by
  obtain ⟨⟨L, hT⟩, hn, hp, hw⟩ := h
  obtain ⟨h0, h1, h2, h3, h4⟩ := hx
  have hlen := (List.getElem?_eq_some_iff.1 hy).1
  refine ⟨⟨⟨_, h4 ▸ hT.puts _⟩, ?_, hp, hw y (List.mem_of_getElem? hy)⟩, ?_⟩
  · rw [h4, putsD_n]
    simp only [lnP, List.length_map, List.length_take]
    omega
  · rw [h4, show (i + 1).toNat = i.toNat + 1 by omega, List.take_add_one, hy, lnP, lnP, List.map_append, putsD_app]
    rfl
noncomputable def env_add (G : List (Sp × List Rw)) (H : List (Sp × List Int)) (e n p r : Int) (ls : List Ln) : Env where
  P := Try.prog
  ty := tys0
  specs := specsOf [sp_tmade]
  upd := updsOf [so_putter.upd, so_put'.upd]
  pins := [9000, 9001, 9002]
  heads := fun | 7 => some { slots := [(23, .int .i64)], boxes := [(3, [.int .i64, .int .i64, .any]), (9000, [.opq 9001 .grw, .opq 9002 .gpe, .int .i64, .int .i64])], keep := [100400], inv := fun _ (x : Int × Int × Int × Unit × (List (Sp × List Rw) × Option Sp) × (List (Sp × List Int) × Option Sp) × Int × Int × Unit) => x.2.1 = p ∧ AInv ⟨G, H, e, n⟩ p ls x.1 x.2.2.2.2, measure := fun _ (x : Int × Int × Int × Unit × (List (Sp × List Rw) × Option Sp) × (List (Sp × List Int) × Option Sp) × Int × Int × Unit) => (ls.length - x.1).toNat } | _ => none
noncomputable def addR (d : TD) (x : En) : TD × Int := if d.e ≥ 2000 then (d, 3) else (addD d x, 0)
abbrev ann_add : Ann := { slots := numP 0 [.int .i64], boxes := [(9000, [.opq 9001 .grw, .opq 9002 .gpe, .int .i64, .int .i64])], inv := fun _ _ => True }
def g_add_vc (G : List (Sp × List Rw)) (H : List (Sp × List Int)) (e : Int) (n : Int) (p : Int) (r : Int) (ls : List Ln) : Prop :=
  True ∧ ((!true) = true → True ∧ ((1 : Int), (G, none), (H, none), e, n, ()) = ((addR { G := G, H := H, e := e, n := n } (p, r, ls)).2, ((addR { G := G, H := H, e := e, n := n } (p, r, ls)).1.G, nS), ((addR { G := G, H := H, e := e, n := n } (p, r, ls)).1.H, nS), (addR { G := G, H := H, e := e, n := n } (p, r, ls)).1.e, (addR { G := G, H := H, e := e, n := n } (p, r, ls)).1.n, ())) ∧ ((!true) = false → (decide ((2000 : Int) ≤ e) = true → True ∧ ((3 : Int), (G, none), (H, none), e, n, ()) = ((addR { G := G, H := H, e := e, n := n } (p, r, ls)).2, ((addR { G := G, H := H, e := e, n := n } (p, r, ls)).1.G, nS), ((addR { G := G, H := H, e := e, n := n } (p, r, ls)).1.H, nS), (addR { G := G, H := H, e := e, n := n } (p, r, ls)).1.e, (addR { G := G, H := H, e := e, n := n } (p, r, ls)).1.n, ())) ∧ (decide ((2000 : Int) ≤ e) = false → True ∧ ((some (Obj.box [V.ptr (9000 : Nat) (0 : Nat)]) = some (Obj.box [V.ptr (9000 : Nat) (0 : Nat)]) ∧ True) ∧ p = p ∧ AInv { G := G, H := H, e := e, n := n } p ls (0 : Int) ((G, none), (H, none), e, n, PUnit.unit)) ∧ ∀ (x : Int × Int × Int × Unit × (List ((Int × Int × Int) × List (Int × Int × Int)) × Option (Int × Int × Int)) × (List ((Int × Int × Int) × List Int) × Option (Int × Int × Int)) × Int × Int × Unit), x.2.1 = p ∧ AInv { G := G, H := H, e := e, n := n } p ls x.1 x.2.2.2.2 → (decide (x.1 < (↑ls.length : Int)) = true → ((0 : Int) ≤ x.1 ∧ x.1 < (↑ls.length : Int)) ∧ ∀ (x_1 : Int × Int × Int × Int), ls[x.1.toNat]? = some x_1 → ((x.2.2.2.2.1.2 = nS ∧ x.2.2.2.2.2.1.2 = nS) ∧ POk { G := x.2.2.2.2.1.1, H := x.2.2.2.2.2.1.1, e := x.2.2.2.2.2.2.1, n := x.2.2.2.2.2.2.2.1 } (x.2.1, x_1.1, x_1.2.1, x_1.2.2.1, x_1.2.2.2)) ∧ ((-9223372036854775808 : Int) ≤ x.1 + (1 : Int) ∧ x.1 + (1 : Int) ≤ (9223372036854775807 : Int)) ∧ (some (Obj.box [V.ptr (9000 : Nat) (0 : Nat)]) = some (Obj.box [V.ptr (9000 : Nat) (0 : Nat)]) ∧ True) ∧ (x.2.1 = p ∧ AInv { G := G, H := H, e := e, n := n } p ls (x.1 + (1 : Int)) (((putD { G := x.2.2.2.2.1.1, H := x.2.2.2.2.2.1.1, e := x.2.2.2.2.2.2.1, n := x.2.2.2.2.2.2.2.1 } (x.2.1, x_1.1, x_1.2.1, x_1.2.2.1, x_1.2.2.2)).G, none), ((putD { G := x.2.2.2.2.1.1, H := x.2.2.2.2.2.1.1, e := x.2.2.2.2.2.2.1, n := x.2.2.2.2.2.2.2.1 } (x.2.1, x_1.1, x_1.2.1, x_1.2.2.1, x_1.2.2.2)).H, none), x.2.2.2.2.2.2.1, x.2.2.2.2.2.2.2.1 + (1 : Int), PUnit.unit)) ∧ ((↑ls.length : Int) - (x.1 + (1 : Int))).toNat < ((↑ls.length : Int) - x.1).toNat) ∧ (decide (x.1 < (↑ls.length : Int)) = false → ((-9223372036854775808 : Int) ≤ x.2.2.2.2.2.2.1 + (1 : Int) ∧ x.2.2.2.2.2.2.1 + (1 : Int) ≤ (9223372036854775807 : Int)) ∧ True ∧ ((0 : Int), x.2.2.2.2.1, x.2.2.2.2.2.1, x.2.2.2.2.2.2.1 + (1 : Int), x.2.2.2.2.2.2.2.1, ()) = ((addR { G := G, H := H, e := e, n := n } (p, r, ls)).2, ((addR { G := G, H := H, e := e, n := n } (p, r, ls)).1.G, nS), ((addR { G := G, H := H, e := e, n := n } (p, r, ls)).1.H, nS), (addR { G := G, H := H, e := e, n := n } (p, r, ls)).1.e, (addR { G := G, H := H, e := e, n := n } (p, r, ls)).1.n, ()))))
theorem g_add_eq (G : List (Sp × List Rw)) (H : List (Sp × List Int)) (e n p r : Int) (ls : List Ln) : CondO (env_add G H e n p r ls) Try.f13 [.ptr 9000 0, .agg [.int .i64 p, .int .i64 r, .list .tmp LnT ls]] [(9000, .box [.oref 9001, .oref 9002, .int .i64 e, .int .i64 n]), (9001, .opq .grw (G, none)), (9002, .opq .gpe (H, none))] [none] ann_add ((addR ⟨G, H, e, n⟩ (p, r, ls)).2, ((addR ⟨G, H, e, n⟩ (p, r, ls)).1.G, nS), ((addR ⟨G, H, e, n⟩ (p, r, ls)).1.H, nS), (addR ⟨G, H, e, n⟩ (p, r, ls)).1.e, (addR ⟨G, H, e, n⟩ (p, r, ls)).1.n, ()) = g_add_vc G H e n p r ls := by kernel_rfl
theorem g_add_ok (G : List (Sp × List Rw)) (H : List (Sp × List Int)) (e n p r : Int) (ls : List Ln) (h : LOk ⟨G, H, e, n⟩ p ls ∧ -1 ≤ e) : g_add_vc G H e n p r ls := by
  unfold g_add_vc
  simp only [decide_eq_true_eq, decide_eq_false_iff_not, Bool.not_eq_true', Bool.not_eq_false', Bool.not_true, Bool.not_false]
  obtain ⟨hL, he⟩ := h
  have hln : (ls.length : Int) < 3518437208781 := by
    obtain ⟨⟨L, hT⟩, hn, _⟩ := hL
    have h1 : n = L.length := hT.n
    have hn : n + ls.length < 3518437208781 := hn
    omega
  refine ⟨trivial, (fun h => by cases h), fun _ => ⟨fun h3 => ⟨trivial, by rw [addR, if_pos h3]⟩, fun h3 => ⟨trivial, ⟨⟨trivial, trivial⟩, trivial, by omega, by omega, rfl, rfl, rfl⟩, fun x hx => ?_⟩⟩⟩
  obtain ⟨i, q, r', ⟨⟩, g, k, e', n', ⟨⟩⟩ := x
  obtain ⟨rfl, hx⟩ := hx
  dsimp only at hx ⊢
  have hx' := hx
  obtain ⟨h0, h1, h2, h4, h5⟩ := hx'
  have ee : e' = e := by
    have := congrArg TD.e h5
    rw [putsD_e] at this
    exact this
  refine ⟨fun c => ⟨⟨h0, c⟩, fun y hy => ?_⟩, fun c => ⟨by omega, trivial, ?_⟩⟩
  · obtain ⟨a1, a2⟩ := hx.next hL hy
    refine ⟨⟨⟨h2, h4⟩, a1⟩, by omega, ⟨trivial, trivial⟩, ⟨rfl, by omega, by omega, rfl, rfl, ?_⟩, by omega⟩
    exact a2
  · rw [List.take_of_length_le (by omega)] at h5
    rw [addR, if_neg h3]
    obtain ⟨g1, g2⟩ := g
    obtain ⟨k1, k2⟩ := k
    have h2 : g2 = nS := h2
    have h4 : k2 = nS := h4
    subst h2 h4
    have e1 : g1 = (putsD ⟨G, H, e, n⟩ (lnP q ls)).G := congrArg TD.G h5
    have e2 : k1 = (putsD ⟨G, H, e, n⟩ (lnP q ls)).H := congrArg TD.H h5
    have e3 : n' = (putsD ⟨G, H, e, n⟩ (lnP q ls)).n := congrArg TD.n h5
    rw [e1, e2, e3, ee]
    rfl
theorem add_upd (G : List (Sp × List Rw)) (H : List (Sp × List Int)) (e n p r : Int) (ls : List Ln) (h : LOk ⟨G, H, e, n⟩ p ls ∧ -1 ≤ e) : UpdC Try.prog 13 [.ptr 9000 0, .agg [.int .i64 p, .int .i64 r, .list .tmp LnT ls]] [(9000, .box [.oref 9001, .oref 9002, .int .i64 e, .int .i64 n]), (9001, .opq .grw (G, none)), (9002, .opq .gpe (H, none))] (.int .i64 (addR ⟨G, H, e, n⟩ (p, r, ls)).2) [(9001, .opq .grw ((addR ⟨G, H, e, n⟩ (p, r, ls)).1.G, none)), (9002, .opq .gpe ((addR ⟨G, H, e, n⟩ (p, r, ls)).1.H, none)), (9000, .box [.oref 9001, .oref 9002, .int .i64 (addR ⟨G, H, e, n⟩ (p, r, ls)).1.e, .int .i64 (addR ⟨G, H, e, n⟩ (p, r, ls)).1.n])] :=
  by have k := UpdC.of_cond (g_add_eq G H e n p r ls) (g_add_ok G H e n p r ls h) (specs_ok rfl [sp_tmade] [so_putter.upd, so_put'.upd] rfl rfl) mixed Try.func13; exact k
end Go.Proofs.Yteaajihmfacinaa.Ta
