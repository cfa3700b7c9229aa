/-
  num.Net, num.Sum.
-/
import Derived.Test.YteaajihmfacinaaNum1
namespace Go.Proofs.Yteaajihmfacinaa
open Go.Vm
noncomputable def so_each : OSpec Try.prog where
  f := 63
  run := fun args σ => match so_eachPlus.run args σ with
    | some x => some x
    | none => so_eachMinus.run args σ
  ok := fun args σ pre r σ' h hp => by
    split at h
    · rename_i x hx
      cases h
      exact so_eachPlus.ok args σ pre r σ' hx hp
    · exact so_eachMinus.ok args σ pre r σ' h hp
def sumW (l m : List Int) : Int × Int := m.foldl subW (l.foldl addW (0, 0))
def netF (l m : List Int) : Int × Int := intF (sumW l m).1 (sumW l m).2
noncomputable def env_net (l m : List Int) : Env where
  P := Try.prog
  ty := tys0
  specs := specsOf [sp_pint]
  upd := updsOf [so_each.upd]
def g_net_vc (l : List Int) (m : List Int) : Prop :=
  (l.length ≤ (1000000000 : Nat) ∧ InW (0 : Int) ∧ InW (0 : Int)) ∧ (m.length ≤ (1000000000 : Nat) ∧ InW (List.foldl addW ((0 : Int), (0 : Int)) l).1 ∧ InW (List.foldl addW ((0 : Int), (0 : Int)) l).2) ∧ True ∧ ((intF (List.foldl subW ((List.foldl addW ((0 : Int), (0 : Int)) l).1, (List.foldl addW ((0 : Int), (0 : Int)) l).2) m).1 (List.foldl subW ((List.foldl addW ((0 : Int), (0 : Int)) l).1, (List.foldl addW ((0 : Int), (0 : Int)) l).2) m).2).1, (intF (List.foldl subW ((List.foldl addW ((0 : Int), (0 : Int)) l).1, (List.foldl addW ((0 : Int), (0 : Int)) l).2) m).1 (List.foldl subW ((List.foldl addW ((0 : Int), (0 : Int)) l).1, (List.foldl addW ((0 : Int), (0 : Int)) l).2) m).2).2, ()) = ((netF l m).1, (netF l m).2, ())
theorem g_net_eq (l m : List Int) : Cond (env_net l m) Try.f55 [.list .tmp I l, .list .tmp I m] [.int .i64, .int .i64] ((netF l m).1, (netF l m).2, ()) = g_net_vc l m := by kernel_rfl
theorem addW_w {l : List Int} : ∀ {s : Int × Int}, InW s.1 ∧ InW s.2 → InW (l.foldl addW s).1 ∧ InW (l.foldl addW s).2 := by
  induction l with
  | nil => exact fun h => h
  | cons a r ih => exact fun _ => ih ⟨mod_w _, mod_w _⟩
theorem g_net_ok (l m : List Int) (h : l.length ≤ 1000000000 ∧ m.length ≤ 1000000000) : g_net_vc l m := by
  have h0 : InW 0 := ⟨by decide, by decide⟩
  have h1 := addW_w (l := l) (s := (0, 0)) ⟨h0, h0⟩
  exact ⟨⟨h.1, h0, h0⟩, ⟨h.2, h1.1, h1.2⟩, trivial, rfl⟩
set_option maxRecDepth 20000
theorem net_pure (l m : List Int) (h : l.length ≤ 1000000000 ∧ m.length ≤ 1000000000) : Pure Try.prog 55 [.list .tmp I l, .list .tmp I m] (.tuple [.int .i64 (netF l m).1, .int .i64 (netF l m).2]) :=
  by have k := Pure.of_cond (g_net_eq l m) (g_net_ok l m h) (specs_ok rfl [sp_pint] [so_each.upd] rfl rfl) mixed Try.func55; exact k
noncomputable def q_net (l m : List Int) : Prop × V := (l.length ≤ 1000000000 ∧ m.length ≤ 1000000000, (.tuple [.int .i64 (netF l m).1, .int .i64 (netF l m).2]))
noncomputable def sp_net : FSpec Try.prog where
 f := 55
 run := fun
  | [v0, v1] => (asL I v0 : Option (List Int)).bind fun l => (asL I v1 : Option (List Int)).bind fun m => some (q_net l m)
  | _ => none
 ok := fun args pre r h hp => by
  split at h
  · rename_i v0 v1
    obtain ⟨l, h0, h⟩ := Option.bind_eq_some_iff.1 h
    obtain ⟨m, h1, h⟩ := Option.bind_eq_some_iff.1 h
    exact of_q h hp fun h => (net_pure l m h).weak (.cons (asL_weak h0) (.cons (asL_weak h1) .nil))
  · cases h
end Go.Proofs.Yteaajihmfacinaa
