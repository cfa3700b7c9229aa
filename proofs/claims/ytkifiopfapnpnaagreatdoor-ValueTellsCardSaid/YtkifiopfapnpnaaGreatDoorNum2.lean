/-
  num.Net, num.Sum.
-/
import Derived.Test.YtkifiopfapnpnaaGreatDoorNum1
namespace Go.Proofs.YtkifiopfapnpnaaGreatDoor
open Go.Vm

/-- Two records of one function. -/
noncomputable def so_each : OSpec Tryz.prog where
  f := 24
  run := fun args σ => match so_eachPlus.run args σ with
    | some x => some x
    | none => so_eachMinus.run args σ
  ok := fun args σ pre r σ' h hp => by
    split at h
    · rename_i x hx
      cases h
      exact so_eachPlus.ok args σ pre r σ' hx hp
    · exact so_eachMinus.ok args σ pre r σ' h hp

def sumW (l m : List Int) : Int × Int := m.foldl subW (l.foldl addW (0, 0))
def netF (l m : List Int) : Int × Int := intF (sumW l m).1 (sumW l m).2
noncomputable def env_net (l m : List Int) : Env where
  P := Tryz.prog
  ty := tys0
  specs := specsOf [sp_pint]
  upd := updsOf [so_each.upd]
noncomputable def g_net (l m : List Int) : Prop := vc (env_net l m) (codeOf Tryz.f13) (start0 Tryz.f13 [.list .tmp I l, .list .tmp I m]) (exitK (tsOf Tryz.f13) [.int .i64, .int .i64] ((netF l m).1, (netF l m).2, ()))
def g_net_vc (l : List Int) (m : List Int) : Prop :=
  (l.length ≤ (1000000000 : Nat) ∧ InW (0 : Int) ∧ InW (0 : Int)) ∧
  (m.length ≤ (1000000000 : Nat) ∧ InW (List.foldl addW ((0 : Int), (0 : Int)) l).fst ∧ InW (List.foldl addW ((0 : Int), (0 : Int)) l).snd) ∧
    True ∧
      ((intF (List.foldl subW ((List.foldl addW ((0 : Int), (0 : Int)) l).fst, (List.foldl addW ((0 : Int), (0 : Int)) l).snd) m).fst
              (List.foldl subW ((List.foldl addW ((0 : Int), (0 : Int)) l).fst, (List.foldl addW ((0 : Int), (0 : Int)) l).snd) m).snd).fst,
          (intF (List.foldl subW ((List.foldl addW ((0 : Int), (0 : Int)) l).fst, (List.foldl addW ((0 : Int), (0 : Int)) l).snd) m).fst
              (List.foldl subW ((List.foldl addW ((0 : Int), (0 : Int)) l).fst, (List.foldl addW ((0 : Int), (0 : Int)) l).snd) m).snd).snd,
          ()) =
        ((netF l m).fst, (netF l m).snd, ())

theorem g_net_eq (l m : List Int) : g_net l m = g_net_vc l m := by kernel_rfl
theorem addW_w {l : List Int} : ∀ {s : Int × Int}, InW s.1 ∧ InW s.2 → InW (l.foldl addW s).1 ∧ InW (l.foldl addW s).2 := by
  induction l with
  | nil => exact fun h => h
  | cons a r ih => exact fun _ => ih ⟨mod_w _, mod_w _⟩
theorem g_net_ok (l m : List Int) (h : l.length ≤ 1000000000 ∧ m.length ≤ 1000000000) : g_net_vc l m := by
  have h0 : InW 0 := ⟨by decide, by decide⟩
  have h1 := addW_w (l := l) (s := (0, 0)) ⟨h0, h0⟩
  exact ⟨⟨h.1, h0, h0⟩, ⟨h.2, h1.1, h1.2⟩, trivial, rfl⟩
set_option maxRecDepth 20000 in
theorem net_pure (l m : List Int) (h : l.length ≤ 1000000000 ∧ m.length ≤ 1000000000) : Pure Tryz.prog 13 [.list .tmp I l, .list .tmp I m] (.tuple [.int .i64 (netF l m).1, .int .i64 (netF l m).2]) :=
  Pure.of_g (E := env_net l m) (ts := tsOf Tryz.f13) (ps := [.int .i64, .int .i64]) (r := ((netF l m).1, (netF l m).2, ())) (fn := Tryz.f13) (c := codeOf Tryz.f13) (specs_ok (P := Tryz.prog) rfl [sp_pint] [so_each.upd] rfl rfl) mixed Tryz.func13 rfl rfl (g := g_net l m) (by delta g_net start0; first | with_reducible exact Eq.refl _ | exact Eq.refl _) (by rw [g_net_eq l m]; exact g_net_ok l m h)
def q_net (l m : List Int) : Prop × V := (l.length ≤ 1000000000 ∧ m.length ≤ 1000000000, (.tuple [.int .i64 (netF l m).1, .int .i64 (netF l m).2]))
noncomputable def sp_net : FSpec Tryz.prog where
  f := 13
  run := fun args => match args with
    | [v0, v1] => (match (asL I v0 : Option (List Int)) with | some l => (match (asL I v1 : Option (List Int)) with | some m => some (q_net l m) | none => none) | none => none)
    | _ => none
  ok := fun args pre r h hp => by
    try dsimp only at h
    split at h
    · rename_i v0 v1
      cases h0 : (asL I v0 : Option (List Int)) with
      | none => rw [h0] at h; cases h
      | some l =>
      rw [h0] at h
      try dsimp only at h
      cases h1 : (asL I v1 : Option (List Int)) with
      | none => rw [h1] at h; cases h
      | some m =>
      rw [h1] at h
      try dsimp only at h
      have h := Option.some.inj h
      unfold q_net at h
      cases h
      exact (net_pure l m hp).weak (.cons (asL_weak h0) (.cons (asL_weak h1) .nil))
    · cases h

end Go.Proofs.YtkifiopfapnpnaaGreatDoor
