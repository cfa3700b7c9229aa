/-
  strings.Builder: what is written, and the string of it.
-/
import Derived.Test.YtemgelifnjefoaaGreatDoorBuild1
namespace Go.Proofs.YtemgelifnjefoaaGreatDoor
open Go.Vm

/-- Bytes as data. -/
abbrev byD (l : List UInt8) : List Int := l.map fun b => (b.toNat : Int)
theorem byD_app (l m : List UInt8) : byD (l ++ m) = byD l ++ byD m := List.map_append
theorem byD_len (l : List UInt8) : (byD l).length = l.length := List.length_map _
theorem byD_in (l : List UInt8) : ∀ z : Int, z ∈ byD l → 0 ≤ z ∧ z ≤ 255 := fun z hz => by
  obtain ⟨b, _, rfl⟩ := List.mem_map.1 hz
  have := b.toNat_lt
  omega
theorem strOf_byD (l : List UInt8) : strOf (byD l) = l := by
  unfold strOf byD
  rw [List.map_map]
  have : ((fun z : Int => z.toNat.toUInt8) ∘ fun b : UInt8 => (b.toNat : Int)) = id := by
    funext b
    simp
  rw [this, List.map_id]

/-- One of two. -/
noncomputable def _root_.Go.Vm.OSpec.or {P : Program} (a b : OSpec P) (h : b.f = a.f) : OSpec P where
  f := a.f
  run := fun args σ => match a.run args σ with
    | some x => some x
    | none => b.run args σ
  ok := fun args σ pre r σ' he hp => by
    split at he
    · rename_i x hx
      cases he
      exact a.ok _ _ _ _ _ hx hp
    · rw [← h]
      exact b.ok _ _ _ _ _ he hp

noncomputable def env_write0 (s : List UInt8) : Env where
  P := Tryz.prog
  ty := tys0
  upd := updsOf [so_cc.upd]
  pins := [9000]
abbrev ann_write0 : Ann := { slots := numP 0 [.int .i64, .any], boxes := [(9000, [.own 9000 45, .slc 9001 B8])], inv := fun _ _ => True }
noncomputable def g_write0 (s : List UInt8) : Prop := vc (env_write0 s) (codeOf Tryz.f15) ⟨(start0 Tryz.f15 [.ptr 9000 0, .str s]).s, [(9000, .box [.own 9000 45, .nils])]⟩ (exitG (env_write0 s).P Tryz.f15.results.toList [none, none] (env_write0 s).pins ann_write0 ((s.length : Int), (), (), byD s, ()))
def g_write0_vc (s : List UInt8) : Prop :=
  True ∧ ((List.map (fun b => (↑b.toNat : Int)) s).length * (1 : Nat) ≤ (140737488355328 : Nat) ∧ (List.map (fun b => (↑b.toNat : Int)) s).length ≤ (4611686018427387904 : Nat)) ∧ True ∧ ((↑s.length : Int), (), (), List.map (fun b => (↑b.toNat : Int)) s, ()) = ((↑s.length : Int), (), (), byD s, ())
theorem g_write0_eq (s : List UInt8) : g_write0 s = g_write0_vc s := by kernel_rfl
theorem g_write0_ok (s : List UInt8) (h : s.length ≤ 100000000) : g_write0_vc s := by
  unfold g_write0_vc
  have e := byD_len s
  unfold byD at e
  exact ⟨trivial, ⟨by omega, by omega⟩, trivial, rfl⟩
set_option maxRecDepth 20000 in
theorem write0_upd (s : List UInt8) (h : s.length ≤ 100000000) : UpdC Tryz.prog 15 [.ptr 9000 0, .str s] [(9000, .box [.own 9000 45, .nils])] (.tuple [.int .i64 s.length, .any]) [(9001, .arr 0 B8 (byD s)), (9000, .box [.own 9000 45, .slc 9001 0 none])] :=
  UpdC.of_vcG (E := env_write0 s) (sh := [none, none]) (ann := ann_write0) (x := ((s.length : Int), (), (), byD s, ())) (fn := Tryz.f15) (c := codeOf Tryz.f15) (specs_ok (P := Tryz.prog) rfl [] [so_cc.upd] rfl rfl) mixed Tryz.func15 rfl rfl rfl rfl (by
    have := g_write0_ok s h
    rw [← g_write0_eq] at this
    exact this)
noncomputable def q_write0 (s : List UInt8) : Prop × V × Store := (s.length ≤ 100000000, .tuple [.int .i64 s.length, .any], [(9001, .arr 0 B8 (byD s)), (9000, .box [.own 9000 45, .slc 9001 0 none])])
noncomputable def so_write0 : OSpec Tryz.prog where
  f := 15
  run := fun args σ => match args, σ with
    | [.ptr 9000 0, .str s], [(9000, .box [.own 9000 45, .nils])] => some (q_write0 s)
    | _, _ => none
  ok := fun args σ pre r σ' h hp => by
    try dsimp only at h
    split at h
    · rename_i s
      have h := Option.some.inj h
      unfold q_write0 at h
      cases h
      exact (write0_upd s hp).weak (.cons (Weak.refl _) (.cons (Weak.refl _) .nil))
    · cases h

noncomputable def env_write1 (s : List UInt8) (d : List Int) : Env where
  P := Tryz.prog
  ty := tys0
  upd := updsOf [so_cc.upd]
  pins := [9000]
abbrev ann_write1 : Ann := { slots := numP 0 [.int .i64, .any], boxes := [(9000, [.own 9000 45, .slc 9001 B8])], inv := fun _ _ => True }
noncomputable def g_write1 (s : List UInt8) (d : List Int) : Prop := vc (env_write1 s d) (codeOf Tryz.f15) ⟨(start0 Tryz.f15 [.ptr 9000 0, .str s]).s, [(9000, .box [.own 9000 45, .slc 9001 0 none]), (9001, .arr 0 (.int .u8) d)]⟩ (exitG (env_write1 s d).P Tryz.f15.results.toList [none, none] (env_write1 s d).pins ann_write1 ((s.length : Int), (), (), d ++ byD s, ()))
def g_write1_vc (s : List UInt8) (d : List Int) : Prop :=
  True ∧ ((d.length + (List.map (fun b => (↑b.toNat : Int)) s).length) * (1 : Nat) ≤ (140737488355328 : Nat) ∧ d.length + (List.map (fun b => (↑b.toNat : Int)) s).length ≤ (4611686018427387904 : Nat)) ∧ True ∧ ((↑s.length : Int), (), (), d ++ List.map (fun b => (↑b.toNat : Int)) s, ()) = ((↑s.length : Int), (), (), d ++ byD s, ())
theorem g_write1_eq (s : List UInt8) (d : List Int) : g_write1 s d = g_write1_vc s d := by kernel_rfl
theorem g_write1_ok (s : List UInt8) (d : List Int) (h : s.length + d.length ≤ 100000000) : g_write1_vc s d := by
  unfold g_write1_vc
  have e := byD_len s
  unfold byD at e
  exact ⟨trivial, ⟨by omega, by omega⟩, trivial, rfl⟩
set_option maxRecDepth 20000 in
theorem write1_upd (s : List UInt8) (d : List Int) (h : s.length + d.length ≤ 100000000) : UpdC Tryz.prog 15 [.ptr 9000 0, .str s] [(9000, .box [.own 9000 45, .slc 9001 0 none]), (9001, .arr 0 (.int .u8) d)] (.tuple [.int .i64 s.length, .any]) [(9001, .arr 0 B8 (d ++ byD s)), (9000, .box [.own 9000 45, .slc 9001 0 none])] :=
  UpdC.of_vcG (E := env_write1 s d) (sh := [none, none]) (ann := ann_write1) (x := ((s.length : Int), (), (), d ++ byD s, ())) (fn := Tryz.f15) (c := codeOf Tryz.f15) (specs_ok (P := Tryz.prog) rfl [] [so_cc.upd] rfl rfl) mixed Tryz.func15 rfl rfl rfl rfl (by
    have := g_write1_ok s d h
    rw [← g_write1_eq] at this
    exact this)
noncomputable def q_write1 (s : List UInt8) (d : List Int) : Prop × V × Store := (s.length + d.length ≤ 100000000, .tuple [.int .i64 s.length, .any], [(9001, .arr 0 B8 (d ++ byD s)), (9000, .box [.own 9000 45, .slc 9001 0 none])])
noncomputable def so_write1 : OSpec Tryz.prog where
  f := 15
  run := fun args σ => match args, σ with
    | [.ptr 9000 0, .str s], [(9000, .box [.own 9000 45, .slc 9001 0 none]), (9001, .arr 0 (.int .u8) d)] => some (q_write1 s d)
    | _, _ => none
  ok := fun args σ pre r σ' h hp => by
    try dsimp only at h
    split at h
    · rename_i s d
      have h := Option.some.inj h
      unfold q_write1 at h
      cases h
      exact (write1_upd s d hp).weak (.cons (Weak.refl _) (.cons (Weak.refl _) .nil))
    · cases h
noncomputable def so_write : OSpec Tryz.prog := so_write0.or so_write1 rfl

noncomputable def env_bstr (d : List Int) : Env where
  P := Tryz.prog
  ty := tys0
  pins := [9000]
abbrev ann_bstr : Ann := { slots := numP 0 [.str], boxes := [(9000, [.own 9000 45, .any])], inv := fun _ _ => True }
noncomputable def g_bstr (d : List Int) : Prop := vc (env_bstr d) (codeOf Tryz.f18) ⟨(start0 Tryz.f18 [.ptr 9000 0]).s, [(9000, .box [.own 9000 45, .slc 9001 0 none]), (9001, .arr 0 (.int .u8) d)]⟩ (exitG (env_bstr d).P Tryz.f18.results.toList [none] (env_bstr d).pins ann_bstr (strOf d, (), (), ()))
def g_bstr_vc (d : List Int) : Prop :=
  (0 : Nat) < d.length ∧ ((↑d.length : Int) = (↑d.length : Int) ∧ (0 : Nat) < d.length ∧ ∀ (z : Int), z ∈ d → (0 : Int) ≤ z ∧ z ≤ (255 : Int)) ∧ True ∧ (List.map (fun z => z.toNat.toUInt8) d, (), (), ()) = (List.map (fun z => z.toNat.toUInt8) d, (), (), ())
theorem g_bstr_eq (d : List Int) : g_bstr d = g_bstr_vc d := by kernel_rfl
theorem g_bstr_ok (d : List Int) (h : 0 < d.length ∧ ∀ z : Int, z ∈ d → 0 ≤ z ∧ z ≤ 255) : g_bstr_vc d := by
  unfold g_bstr_vc
  exact ⟨h.1, ⟨rfl, h.1, h.2⟩, trivial, rfl⟩
set_option maxRecDepth 20000 in
theorem bstr_upd (d : List Int) (h : 0 < d.length ∧ ∀ z : Int, z ∈ d → 0 ≤ z ∧ z ≤ 255) : UpdC Tryz.prog 18 [.ptr 9000 0] [(9000, .box [.own 9000 45, .slc 9001 0 none]), (9001, .arr 0 (.int .u8) d)] (.str (strOf d)) [(9000, .box [.own 9000 45, .any])] :=
  UpdC.of_vcG (E := env_bstr d) (sh := [none]) (ann := ann_bstr) (x := (strOf d, (), (), ())) (fn := Tryz.f18) (c := codeOf Tryz.f18) (specs_ok (P := Tryz.prog) rfl [] [] rfl rfl) mixed Tryz.func18 rfl rfl rfl rfl (by
    have := g_bstr_ok d h
    rw [← g_bstr_eq] at this
    exact this)
noncomputable def q_bstr (d : List Int) : Prop × V × Store := (0 < d.length ∧ ∀ z : Int, z ∈ d → 0 ≤ z ∧ z ≤ 255, .str (strOf d), [(9000, .box [.own 9000 45, .any])])
noncomputable def so_bstr : OSpec Tryz.prog where
  f := 18
  run := fun args σ => match args, σ with
    | [.ptr 9000 0], [(9000, .box [.own 9000 45, .slc 9001 0 none]), (9001, .arr 0 (.int .u8) d)] => some (q_bstr d)
    | _, _ => none
  ok := fun args σ pre r σ' h hp => by
    try dsimp only at h
    split at h
    · rename_i d
      have h := Option.some.inj h
      unfold q_bstr at h
      cases h
      exact (bstr_upd d hp).weak (.cons (Weak.refl _) .nil)
    · cases h

end Go.Proofs.YtemgelifnjefoaaGreatDoor
