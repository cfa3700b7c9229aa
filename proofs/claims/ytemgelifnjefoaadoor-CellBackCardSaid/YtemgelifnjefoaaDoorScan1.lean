/-
  The library's functions on texts, as they are called here.
-/
import Derived.Test.YtemgelifnjefoaaDoorBig3
import Derived.Test.YtemgelifnjefoaaDoorShelf
import Derived.Lib.AppendIntMem
namespace Go.Proofs.YtemgelifnjefoaaDoor
open Go.Vm

/-- A function that leaves memory as it is, but for what is above it. -/
theorem pure_calls {P : Program} {f : FuncId} {args : List V} {r : V} (h : ∀ (F : Fr) (w : World) (vs : List Value), Vm.Ground F w → RepL ⟨w, [], fun _ => none, F⟩ args vs →
    Calls P f vs.toArray w fun e w' => ∃ u, e = .returned u ∧ RowKit.Below w.heap.size w w' ∧ ∀ X, Rep X r u) (ho : own [] 60 r = some r) (hi : ids [] 60 r = []) : Pure P f args r := by
  intro F w vs hF hr
  refine (h F w vs hF hr).mono fun e w' ⟨u, he, hb, hru⟩ => ⟨u, he, hb, [], fun _ => none, r, ⟨fun id o h => by simp [Store.get] at h, fun i j o o' b h => by simp [Store.get] at h, fun id o b h => by simp [Store.get] at h, fun b hb' => hF.out b (Nat.le_trans hb.size hb'), fun b hb' => hF.out b hb', ⟨fun e he => by simp [hF.pin] at he, fun e he => ⟨(hb.block _ (hF.lt he)).trans (hF.gnd e he), fun h => absurd (hF.lt he) (Nat.not_lt.2 h)⟩⟩⟩, hru _, ho, by rw [hi]; exact .nil⟩

theorem size_of {s : ByteArray} {l : List UInt8} (h : s.data.toList = l) : s.size = l.length := by rw [← h]; rfl
theorem rep_str {X : Ctx} (l : List UInt8) : Rep X (.str l) (.string ⟨l.toArray⟩) := .str (by simp)

theorem hasPrefix_pure (s p : List UInt8) : Pure Tryd.prog 55 [.str s, .str p] (.bool (Lib.hasPrefix s p)) := by
  refine pure_calls (fun F w vs hF hr => ?_) rfl rfl
  obtain ⟨u1, r1, rfl, a1, hr⟩ := hr.cons_inv
  obtain ⟨u2, r2, rfl, a2, hr⟩ := hr.cons_inv
  rw [hr.nil_inv]
  obtain ⟨s1, rfl, h1⟩ := a1.str_inv
  obtain ⟨s2, rfl, h2⟩ := a2.str_inv
  refine (Tryd.strings_HasPrefix s1 s2 w).mono fun e w' ⟨he, hw⟩ => ⟨_, he, by rw [hw]; exact .refl _ _, fun X => ?_⟩
  rw [h1, h2]
  exact .bool
noncomputable def sp_hasPrefix : FSpec Tryd.prog where
  f := 55
  run := fun args => match args with
    | [.str s, .str p] => some (True, .bool (Lib.hasPrefix s p))
    | _ => none
  ok := fun args pre r h _ => by
    split at h
    · cases h
      exact hasPrefix_pure _ _
    · cases h

theorem cutPrefix_pure (s p : List UInt8) : Pure Tryd.prog 56 [.str s, .str p] (.tuple [.str (Lib.trimPrefix s p), .bool (Lib.hasPrefix s p)]) := by
  refine pure_calls (fun F w vs hF hr => ?_) rfl rfl
  obtain ⟨u1, r1, rfl, a1, hr⟩ := hr.cons_inv
  obtain ⟨u2, r2, rfl, a2, hr⟩ := hr.cons_inv
  rw [hr.nil_inv]
  obtain ⟨s1, rfl, h1⟩ := a1.str_inv
  obtain ⟨s2, rfl, h2⟩ := a2.str_inv
  refine (Tryd.strings_CutPrefix s1 s2 w).mono fun e w' ⟨he, hw⟩ => ⟨_, he, by rw [hw]; exact .refl _ _, fun X => ?_⟩
  rw [h1, h2]
  exact RepL.tuple2 (.cons (rep_str _) (.cons .bool .nil))
noncomputable def sp_cutPrefix : FSpec Tryd.prog where
  f := 56
  run := fun args => match args with
    | [.str s, .str p] => some (True, .tuple [.str (Lib.trimPrefix s p), .bool (Lib.hasPrefix s p)])
    | _ => none
  ok := fun args pre r h _ => by
    split at h
    · cases h
      exact cutPrefix_pure _ _
    · cases h

/-! What stays. -/
theorem ground_cell {F : Fr} {w : World} (hF : Vm.Ground F w) {b : Nat} {p : Array Value → Prop} (h : Lies0 F.gnd.1 b p) : ∃ cs t, w.heap[b]? = some (.cells cs t (0, 0)) ∧ p cs := by
  obtain ⟨cs, t, hm, hp⟩ := h
  exact ⟨cs, t, hF.gnd _ hm, hp⟩
theorem cell_zero {w : World} {b : Nat} {cs : Array Value} {t : TypeId} (h : w.heap[b]? = some (.cells cs t (0, 0))) : w.cell? ⟨b, 0, none⟩ = cs[0]? := by
  simp [World.cell?, h]
theorem ground_tab {F : Fr} {w : World} (hF : Vm.Ground F w) : Lib.TabIs Tryd.prog w "internal/strconv.uint64pow10" .u64 Lib.pow10Tab := by
  obtain ⟨cs, t, h, hp⟩ := ground_cell hF F.gnd.2.2.2
  have hg : Tryd.prog.globalNamed "internal/strconv.uint64pow10" = some 0 := by kernel_rfl
  unfold Lib.TabIs World.var?
  rw [hg]
  simp only [Option.bind_some, h, hp]
theorem ground_err0 {F : Fr} {w : World} (hF : Vm.Ground F w) : ∃ t v, w.cell? ⟨1, 0, none⟩ = some (.iface t v) := by
  obtain ⟨cs, t, h, te, v, hp⟩ := ground_cell hF F.gnd.2.1
  exact ⟨te, v, by rw [cell_zero h, hp]⟩
theorem ground_err1 {F : Fr} {w : World} (hF : Vm.Ground F w) : ∃ t v, w.cell? ⟨2, 0, none⟩ = some (.iface t v) := by
  obtain ⟨cs, t, h, te, v, hp⟩ := ground_cell hF F.gnd.2.2.1
  exact ⟨te, v, by rw [cell_zero h, hp]⟩

theorem itoa_pure (n : Int) (h : InI n) : Pure Tryd.prog 38 [.int .i64 n] (.str (Lib.itoa n)) := by
  refine pure_calls (fun F w vs hF hr => ?_) rfl rfl
  obtain ⟨u1, r1, rfl, a1, hr⟩ := hr.cons_inv
  rw [hr.nil_inv, a1.int_inv]
  refine (Tryd.strconv_Itoa n h.1 h.2 w (ground_tab hF)).mono fun e w' ⟨he, k, os, hw⟩ => ⟨_, he, by rw [hw]; exact Lib.below_grow _ w (Nat.le_refl _) k os, fun X => rep_str _⟩
noncomputable def sp_itoa : FSpec Tryd.prog where
  f := 38
  run := fun args => match args with
    | [.int .i64 n] => some (InI n, .str (Lib.itoa n))
    | _ => none
  ok := fun args pre r h hp => by
    split at h
    · cases h
      exact itoa_pure _ hp
    · cases h

def atoiV (s : List UInt8) : Int := match Lib.atoiAll s with
  | .ok v => v
  | .range => Lib.atoiSat s
  | _ => 0
def atoiE (s : List UInt8) : Bool := match Lib.atoiAll s with
  | .ok _ => false
  | _ => true
theorem below_bytes (w : World) (e : TypeId) (s : ByteArray) : RowKit.Below w.heap.size w (Lib.bytesWorld w e s) :=
  ⟨rfl, rfl, rfl, by rw [Lib.bytesWorld_size]; omega, fun k hk => Lib.bytesWorld_at_old w e s k hk⟩
theorem atoi_pure (s : List UInt8) (h : s.length ≤ 281474976710656) : Pure Tryd.prog 58 [.str s] (.tuple [.int .i64 (atoiV s), .err (atoiE s)]) := by
  refine pure_calls (fun F w vs hF hr => ?_) rfl rfl
  obtain ⟨u1, r1, rfl, a1, hr⟩ := hr.cons_inv
  rw [hr.nil_inv]
  obtain ⟨s1, rfl, h1⟩ := a1.str_inv
  have hs := size_of h1
  unfold atoiV atoiE
  rw [← h1]
  cases hc : Lib.atoiAll s1.data.toList with
  | ok v =>
    refine (Tryd.strconv_Atoi_ok s1 (by omega) v hc w).mono fun e w' ⟨he, hw⟩ => ⟨_, he, ?_, fun X => RepL.tuple2 (.cons .int (.cons .errN .nil))⟩
    rcases hw with rfl | ⟨t, rfl⟩
    · exact .refl _ _
    · exact below_bytes w 5 t
  | range =>
    obtain ⟨te, v, hv⟩ := ground_err1 hF
    exact (Tryd.strconv_Atoi_range s1 (by omega) hc _ w hv (.inr ⟨te, v, rfl⟩)).mono fun e w' ⟨N, he, _, _, hb⟩ => ⟨_, he, hb, fun X => RepL.tuple2 (.cons .int (.cons .errS .nil))⟩
  | _ =>
    obtain ⟨te, v, hv⟩ := ground_err0 hF
    exact (Tryd.strconv_Atoi_none s1 (by omega) ⟨fun v k => (by rw [hc] at k; cases k), fun k => (by rw [hc] at k; cases k)⟩ _ w hv (.inr ⟨te, v, rfl⟩)).mono fun e w' ⟨N, he, _, _, hb⟩ => ⟨_, he, hb, fun X => RepL.tuple2 (.cons .int (.cons .errS .nil))⟩
noncomputable def sp_atoi : FSpec Tryd.prog where
  f := 58
  run := fun args => match args with
    | [.str s] => some (s.length ≤ 281474976710656, .tuple [.int .i64 (atoiV s), .err (atoiE s)])
    | _ => none
  ok := fun args pre r h hp => by
    split at h
    · cases h
      exact atoi_pure _ hp
    · cases h

end Go.Proofs.YtemgelifnjefoaaDoor
