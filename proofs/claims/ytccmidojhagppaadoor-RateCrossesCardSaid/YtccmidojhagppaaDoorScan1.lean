/-
  The library's functions on texts, as they are called here.
-/
import Derived.Test.YtccmidojhagppaaDoorBig3
import Derived.Test.YtccmidojhagppaaDoorShelf
import Derived.Lib.AppendIntMem
namespace Go.Proofs.YtccmidojhagppaaDoor
open Go.Vm

/-- A function that leaves memory as it is, but for what is above it. -/
theorem pure_calls {P : Program} {f : FuncId} {args : List V} {r : V} (h : ∀ (F : Fr) (w : World) (vs : List Value), Vm.Ground F w → RepL ⟨w, [], fun _ => none, F⟩ args vs →
    Calls P f vs.toArray w fun e w' => ∃ u, e = .returned u ∧ RowKit.Below w.heap.size w w' ∧ ∀ X, Rep X r u) (ho : own [] 60 r = some r) (hi : ids [] 60 r = []) : Pure P f args r := by
  intro F w vs hF hr
  refine (h F w vs hF hr).mono fun e w' ⟨u, he, hb, hru⟩ => ⟨u, he, hb, [], fun _ => none, r, ⟨fun id o h => by simp [Store.get] at h, fun i j o o' b h => by simp [Store.get] at h, fun id o b h => by simp [Store.get] at h, fun b hb' => hF.out b (Nat.le_trans hb.size hb'), fun b hb' => hF.out b hb', ⟨fun e he => by simp [hF.pin] at he, fun e he => ⟨(hb.block _ (hF.lt he)).trans (hF.gnd e he), fun h => absurd (hF.lt he) (Nat.not_lt.2 h)⟩⟩⟩, hru _, ho, by rw [hi]; exact .nil⟩

theorem size_of {s : ByteArray} {l : List UInt8} (h : s.data.toList = l) : s.size = l.length := by rw [← h]; rfl
theorem rep_str {X : Ctx} (l : List UInt8) : Rep X (.str l) (.string ⟨l.toArray⟩) := .str (by simp)



/-! What stays. -/
theorem ground_cell {F : Fr} {w : World} (hF : Vm.Ground F w) {b : Nat} {p : Array Value → Prop} (h : Lies0 F.gnd.1 b p) : ∃ cs t, w.heap[b]? = some (.cells cs t (0, 0)) ∧ p cs := by
  obtain ⟨cs, t, hm, hp⟩ := h
  exact ⟨cs, t, hF.gnd _ hm, hp⟩
theorem cell_zero {w : World} {b : Nat} {cs : Array Value} {t : TypeId} (h : w.heap[b]? = some (.cells cs t (0, 0))) : w.cell? ⟨b, 0, none⟩ = cs[0]? := by
  simp [World.cell?, h]


end Go.Proofs.YtccmidojhagppaaDoor
