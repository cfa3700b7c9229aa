/-
  The engine, part 22: slices.Sort and slices.Compact at []int, as calls that turn an array of the store.
-/
import Derived.Test.YtdplodofdfkndaaDoorVm21
import Derived.Sort.Grow
import Derived.Lib.SlicesCompact
namespace Go.Vm
open Go.Sort Go.RowKit

/-- In rising order. -/
def sortF (l : List Int) : List Int := l.mergeSort fun x y => decide (x ≤ y)

/-- What the library's sort says of itself. -/
structure SortsInts (P : Program) (f : FuncId) : Prop where
  some : ∀ (blk off cap : Nat) (zs : List Int) (w : World), Holds (Value.int .i64) w blk off zs.toArray → blk < w.heap.size → zs.length < 4611686018427387904 →
    Calls P f #[.slice (some ⟨blk, off, none⟩) zs.length cap] w fun e w' => e = .returned (.tuple #[]) ∧ ∃ n os, w' = grow (putRow (Value.int .i64) (Sort.ahead w n) blk off (sortF zs).toArray) os
  none : ∀ (p : Option Addr) (cap : Nat) (w : World), Calls P f #[.slice p 0 cap] w fun e w' => e = .returned (.tuple #[]) ∧ w' = w

structure CompactsInts (P : Program) (f : FuncId) : Prop where
  some : ∀ (blk off cap : Nat) (zs : List Int) (w : World), Holds (Value.int .i64) w blk off zs.toArray → zs.length ≤ 9223372036854775807 → zs.length ≤ cap →
    Calls P f #[.slice (some ⟨blk, off, none⟩) zs.length cap] w fun e w' => e = .returned (.slice (some ⟨blk, off, none⟩) (Lib.compact zs).length cap) ∧
      ∃ q, w' = putRow (Value.int .i64) (Sort.ahead w q) blk off (Lib.compact zs ++ List.replicate (zs.length - (Lib.compact zs).length) 0).toArray
  none : ∀ (a : Option Addr) (cap : Nat) (w : World), Calls P f #[.slice a 0 cap] w fun e w' => e = .returned (.slice a 0 cap) ∧ w' = w

theorem compact_len (zs : List Int) : (Lib.compact zs).length ≤ zs.length := by
  unfold Lib.compact Lib.compactUpTo
  rw [List.length_map]
  have := List.length_filter_le (Lib.keeps zs.toArray) (List.range zs.length)
  simpa using this

/-- An array's row of numbers. -/
theorem arr_holds {w : World} {b base : Nat} {cs : Array Value} {ty : TypeId} {l : List Int} {G : Nat → Prop} (hb : w.heap[b]? = some (.cells cs ty (0, 0)))
    (hr : ∀ (i : Nat) (x : Int), l[i]? = some x → ∃ row, RepC w G (.int .i64) x row ∧ ∀ (j : Nat) (u : Value), row[j]? = some u → cs[base + i * Ty.cells (.int .i64) + j]? = some u) : Holds (Value.int .i64) w b base l.toArray := by
  intro j hj
  have hj2 : j < l.length := by simpa using hj
  obtain ⟨row, h1, h2⟩ := hr j l[j] (List.getElem?_eq_getElem hj2)
  simp only [RepC] at h1
  subst h1
  have h3 := h2 0 _ rfl
  simp only [Ty.cells, Nat.mul_one, Nat.add_zero] at h3
  obtain ⟨h4, h5⟩ := Array.getElem?_eq_some_iff.1 h3
  constructor
  · unfold World.cell?
    simp only [hb]
    simp [h4, h5, hj2]
  · unfold World.frozen?
    simp only [hb]
    simp [h4]

theorem putCells_get {cs : Array Value} {off : Nat} {d : List Int} {k : Nat} (hk : off + d.length ≤ cs.size) {x : Int} (hx : d[k]? = some x) : (putCells (Value.int .i64) off d.toArray cs)[off + k]? = some (.int .i64 x) := by
  obtain ⟨h1, h2⟩ := List.getElem?_eq_some_iff.1 hx
  have h3 : off + k < cs.size := by omega
  unfold putCells
  rw [Array.getElem?_mapIdx, Array.getElem?_eq_getElem h3]
  simp [h1, h2]

/-- The array's row is another one. -/
theorem put_row {B : Nat → Prop} {F : Fr} {w : World} {σ : Store} {μ : Mu} (hI : Inv B ⟨w, σ, μ, F⟩) (hB : ∀ b, w.heap.size ≤ b → B b) {id ep : Nat} {l zs : List Int} (hg : σ.get id = some (.arr ep (.int .i64) l))
    {b base C : Nat} {cs : Array Value} {ty : TypeId} (hm : μ id = some (b, base, C)) (hb : w.heap[b]? = some (.cells cs ty (0, 0))) (hcs : base + C * Ty.cells (.int .i64) = cs.size) (hlC : l.length ≤ C) (hC : C ≤ maxLen) (hl : zs.length = l.length)
    (n : Nat) (os : Array Go.Obj) :
    Evo ⟨w, σ, μ, F⟩ ⟨grow (putRow (Value.int .i64) (Sort.ahead w n) b base zs.toArray) os, (id, .arr ep (.int .i64) zs) :: σ, fun i => if i = id then μ id else μ i, F⟩ ∧
      Inv B ⟨grow (putRow (Value.int .i64) (Sort.ahead w n) b base zs.toArray) os, (id, .arr ep (.int .i64) zs) :: σ, fun i => if i = id then μ id else μ i, F⟩ := by
  have hlt : b < w.heap.size := (Array.getElem?_eq_some_iff.1 hb).1
  have hsz : (putRow (Value.int .i64) (Sort.ahead w n) b base zs.toArray).heap.size = w.heap.size := by simp [putRow, mapBlock, Sort.ahead]
  have hold : ∀ k, k < w.heap.size → k ≠ b → (grow (putRow (Value.int .i64) (Sort.ahead w n) b base zs.toArray) os).heap[k]? = w.heap[k]? := by
    intro k hk hne
    rw [heap_grow_old _ _ (by rw [hsz]; exact hk)]
    show (w.heap.modify b _)[k]? = _
    rw [Array.getElem?_modify, if_neg (fun e => hne e.symm)]
  have hnew : (grow (putRow (Value.int .i64) (Sort.ahead w n) b base zs.toArray) os).heap[b]? = some (.cells (putCells (Value.int .i64) base zs.toArray cs) ty (0, 0)) := by
    rw [heap_grow_old _ _ (by rw [hsz]; exact hlt)]
    show (w.heap.modify b _)[b]? = _
    rw [Array.getElem?_modify, if_pos rfl, hb]
    rfl
  refine put_evo (X := ⟨w, σ, μ, F⟩) hI hB (id := id) (o' := .arr ep (.int .i64) zs) (p' := μ id) rfl rfl rfl (by simp [hsz]) (fun k hk hne => hold k hk (fun e => hne _ _ hg hm e.symm)) (fun q hq => .inr ⟨_, _, hg, hm, by
      rw [hm] at hq; cases hq; rfl⟩) (fun c hc => by
      have hc : σ.get id = some (.box c) := hc
      rw [hg] at hc; cases hc) (fun ep0 t l0 hc => ?_) (fun hE => ?_)
  · have hc : σ.get id = some (.arr ep0 t l0) := hc
    rw [hg] at hc
    cases hc
    exact ⟨ep, zs, rfl, Nat.le_refl _, fun _ => ⟨rfl, hl⟩⟩
  · refine .inr ⟨b, base, C, putCells (Value.int .i64) base zs.toArray cs, ty, by simp [hm], hnew, by simp [putCells, hcs], (show zs.length ≤ C by omega), hC, fun i x hx => ⟨[.int .i64 x], rfl, fun j u hu => ?_⟩⟩
    match j with
    | 0 =>
      simp only [List.getElem?_cons_zero, Option.some.injEq] at hu
      subst hu
      simp only [Ty.cells, Nat.mul_one, Nat.add_zero]
      refine putCells_get ?_ hx
      simp only [Ty.cells, Nat.mul_one] at hcs
      omega
    | j + 1 => simp at hu

theorem sort_upd {P : Program} {f : FuncId} (h : SortsInts P f) {σ : Store} {id ep : Nat} {l : List Int} (hg : σ.get id = some (.arr ep (.int .i64) l)) (hl : l.length ≤ 1000000000) :
    Upd P f [.slc id ep none] σ (.tuple []) ([(id, .arr ep (.int .i64) (sortF l))] ++ σ) := by
  intro B F w μ vs hI hB hr
  obtain ⟨u, us, rfl, h1, h2⟩ := hr.cons_inv
  rw [h2.nil_inv]
  obtain ⟨A, len, cap, ep', t', l', rfl, hg', hle, hcur⟩ := h1.slc_inv
  have hg' : σ.get id = some (.arr ep' t' l') := hg'
  rw [hg] at hg'
  cases hg'
  have hh : Hdr (μ id) (.int .i64) l.length none A len cap := hcur rfl
  rcases Nat.eq_zero_or_pos l.length with h0 | h0
  · have hl0 : l = [] := List.eq_nil_of_length_eq_zero h0
    have hlen : len = 0 := by
      cases hm : μ id with
      | none => rw [hm] at hh; exact hh.1
      | some q => obtain ⟨b, base, C⟩ := q; rw [hm] at hh; rw [hh.1]; exact h0
    subst hlen
    refine (h.none A cap w).mono fun e w' ⟨he, hw⟩ => ⟨_, he, fun i => if i = id then μ id else μ i, ?_⟩
    subst hw
    have hs : sortF l = l := by rw [hl0]; simp [sortF]
    rw [hs]
    have key : Evo ⟨w', σ, μ, F⟩ ⟨w', (id, .arr ep (.int .i64) l) :: σ, fun i => if i = id then μ id else μ i, F⟩ ∧ Inv B ⟨w', (id, .arr ep (.int .i64) l) :: σ, fun i => if i = id then μ id else μ i, F⟩ := by
      refine put_evo (X := ⟨w', σ, μ, F⟩) hI hB (id := id) (o' := .arr ep (.int .i64) l) (p' := μ id) rfl rfl rfl (Nat.le_refl _) (fun _ _ _ => rfl) (fun q hq => .inr ⟨_, _, hg, hq, rfl⟩) (fun c hc => by
        have hc : σ.get id = some (.box c) := hc
        rw [hg] at hc; cases hc) (fun ep0 t l0 hc => ?_) (fun hE => ?_)
      · have hc : σ.get id = some (.arr ep0 t l0) := hc
        rw [hg] at hc
        cases hc
        exact ⟨ep, l, rfl, Nat.le_refl _, fun _ => ⟨rfl, rfl⟩⟩
      · rcases hI.objs id _ hg with k | ⟨b, base, C, cs, ty, k1, k2, k3, k4, k5, k6⟩
        · exact .inl (by simpa using k)
        · refine .inr ⟨b, base, C, cs, ty, by simpa using k1, k2, k3, k4, k5, fun i x hx => ?_⟩
          obtain ⟨row, r1, r2⟩ := k6 i x hx
          exact ⟨row, r1.keep hE.good, r2⟩
    exact ⟨key.2, .tuple rfl (fun j c u hc => by simp at hc), key.1⟩
  · rcases hI.objs id _ hg with ⟨_, k⟩ | ⟨b, base, C, cs, ty, k1, k2, k3, k4, k5, k6⟩
    · have k : l.length = 0 := k
      omega
    · have k1 : μ id = some (b, base, C) := k1
      rw [k1] at hh
      obtain ⟨rfl, rfl, _, a, rfl, ha⟩ := hh
      have hH := arr_holds (w := w) (G := Ctx.G ⟨w, σ, μ, F⟩) (l := l) k2 k6
      have ha2 := ha (by omega)
      subst ha2
      refine (h.some b base cap l w hH (Array.getElem?_eq_some_iff.1 k2).1 (by omega)).mono fun e w' ⟨he, n, os, hw⟩ => ⟨_, he, fun i => if i = id then μ id else μ i, ?_⟩
      subst hw
      obtain ⟨e1, e2⟩ := put_row hI hB hg k1 k2 k3 k4 k5 (zs := sortF l) (by simp [sortF]) n os
      exact ⟨e2, .tuple (vs := #[]) rfl (fun j c u hc => by simp at hc), e1⟩

/-- What Compact leaves in the array. -/
def compactRest (l : List Int) : List Int := Lib.compact l ++ List.replicate (l.length - (Lib.compact l).length) 0

theorem compact_upd {P : Program} {f : FuncId} (h : CompactsInts P f) {σ : Store} {id ep : Nat} {l : List Int} (hg : σ.get id = some (.arr ep (.int .i64) l)) (hl : l.length ≤ 1000000000) :
    Upd P f [.slc id ep none] σ (.slc id ep (some (0, (Lib.compact l).length))) ([(id, .arr ep (.int .i64) (compactRest l))] ++ σ) := by
  intro B F w μ vs hI hB hr
  obtain ⟨u, us, rfl, h1, h2⟩ := hr.cons_inv
  rw [h2.nil_inv]
  obtain ⟨A, len, cap, ep', t', l', rfl, hg', hle, hcur⟩ := h1.slc_inv
  have hg' : σ.get id = some (.arr ep' t' l') := hg'
  rw [hg] at hg'
  cases hg'
  have hh : Hdr (μ id) (.int .i64) l.length none A len cap := hcur rfl
  have hcl := compact_len l
  have hrl : (compactRest l).length = l.length := by rw [compactRest, List.length_append, List.length_replicate]; omega
  rcases Nat.eq_zero_or_pos l.length with h0 | h0
  · have hl0 : l = [] := List.eq_nil_of_length_eq_zero h0
    have hlen : len = 0 := by
      cases hm : μ id with
      | none => rw [hm] at hh; exact hh.1
      | some q => obtain ⟨b, base, C⟩ := q; rw [hm] at hh; rw [hh.1]; exact h0
    subst hlen
    refine (h.none A cap w).mono fun e w' ⟨he, hw⟩ => ⟨_, he, fun i => if i = id then μ id else μ i, ?_⟩
    subst hw
    have hs : compactRest l = l := by rw [hl0]; simp [compactRest, Lib.compact, Lib.compactUpTo]
    have hc0 : (Lib.compact l).length = 0 := by omega
    rw [hs, hc0]
    have key : Evo ⟨w', σ, μ, F⟩ ⟨w', (id, .arr ep (.int .i64) l) :: σ, fun i => if i = id then μ id else μ i, F⟩ ∧ Inv B ⟨w', (id, .arr ep (.int .i64) l) :: σ, fun i => if i = id then μ id else μ i, F⟩ := by
      refine put_evo (X := ⟨w', σ, μ, F⟩) hI hB (id := id) (o' := .arr ep (.int .i64) l) (p' := μ id) rfl rfl rfl (Nat.le_refl _) (fun _ _ _ => rfl) (fun q hq => .inr ⟨_, _, hg, hq, rfl⟩) (fun c hc => by
        have hc : σ.get id = some (.box c) := hc
        rw [hg] at hc; cases hc) (fun ep0 t l0 hc => ?_) (fun hE => ?_)
      · have hc : σ.get id = some (.arr ep0 t l0) := hc
        rw [hg] at hc
        cases hc
        exact ⟨ep, l, rfl, Nat.le_refl _, fun _ => ⟨rfl, rfl⟩⟩
      · rcases hI.objs id _ hg with k | ⟨b, base, C, cs, ty, k1, k2, k3, k4, k5, k6⟩
        · exact .inl (by simpa using k)
        · refine .inr ⟨b, base, C, cs, ty, by simpa using k1, k2, k3, k4, k5, fun i x hx => ?_⟩
          obtain ⟨row, r1, r2⟩ := k6 i x hx
          exact ⟨row, r1.keep hE.good, r2⟩
    refine ⟨key.2, .slc (ep' := ep) (t := .int .i64) (l := l) (by simp [get_cons]) (Nat.le_refl _) (fun _ => ?_), key.1⟩
    simp only [if_true]
    cases hm : μ id with
    | none => rw [hm] at hh; exact ⟨rfl, rfl, rfl, hh.2.1, h0⟩
    | some q =>
      obtain ⟨b, base, C⟩ := q
      rw [hm] at hh
      obtain ⟨_, rfl, hC, a, rfl, ha⟩ := hh
      exact ⟨rfl, by simp, hC, rfl, a, rfl, fun h3 => by rw [ha (by omega)]; simp⟩
  · rcases hI.objs id _ hg with ⟨_, k⟩ | ⟨b, base, C, cs, ty, k1, k2, k3, k4, k5, k6⟩
    · have k : l.length = 0 := k
      omega
    · have k1 : μ id = some (b, base, C) := k1
      rw [k1] at hh
      obtain ⟨rfl, rfl, hC, a, rfl, ha⟩ := hh
      have hH := arr_holds (w := w) (G := Ctx.G ⟨w, σ, μ, F⟩) (l := l) k2 k6
      have ha2 := ha (by omega)
      subst ha2
      refine (h.some b base cap l w hH (by omega) hC).mono fun e w' ⟨he, n, hw⟩ => ⟨_, he, fun i => if i = id then μ id else μ i, ?_⟩
      have hw : w' = grow (putRow (Value.int .i64) (Sort.ahead w n) b base (compactRest l).toArray) #[] := by rw [grow_empty]; exact hw
      subst hw
      obtain ⟨e1, e2⟩ := put_row hI hB hg k1 k2 k3 k4 k5 (zs := compactRest l) hrl n #[]
      refine ⟨e2, .slc (ep' := ep) (t := .int .i64) (l := compactRest l) (by simp [get_cons]) (Nat.le_refl _) (fun _ => ?_), e1⟩
      simp only [if_true, k1]
      exact ⟨rfl, (show 0 + (Lib.compact l).length ≤ (compactRest l).length by omega), (show (compactRest l).length ≤ cap by omega), rfl, _, rfl, fun _ => by simp⟩

/-- slices.Sort of an array of the store. -/
def sortRun : List V → Store → Option (Prop × V × Store)
  | [.slc id ep none], σ => match σ.get id with
    | some (.arr ep' (.int .i64) l) => if ep = ep' then some (List.length l ≤ 1000000000, .tuple [], [(id, .arr ep' (.int .i64) (sortF l))]) else none
    | _ => none
  | _, _ => none

def compactRun : List V → Store → Option (Prop × V × Store)
  | [.slc id ep none], σ => match σ.get id with
    | some (.arr ep' (.int .i64) l) => if ep = ep' then some (List.length l ≤ 1000000000, .slc id ep' (some (0, (Lib.compact (α := Int) l).length)), [(id, .arr ep' (.int .i64) (compactRest l))]) else none
    | _ => none
  | _, _ => none

def sortSpec {P : Program} (f : FuncId) (h : SortsInts P f) : UFSpec P where
  f := f
  run := sortRun
  ok := fun args σ pre r new hr hp => by
    unfold sortRun at hr
    split at hr
    · split at hr
      · rename_i hg
        split at hr
        · rename_i e
          subst e
          cases hr
          exact sort_upd h hg hp
        · cases hr
      · cases hr
    · cases hr

def compactSpec {P : Program} (f : FuncId) (h : CompactsInts P f) : UFSpec P where
  f := f
  run := compactRun
  ok := fun args σ pre r new hr hp => by
    unfold compactRun at hr
    split at hr
    · split at hr
      · rename_i hg
        split at hr
        · rename_i e
          subst e
          cases hr
          exact compact_upd h hg hp
        · cases hr
      · cases hr
    · cases hr

end Go.Vm
