/-
  slices.SortFunc at rows of plain data, as a call that turns an array of the store: under a compare function that parts whatever two are not one.
-/
import Derived.Test.YtemgelifnjefoaaDoorVmJ
import Derived.Shelf.SlSortCmp.NoneTotal
namespace Go.Vm
open Go.Sort Go.RowKit

/-- Types of which each datum has one row of values. -/
def Ty.flat : Ty → Bool
  | .bool | .str | .int _ => true
  | .slice _ => false
  | .pair a b => a.flat && b.flat

def Ty.dflt : (t : Ty) → t.den
  | .bool => false
  | .str => []
  | .int _ => (0 : Int)
  | .slice _ => []
  | .pair a b => (a.dflt, b.dflt)

instance (t : Ty) : Inhabited t.den := ⟨t.dflt⟩

/-- A datum's row of values. -/
def encR : (t : Ty) → t.den → List Value
  | .bool, b => [.bool b]
  | .str, l => [.string ⟨List.toArray l⟩]
  | .int k, n => [.int k n]
  | .slice _, _ => []
  | .pair a b, x => encR a x.1 ++ encR b x.2

theorem encR_rep {w : World} {G : Nat → Prop} : ∀ {t : Ty} (x : t.den), t.flat = true → RepC w G t x (encR t x)
  | .bool, _, _ => rfl
  | .str, l, _ => ⟨⟨List.toArray l⟩, rfl, rfl⟩
  | .int _, _, _ => rfl
  | .slice _, _, h => by cases h
  | .pair a b, x, h => by
    simp only [Ty.flat, Bool.and_eq_true] at h
    exact ⟨_, _, rfl, encR_rep x.1 h.1, encR_rep x.2 h.2⟩

theorem encR_of {w : World} {G : Nat → Prop} : ∀ {t : Ty} {x : t.den} {cs : List Value}, t.flat = true → RepC w G t x cs → cs = encR t x
  | .bool, _, _, _, h => h
  | .str, _, _, _, h => by
    obtain ⟨s, rfl, hs⟩ := h
    subst hs
    rfl
  | .int _, _, _, _, h => h
  | .slice _, _, _, h, _ => by cases h
  | .pair a b, x, _, h, hr => by
    simp only [Ty.flat, Bool.and_eq_true] at h
    obtain ⟨c1, c2, rfl, h1, h2⟩ := hr
    rw [encR_of h.1 h1, encR_of h.2 h2]
    rfl

theorem encR_len : ∀ {t : Ty} (x : t.den), t.flat = true → (encR t x).length = t.cells
  | .bool, _, _ => rfl
  | .str, _, _ => rfl
  | .int _, _, _ => rfl
  | .slice _, _, h => by cases h
  | .pair a b, x, h => by
    simp only [Ty.flat, Bool.and_eq_true] at h
    rw [encR, List.length_append, encR_len x.1 h.1, encR_len x.2 h.2]
    rfl

theorem encR_one : ∀ {t : Ty} (x : t.den), t.flat = true → ∀ v ∈ encR t x, v.oneCell' = true
  | .bool, _, _, v, hv => by simp only [encR, List.mem_singleton] at hv; subst hv; rfl
  | .str, _, _, v, hv => by simp only [encR, List.mem_singleton] at hv; subst hv; rfl
  | .int _, _, _, v, hv => by simp only [encR, List.mem_singleton] at hv; subst hv; rfl
  | .slice _, _, h, _, _ => by cases h
  | .pair a b, x, h, v, hv => by
    simp only [Ty.flat, Bool.and_eq_true] at h
    rw [encR, List.mem_append] at hv
    rcases hv with hv | hv
    · exact encR_one x.1 h.1 v hv
    · exact encR_one x.2 h.2 v hv

/-- In the order of a compare function. -/
def sortBy {t : Ty} (cf : t.den → t.den → Int) (l : List t.den) : List t.den := l.mergeSort fun x y => !decide (cf y x < 0)

theorem sortBy_len {t : Ty} (cf : t.den → t.den → Int) (l : List t.den) : (sortBy cf l).length = l.length := by simp [sortBy]

/-- What the library's sort says of itself. -/
structure SortsBy (P : Program) (f g : FuncId) (t : Ty) (cf : t.den → t.den → Int) : Prop where
  some : ∀ (blk off cap : Nat) (zs : List t.den) (w : World), HoldsK (encR t) t.cells w blk off zs.toArray → blk < w.heap.size → zs.length < 4611686018427387904 →
    Calls P f #[.slice (some ⟨blk, off, none⟩) zs.length cap, .func (.func g) #[] #[]] w fun e w' => e = .returned (.tuple #[]) ∧ ∃ n os, w' = grow (putRowK (encR t) t.cells (Sort.ahead w n) blk off (sortBy cf zs).toArray) os
  none : ∀ (p : Option Addr) (cap : Nat) (w : World), Calls P f #[.slice p 0 cap, .func (.func g) #[] #[]] w fun e w' => e = .returned (.tuple #[]) ∧ w' = w

theorem flat_get {t : Ty} (ht : t.flat = true) {l : List t.den} {i c : Nat} (hi : i < l.length) (hc : c < t.cells) : (flatK (encR t) t.cells l.toArray)[i * t.cells + c]! = (encR t l[i])[c]! := by
  have hb : i * t.cells + c < l.length * t.cells := by
    have := Nat.mul_le_mul_right t.cells (show i + 1 ≤ l.length from hi)
    rw [Nat.add_mul, Nat.one_mul] at this
    omega
  have h1 : (i * t.cells + c) / t.cells = i := (blk_iff t.cells i _ t.cells_pos).1 ⟨by omega, by omega⟩
  have h2 : (i * t.cells + c) % t.cells = c := by rw [Nat.mod_eq_sub_div_mul, h1]; omega
  rw [get_flatK _ _ _ _ (by simpa using hb), h1, h2]
  simp [hi]

/-- An array's row of data. -/
theorem arr_holdsK {w : World} {b base : Nat} {cs : Array Value} {ty : TypeId} {t : Ty} (ht : t.flat = true) {l : List t.den} {G : Nat → Prop} (hb : w.heap[b]? = some (.cells cs ty (0, 0)))
    (hr : ∀ (i : Nat) (x : t.den), nth l i = some x → ∃ row, RepC w G t x row ∧ ∀ (j : Nat) (u : Value), row[j]? = some u → cs[base + i * t.cells + j]? = some u) : HoldsK (encR t) t.cells w b base l.toArray := by
  intro j hj
  have hj2 : j < l.length * t.cells := by simpa using hj
  have hp := t.cells_pos
  have hi : j / t.cells < l.length := (Nat.div_lt_iff_lt_mul hp).2 hj2
  have hc : j % t.cells < t.cells := Nat.mod_lt _ hp
  obtain ⟨row, h1, h2⟩ := hr (j / t.cells) l[j / t.cells] (List.getElem?_eq_getElem hi)
  have h1 := encR_of ht h1
  subst h1
  have hlen := encR_len l[j / t.cells] ht
  have h3 := h2 (j % t.cells) _ (List.getElem?_eq_getElem (by omega))
  have e : j / t.cells * t.cells + j % t.cells = j := by rw [Nat.mul_comm]; exact Nat.div_add_mod j t.cells
  rw [Nat.add_assoc, e] at h3
  have h6 := flat_get ht hi hc
  rw [e] at h6
  obtain ⟨h4, h5⟩ := Array.getElem?_eq_some_iff.1 h3
  constructor
  · unfold World.cell?
    simp only [hb]
    rw [h6]
    simp [h4, h5, hlen, hc]
  · unfold World.frozen?
    simp only [hb]
    simp

theorem putCells_getK {cs : Array Value} {off : Nat} {d : Array Value} {k : Nat} (hk : off + d.size ≤ cs.size) (hx : k < d.size) : (putCells (id : Value → Value) off d cs)[off + k]? = some d[k]! := by
  have h3 : off + k < cs.size := by omega
  unfold putCells
  rw [Array.getElem?_mapIdx, Array.getElem?_eq_getElem h3]
  simp [hx]

/-- The array's row is another one. -/
theorem put_rowK {B : Nat → Prop} {F : Fr} {w : World} {σ : Store} {μ : Mu} (hI : Inv B ⟨w, σ, μ, F⟩) (hB : ∀ b, w.heap.size ≤ b → B b) {id0 ep : Nat} {t : Ty} (ht : t.flat = true) {l zs : List t.den} (hg : σ.get id0 = some (.arr ep t l))
    {b base C : Nat} {cs : Array Value} {ty : TypeId} (hm : μ id0 = some (b, base, C)) (hb : w.heap[b]? = some (.cells cs ty (0, 0))) (hcs : base + C * t.cells = cs.size) (hlC : l.length ≤ C) (hC : Room t ty base C) (hl : zs.length = l.length)
    (n : Nat) (os : Array Go.Obj) :
    Evo ⟨w, σ, μ, F⟩ ⟨grow (putRowK (encR t) t.cells (Sort.ahead w n) b base zs.toArray) os, (id0, .arr ep t zs) :: σ, fun i => if i = id0 then μ id0 else μ i, F⟩ ∧
      Inv B ⟨grow (putRowK (encR t) t.cells (Sort.ahead w n) b base zs.toArray) os, (id0, .arr ep t zs) :: σ, fun i => if i = id0 then μ id0 else μ i, F⟩ := by
  have hlt : b < w.heap.size := (Array.getElem?_eq_some_iff.1 hb).1
  have hsz : (putRowK (encR t) t.cells (Sort.ahead w n) b base zs.toArray).heap.size = w.heap.size := by simp [putRowK, putRow, mapBlock, Sort.ahead]
  have hold : ∀ k, k < w.heap.size → k ≠ b → (grow (putRowK (encR t) t.cells (Sort.ahead w n) b base zs.toArray) os).heap[k]? = w.heap[k]? := by
    intro k hk hne
    rw [heap_grow_old _ _ (by rw [hsz]; exact hk)]
    show (w.heap.modify b _)[k]? = _
    rw [Array.getElem?_modify, if_neg (fun e => hne e.symm)]
  have hnew : (grow (putRowK (encR t) t.cells (Sort.ahead w n) b base zs.toArray) os).heap[b]? = some (.cells (putCells (id : Value → Value) base (flatK (encR t) t.cells zs.toArray) cs) ty (0, 0)) := by
    rw [heap_grow_old _ _ (by rw [hsz]; exact hlt)]
    show (w.heap.modify b _)[b]? = _
    rw [Array.getElem?_modify, if_pos rfl, hb]
    rfl
  refine put_evo (X := ⟨w, σ, μ, F⟩) hI hB (id := id0) (o' := .arr ep t zs) (p' := μ id0) rfl rfl rfl (by simp [hsz]) (fun k hk hne => hold k hk (fun e => hne _ _ hg hm e.symm)) (fun q hq => .inr ⟨_, _, hg, hm, by
      rw [hm] at hq; cases hq; rfl⟩) (fun c hc => by
      have hc : σ.get id0 = some (.box c) := hc
      rw [hg] at hc; cases hc) (fun ep0 t0 l0 hc => ?_) (fun hE => ?_)
  · have hc : σ.get id0 = some (.arr ep0 t0 l0) := hc
    rw [hg] at hc
    cases hc
    exact ⟨ep, zs, rfl, Nat.le_refl _, fun _ => ⟨rfl, hl⟩⟩
  · refine .inr ⟨b, base, C, putCells (id : Value → Value) base (flatK (encR t) t.cells zs.toArray) cs, ty, by simp [hm], hnew, by simp [putCells, hcs], (show zs.length ≤ C by omega), hC, fun i x hx => ⟨encR t x, encR_rep x ht, fun j u hu => ?_⟩⟩
    obtain ⟨hi, hx2⟩ := List.getElem?_eq_some_iff.1 hx
    obtain ⟨hj, hu2⟩ := List.getElem?_eq_some_iff.1 hu
    have hj2 : j < t.cells := by rw [encR_len x ht] at hj; exact hj
    have hb2 : i * t.cells + j < zs.length * t.cells := by
      have := Nat.mul_le_mul_right t.cells (show i + 1 ≤ zs.length from hi)
      rw [Nat.add_mul, Nat.one_mul] at this
      omega
    have hle : zs.length * t.cells ≤ C * t.cells := Nat.mul_le_mul_right _ (by omega)
    rw [Nat.add_assoc, putCells_getK (by simp; omega) (by simpa using hb2), flat_get ht hi hj2, hx2, getElem!_pos _ j hj, hu2]

theorem sortBy_upd {P : Program} {f g : FuncId} {t : Ty} {cf : t.den → t.den → Int} (ht : t.flat = true) (h : SortsBy P f g t cf) {σ : Store} {id ep : Nat} {l : List t.den} (hg : σ.get id = some (.arr ep t l)) (hl : l.length ≤ 1000000000) :
    Upd P f [.slc id ep none, .fn (.func g) [] []] σ (.tuple []) ([(id, .arr ep t (sortBy cf l))] ++ σ) := by
  intro B F w μ vs hI hB hr
  obtain ⟨u, us, rfl, h1, h2⟩ := hr.cons_inv
  obtain ⟨u2, us2, rfl, h3, h4⟩ := h2.cons_inv
  rw [h4.nil_inv]
  have h3 : u2 = .func (.func g) #[] #[] := by
    cases h3 with
    | fn a b _ _ =>
      rename_i vs ws
      simp only [List.length_nil] at a b
      rw [Array.eq_empty_of_size_eq_zero a, Array.eq_empty_of_size_eq_zero b]
  subst h3
  obtain ⟨A, len, cap, ep', t', l', rfl, hg', hle, hcur⟩ := h1.slc_inv
  have hg' : σ.get id = some (.arr ep' t' l') := hg'
  rw [hg] at hg'
  cases hg'
  have hh : Hdr (μ id) t l.length none A len cap := hcur rfl
  rcases Nat.eq_zero_or_pos l.length with h0 | h0
  · have hl0 : l = [] := List.eq_nil_of_length_eq_zero h0
    have hlen : len = 0 := by
      cases hm : μ id with
      | none => rw [hm] at hh; exact hh.1
      | some q => obtain ⟨b, base, C⟩ := q; rw [hm] at hh; rw [hh.1]; exact h0
    subst hlen
    refine (h.none A cap w).mono fun e w' ⟨he, hw⟩ => ⟨_, he, fun i => if i = id then μ id else μ i, ?_⟩
    subst hw
    have hs : sortBy cf l = l := by rw [hl0]; simp [sortBy]
    rw [hs]
    have key : Evo ⟨w', σ, μ, F⟩ ⟨w', (id, .arr ep t l) :: σ, fun i => if i = id then μ id else μ i, F⟩ ∧ Inv B ⟨w', (id, .arr ep t l) :: σ, fun i => if i = id then μ id else μ i, F⟩ := by
      refine put_evo (X := ⟨w', σ, μ, F⟩) hI hB (id := id) (o' := .arr ep t l) (p' := μ id) rfl rfl rfl (Nat.le_refl _) (fun _ _ _ => rfl) (fun q hq => .inr ⟨_, _, hg, hq, rfl⟩) (fun c hc => by
        have hc : σ.get id = some (.box c) := hc
        rw [hg] at hc; cases hc) (fun ep0 t0 l0 hc => ?_) (fun hE => ?_)
      · have hc : σ.get id = some (.arr ep0 t0 l0) := hc
        rw [hg] at hc
        cases hc
        exact ⟨ep, l, rfl, Nat.le_refl _, fun _ => ⟨rfl, rfl⟩⟩
      · rcases hI.objs id _ hg with k | ⟨b, base, C, cs, ty, k1, k2, k3, k4, k5, k6⟩
        · exact .inl (by simpa using k)
        · refine .inr ⟨b, base, C, cs, ty, by simpa using k1, k2, k3, k4, k5, fun i x hx => ?_⟩
          obtain ⟨row, r1, r2⟩ := k6 i x hx
          exact ⟨row, r1.keep hE.good, r2⟩
    exact ⟨key.2, .tuple rfl (fun j c u hc => by simp at hc), key.1⟩
  · rcases hI.objs id _ hg with ⟨_, k⟩ | ⟨b, base, C, cs, ty, k1, k2, k3, k4, k5, k6⟩
    · have k : l.length = 0 := k
      omega
    · have k1 : μ id = some (b, base, C) := k1
      rw [k1] at hh
      obtain ⟨rfl, rfl, _, a, rfl, ha⟩ := hh
      have hH := arr_holdsK (w := w) (G := Ctx.G ⟨w, σ, μ, F⟩) ht (l := l) k2 k6
      have ha2 := ha (by omega)
      subst ha2
      refine (h.some b base cap l w hH (Array.getElem?_eq_some_iff.1 k2).1 (by omega)).mono fun e w' ⟨he, n, os, hw⟩ => ⟨_, he, fun i => if i = id then μ id else μ i, ?_⟩
      subst hw
      obtain ⟨e1, e2⟩ := put_rowK hI hB ht hg k1 k2 k3 k4 k5 (zs := sortBy cf l) (sortBy_len cf l) n os
      exact ⟨e2, .tuple (vs := #[]) rfl (fun j c u hc => by simp at hc), e1⟩

/-- slices.SortFunc of an array of the store. -/
def sortByRun (t : Ty) (g : FuncId) (cf : t.den → t.den → Int) : List V → Store → Option (Prop × V × Store)
  | [.slc id ep none, .fn (.func g') [] []], σ => match σ.get id with
    | some (.arr ep' t' l) => if g' = g ∧ ep = ep' then if h : t' = t then some (List.length l ≤ 1000000000, .tuple [], [(id, .arr ep' t (sortBy cf (h ▸ l)))]) else none else none
    | _ => none
  | _, _ => none

def sortBySpec {P : Program} (f g : FuncId) (t : Ty) (cf : t.den → t.den → Int) (ht : t.flat = true) (h : SortsBy P f g t cf) : UFSpec P where
  f := f
  run := sortByRun t g cf
  ok := fun args σ pre r new hr hp => by
    unfold sortByRun at hr
    split at hr
    · split at hr
      · rename_i hg
        split at hr
        · rename_i e
          obtain ⟨rfl, rfl⟩ := e
          split at hr
          · rename_i e2
            subst e2
            cases hr
            exact sortBy_upd ht h hg hp
          · cases hr
        · cases hr
      · cases hr
    · cases hr

end Go.Vm
