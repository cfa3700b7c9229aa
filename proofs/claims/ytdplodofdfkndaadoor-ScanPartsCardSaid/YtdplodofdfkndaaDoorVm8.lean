/-
  The engine, part 8: built structs and slices, makes and appends.
-/
import Derived.Test.YtdplodofdfkndaaDoorVm7
namespace Go.Vm
section
variable {P : Program} {o : Oper} {ρ : Operand → V} {σ : Store} {k : K}

theorem foldl_set (off : Nat) : ∀ (l : List Value) (j : Nat) (cells : Array Value), off + j + l.length ≤ cells.size →
    ((l.zipIdx j).foldl (fun cs (x : Value × Nat) => cs.setIfInBounds (off + x.2) x.1) cells).toList = cells.toList.take (off + j) ++ l ++ cells.toList.drop (off + j + l.length)
  | [], j, cells, _ => by simp
  | c :: l, j, cells, h => by
    simp only [List.length_cons] at h
    rw [List.zipIdx_cons, List.foldl_cons, foldl_set off l (j + 1) _ (by simp; omega)]
    have hlt : off + j < cells.size := by omega
    apply List.ext_getElem?
    intro p
    rw [splice_get _ _ _ _ rfl (by simp; omega), splice_get _ _ _ _ rfl (by simp; omega)]
    simp only [Array.getElem?_toList, Array.getElem?_setIfInBounds, List.length_cons]
    rcases Nat.lt_trichotomy p (off + j) with h1 | h1 | h1
    · rw [if_pos (show p < off + (j + 1) by omega), if_neg (show ¬ off + j = p by omega), if_pos h1]
    · subst h1
      rw [if_pos (show off + j < off + (j + 1) by omega), if_pos rfl, if_pos hlt, if_neg (Nat.lt_irrefl _), if_pos (by omega), Nat.sub_self]
      rfl
    · rw [if_neg (show ¬ p < off + (j + 1) by omega), if_neg (show ¬ p < off + j by omega)]
      by_cases h2 : p < off + (j + 1) + l.length
      · rw [if_pos h2, if_pos (show p < off + j + (l.length + 1) by omega), show p - (off + j) = (p - (off + (j + 1))) + 1 by omega, List.getElem?_cons_succ]
      · rw [if_neg h2, if_neg (show ¬ off + j = p by omega), if_neg (show ¬ p < off + j + (l.length + 1) by omega)]

/-- Parts and their values. -/
def PartsRep (X : Ctx) (ps : List (Nat × V)) (vs : List (Nat × Value)) : Prop := vs.length = ps.length ∧ ∀ (j : Nat) p q, ps[j]? = some p → vs[j]? = some q → p.1 = q.1 ∧ Rep X p.2 q.2

theorem PartsRep.tail {X : Ctx} {p : Nat × V} {q : Nat × Value} {ps : List (Nat × V)} {vs : List (Nat × Value)} (h : PartsRep X (p :: ps) (q :: vs)) : PartsRep X ps vs :=
  ⟨by simpa using h.1, fun j a b ha hb => h.2 (j + 1) a b (by simpa using ha) (by simpa using hb)⟩

theorem fill_step {cells : Array Value} {off size : Nat} {v : Value} (hs : v.cells.size = size) (hf : off + size ≤ cells.size) :
    (v.cells.zipIdx.foldl (fun cs (x : Value × Nat) => cs.setIfInBounds (off + x.2) x.1) cells).toList = cells.toList.take off ++ v.cells.toList ++ cells.toList.drop (off + size) := by
  have h := foldl_set off v.cells.toList 0 cells (by simp; omega)
  simp only [Nat.add_zero, Array.length_toList, hs] at h
  rw [← h]
  congr 1
  rw [← Array.foldl_toList]
  simp

theorem fill_rep {X : Ctx} {place : Nat → Option (Nat × Nat)} : ∀ {ps : List (Nat × V)} {vs : List (Nat × Value)} {cs cs' : List V} {cells : Array Value}, fillV place cs ps = some cs' → RepL X cs cells.toList → PartsRep X ps vs →
    ∃ cells', Instr.fill place cells vs = some cells' ∧ RepL X cs' cells'.toList
  | [], vs, cs, cs', cells, h, hr, hp => by
    simp only [fillV, Option.some.injEq] at h
    subst h
    obtain rfl : vs = [] := List.eq_nil_of_length_eq_zero hp.1
    exact ⟨cells, rfl, hr⟩
  | (i, v) :: ps, [], cs, cs', cells, h, hr, hp => by simp [PartsRep] at hp
  | (i, v) :: ps, (i', u) :: vs, cs, cs', cells, h, hr, hp => by
    obtain ⟨rfl, hvu⟩ := hp.2 0 (i, v) (i', u) (by simp) (by simp)
    simp only at hvu
    unfold fillV at h
    split at h
    · cases h
    · rename_i off size hpl
      split at h
      · rename_i hc
        obtain ⟨hsz, hfit, hna⟩ := hc
        have hu := cells_rep hvu hna
        have husz : u.cells.size = size := by have := hu.1; simp at this; omega
        have hcsz : cells.size = cs.length := by have := hr.1; simpa using this
        have hst := fill_step (cells := cells) (off := off) (v := u) husz (by omega)
        have hov := over_rep off hr hu
        have hul : u.cells.toList.length = size := by simpa using husz
        rw [hul, ← hst] at hov
        obtain ⟨cells', h1, h2⟩ := fill_rep h hov hp.tail
        refine ⟨cells', ?_, h2⟩
        unfold Instr.fill
        simp only [hpl]
        rw [if_neg (by simp; omega)]
        exact h1
      · cases h

theorem parts_rep {X : Ctx} {ps : Array (Nat × Operand)} {ρr : Operand → Value} (hr : ∀ p ∈ ps.toList, Rep X (ρ p.2) (ρr p.2)) :
    PartsRep X (ps.toList.map fun (i, x) => (i, ρ x)) (ps.map fun (i, x) => (i, ρr x)).toList := by
  refine ⟨by simp, fun j p q hp hq => ?_⟩
  simp only [Array.toList_map, List.getElem?_map, Option.map_eq_some_iff] at hp hq
  obtain ⟨a, ha, rfl⟩ := hp
  obtain ⟨b, hb, rfl⟩ := hq
  rw [ha] at hb
  cases hb
  exact ⟨rfl, hr a (List.mem_of_getElem? ha)⟩

theorem build_ok {t : TypeId} {ps : Array (Nat × Operand)} (ho : o.op = .build t ps) (h : buildV P t (ps.toList.map fun (i, x) => (i, ρ x)) σ k) : ∃ v σ', k v σ' ∧ OpOk P o ρ σ v σ' := by
  have hmem : ∀ p ∈ ps.toList, p.2 ∈ o.op.operands.toList := by
    intro p hp
    rw [ho]
    simp only [Op.operands]
    exact List.mem_map.2 ⟨p, hp, rfl⟩
  have close : ∀ {cells : List V}, k (.agg cells) σ → (∀ (X : Ctx) (ρr : Operand → Value), PartsRep X (ps.toList.map fun (i, x) => (i, ρ x)) (ps.map fun (i, x) => (i, ρr x)).toList →
      ∃ cs, P.built t (ps.map fun (i, x) => (i, ρr x)).toList = some cs ∧ RepL X cells cs.toList) → ∃ v σ', k v σ' ∧ OpOk P o ρ σ v σ' := by
    intro cells hk hc
    refine ⟨_, _, hk, ok_pure fun X ρr _ _ hr => ?_⟩
    obtain ⟨cs, h1, h2⟩ := hc X ρr (parts_rep fun p hp => hr _ (hmem p hp))
    exact ⟨.agg cs, by simp only [execOp, ho, Sem.run_bind, run_build X.w t _ cs h1, Result.andThen_ok, Sem.run_pure], h2.agg⟩
  unfold buildV at h
  split at h
  · rename_i i fs hi hu
    split at h
    · rename_i z places hz hp
      split at h
      · rename_i cells hf
        refine close h fun X ρr hpr => ?_
        obtain ⟨cs, h1, h2⟩ := fill_rep hf (zero_rep X z) hpr
        exact ⟨cs, by simp only [Program.built, hi, hu, hz, hp]; exact h1, h2⟩
      · exact h.elim
    · exact h.elim
  · rename_i i n e hi hu
    split at h
    · rename_i z ie hz hie
      split at h
      · rename_i cells hf
        refine close h fun X ρr hpr => ?_
        obtain ⟨cs, h1, h2⟩ := fill_rep hf (zero_rep X z) hpr
        exact ⟨cs, by simp only [Program.built, hi, hu, hz, hie]; exact h1, h2⟩
      · exact h.elim
    · exact h.elim
  · exact h.elim

/-- Rows of data, laid one behind the other. -/
def RowsAt (w : World) (G : Nat → Prop) (t : Ty) (xs : List t.den) (cell : Nat → Option Value) : Prop :=
  ∀ (i : Nat) (x : t.den), nth xs i = some x → ∃ row, RepC w G t x row ∧ ∀ (j : Nat) (u : Value), row[j]? = some u → cell (i * t.cells + j) = some u

theorem partsD_fill {X : Ctx} {t : Ty} : ∀ {ps : List (Nat × V)} {vs : List (Nat × Value)} {i : Nat} {xs : List t.den} {cells : Array Value}, partsD t i ps = some xs → PartsRep X ps vs → (i + ps.length) * t.cells ≤ cells.size →
    ∃ cells', Instr.fill (fun i => some (i * t.cells, t.cells)) cells vs = some cells' ∧ cells'.size = cells.size ∧ xs.length = ps.length ∧ (∀ p, p < i * t.cells → cells'[p]? = cells[p]?) ∧
      RowsAt X.w X.G t xs (fun p => cells'[i * t.cells + p]?)
  | [], vs, i, xs, cells, h, hp, _ => by
    simp only [partsD, Option.some.injEq] at h
    subst h
    obtain rfl : vs = [] := List.eq_nil_of_length_eq_zero hp.1
    exact ⟨cells, rfl, rfl, rfl, fun _ _ => rfl, fun i x hx => by simp at hx⟩
  | (j, v) :: ps, [], i, xs, cells, h, hp, _ => by simp [PartsRep] at hp
  | (j, v) :: ps, (j', u) :: vs, i, xs, cells, h, hp, hfit => by
    obtain ⟨rfl, hvu⟩ := hp.2 0 (j, v) (j', u) (by simp) (by simp)
    simp only at hvu
    unfold partsD at h
    split at h
    · rename_i hij
      subst hij
      split at h
      · rename_i hna
        split at h
        · rename_i x xs' hx hxs
          simp only [Option.some.injEq] at h
          subst h
          have hu := cells_rep hvu hna
          have hrx := decAll_rep hx hu
          have husz : u.cells.size = t.cells := by have := hrx.len; simpa using this
          have hul : u.cells.toList.length = t.cells := by simpa using husz
          simp only [List.length_cons] at hfit
          have hm1 : (i + 1) * t.cells = i * t.cells + t.cells := by rw [Nat.add_mul, Nat.one_mul]
          have hm2 : (i + (ps.length + 1)) * t.cells = (i + 1 + ps.length) * t.cells := by congr 1; omega
          have hm3 : (i + 1) * t.cells ≤ (i + 1 + ps.length) * t.cells := Nat.mul_le_mul_right _ (by omega)
          have hst := fill_step (cells := cells) (off := i * t.cells) (v := u) husz (by omega)
          generalize hc1 : u.cells.zipIdx.foldl (fun cs (x : Value × Nat) => cs.setIfInBounds (i * t.cells + x.2) x.1) cells = c1 at hst
          have hget : ∀ p : Nat, c1[p]? = if p < i * t.cells then cells[p]? else if p < i * t.cells + t.cells then u.cells.toList[p - i * t.cells]? else cells[p]? := by
            intro p
            have := splice_get cells.toList u.cells.toList (i * t.cells) t.cells hul (by simp; omega) p
            rw [← hst] at this
            simpa using this
          have hc1s : c1.size = cells.size := by
            have := congrArg List.length hst
            simp at this
            omega
          obtain ⟨c2, h1, h2, h3, h4, h5⟩ := partsD_fill (cells := c1) hxs hp.tail (by omega)
          refine ⟨c2, ?_, by omega, by simp [h3], fun p hpl => ?_, fun q y hy => ?_⟩
          · unfold Instr.fill
            simp only
            rw [if_neg (by simp; omega)]
            rw [hc1]
            exact h1
          · rw [h4 p (by omega), hget, if_pos hpl]
          · cases q with
            | zero =>
              simp only [List.getElem?_cons_zero, Option.some.injEq] at hy
              subst hy
              refine ⟨_, hrx, fun jj w0 hw => ?_⟩
              have hlt : jj < t.cells := by have := (List.getElem?_eq_some_iff.1 hw).1; omega
              simp only [Nat.zero_mul, Nat.zero_add]
              rw [h4 _ (by omega), hget, if_neg (by omega), if_pos (by omega), Nat.add_sub_cancel_left]
              exact hw
            | succ q =>
              simp only [List.getElem?_cons_succ] at hy
              obtain ⟨row, r1, r2⟩ := h5 q y hy
              refine ⟨row, r1, fun jj w0 hw => ?_⟩
              have := r2 jj w0 hw
              show c2[i * t.cells + ((q + 1) * t.cells + jj)]? = some w0
              rw [show i * t.cells + ((q + 1) * t.cells + jj) = (i + 1) * t.cells + (q * t.cells + jj) by rw [Nat.add_mul, Nat.add_mul]; omega]
              exact this
        · cases h
      · cases h
    · cases h

theorem cell_new (w : World) (vs : Array Value) (ty : TypeId) (j : Nat) : (w.alloc (.cells vs ty)).cell? ⟨w.heap.size, j, none⟩ = vs[j]? := by
  unfold World.cell?
  simp only
  rw [heap_alloc_new]
  simp

/-- A new array. -/
theorem newArr_ok {B : Nat → Prop} {w w1 : World} {σ : Store} {μ : Mu} {F : Fr} (hI : Inv B ⟨w, σ, μ, F⟩) (hB : ∀ b, w.heap.size ≤ b → B b) {id : Nat} (hid : isFresh σ id = true) (ty : TypeId) {t : Ty} {xs : List t.den} {vs : Array Value} {C ep : Nat}
    (h1 : w1.os = w.os) (h2 : w1.tape = w.tape) (h3 : w1.output = w.output) (h4 : w1.heap = w.heap)
    (hC : C * t.cells = vs.size) (hl : xs.length ≤ C) (hm : C ≤ maxLen) (hr : RowsAt w (Ctx.G ⟨w, σ, μ, F⟩) t xs (fun p => vs[p]?)) {A : Option Addr} (hA : ∃ a, A = some a ∧ (0 < C → a = ⟨w.heap.size, 0, none⟩)) :
    ∃ μ', Inv B ⟨w1.alloc (.cells vs ty), (id, .arr ep t xs) :: σ, μ', F⟩ ∧ Rep ⟨w1.alloc (.cells vs ty), (id, .arr ep t xs) :: σ, μ', F⟩ (.slc id ep none) (.slice A xs.length C) ∧
      Evo ⟨w, σ, μ, F⟩ ⟨w1.alloc (.cells vs ty), (id, .arr ep t xs) :: σ, μ', F⟩ := by
  have hsz : w1.heap.size = w.heap.size := by rw [h4]
  have key := new_evo hI hB hid (o' := .arr ep t xs) (p' := some (w.heap.size, 0, C)) (w' := w1.alloc (.cells vs ty)) h1 h2 h3 (by simp; omega)
    (fun b hb => by rw [heap_alloc_old w1 _ (by omega), h4]) (fun q hq => by cases hq; exact Nat.le_refl _)
    (fun hE => .inr ⟨w.heap.size, 0, C, vs, ty, by simp, by rw [← hsz]; exact heap_alloc_new w1 _, by omega, hl, hm, fun i x hx => by
      obtain ⟨row, r1, r2⟩ := hr i x hx
      exact ⟨row, r1.keep hE.good, fun j u hu => by simpa using r2 j u hu⟩⟩)
  refine ⟨_, key.2, .slc (ep' := ep) (t := t) (l := xs) (by simp [get_cons]) (Nat.le_refl _) (fun _ => ?_), key.1⟩
  simp only [if_true, Hdr]
  exact ⟨trivial, trivial, hl, hA⟩

theorem fillV_len {place : Nat → Option (Nat × Nat)} : ∀ {ps : List (Nat × V)} {cs cs' : List V}, fillV place cs ps = some cs' → cs'.length = cs.length
  | [], cs, cs', h => by simp only [fillV, Option.some.injEq] at h; rw [h]
  | (i, v) :: r, cs, cs', h => by
    simp only [fillV] at h
    split at h
    · cases h
    · rename_i off size hp
      split at h
      · rename_i hc
        rw [fillV_len h]
        unfold over
        simp only [List.length_append, List.length_take, List.length_drop]
        omega
      · cases h

theorem buildRows_ok {E : Env} {t : TypeId} {n : Nat} {ps : Array (Nat × Operand)} (ho : o.op = .buildSlice t n ps) (h : buildRowsV E t n (ps.toList.map fun (i, x) => (i, ρ x)) σ k) :
    ∃ v σ', k v σ' ∧ OpOk E.P o ρ σ v σ' := by
  have hmem : ∀ p ∈ ps.toList, p.2 ∈ o.op.operands.toList := by
    intro p hp
    rw [ho]
    simp only [Op.operands]
    exact List.mem_map.2 ⟨p, hp, rfl⟩
  unfold buildRowsV at h
  split at h
  · rename_i e hu
    split at h
    · rename_i i hi
      split at h
      · rename_i hc
        obtain ⟨hpos, hbig, hz⟩ := hc
        obtain ⟨z, hz⟩ := Option.isSome_iff_exists.1 hz
        split at h
        · rename_i cells hf
          refine ⟨_, _, h, fun B F ρr w μ hI hB hr => ?_⟩
          have hpr := parts_rep (X := ⟨w, σ, μ, F⟩) (ρr := ρr) fun p hp => hr _ (hmem p hp)
          have h0 : ¬ n * i.size = 0 := by omega
          have hnb : ¬ (16777216 < n * i.size) := by omega
          obtain ⟨cs, h1, h2⟩ := fill_rep (cells := (Array.range (n * i.size)).map (z.cells[· % z.cells.size]!)) hf ⟨by simp, fun j c u hc _ => by
            have := (List.getElem?_eq_some_iff.1 hc).2
            simp only [List.getElem_replicate] at this
            subst this
            exact .any⟩ hpr
          have h1' : Instr.fill (fun j => some (j * i.size, i.size)) (Array.map (fun x => z.cells[x % z.cells.size]!) (Array.range (n * i.size))) (List.map (fun x => (x.fst, ρr x.snd)) ps.toList) = some cs := by simpa using h1
          have hcl : cells.length = n * i.size := by
            have e1 := h2.1
            have := fillV_len hf
            simpa using this
          have hcs : cs.size = n * i.size := by have := h2.1; simp at this; omega
          have hrun : (execOp ρr o).run E.P w = .ok (.value (.slice (some ⟨w.heap.size, 0, none⟩) n n)) (w.alloc (.cells cs e)) := by
            simp [execOp, ho, Instr.buildSlice, run_underlying hu, sizeOf, typeInfo, zeroValue, hi, hz, hnb, h0, h1', newRow]
          refine .val hrun ⟨μ, ?_⟩
          obtain ⟨hE, hI'⟩ := evo_of_blocks hI (w' := w.alloc (.cells cs e)) rfl rfl rfl (by simp) (fun b hb => heap_alloc_old w _ hb)
          have h2' : RepL ⟨w.alloc (.cells cs e), σ, μ, F⟩ cells cs.toList := h2.evo hE
          refine ⟨hI', .rows (fun j => cs.getD j undef) (by omega) (Nat.le_refl _) (fun _ => ⟨w.heap.size, 0, rfl, ⟨⟨⟨by simp, fun id o' hg hk => ?_⟩, fun hf => hI.out _ (Nat.le_refl _) (.inr hf)⟩, fun hf => hI.out _ (Nat.le_refl _) (.inl hf)⟩, fun j c hj => ?_⟩) (fun j c hj => ?_), hE⟩
          · have := hI.ltB hg (blk_old hI (w' := w.alloc (.cells cs e)) (fun b hb => heap_alloc_old w _ hb) hg hk)
            exact Nat.lt_irrefl _ this
          · have hlt : j < cs.size := by have := (List.getElem?_eq_some_iff.1 hj).1; omega
            rw [cell_new]
            simp [hlt]
          · have hlt : j < cs.size := by have := (List.getElem?_eq_some_iff.1 hj).1; omega
            have := h2'.2 j c cs[j] hj (by rw [Array.getElem?_toList]; exact Array.getElem?_eq_getElem hlt)
            simpa [hlt] using this
        · exact h.elim
      · exact h.elim
    · exact h.elim
  · exact h.elim

theorem buildSlice_ok {E : Env} {t : TypeId} {n dst : Nat} {ps : Array (Nat × Operand)} (ho : o.op = .buildSlice t n ps) (h : buildSliceV E t n (ps.toList.map fun (i, x) => (i, ρ x)) dst σ k) :
    ∃ v σ', k v σ' ∧ OpOk E.P o ρ σ v σ' := by
  have hmem : ∀ p ∈ ps.toList, p.2 ∈ o.op.operands.toList := by
    intro p hp
    rw [ho]
    simp only [Op.operands]
    exact List.mem_map.2 ⟨p, hp, rfl⟩
  unfold buildSliceV at h
  split at h
  · exact buildRows_ok ho h
  split at h
  · rename_i e hu
    split at h
    · rename_i i ty hi hty
      split at h
      · rename_i hc
        obtain ⟨hsz, hpl, hbig, hz⟩ := hc
        obtain ⟨z, hz⟩ := Option.isSome_iff_exists.1 hz
        split at h
        · rename_i xs hxs
          have run : ∀ (X : Ctx) (ρr : Operand → Value), (∀ x, x ∈ o.op.operands.toList → Rep X (ρ x) (ρr x)) → ∃ cells : Array Value, cells.size = n * ty.cells ∧ xs.length = n ∧ RowsAt X.w X.G ty xs (fun p => cells[p]?) ∧
              (execOp ρr o).run E.P X.w = .ok (.value (.slice (some ⟨X.w.heap.size, 0, none⟩) n n)) (X.w.alloc (.cells cells e)) := by
            intro X ρr hr
            have hpr := parts_rep (X := X) (ρr := ρr) fun p hp => hr _ (hmem p hp)
            generalize hzc : (if n * i.size = 0 then (#[] : Array Value) else z.cells) = zc
            obtain ⟨c2, h1, h2, h3, _, h5⟩ := partsD_fill (X := X) (cells := (Array.range (n * i.size)).map (zc[· % zc.size]!)) hxs hpr (by simp [hsz] at hpl ⊢; rw [hpl]; exact Nat.le_refl _)
            refine ⟨c2, by rw [h2]; simp [hsz], by rw [h3]; exact hpl, by simpa using h5, ?_⟩
            have hnb : ¬ (16777216 < n * i.size) := by omega
            rw [← hsz] at h1
            by_cases h0 : n * i.size = 0
            · simp only [h0, if_true] at hzc
              subst hzc
              simp only [execOp, ho, Instr.buildSlice, Sem.run_bind, run_underlying hu, Result.andThen_ok, sizeOf, typeInfo, run_program, hi, Sem.run_pure]
              simp [h0] at h1 ⊢
              simp [h1, newRow]
            · simp only [h0, if_false] at hzc
              subst hzc
              have h1' : Instr.fill (fun j => some (j * i.size, i.size)) (Array.map (fun x => z.cells[x % z.cells.size]!) (Array.range (n * i.size))) (List.map (fun x => (x.fst, ρr x.snd)) ps.toList) = some c2 := by simpa using h1
              simp [execOp, ho, Instr.buildSlice, run_underlying hu, sizeOf, typeInfo, zeroValue, hi, hz, hnb, h0, h1', newRow]
          split at h
          · split at h
            · rename_i hf
              refine ⟨_, _, h, fun B F ρr w μ hI hB hr => ?_⟩
              obtain ⟨cells, c1, c2, c3, c4⟩ := run ⟨w, σ, μ, F⟩ ρr hr
              have hcl := ty.cells_pos
              have hnn : n ≤ n * ty.cells := Nat.le_mul_of_pos_right _ hcl
              have hbig' : n * ty.cells ≤ 16777216 := by rw [← hsz]; exact hbig
              refine .val c4 ?_
              have := newArr_ok (w1 := w) (ep := 0) (C := n) (A := some ⟨w.heap.size, 0, none⟩) hI hB hf e rfl rfl rfl rfl c1.symm (by omega) (by unfold maxLen; omega) c3 ⟨_, rfl, fun _ => rfl⟩
              rw [c2] at this
              exact this
            · exact h.elim
          · refine ⟨_, _, h, fun B F ρr w μ hI hB hr => ?_⟩
            obtain ⟨cells, c1, c2, c3, c4⟩ := run ⟨w, σ, μ, F⟩ ρr hr
            refine .val c4 ⟨μ, ?_⟩
            obtain ⟨hE, hI'⟩ := evo_of_blocks hI (w' := w.alloc (.cells cells e)) rfl rfl rfl (by simp) (fun b hb => heap_alloc_old w _ hb)
            refine ⟨hI', ?_, hE⟩
            rw [← c2]
            refine .list ⟨rfl, Nat.le_refl _, fun h0 => ⟨w.heap.size, 0, rfl, ⟨⟨⟨by simp, fun id o' hg hk => ?_⟩, fun hf => hI.out _ (Nat.le_refl _) (.inr hf)⟩, fun _ => ?_⟩, fun i x hx => ?_⟩⟩ (fun _ => rfl)
            · have := hI.ltB hg (blk_old hI (w' := w.alloc (.cells cells e)) (fun b hb => heap_alloc_old w _ hb) hg hk)
              exact Nat.lt_irrefl _ this
            · exact fun hf => hI.out _ (Nat.le_refl _) (.inl hf)
            · obtain ⟨row, r1, r2⟩ := c3 i x hx
              refine ⟨row, r1.keep hE.good, fun j u hu => ?_⟩
              rw [cell_new]
              simpa using r2 j u hu
        · exact h.elim
      · exact h.elim
    · exact h.elim
  · exact h.elim

end
end Go.Vm
