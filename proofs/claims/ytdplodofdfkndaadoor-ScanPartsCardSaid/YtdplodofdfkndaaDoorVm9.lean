/-
  The engine, part 9: make and append.
-/
import Derived.Test.YtdplodofdfkndaaDoorVm8
namespace Go.Vm
section
variable {P : Program} {o : Oper} {ρ : Operand → V} {σ : Store} {k : K}

theorem madeCells_get (z : Array Value) (n p : Nat) (hp : p < n) : (madeCells z n)[p]? = some (z[p % z.size]!) := by
  unfold madeCells
  simp [hp]

/-- A new nest. -/
theorem newNest_ok {B : Nat → Prop} {w : World} {σ : Store} {μ : Mu} {F : Fr} (hI : Inv B ⟨w, σ, μ, F⟩) (hB : ∀ b, w.heap.size ≤ b → B b) {id : Nat} (hid : isFresh σ id = true) (ty : TypeId) {t : Ty} {f : Nat} {xs : List t.den} {vs : Array Value} {C : Nat}
    (hC : C * t.cells = vs.size) (hl : xs.length ≤ C) (hm : C ≤ maxLen) (kf : f < t.cells)
    (hr : ∀ (j : Nat) (y : t.den), xs[j]? = some y → ∀ (jj : Nat) c, (enc t y)[jj]? = some c → ∃ u, vs[j * t.cells + jj]? = some u ∧ Rep ⟨w, σ, μ, F⟩ c u ∧ (jj = f → ∃ tin, c = .list .part tin [] ∧ u = .slice none 0 0)) :
    ∃ μ', Inv B ⟨w.alloc (.cells vs ty), (id, .nest 0 t f none xs) :: σ, μ', F⟩ ∧ Rep ⟨w.alloc (.cells vs ty), (id, .nest 0 t f none xs) :: σ, μ', F⟩ (.nslc id) (.slice (some ⟨w.heap.size, 0, none⟩) xs.length C) ∧
      Evo ⟨w, σ, μ, F⟩ ⟨w.alloc (.cells vs ty), (id, .nest 0 t f none xs) :: σ, μ', F⟩ := by
  have h0 := isFresh_none hid
  have hnew := heap_alloc_new w (.cells vs ty (0, 0))
  have hin : ∀ {p : Nat × Nat × Nat} {j : Nat} {u : Value}, p = (w.heap.size, 0, C) → j < xs.length → hcell (w.alloc (.cells vs ty)) p t f j = some u → hblk u = none := by
    intro p j u e hj hu
    subst e
    obtain ⟨c, hc⟩ := enc_get (x := xs[j]) kf
    obtain ⟨v, q1, q2, q3⟩ := hr j _ (List.getElem?_eq_getElem hj) f c hc
    obtain ⟨tin, rfl, rfl⟩ := q3 rfl
    have : hcell (w.alloc (.cells vs ty)) (w.heap.size, 0, C) t f j = some (.slice none 0 0) := hcell_of hnew (by rw [Nat.zero_add]; exact q1)
    rw [this] at hu
    cases hu
    rfl
  have key := put_evoG (X := ⟨w, σ, μ, F⟩) hI hB (id := id) (o' := .nest 0 t f none xs) (p' := some (w.heap.size, 0, C)) (w' := w.alloc (.cells vs ty)) rfl rfl rfl (by simp)
    (fun b hb _ => heap_alloc_old w _ hb)
    (fun b ⟨p, hp, hk⟩ => by
      have hp : some (w.heap.size, 0, C) = some p := by simpa using hp
      cases hp
      rcases hk with hk | ⟨j, u, q1, q2, q3, q4⟩
      · exact .inl (by rw [← hk]; exact Nat.le_refl _)
      · rw [hin rfl q1 q3] at q4; cases q4)
    (fun c hg => by have hg3 : Store.get σ id = some (.box c) := hg; rw [h0] at hg3; cases hg3)
    (fun ep t2 l hg => by have hg3 : Store.get σ id = some (.arr ep t2 l) := hg; rw [h0] at hg3; cases hg3)
    (fun iv t2 f2 h2 l2 hg => by have hg3 : Store.get σ id = some (.nest iv t2 f2 h2 l2) := hg; rw [h0] at hg3; cases hg3)
    (fun hE => ⟨w.heap.size, 0, C, vs, ty, by simp, hnew, by omega, hl, hm, kf, fun j x hx jj c hc => by
        obtain ⟨u, q1, q2, q3⟩ := hr j x hx jj c hc
        refine ⟨u, by rw [Nat.zero_add]; exact q1, fun _ => q2.evo hE, fun hj _ => ?_⟩
        obtain ⟨tin, rfl, rfl⟩ := q3 hj
        exact ⟨tin, [], none, 0, rfl, rfl, .inl ⟨rfl, rfl⟩⟩,
      fun a1 a2 v1 v2 b' q1 q2 q3 q4 q5 q6 q7 q8 => (by rw [hin rfl q1 q5] at q7; cases q7), fun a v q1 q2 q3 q4 => (by rw [hin rfl q1 q3] at q4; cases q4)⟩)
  refine ⟨_, key.2, .nslc (iv := 0) (t := t) (f := f) (h := none) (l := xs) (by simp [get_cons]) ?_, key.1⟩
  simp only [if_true, Hdr]
  exact ⟨trivial, trivial, hl, _, rfl, fun _ => rfl⟩

theorem makeSlice_ok {E : Env} {t : TypeId} {n c : Operand} {dst : Nat} (ho : o.op = .makeSlice t n c) (h : makeSliceV E t (ρ n) (ρ c) dst σ k) : ∃ v σ', k v σ' ∧ OpOk E.P o ρ σ v σ' := by
  have hops : o.op.operands.toList = [n, c] := by rw [ho]; rfl
  unfold makeSliceV at h
  split at h
  · rename_i e kn a kc b hu hn hc
    split at h
    · rename_i i ty hi hty
      split at h
      · rename_i hcond
        obtain ⟨hsz, hf⟩ := hcond
        split at h
        · rename_i z hz
          split at h
          · rename_i x hx
            obtain ⟨⟨h0, h1, h2, h3⟩, h⟩ := h
            split at h
            rotate_left
            · rename_i f hnf
              split at h
              · rename_i hnil
                refine ⟨_, _, h, fun B F ρr w μ hI hB hr => ?_⟩
                have hrn := hr n (mem_ops hops (by simp))
                have hrc := hr c (mem_ops hops (by simp))
                rw [hn] at hrn
                rw [hc] at hrc
                have hz0 := zero_rep ⟨w, σ, μ, F⟩ z
                have hrx := decAll_rep hx hz0
                obtain ⟨hcl, hdc⟩ := decAll_cell hx
                have hzs : z.cells.size = ty.cells := by have := hrx.len; simpa using this
                have hbb : (i.bytes : Int) * b ≤ 281474976710656 := by rw [Int.mul_comm]; omega
                have hrun := run_make (P := E.P) w t e i z hu hi hz kn kc a b h0 h1 hbb (by omega)
                have kf : f < ty.cells := by rw [← hcl]; exact (List.getElem?_eq_some_iff.1 hnil).1
                have := newNest_ok (t := ty) (f := f) (xs := List.replicate a.toNat x) (C := b.toNat) (vs := madeCells z.cells (b.toNat * i.size)) hI hB hf e
                  (by simp [madeCells, hsz]) (by simp; omega) (by unfold maxLen; omega) kf (fun j y hy jj c0 hc0 => by
                    have hj := (List.getElem?_eq_some_iff.1 hy).1
                    have hj : j < a.toNat := by simpa only [List.length_replicate] using hj
                    have hyx : y = x := by
                      have h1 : (List.replicate a.toNat x)[j]? = some y := hy
                      rw [List.getElem?_replicate, if_pos hj] at h1
                      exact (Option.some.inj h1).symm
                    subst hyx
                    have hq : jj < ty.cells := by rw [← enc_len ty y]; exact (List.getElem?_eq_some_iff.1 hc0).1
                    have hjb : (j + 1) * ty.cells ≤ b.toNat * ty.cells := Nat.mul_le_mul_right _ (by omega)
                    have hj1 : (j + 1) * ty.cells = j * ty.cells + ty.cells := by rw [Nat.add_mul, Nat.one_mul]
                    have hmod : (j * ty.cells + jj) % z.cells.size = jj := by rw [hzs, Nat.mul_comm, Nat.mul_add_mod, Nat.mod_eq_of_lt (by omega)]
                    obtain ⟨cz, hcz⟩ : ∃ cz, (cellsV (cv z))[jj]? = some cz := ⟨_, List.getElem?_eq_getElem (by omega)⟩
                    obtain ⟨c1, q1, q2, _, q4⟩ := hdc jj cz hcz
                    rw [hc0] at q1
                    cases q1
                    have hzl : jj < z.cells.toList.length := by simp; omega
                    have hzr := hz0.2 jj cz _ hcz (List.getElem?_eq_getElem hzl)
                    refine ⟨z.cells.toList[jj], ?_, q2 _ _ hzr, fun hjf => ?_⟩
                    · rw [madeCells_get _ _ _ (by rw [hsz]; omega), hmod, getElem!_pos z.cells jj (by omega)]
                      simp
                    · subst hjf
                      rw [hnil] at hcz
                      cases hcz
                      obtain ⟨tin, rfl⟩ := q4 rfl
                      exact ⟨tin, rfl, hzr.nils_inv⟩)
                simp only [List.length_replicate] at this
                refine .val ?_ this
                simp only [execOp, ho, hrn.int_inv, hrc.int_inv, Sem.run_bind, hrun, Result.andThen_ok, Sem.run_pure]
              · exact h.elim
            refine ⟨_, _, h, fun B F ρr w μ hI hB hr => ?_⟩
            have hrn := hr n (mem_ops hops (by simp))
            have hrc := hr c (mem_ops hops (by simp))
            rw [hn] at hrn
            rw [hc] at hrc
            have hrx := decAll_rep hx (zero_rep ⟨w, σ, μ, F⟩ z)
            have hzs : z.cells.size = ty.cells := by have := hrx.len; simpa using this
            have hbb : (i.bytes : Int) * b ≤ 281474976710656 := by rw [Int.mul_comm]; omega
            have hrun := run_make (P := E.P) w t e i z hu hi hz kn kc a b h0 h1 hbb (by omega)
            have hpos := ty.cells_pos
            have := newArr_ok (w1 := w) (ep := 0) (t := ty) (xs := List.replicate a.toNat x) (C := b.toNat) (vs := madeCells z.cells (b.toNat * i.size)) (A := some ⟨w.heap.size, 0, none⟩) hI hB hf e rfl rfl rfl rfl
              (by simp [madeCells, hsz]) (by simp; omega) (by unfold maxLen; omega) (fun j y hy => by
                have hj := (List.getElem?_eq_some_iff.1 hy).1
                have hj : j < a.toNat := by simpa only [List.length_replicate] using hj
                have hyx : y = x := by
                  have h1 : (List.replicate a.toNat x)[j]? = some y := hy
                  rw [List.getElem?_replicate, if_pos hj] at h1
                  exact (Option.some.inj h1).symm
                subst hyx
                refine ⟨_, hrx, fun q u hu' => ?_⟩
                have hq := (List.getElem?_eq_some_iff.1 hu').1
                simp at hq
                have hjb : (j + 1) * ty.cells ≤ b.toNat * ty.cells := Nat.mul_le_mul_right _ (by omega)
                have hj1 : (j + 1) * ty.cells = j * ty.cells + ty.cells := by rw [Nat.add_mul, Nat.one_mul]
                simp only
                rw [madeCells_get _ _ _ (by rw [hsz]; omega)]
                have hmod : (j * ty.cells + q) % z.cells.size = q := by rw [hzs, Nat.mul_comm, Nat.mul_add_mod, Nat.mod_eq_of_lt (by omega)]
                rw [hmod]
                simp only [Array.getElem?_toList] at hu'
                rw [getElem!_pos z.cells q (by omega)]
                rw [Array.getElem?_eq_getElem (by omega)] at hu'
                exact hu') ⟨_, rfl, fun _ => rfl⟩
            simp only [List.length_replicate] at this
            refine .val ?_ this
            simp only [execOp, ho, hrn.int_inv, hrc.int_inv, Sem.run_bind, hrun, Result.andThen_ok, Sem.run_pure]
          · exact h.elim
        · exact h.elim
      · exact h.elim
    · exact h.elim
  · exact h.elim

/-- What a slice holds: its cells, one behind the other. -/
theorem flat_of_rows {w : World} {G : Nat → Prop} {t : Ty} : ∀ (xs : List t.den) (cell : Nat → Option Value), RowsAt w G t xs cell →
    ∃ news : List Value, news.length = xs.length * t.cells ∧ (∀ (p : Nat) u, news[p]? = some u → cell p = some u) ∧ (∀ u ∈ news, u.oneCell' = true) ∧ RowsAt w G t xs (fun p => news[p]?)
  | [], cell, _ => ⟨[], by simp, fun p u h => by simp at h, fun u h => by simp at h, fun i x h => by simp at h⟩
  | x :: xs, cell, h => by
    obtain ⟨row, r1, r2⟩ := h 0 x (by simp)
    have hl := r1.len
    obtain ⟨news, n1, n2, n3, n4⟩ := flat_of_rows xs (fun p => cell (t.cells + p)) (fun i y hy => by
      obtain ⟨rw2, q1, q2⟩ := h (i + 1) y (by simpa using hy)
      refine ⟨rw2, q1, fun j u hu => ?_⟩
      have := q2 j u hu
      rw [Nat.add_mul, Nat.one_mul] at this
      show cell (t.cells + (i * t.cells + j)) = some u
      rw [show t.cells + (i * t.cells + j) = i * t.cells + t.cells + j by omega]
      exact this)
    refine ⟨row ++ news, by simp [n1, hl, Nat.add_mul]; omega, fun p u hp => ?_, fun u hu => ?_, fun i y hy => ?_⟩
    · rcases Nat.lt_or_ge p row.length with h1 | h1
      · rw [List.getElem?_append_left h1] at hp
        have := r2 p u hp
        simpa using this
      · rw [List.getElem?_append_right h1] at hp
        have := n2 _ u hp
        rw [← this]
        congr 1
        omega
    · rcases List.mem_append.1 hu with h1 | h1
      · exact r1.one u h1
      · exact n3 u h1
    · cases i with
      | zero =>
        simp only [List.getElem?_cons_zero, Option.some.injEq] at hy
        subst hy
        refine ⟨row, r1, fun j u hu => ?_⟩
        simp only [Nat.zero_mul, Nat.zero_add]
        rw [List.getElem?_append_left (List.getElem?_eq_some_iff.1 hu).1]
        exact hu
      | succ i =>
        simp only [List.getElem?_cons_succ] at hy
        obtain ⟨rw2, q1, q2⟩ := n4 i y hy
        refine ⟨rw2, q1, fun j u hu => ?_⟩
        have := q2 j u hu
        simp only at this ⊢
        rw [List.getElem?_append_right (by rw [Nat.add_mul, Nat.one_mul]; omega), Nat.add_mul, Nat.one_mul, hl, show i * t.cells + t.cells + j - t.cells = i * t.cells + j by omega]
        exact this

/-- A slice value and what it holds. -/
def SegAt (X : Ctx) (t : Ty) (m : List t.den) (u : Value) : Prop :=
  ∃ (A : Option Addr) (cap : Nat) (news : List Value), u = .slice A m.length cap ∧ news.length = m.length * t.cells ∧ (∀ v ∈ news, v.oneCell' = true) ∧ RowsAt X.w X.G t m (fun p => news[p]?) ∧
    (∀ a, A = some a → ∀ (j : Nat) v, news[j]? = some v → X.w.cell? (a.add j) = some v) ∧ (A = none → m.length = 0)

theorem nth_sub {α : Type} {l : List α} {off m i : Nat} {x : α} (h : nth ((l.drop off).take m) i = some x) : nth l (off + i) = some x := by
  have h1 : ((l.drop off).take m)[i]? = some x := h
  rw [List.getElem?_take] at h1
  split at h1
  · rwa [List.getElem?_drop] at h1
  · cases h1

/-- The cells of an array of the store, from its block. -/
theorem arr_rows {B : Nat → Prop} {X : Ctx} (hI : Inv B X) {id ep : Nat} {t : Ty} {l : List t.den} (hg : X.σ.get id = some (.arr ep t l)) {b base C : Nat} (hm : X.μ id = some (b, base, C)) :
    ∃ cs ty, X.w.heap[b]? = some (.cells cs ty (0, 0)) ∧ base + C * t.cells = cs.size ∧ l.length ≤ C ∧ C ≤ maxLen ∧ RowsAt X.w X.G t l (fun p => cs[base + p]?) := by
  rcases hI.objs id _ hg with ⟨h, _⟩ | ⟨b', base', C', cs, ty, h1, h2, h3, h4, h5, h6⟩
  · rw [hm] at h; cases h
  · rw [hm] at h1
    cases h1
    refine ⟨cs, ty, h2, h3, h4, h5, fun i x hx => ?_⟩
    obtain ⟨row, r1, r2⟩ := h6 i x hx
    exact ⟨row, r1, fun j u hu => by simp only; rw [← Nat.add_assoc]; exact r2 j u hu⟩

theorem RowsAt.drop {w : World} {G : Nat → Prop} {t : Ty} {l : List t.den} {cell : Nat → Option Value} (h : RowsAt w G t l cell) (off m : Nat) : RowsAt w G t ((l.drop off).take m) (fun p => cell (off * t.cells + p)) := by
  intro i x hx
  obtain ⟨row, r1, r2⟩ := h (off + i) x (nth_sub hx)
  refine ⟨row, r1, fun j u hu => ?_⟩
  have := r2 j u hu
  rw [Nat.add_mul] at this
  show cell (off * t.cells + (i * t.cells + j)) = some u
  rw [← Nat.add_assoc]
  exact this

theorem seg_ok {B : Nat → Prop} {X : Ctx} (hI : Inv B X) {t : Ty} {x : V} {m : List t.den} {u : Value} (h : segV t X.σ x = some m) (hr : Rep X x u) : SegAt X t m u := by
  unfold segV at h
  split at h
  · simp only [Option.some.injEq] at h
    subst h
    exact ⟨none, 0, [], hr.nils_inv, by simp, fun u h => by simp at h, fun i x h => by simp at h, fun a h => (by cases h), fun _ => rfl⟩
  · rename_i kd t' l
    split at h
    · rename_i ht
      subst ht
      simp only [Option.some.injEq] at h
      subst h
      obtain ⟨A, cap, e, hc, _⟩ := hr.list_inv
      obtain ⟨_, hle, hcell⟩ := hc
      rcases Nat.eq_zero_or_pos l.length with h0 | h0
      · have hl : l = [] := List.eq_nil_of_length_eq_zero h0
        subst hl
        exact ⟨A, cap, [], e, by simp, fun u h => by simp at h, fun i x h => by simp at h, fun a _ j v hv => by simp at hv, fun _ => rfl⟩
      · obtain ⟨b, of, rfl, hG, hrow⟩ := hcell h0
        obtain ⟨news, n1, n2, n3, n4⟩ := flat_of_rows (w := X.w) (G := X.G) l (fun p => X.w.cell? ⟨b, of + p, none⟩) (fun i y hy => by
          obtain ⟨row, r1, r2⟩ := hrow i y hy
          exact ⟨row, r1, fun j u hu => by simp only; rw [← Nat.add_assoc]; exact r2 j u hu⟩)
        exact ⟨_, cap, news, e, n1, n3, n4, fun a ha j v hv => by cases ha; rw [Addr.add_lit]; exact n2 j v hv, fun h => by cases h⟩
    · cases h
  · rename_i id ep rng
    split at h
    · rename_i ep' t' l hg
      split at h
      · rename_i hep
        split at h
        · rename_i ht
          subst ht
          obtain ⟨A, len, cap, ep2, t2, l2, e2, hg', hle, hcur⟩ := hr.slc_inv
          rw [hg] at hg'
          cases hg'
          have hh := hcur hep
          split at h
          · simp only [Option.some.injEq] at h
            subst h
            cases hm : X.μ id with
            | none =>
              rw [hm] at hh
              simp only [Hdr] at hh
              obtain ⟨rfl, rfl, h0⟩ := hh
              have hl : l = [] := List.eq_nil_of_length_eq_zero h0
              subst hl
              exact ⟨A, 0, [], e2, by simp, fun u h => by simp at h, fun i x h => by simp at h, fun a _ j v hv => by simp at hv, fun _ => rfl⟩
            | some q =>
              obtain ⟨b, base, C⟩ := q
              rw [hm] at hh
              simp only [Hdr] at hh
              obtain ⟨rfl, rfl, hC, a, rfl, ha⟩ := hh
              obtain ⟨cs, ty, k2, k3, k4, k5, k6⟩ := arr_rows hI hg hm
              obtain ⟨news, n1, n2, n3, n4⟩ := flat_of_rows (w := X.w) (G := X.G) l _ k6
              refine ⟨_, _, news, e2, n1, n3, n4, fun a' ha' j v hv => ?_, fun h => by cases h⟩
              cases ha'
              have hj := (List.getElem?_eq_some_iff.1 hv).1
              have hpos : 0 < cap := by
                rcases Nat.eq_zero_or_pos cap with h0 | h0
                · have : l.length = 0 := by omega
                  rw [this] at n1
                  omega
                · exact h0
              rw [ha hpos, Addr.add_lit]
              have := n2 j v hv
              simp [World.cell?, k2, this]
          · rename_i off m'
            simp only [Option.some.injEq] at h
            subst h
            cases hm : X.μ id with
            | none =>
              rw [hm] at hh
              simp only [Hdr] at hh
              obtain ⟨rfl, rfl, rfl, rfl, h0⟩ := hh
              exact ⟨A, 0, [], by simpa using e2, by simp, fun u h => by simp at h, fun i x h => by simp at h, fun a _ j v hv => by simp at hv, fun _ => by simp⟩
            | some q =>
              obtain ⟨b, base, C⟩ := q
              rw [hm] at hh
              simp only [Hdr] at hh
              obtain ⟨rfl, hoff, hC, rfl, a, rfl, ha⟩ := hh
              obtain ⟨cs, ty, k2, k3, k4, k5, k6⟩ := arr_rows hI hg hm
              obtain ⟨news, n1, n2, n3, n4⟩ := flat_of_rows (w := X.w) (G := X.G) ((l.drop off).take len) _ (k6.drop off len)
              have hlen : ((l.drop off).take len).length = len := by simp; omega
              refine ⟨_, _, news, by rw [hlen]; exact e2, n1, n3, n4, fun a' ha' j v hv => ?_, fun h => by cases h⟩
              cases ha'
              have hj := (List.getElem?_eq_some_iff.1 hv).1
              have hpos : 0 < C - off := by
                rcases Nat.eq_zero_or_pos (C - off) with h0 | h0
                · rw [hlen, show len = 0 by omega] at n1
                  omega
                · exact h0
              rw [ha hpos, Addr.add_lit]
              have := n2 j v hv
              rw [Nat.add_assoc]
              simp [World.cell?, k2, this]
        · cases h
      · cases h
    · cases h
  · cases h

end
end Go.Vm
