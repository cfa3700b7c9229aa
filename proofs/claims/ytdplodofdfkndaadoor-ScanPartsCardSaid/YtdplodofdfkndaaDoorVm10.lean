/-
  The engine, part 10: append.
-/
import Derived.Test.YtdplodofdfkndaaDoorVm9
namespace Go.Vm
section
variable {P : Program} {o : Oper} {ρ : Operand → V} {σ : Store} {k : K}

theorem RowsAt.mono {w : World} {G : Nat → Prop} {t : Ty} {xs : List t.den} {cell cell' : Nat → Option Value} (h : RowsAt w G t xs cell) (hc : ∀ p u, cell p = some u → cell' p = some u) : RowsAt w G t xs cell' := by
  intro i x hx
  obtain ⟨row, r1, r2⟩ := h i x hx
  exact ⟨row, r1, fun j u hu => hc _ _ (r2 j u hu)⟩

theorem RowsAt.append {w : World} {G : Nat → Prop} {t : Ty} {xs ys : List t.den} {olds news : List Value} (h : RowsAt w G t xs (fun p => olds[p]?)) (ho : olds.length = xs.length * t.cells)
    (k : RowsAt w G t ys (fun p => news[p]?)) : RowsAt w G t (xs ++ ys) (fun p => (olds ++ news)[p]?) := by
  intro i x hx
  have hx' : (xs ++ ys)[i]? = some x := hx
  rcases Nat.lt_or_ge i xs.length with h1 | h1
  · rw [List.getElem?_append_left h1] at hx'
    obtain ⟨row, r1, r2⟩ := h i x hx'
    refine ⟨row, r1, fun j u hu => ?_⟩
    have := r2 j u hu
    simp only at this ⊢
    rw [List.getElem?_append_left (List.getElem?_eq_some_iff.1 this).1]
    exact this
  · rw [List.getElem?_append_right h1] at hx'
    obtain ⟨row, r1, r2⟩ := k _ x hx'
    refine ⟨row, r1, fun j u hu => ?_⟩
    have := r2 j u hu
    have hm : i * t.cells = xs.length * t.cells + (i - xs.length) * t.cells := by rw [← Nat.add_mul]; congr 1; omega
    simp only at this ⊢
    rw [List.getElem?_append_right (by omega), show i * t.cells + j - olds.length = (i - xs.length) * t.cells + j by omega]
    exact this

section runs
variable {t ty e : TypeId} {i : TypeInfo} {z : Value} (hu : P.underlying t = some (.slice e)) (hi : P.info? e = some i) (hz : i.zero = some z)
include hu hi

theorem append_none (w : World) (A A2 : Option Addr) (n cap c2 : Nat) (hn : n ≤ cap) :
    (Builtin.append_ #[t, t] ty #[.slice A n cap, .slice A2 0 c2]).run P w = .ok (.slice A n cap) w := by
  cases A <;> cases A2 <;> simp [Builtin.append_, run_underlying hu, sizeOf, typeInfo, hi, Builtin.lenOf, hn, Builtin.firstCells, loadCells, loadCellsFrom, storeCells]

theorem append_in (w : World) (b of n cap : Nat) (cs : Array Value) (ety : TypeId) (hg : w.heap[b]? = some (.cells cs ety (0, 0))) (a2 : Addr) (m c2 : Nat) (news : List Value) (hl : news.length = m * i.size)
    (hc : ∀ (j : Nat) v, news[j]? = some v → w.cell? (a2.add j) = some v) (h1 : ∀ u ∈ news, u.oneCell' = true) (hroom : n + m ≤ cap) (hfit : of + cap * i.size ≤ cs.size) :
    (Builtin.append_ #[t, t] ty #[.slice (some ⟨b, of, none⟩) n cap, .slice (some a2) m c2]).run P w =
      .ok (.slice (some ⟨b, of, none⟩) (n + m) cap) (w.setRow b (cs.toList.take (of + n * i.size) ++ news ++ cs.toList.drop (of + n * i.size + news.length)).toArray) := by
  have hf := run_firstCells_some (P := P) w i.size m a2 m c2 news hl hc
  have hmul : (n + m) * i.size ≤ cap * i.size := Nat.mul_le_mul_right _ hroom
  rw [Nat.add_mul] at hmul
  have hst := run_storeCells_at P b (of + n * i.size) ety news 0 cs w hg (by omega) h1
  simp only [Nat.add_zero] at hst
  simp [Builtin.append_, run_underlying hu, sizeOf, typeInfo, hi, Builtin.lenOf, hroom, hf, Addr.add_lit, hst]

include hz
theorem append_grow (w : World) (A : Option Addr) (n cap : Nat) (olds : List Value) (hlo : olds.length = n * i.size) (hco : ∀ a, A = some a → ∀ (j : Nat) v, olds[j]? = some v → w.cell? (a.add j) = some v)
    (hA : A = none → n = 0 ∧ cap = 0) (a2 : Addr) (m c2 : Nat) (news : List Value) (hl : news.length = m * i.size) (hc : ∀ (j : Nat) v, news[j]? = some v → w.cell? (a2.add j) = some v)
    (hroom : cap < n + m) (hby : (n + m) * i.bytes ≤ 140737488355328) (h63 : n + m ≤ 4611686018427387904) :
    ∃ newCap, n + m ≤ newCap ∧ newCap ≤ maxLen ∧ (Builtin.append_ #[t, t] ty #[.slice A n cap, .slice (some a2) m c2]).run P w =
      .ok (.slice (some ⟨w.heap.size, 0, none⟩) (n + m) newCap) (w.drew.alloc (.cells (olds.toArray ++ news.toArray ++ Builtin.zeroCells z.cells (newCap - (n + m))) e)) := by
  cases A with
  | none =>
    obtain ⟨rfl, rfl⟩ := hA rfl
    simp only [Nat.zero_mul] at hlo
    have hnil := List.eq_nil_of_length_eq_zero hlo
    subst hnil
    simp only [Nat.zero_add] at *
    refine ⟨grownCap w m 0 e, grownCap_ge w m 0 e, grownCap_le_maxLen w m 0 e (by unfold maxLen; omega), ?_⟩
    have := run_append_nil (P := P) w t ty e i z hu hi hz a2 m c2 news hl hc (by omega) (by omega) (by omega)
    simpa using this
  | some a =>
    exact ⟨grownCap w (n + m) cap e, grownCap_ge w (n + m) cap e, grownCap_le_maxLen w (n + m) cap e (by unfold maxLen; omega),
      run_append_grow (P := P) w t ty e i z hu hi hz a n cap olds hlo (hco a rfl) a2 m c2 news hl hc hroom (by omega) (growslice_fits hroom hby)⟩
end runs

theorem noNest {σ : Store} {id ep : Nat} {t : Ty} (hid : ∀ o', σ.get id = some o' → ∃ ep0 l0, o' = .arr ep0 t l0 ∧ ep0 < ep) : isNest (σ.get id) = false := by
  cases h : σ.get id with
  | none => rfl
  | some o' =>
    obtain ⟨_, _, rfl, _⟩ := hid _ h
    rfl

/-- An array in a new block, new or in an elder one's place. -/
theorem arrPut_ok {B : Nat → Prop} {w w1 : World} {σ : Store} {μ : Mu} {F : Fr} (hI : Inv B ⟨w, σ, μ, F⟩) (hB : ∀ b, w.heap.size ≤ b → B b) {id : Nat} (ty : TypeId) {t : Ty} {xs : List t.den} {vs : Array Value} {C ep : Nat}
    (hid : ∀ o', σ.get id = some o' → ∃ ep0 l0, o' = .arr ep0 t l0 ∧ ep0 < ep) (h1 : w1.os = w.os) (h2 : w1.tape = w.tape) (h3 : w1.output = w.output) (h4 : w1.heap = w.heap)
    (hC : C * t.cells = vs.size) (hl : xs.length ≤ C) (hm : C ≤ maxLen) (hr : RowsAt w (Ctx.G ⟨w, σ, μ, F⟩) t xs (fun p => vs[p]?)) :
    ∃ μ', Inv B ⟨w1.alloc (.cells vs ty), (id, .arr ep t xs) :: σ, μ', F⟩ ∧ Rep ⟨w1.alloc (.cells vs ty), (id, .arr ep t xs) :: σ, μ', F⟩ (.slc id ep none) (.slice (some ⟨w.heap.size, 0, none⟩) xs.length C) ∧
      Evo ⟨w, σ, μ, F⟩ ⟨w1.alloc (.cells vs ty), (id, .arr ep t xs) :: σ, μ', F⟩ := by
  have hsz : w1.heap.size = w.heap.size := by rw [h4]
  have key := put_evo hI hB (id := id) (o' := .arr ep t xs) (p' := some (w.heap.size, 0, C)) (w' := w1.alloc (.cells vs ty)) h1 h2 h3 (by simp; omega)
    (fun b hb _ => by rw [heap_alloc_old w1 _ (by rw [hsz]; exact hb), h4]) (fun q hq => .inl (by cases hq; exact Nat.le_refl _))
    (fun c hg => by obtain ⟨ep0, l0, e, _⟩ := hid _ hg; cases e)
    (fun ep1 t1 l1 hg => by obtain ⟨ep0, l0, e, hlt⟩ := hid _ hg; cases e; exact ⟨ep, xs, rfl, by omega, fun e => by omega⟩)
    (fun hE => .inr ⟨w.heap.size, 0, C, vs, ty, by simp, by rw [← hsz]; exact heap_alloc_new w1 _, by omega, hl, hm, fun i x hx => by
      obtain ⟨row, r1, r2⟩ := hr i x hx
      exact ⟨row, r1.keep hE.good, fun j u hu => by simpa using r2 j u hu⟩⟩) rfl (noNest hid)
  refine ⟨_, key.2, .slc (ep' := ep) (t := t) (l := xs) (by simp [get_cons]) (Nat.le_refl _) (fun _ => ?_), key.1⟩
  simp only [if_true, Hdr]
  exact ⟨trivial, trivial, hl, _, rfl, fun _ => rfl⟩

/-- The same where nothing is there yet to lie anywhere. -/
theorem arrNone_ok {B : Nat → Prop} {w : World} {σ : Store} {μ : Mu} {F : Fr} (hI : Inv B ⟨w, σ, μ, F⟩) (hB : ∀ b, w.heap.size ≤ b → B b) {id : Nat} {t : Ty} {ep : Nat} (hid : ∀ o', σ.get id = some o' → ∃ ep0 l0, o' = .arr ep0 t l0 ∧ ep0 < ep)
    {xs : List t.den} (hx : xs.length = 0) (A : Option Addr) :
    ∃ μ', Inv B ⟨w, (id, .arr ep t xs) :: σ, μ', F⟩ ∧ Rep ⟨w, (id, .arr ep t xs) :: σ, μ', F⟩ (.slc id ep none) (.slice A 0 0) ∧ Evo ⟨w, σ, μ, F⟩ ⟨w, (id, .arr ep t xs) :: σ, μ', F⟩ := by
  have key := put_evo hI hB (id := id) (o' := .arr ep t xs) (p' := none) (w' := w) rfl rfl rfl (Nat.le_refl _) (fun b hb _ => rfl) (fun q hq => by cases hq)
    (fun c hg => by obtain ⟨ep0, l0, e, _⟩ := hid _ hg; cases e)
    (fun ep1 t1 l1 hg => by obtain ⟨ep0, l0, e, hlt⟩ := hid _ hg; cases e; exact ⟨ep, xs, rfl, by omega, fun e => by omega⟩)
    (fun hE => .inl ⟨by simp, hx⟩) rfl (noNest hid)
  refine ⟨_, key.2, .slc (ep' := ep) (t := t) (l := xs) (by simp [get_cons]) (Nat.le_refl _) (fun _ => ?_), key.1⟩
  simp only [if_true, Hdr]
  exact ⟨trivial, trivial, hx⟩

/-- Where a slice's array may grow in place: its block, the first cell, the room. -/
def InPlace (w : World) (μ : Mu) (id : Nat) (sz n cap : Nat) (A : Option Addr) (olds : List Value) : Prop :=
  0 < cap → ∃ b of cs ety p, A = some ⟨b, of, none⟩ ∧ μ id = some p ∧ p.1 = b ∧ w.heap[b]? = some (.cells cs ety (0, 0)) ∧ of + cap * sz = cs.size ∧ olds.length = n * sz ∧ ∀ (j : Nat) v, olds[j]? = some v → cs[of + j]? = some v

/-- Append, all ways through it. -/
theorem append_core {B : Nat → Prop} {w : World} {σ : Store} {μ : Mu} {F : Fr} (hI : Inv B ⟨w, σ, μ, F⟩) (hB : ∀ b, w.heap.size ≤ b → B b) {t oty e : TypeId} {i : TypeInfo} {z : Value} (hu : P.underlying t = some (.slice e)) (hi : P.info? e = some i) (hz : i.zero = some z)
    {ty : Ty} (hsz : i.size = ty.cells) (hzs : z.cells.size = i.size) {A : Option Addr} {cap : Nat} {l m : List ty.den} {u2 : Value} {id ep : Nat} (hid : ∀ o', σ.get id = some o' → ∃ ep0 l0, o' = .arr ep0 ty l0 ∧ ep0 < ep)
    {olds : List Value} (hlo : olds.length = l.length * ty.cells) (hro : RowsAt w (Ctx.G ⟨w, σ, μ, F⟩) ty l (fun p => olds[p]?)) (hco : ∀ a, A = some a → ∀ (j : Nat) v, olds[j]? = some v → w.cell? (a.add j) = some v)
    (hA : A = none → l.length = 0 ∧ cap = 0) (hn : l.length ≤ cap) (hcm : cap ≤ maxLen) (hx : SegAt ⟨w, σ, μ, F⟩ ty m u2) (hby : (l.length + m.length) * i.bytes ≤ 140737488355328) (h63 : l.length + m.length ≤ 4611686018427387904)
    (hin : l.length + m.length ≤ cap → (l.length + m.length = 0 ∧ cap = 0) ∨ ((∃ ep0 l0, σ.get id = some (.arr ep0 ty l0)) ∧ InPlace w μ id ty.cells l.length cap A olds)) :
    ∃ u w', (Builtin.append_ #[t, t] oty #[.slice A l.length cap, u2]).run P w = .ok u w' ∧
      ∃ μ', Inv B ⟨w', (id, .arr ep ty (l ++ m)) :: σ, μ', F⟩ ∧ Rep ⟨w', (id, .arr ep ty (l ++ m)) :: σ, μ', F⟩ (.slc id ep none) u ∧ Evo ⟨w, σ, μ, F⟩ ⟨w', (id, .arr ep ty (l ++ m)) :: σ, μ', F⟩ := by
  obtain ⟨A2, c2, news, rfl, n1, n2, n3, n4, n5⟩ := hx
  have hlm : (l ++ m).length = l.length + m.length := List.length_append
  by_cases hroom : l.length + m.length ≤ cap
  · rcases hin hroom with ⟨h0, hc0⟩ | ⟨⟨ep0, l0, hex⟩, hip⟩
    · have hm0 : m.length = 0 := by omega
      have hrun := append_none (ty := oty) hu hi w A A2 l.length cap c2 hn
      rw [hm0]
      refine ⟨_, _, hrun, ?_⟩
      have hl0 : l.length = 0 := by omega
      rw [hl0, hc0]
      exact arrNone_ok hI hB hid (by omega) A
    · rcases Nat.eq_zero_or_pos cap with hc | hc
      · have hm0 : m.length = 0 := by omega
        have hrun := append_none (ty := oty) hu hi w A A2 l.length cap c2 hn
        rw [hm0]
        refine ⟨_, _, hrun, ?_⟩
        have hl0 : l.length = 0 := by omega
        rw [hl0, hc]
        exact arrNone_ok hI hB hid (by omega) A
      · obtain ⟨b, of, cs, ety, p, rfl, hmu, hp, hg, hfit, _, hcs⟩ := hip hc
        have put : ∀ (w' : World) (cs' : Array Value), w'.os = w.os → w'.tape = w.tape → w'.output = w.output → w'.heap.size = w.heap.size → (∀ k, k ≠ b → w'.heap[k]? = w.heap[k]?) → w'.heap[b]? = some (.cells cs' ety (0, 0)) → cs'.size = cs.size →
            (∀ (j : Nat) v, (olds ++ news)[j]? = some v → cs'[of + j]? = some v) →
            ∃ μ', Inv B ⟨w', (id, .arr ep ty (l ++ m)) :: σ, μ', F⟩ ∧ Rep ⟨w', (id, .arr ep ty (l ++ m)) :: σ, μ', F⟩ (.slc id ep none) (.slice (some ⟨b, of, none⟩) (l.length + m.length) cap) ∧
              Evo ⟨w, σ, μ, F⟩ ⟨w', (id, .arr ep ty (l ++ m)) :: σ, μ', F⟩ := by
          intro w' cs' e1 e2 e3 e4 e5 e6 e7 e8
          have key := put_evo hI hB (id := id) (o' := .arr ep ty (l ++ m)) (p' := some (b, of, cap)) (w' := w') e1 e2 e3 (by show w.heap.size ≤ w'.heap.size; omega)
            (fun b2 _ hne => e5 b2 (fun e => hne _ _ hex hmu (by rw [hp, e])))
            (fun q hq => .inr ⟨_, _, hex, hmu, by cases hq; exact hp⟩)
            (fun c hg' => by obtain ⟨_, _, e, _⟩ := hid _ hg'; cases e)
            (fun ep1 t1 l1 hg' => by obtain ⟨_, _, e, hlt⟩ := hid _ hg'; cases e; exact ⟨ep, _, rfl, by omega, fun e => by omega⟩)
            (fun hE => .inr ⟨b, of, cap, cs', ety, by simp, e6, by omega, by omega, hcm, fun j x hx => by
              obtain ⟨row, r1, r2⟩ := (RowsAt.append hro hlo n3) j x hx
              exact ⟨row, r1.keep hE.good, fun q v hv => by rw [Nat.add_assoc]; exact e8 _ _ (r2 q v hv)⟩⟩) rfl (noNest hid)
          refine ⟨_, key.2, .slc (ep' := ep) (t := ty) (l := l ++ m) (by simp [get_cons]) (Nat.le_refl _) (fun _ => ?_), key.1⟩
          simp only [if_true, Hdr]
          exact ⟨hlm.symm, trivial, by omega, _, rfl, fun _ => rfl⟩
        rcases Nat.eq_zero_or_pos m.length with hm0 | hm0
        · have hrun := append_none (ty := oty) hu hi w (some ⟨b, of, none⟩) A2 l.length cap c2 hn
          have hnl : news = [] := List.eq_nil_of_length_eq_zero (by rw [n1, hm0, Nat.zero_mul])
          rw [hm0]
          refine ⟨_, _, hrun, ?_⟩
          have := put w cs rfl rfl rfl rfl (fun _ _ => rfl) hg rfl (fun j v hv => by rw [hnl, List.append_nil] at hv; exact hcs j v hv)
          simpa [hm0] using this
        · cases A2 with
          | none => have := n5 rfl; omega
          | some a2 =>
            have hrun := append_in (ty := oty) hu hi w b of l.length cap cs ety hg a2 m.length c2 news (by rw [n1, hsz]) (n4 a2 rfl) n2 hroom (by rw [hsz]; omega)
            refine ⟨_, _, hrun, ?_⟩
            have hmul : (l.length + m.length) * ty.cells ≤ cap * ty.cells := Nat.mul_le_mul_right _ hroom
            rw [Nat.add_mul] at hmul
            have hfit2 : of + l.length * ty.cells + news.length ≤ cs.toList.length := by rw [n1]; simp; omega
            refine put _ _ rfl rfl rfl (by simp) (fun k hk => setRow_other w b k _ hk) (setRow_heap w b cs _ ety (0, 0) hg) ?_ (fun j v hv => ?_)
            · rw [hsz]
              simp only [List.size_toArray, List.length_append, List.length_take, List.length_drop, Array.length_toList] at hfit2 ⊢
              omega
            · rw [hsz]
              simp only [List.getElem?_toArray]
              rw [splice_get _ _ _ _ rfl hfit2]
              rcases Nat.lt_or_ge j olds.length with hj | hj
              · rw [List.getElem?_append_left hj] at hv
                rw [if_pos (by omega)]
                simpa using hcs j v hv
              · rw [List.getElem?_append_right hj] at hv
                have := (List.getElem?_eq_some_iff.1 hv).1
                rw [if_neg (by omega), if_pos (by omega), show of + j - (of + l.length * ty.cells) = j - olds.length by omega]
                exact hv
  · have hm0 : 0 < m.length := by omega
    cases A2 with
    | none => have := n5 rfl; omega
    | some a2 =>
      obtain ⟨nc, c1, c3, hrun⟩ := append_grow (ty := oty) hu hi hz w A l.length cap olds (by rw [hlo, hsz]) hco hA a2 m.length c2 news (by rw [n1, hsz]) (n4 a2 rfl) (by omega) hby h63
      refine ⟨_, _, hrun, ?_⟩
      have := arrPut_ok (w1 := w.drew) hI hB (id := id) e (t := ty) (xs := l ++ m) (C := nc) (ep := ep) (vs := olds.toArray ++ news.toArray ++ Builtin.zeroCells z.cells (nc - (l.length + m.length))) hid rfl rfl rfl rfl
        (by
          have e1 : (nc - (l.length + m.length) + (l.length + m.length)) * ty.cells = nc * ty.cells := by congr 1; omega
          simp only [Array.size_append, List.size_toArray, size_zeroCells, hlo, n1, hzs, hsz]
          rw [← e1, Nat.add_mul, Nat.add_mul]
          omega) (by omega) c3
        ((RowsAt.append hro hlo n3).mono fun p v hv => by
          have hp := (List.getElem?_eq_some_iff.1 hv).1
          rw [Array.getElem?_append_left (by simpa using hp)]
          simpa using hv)
      rw [hlm] at this
      exact this

theorem SegAt.up {X X' : Ctx} {t : Ty} {m : List t.den} {u : Value} (h : SegAt X t m u) (hw : X'.w = X.w) (hG : ∀ b, X.G b → X'.G b) : SegAt X' t m u := by
  obtain ⟨A, cap, news, h1, h2, h3, h4, h5, h6⟩ := h
  refine ⟨A, cap, news, h1, h2, h3, fun i x hx => ?_, fun a ha j v hv => by rw [hw]; exact h5 a ha j v hv, h6⟩
  obtain ⟨row, r1, r2⟩ := h4 i x hx
  exact ⟨row, r1.keep (fun b hb => ⟨hG b hb, by rw [hw]⟩), r2⟩

/-- Append to an array of one's own. -/
theorem append_arr {B : Nat → Prop} {w : World} {σ : Store} {μ : Mu} {F : Fr} (hI : Inv B ⟨w, σ, μ, F⟩) (hB : ∀ b, w.heap.size ≤ b → B b) {t oty e : TypeId} {i : TypeInfo} {z : Value} (hu : P.underlying t = some (.slice e)) (hi : P.info? e = some i) (hz : i.zero = some z)
    {ty : Ty} (hsz : i.size = ty.cells) (hzs : z.cells.size = i.size) {id ep : Nat} {l m : List ty.den} {ud u2 : Value} (hg : σ.get id = some (.arr ep ty l)) (hrd : Rep ⟨w, σ, μ, F⟩ (.slc id ep none) ud) (hseg : SegAt ⟨w, σ, μ, F⟩ ty m u2)
    (hb : (l.length + m.length) * i.bytes ≤ 140737488355328) (hl : l.length + m.length ≤ 4611686018427387904) :
    ∃ A cap u w', ud = .slice A l.length cap ∧ (Builtin.append_ #[t, t] oty #[.slice A l.length cap, u2]).run P w = .ok u w' ∧
      ∃ μ', Inv B ⟨w', (id, .arr (ep + 1) ty (l ++ m)) :: σ, μ', F⟩ ∧ Rep ⟨w', (id, .arr (ep + 1) ty (l ++ m)) :: σ, μ', F⟩ (.slc id (ep + 1) none) u ∧ Evo ⟨w, σ, μ, F⟩ ⟨w', (id, .arr (ep + 1) ty (l ++ m)) :: σ, μ', F⟩ := by
  have hsd := seg_ok (t := ty) (m := l) hI (x := .slc id ep none) (by simp [segV, hg]) hrd
  obtain ⟨A, len, cap, ep2, t2, l2, e2, hg', hle, hcur⟩ := hrd.slc_inv
  have hg2 : Store.get σ id = some (.arr ep2 t2 l2) := hg'
  rw [hg] at hg2
  cases hg2
  have hh := hcur rfl
  obtain ⟨A', cap', olds, e3, n1, n2, n3, n4, n5⟩ := hsd
  rw [e2] at e3
  simp only [Value.slice.injEq] at e3
  obtain ⟨rfl, rfl, rfl⟩ := e3
  have hcl : l.length ≤ cap ∧ cap ≤ maxLen ∧ (A = none → l.length = 0 ∧ cap = 0) ∧ (l.length + m.length ≤ cap → (l.length + m.length = 0 ∧ cap = 0) ∨ ((∃ ep0 l0, σ.get id = some (.arr ep0 ty l0)) ∧ InPlace w μ id ty.cells l.length cap A olds)) := by
    cases hmu : μ id with
    | none =>
      have hmu' : (Ctx.mk w σ μ F).μ id = none := hmu
      rw [hmu'] at hh
      simp only [Hdr] at hh
      exact ⟨by omega, by unfold maxLen; omega, fun _ => by omega, fun _ => .inl (by omega)⟩
    | some q =>
      obtain ⟨b, base, C⟩ := q
      have hmu' : (Ctx.mk w σ μ F).μ id = some (b, base, C) := hmu
      rw [hmu'] at hh
      simp only [Hdr] at hh
      obtain ⟨_, rfl, hC, a, rfl, ha⟩ := hh
      obtain ⟨cs, ety, k2, k3, k4, k5, k6⟩ := arr_rows hI hg hmu'
      refine ⟨hC, k5, fun e => (by cases e), fun _ => .inr ⟨⟨_, _, hg⟩, fun hpos => ?_⟩⟩
      have ha := ha hpos
      subst ha
      refine ⟨b, base, cs, ety, _, rfl, hmu, rfl, k2, k3, n1, fun j v hv => ?_⟩
      have := n4 _ rfl j v hv
      rw [Addr.add_lit] at this
      simpa [World.cell?, show w.heap[b]? = some (.cells cs ety (0, 0)) from k2] using this
  obtain ⟨q1, q2, q3, q4⟩ := hcl
  obtain ⟨u, w', h1, h2⟩ := append_core (P := P) (oty := oty) (A := A) (cap := cap) (l := l) (m := m) (id := id) (ep := ep + 1) (olds := olds) hI hB hu hi hz hsz hzs
    (fun o' ho' => by rw [hg] at ho'; cases ho'; exact ⟨ep, l, rfl, by omega⟩) n1 n3 n4 q3 q1 q2 hseg hb hl q4
  exact ⟨A, cap, u, w', e2, h1, h2⟩

theorem append_ok {E : Env} {t : TypeId} {d x : Operand} {c : Call} {dst : Nat} (ho : o.op = .call c) (hc : c.callee = .builtin .append) (h0 : c.args[0]? = some d) (h1 : c.args[1]? = some x) (hs : c.args.size = 2)
    (t0 : c.argTypes[0]? = some t) (t1 : c.argTypes[1]? = some t) (ts : c.argTypes.size = 2) (h : appendV E t (ρ d) (ρ x) dst σ k) : ∃ v σ', k v σ' ∧ OpOk E.P o ρ σ v σ' := by
  have two : ∀ {α : Type} (xs : Array α) (p q : α), xs[0]? = some p → xs[1]? = some q → xs.size = 2 → xs = #[p, q] := by
    intro α xs p q e0 e1 e2
    apply Array.ext (by simpa using e2)
    intro i hi _
    have hi2 : i < 2 := by omega
    match i, hi2 with
    | 0, _ => rw [Array.getElem?_eq_getElem (by omega)] at e0; simpa using e0
    | 1, _ => rw [Array.getElem?_eq_getElem (by omega)] at e1; simpa using e1
  have hargs := two _ _ _ h0 h1 hs
  have htys := two _ _ _ t0 t1 ts
  have hops : o.op.operands.toList = [d, x] := by rw [ho]; simp [Op.operands, Call.operands, hc, hargs]
  have run : ∀ (ρr : Operand → Value) (w w' : World) (u : Value), (Builtin.append_ #[t, t] o.type #[ρr d, ρr x]).run E.P w = .ok u w' → (execOp ρr o).run E.P w = .ok (.value u) w' := by
    intro ρr w w' u hr
    simp [execOp, ho, resolve, hc, invoke, builtin, hargs, htys, hr]
  unfold appendV at h
  split at h
  · rename_i e hu
    split at h
    · rename_i i ty hi hty
      split at h
      · rename_i hcond
        obtain ⟨hsz, hzz⟩ := hcond
        cases hz : i.zero with
        | none => rw [hz] at hzz; simp at hzz
        | some z =>
          rw [hz] at hzz
          have hzs : z.cells.size = i.size := by simpa using hzz
          split at h
          · rename_i m hm
            split at h
            · rename_i hd
              split at h
              · rename_i hf
                obtain ⟨⟨hb, hl⟩, h⟩ := h
                refine ⟨_, _, h, fun B F ρr w μ hI hB hr => ?_⟩
                have hrd := hr d (mem_ops hops (by simp))
                have hrx := hr x (mem_ops hops (by simp))
                rw [hd] at hrd
                have hseg := seg_ok hI hm hrx
                obtain ⟨u, w', h1, h2⟩ := append_core (P := E.P) (oty := o.type) (A := none) (cap := 0) (l := ([] : List ty.den)) (m := m) (id := dst) (ep := 0) (olds := []) hI hB hu hi hz hsz hzs
                  (fun o' ho' => by rw [isFresh_none hf] at ho'; cases ho') (by simp) (fun i x hx => by simp at hx) (fun a ha => by cases ha) (fun _ => ⟨rfl, rfl⟩) (Nat.le_refl _) (Nat.zero_le _) hseg
                  (by simpa using hb) (by simpa using hl) (fun hle => .inl ⟨by simpa using hle, rfl⟩)
                refine .val (run ρr w w' u ?_) h2
                rw [hrd.nils_inv]
                exact h1
              · exact h.elim
            · rename_i t' l hd
              split at h
              · rename_i ht
                subst ht
                split at h
                · rename_i hf
                  obtain ⟨⟨hb, hl, hne⟩, h⟩ := h
                  refine ⟨_, _, h, fun B F ρr w μ hI hB hr => ?_⟩
                  have hrd := hr d (mem_ops hops (by simp))
                  have hrx := hr x (mem_ops hops (by simp))
                  rw [hd] at hrd
                  have hseg := seg_ok hI hm hrx
                  have hsd := seg_ok (t := t') (m := l) hI (x := .list .full t' l) (by simp [segV]) hrd
                  obtain ⟨A, cap, e1, _, hfull⟩ := hrd.list_inv
                  have hcap := hfull rfl
                  subst hcap
                  obtain ⟨A', cap', olds, e2, n1, n2, n3, n4, n5⟩ := hsd
                  rw [e1] at e2
                  simp only [Value.slice.injEq, true_and] at e2
                  obtain ⟨rfl, rfl⟩ := e2
                  obtain ⟨u, w', h1, h2⟩ := append_core (P := E.P) (oty := o.type) (A := A) (cap := l.length) (l := l) (m := m) (id := dst) (ep := 0) (olds := olds) hI hB hu hi hz hsz hzs
                    (fun o' ho' => by rw [isFresh_none hf] at ho'; cases ho') n1 n3 n4 (fun hn => ⟨n5 hn, n5 hn⟩) (Nat.le_refl _) (by unfold maxLen; omega) hseg hb hl (fun hle => .inl ⟨by omega, by omega⟩)
                  refine .val (run ρr w w' u ?_) h2
                  rw [e1]
                  exact h1
                · exact h.elim
              · exact h.elim
            · rename_i id ep hd
              split at h
              · rename_i ep' t' l hg
                split at h
                · rename_i ht
                  subst ht
                  split at h
                  · rename_i hep
                    subst hep
                    obtain ⟨⟨hb, hl⟩, h⟩ := h
                    refine ⟨_, _, h, fun B F ρr w μ hI hB hr => ?_⟩
                    have hrd := hr d (mem_ops hops (by simp))
                    have hrx := hr x (mem_ops hops (by simp))
                    rw [hd] at hrd
                    have hseg := seg_ok hI hm hrx
                    have hsd := seg_ok (t := t') (m := l) hI (x := .slc id ep none) (by simp [segV, hg]) hrd
                    obtain ⟨A, len, cap, ep2, t2, l2, e2, hg', hle, hcur⟩ := hrd.slc_inv
                    have hg2 : Store.get σ id = some (.arr ep2 t2 l2) := hg'
                    rw [hg] at hg2
                    cases hg2
                    have hh := hcur rfl
                    obtain ⟨A', cap', olds, e3, n1, n2, n3, n4, n5⟩ := hsd
                    rw [e2] at e3
                    simp only [Value.slice.injEq] at e3
                    obtain ⟨rfl, rfl, rfl⟩ := e3
                    have hcl : l.length ≤ cap ∧ cap ≤ maxLen ∧ (A = none → l.length = 0 ∧ cap = 0) ∧ (l.length + m.length ≤ cap → (l.length + m.length = 0 ∧ cap = 0) ∨ ((∃ ep0 l0, σ.get id = some (.arr ep0 t' l0)) ∧ InPlace w μ id t'.cells l.length cap A olds)) := by
                      cases hmu : μ id with
                      | none =>
                        have hmu' : (Ctx.mk w σ μ F).μ id = none := hmu
                        rw [hmu'] at hh
                        simp only [Hdr] at hh
                        exact ⟨by omega, by unfold maxLen; omega, fun _ => by omega, fun _ => .inl (by omega)⟩
                      | some q =>
                        obtain ⟨b, base, C⟩ := q
                        have hmu' : (Ctx.mk w σ μ F).μ id = some (b, base, C) := hmu
                        rw [hmu'] at hh
                        simp only [Hdr] at hh
                        obtain ⟨_, rfl, hC, a, rfl, ha⟩ := hh
                        obtain ⟨cs, ety, k2, k3, k4, k5, k6⟩ := arr_rows hI hg hmu'
                        refine ⟨hC, k5, fun e => (by cases e), fun _ => .inr ⟨⟨_, _, hg⟩, fun hpos => ?_⟩⟩
                        have ha := ha hpos
                        subst ha
                        refine ⟨b, base, cs, ety, _, rfl, hmu, rfl, k2, k3, n1, fun j v hv => ?_⟩
                        have := n4 _ rfl j v hv
                        rw [Addr.add_lit] at this
                        simpa [World.cell?, show w.heap[b]? = some (.cells cs ety (0, 0)) from k2] using this
                    obtain ⟨q1, q2, q3, q4⟩ := hcl
                    obtain ⟨u, w', h1, h2⟩ := append_core (P := E.P) (oty := o.type) (A := A) (cap := cap) (l := l) (m := m) (id := id) (ep := ep + 1) (olds := olds) hI hB hu hi hz hsz hzs
                      (fun o' ho' => by rw [hg] at ho'; cases ho'; exact ⟨ep, l, rfl, by omega⟩) n1 n3 n4 q3 q1 q2 hseg hb hl q4
                    refine .val (run ρr w w' u ?_) h2
                    rw [e2]
                    exact h1
                  · exact h.elim
                · exact h.elim
              · exact h.elim
            · rename_i id ep off n hd
              split at h
              · rename_i ep' t' l hg
                split at h
                · rename_i ht
                  subst ht
                  split at h
                  · rename_i hep
                    subst hep
                    obtain ⟨⟨hoff, hb, hl⟩, h⟩ := h
                    have hdl : (List.drop off l).length = n := by simp; omega
                    have hdt : (List.drop off l).take n = List.drop off l := by rw [← hdl]; exact List.take_length
                    refine ⟨_, _, h, fun B F ρr w μ hI hB hr => ?_⟩
                    have hrd := hr d (mem_ops hops (by simp))
                    have hrx := hr x (mem_ops hops (by simp))
                    rw [hd] at hrd
                    have hseg := seg_ok hI hm hrx
                    have hsd := seg_ok (t := t') (m := List.drop off l) hI (x := .slc id ep (some (off, n))) (by simp [segV, hg, hdt]) hrd
                    obtain ⟨A, len, cap, ep2, t2, l2, e2, hg', hle, hcur⟩ := hrd.slc_inv
                    have hg2 : Store.get σ id = some (.arr ep2 t2 l2) := hg'
                    rw [hg] at hg2
                    cases hg2
                    have hh := hcur rfl
                    obtain ⟨A', cap', olds, e3, n1, n2, n3, n4, n5⟩ := hsd
                    rw [e2] at e3
                    simp only [Value.slice.injEq] at e3
                    obtain ⟨rfl, hlen, rfl⟩ := e3
                    have hcl : (List.drop off l).length ≤ cap ∧ cap ≤ maxLen ∧ (A = none → (List.drop off l).length = 0 ∧ cap = 0) ∧ ((List.drop off l).length + m.length ≤ cap → ((List.drop off l).length + m.length = 0 ∧ cap = 0) ∨
                        ((∃ ep0 l0, σ.get id = some (.arr ep0 t' l0)) ∧ InPlace w μ id t'.cells (List.drop off l).length cap A olds)) := by
                      rw [hdl]
                      cases hmu : μ id with
                      | none =>
                        have hmu' : (Ctx.mk w σ μ F).μ id = none := hmu
                        rw [hmu'] at hh
                        simp only [Hdr] at hh
                        exact ⟨by omega, by unfold maxLen; omega, fun _ => by omega, fun _ => .inl (by omega)⟩
                      | some q =>
                        obtain ⟨b, base, C⟩ := q
                        have hmu' : (Ctx.mk w σ μ F).μ id = some (b, base, C) := hmu
                        rw [hmu'] at hh
                        simp only [Hdr] at hh
                        obtain ⟨_, h2, hC, rfl, a, rfl, ha⟩ := hh
                        obtain ⟨cs, ety, k2, k3, k4, k5, k6⟩ := arr_rows hI hg hmu'
                        refine ⟨by omega, by omega, fun e => (by cases e), fun _ => .inr ⟨⟨_, _, hg⟩, fun hpos => ?_⟩⟩
                        have ha := ha hpos
                        subst ha
                        have hfit : base + off * t'.cells + (C - off) * t'.cells = cs.size := by
                          rw [← k3, Nat.add_assoc, ← Nat.add_mul]
                          congr 2
                          omega
                        refine ⟨b, base + off * t'.cells, cs, ety, _, rfl, hmu, rfl, k2, hfit, by rw [n1, hdl], fun j v hv => ?_⟩
                        have := n4 _ rfl j v hv
                        rw [Addr.add_lit] at this
                        simpa [World.cell?, show w.heap[b]? = some (.cells cs ety (0, 0)) from k2] using this
                    obtain ⟨q1, q2, q3, q4⟩ := hcl
                    obtain ⟨u, w', h1, h2⟩ := append_core (P := E.P) (oty := o.type) (A := A) (cap := cap) (l := List.drop off l) (m := m) (id := id) (ep := ep + 1) (olds := olds) hI hB hu hi hz hsz hzs
                      (fun o' ho' => by rw [hg] at ho'; cases ho'; exact ⟨ep, l, rfl, by omega⟩) n1 n3 n4 q3 q1 q2 hseg (by rw [hdl]; exact hb) (by rw [hdl]; exact hl) q4
                    refine .val (run ρr w w' u ?_) h2
                    rw [e2, hlen]
                    exact h1
                  · exact h.elim
                · exact h.elim
              · exact h.elim
            · rename_i id iv j hd
              split at h
              · rename_i iv' t' f l hg
                split at h
                · rename_i hcc
                  obtain ⟨rfl, hf⟩ := hcc
                  obtain ⟨hj, h⟩ := h
                  have h := h _ (List.getElem?_eq_getElem hj)
                  split at h
                  · rename_i tin li hen
                    split at h
                    · rename_i ht
                      subst ht
                      obtain ⟨⟨hb, hl⟩, h⟩ := h
                      refine ⟨_, _, h, fun B F ρr w μ hI hB hr => ?_⟩
                      have hrd := hr d (mem_ops hops (by simp))
                      have hrx := hr x (mem_ops hops (by simp))
                      rw [hd] at hrd
                      obtain ⟨μ1, hI1, hE1, hrd1⟩ := detach_evo (X := ⟨w, σ, μ, F⟩) hI hg hrd (isFresh_none hf) hj hen
                      have hseg := (seg_ok hI hm hrx).up (X' := ⟨w, (dst, .arr 0 tin li) :: (id, .nest (iv + 1) t' f (some j) l) :: σ, μ1, F⟩) rfl (fun b hb => (hE1.good b hb).1)
                      have hg1 : Store.get ((dst, .arr 0 tin li) :: (id, .nest (iv + 1) t' f (some j) l) :: σ) dst = some (.arr 0 tin li) := by simp [get_cons]
                      obtain ⟨A, cap, u, w', e2, h1, μ2, h2, h3, h4⟩ := append_arr (P := E.P) (oty := o.type) hI1 hB hu hi hz hsz hzs hg1 hrd1 hseg hb hl
                      refine .val (run ρr w w' u ?_) ⟨μ2, h2, h3, hE1.trans h4⟩
                      rw [e2]
                      exact h1
                    · exact h.elim
                  · exact h.elim
                · exact h.elim
              · exact h.elim
            · exact h.elim
          · exact h.elim
      · exact h.elim
    · exact h.elim
  · exact h.elim

end
end Go.Vm
