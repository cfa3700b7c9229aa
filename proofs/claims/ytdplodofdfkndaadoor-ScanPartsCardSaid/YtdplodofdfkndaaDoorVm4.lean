/-
  The engine, part 4: what the operations on values and memory do is what part 2 says of them.
-/
import Derived.Test.YtdplodofdfkndaaDoorVm3b
namespace Go.Vm

theorem cv1_rep (X : Ctx) (v : Value) : Rep X (cv1 v) v := by
  unfold cv1
  split <;> first | exact .kb | exact .int | exact .str rfl | exact .nilp | exact .nils | exact .nilm | exact .nilf | exact .nili | exact .any

theorem map_cv1_rep (X : Ctx) (cs : Array Value) : RepL X (cs.toList.map cv1) cs.toList :=
  ⟨by simp, fun j c u hc hu => by
    rw [List.getElem?_map, hu] at hc
    simp at hc
    subst hc
    exact cv1_rep X u⟩

theorem RepL.agg {X : Ctx} {cs : List V} {vs : Array Value} (h : RepL X cs vs.toList) : Rep X (.agg cs) (.agg vs) :=
  .agg (by simpa using h.1) (fun j c u hc hu => h.2 j c u hc (by simpa using hu))

theorem cv_rep (X : Ctx) (v : Value) : Rep X (cv v) v := by
  unfold cv
  split
  · exact (map_cv1_rep X _).agg
  · split
    · rename_i h
      exact .fn h.1 h.2 (fun _ _ _ h => by simp at h) (fun _ _ _ h => by simp at h)
    · exact .any
  · exact cv1_rep X v

theorem cells_rep {X : Ctx} {x : V} {v : Value} (h : Rep X x v) (hn : notAny x = true) : RepL X (cellsV x) v.cells.toList := by
  cases h
  case any => simp [notAny] at hn
  case nin => simp [notAny] at hn
  case nslc h1 h2 => exact .single (.nslc h1 h2)
  case rows f h1 h2 h3 h4 => exact .single (.rows f h1 h2 h3 h4)
  case nptr h1 h2 => exact .single (.nptr h1 h2)
  case agg h1 h2 => exact ⟨by simpa [cellsV, Value.cells] using h1, fun j c u hc hu => h2 j c u hc (by simpa [Value.cells] using hu)⟩
  case kb => exact .single .kb
  case bool => exact .single .bool
  case int => exact .single .int
  case str h => exact .single (.str h)
  case nilp => exact .single .nilp
  case nils => exact .single .nils
  case nilm => exact .single .nilm
  case nilf => exact .single .nilf
  case nili => exact .single .nili
  case errN => exact .single .errN
  case errS => exact .single .errS
  case bq h => exact .single (.bq h)
  case list h1 h2 => exact .single (.list h1 h2)
  case slc h1 h2 h3 => exact .single (.slc h1 h2 h3)
  case fptr f h1 h2 h3 => exact .single (.fptr f h1 h2 h3)
  case ptr h1 h2 => exact .single (.ptr h1 h2)
  case eptr h1 h2 h3 => exact .single (.eptr h1 h2 h3)
  case fn h1 h2 h3 h4 => exact .single (.fn h1 h2 h3 h4)
  case tuple h1 h2 => exact .single (.tuple h1 h2)
  case iface h => exact .single (.iface h)

theorem zero_rep (X : Ctx) (z : Value) : RepL X (cellsV (cv z)) z.cells.toList := by
  cases hz : cv z with
  | any =>
    cases z with
    | agg cs => simp [cv] at hz
    | _ => exact .single .any
  | nin => cases z <;> simp [cv, cv1] at hz <;> (repeat' (split at hz)) <;> simp_all
  | _ => rw [← hz]; exact cells_rep (cv_rep X z) (by rw [hz]; rfl)

theorem RepL.one {X : Ctx} {cs : List V} {vs : List Value} (h : RepL X cs vs) (ho : cs.all oneV = true) : ∀ u ∈ vs, u.oneCell' = true := by
  intro u hu
  obtain ⟨j, hj, rfl⟩ := List.getElem_of_mem hu
  have hc : cs[j]? = some (cs[j]'(by rw [← h.1]; exact hj)) := List.getElem?_eq_getElem _
  exact (h.2 j _ _ hc (List.getElem?_eq_getElem hj)).one (List.all_eq_true.1 ho _ (List.getElem_mem _))

theorem notAny_of_one {x : V} (h : (cellsV x).all oneV = true) : notAny x = true := by
  cases x <;> first | rfl | simp [cellsV, oneV] at h

/-- A variable is written over its cells. -/
theorem run_storeVar {P : Program} {t : TypeId} {n : Nat} (hn : size? P t = some n) (w : World) (b o : Nat) (ty : TypeId) (cur : Array Value) (hg : w.heap[b]? = some (.cells cur ty (0, 0))) (v : Value)
    (hl : v.cells.size = n) (h1 : ∀ u ∈ v.cells.toList, u.oneCell' = true) (hfit : o + n ≤ cur.size) :
    (storeVar t ⟨b, o, none⟩ v).run P w = .ok () (w.setRow b (cur.toList.take o ++ v.cells.toList ++ cur.toList.drop (o + n)).toArray) := by
  have h := run_storeCells_at P b o ty v.cells.toList 0 cur w hg (by simpa [hl] using hfit) h1
  simp only [Nat.add_zero, Array.length_toList, hl] at h
  simp only [storeVar, Sem.run_bind, size?_run hn, Result.andThen_ok, ne_eq, hl, not_true_eq_false, if_false, h]

theorem over_rep {X : Ctx} {cells new : List V} {vs us : List Value} (off : Nat) (h : RepL X cells vs) (k : RepL X new us) : RepL X (over cells off new) (vs.take off ++ us ++ vs.drop (off + us.length)) := by
  unfold over
  rw [k.1]
  exact ((h.take off).append k).append (h.drop _)

theorem mem_ops {o : Oper} {x : Operand} {l : List Operand} (h : o.op.operands.toList = l) (hx : x ∈ l) : x ∈ o.op.operands.toList := by rw [h]; exact hx

/-- A value out of memory that nobody changes. -/
theorem ok_pure {P : Program} {o : Oper} {ρ : Operand → V} {σ : Store} {v : V}
    (h : ∀ (X : Ctx) (ρr : Operand → Value), X.σ = σ → (∃ B, Inv B X) → (∀ x, x ∈ o.op.operands.toList → Rep X (ρ x) (ρr x)) → ∃ u, (execOp ρr o).run P X.w = .ok (.value u) X.w ∧ Rep X v u) :
    OpOk P o ρ σ v σ := by
  intro B F ρr w μ hI hB hr
  obtain ⟨u, h1, h2⟩ := h ⟨w, σ, μ, F⟩ ρr rfl ⟨B, hI⟩ hr
  exact .val h1 ⟨μ, hI, h2, Evo.refl _⟩

/-! What a value must be that an abstract one stands for. -/
section
variable {X : Ctx} {u : Value}
theorem Rep.int_inv {k : IntKind} {n : Int} (h : Rep X (.int k n) u) : u = .int k n := by cases h; rfl
theorem Rep.kb_inv {b : Bool} (h : Rep X (.kb b) u) : u = .bool b := by cases h; rfl
theorem Rep.bool_inv {b : Bool} (h : Rep X (.bool b) u) : u = .bool b := by cases h; rfl
theorem Rep.str_inv {l : List UInt8} (h : Rep X (.str l) u) : ∃ s : ByteArray, u = .string s ∧ s.data.toList = l := by cases h; exact ⟨_, rfl, by assumption⟩
theorem Rep.nils_inv (h : Rep X .nils u) : u = .slice none 0 0 := by cases h; rfl
theorem Rep.nilp_inv (h : Rep X .nilp u) : u = .pointer none := by cases h; rfl
theorem Rep.nilf_inv (h : Rep X .nilf u) : u = .nilFunc := by cases h; rfl
theorem Rep.list_inv {kd : LK} {t : Ty} {l : List t.den} (h : Rep X (.list kd t l) u) : ∃ A cap, u = .slice A l.length cap ∧ RepS X.w (X.H kd) X.G t l A l.length cap ∧ (kd = .full → cap = l.length) := by
  cases h with
  | list h1 h2 =>
    have h0 := h1
    obtain ⟨rfl, _⟩ := h1
    exact ⟨_, _, rfl, h0, h2⟩
theorem Rep.fptr_inv {cells : List V} (h : Rep X (.fptr cells) u) : ∃ (b o : Nat) (f : Nat → Value), u = .pointer (some ⟨b, o, none⟩) ∧ (0 < cells.length → X.T b) ∧
    (∀ (j : Nat) c, cells[j]? = some c → X.w.cell? ⟨b, o + j, none⟩ = some (f j)) ∧ (∀ (j : Nat) c, cells[j]? = some c → Rep X c (f j)) := by
  cases h with
  | fptr f h1 h2 h3 => exact ⟨_, _, f, rfl, h1, h2, h3⟩
theorem Rep.ptr_inv {id off : Nat} (h : Rep X (.ptr id off) u) : ∃ cells b base C, u = .pointer (some ⟨b, base + off, none⟩) ∧ X.σ.get id = some (.box cells) ∧ X.μ id = some (b, base, C) := by
  cases h with
  | ptr h1 h2 => exact ⟨_, _, _, _, rfl, h1, h2⟩
theorem Rep.eptr_inv {id ep i off : Nat} (h : Rep X (.eptr id ep i off) u) : ∃ a ep' t l, u = .pointer (some a) ∧ X.σ.get id = some (.arr ep' t l) ∧ ep ≤ ep' ∧
    (ep = ep' → ∃ b base C, X.μ id = some (b, base, C) ∧ a = ⟨b, base + i * t.cells + off, none⟩) := by
  cases h with
  | eptr h1 h2 h3 => exact ⟨_, _, _, _, rfl, h1, h2, h3⟩
theorem Rep.nptr_inv {id i off : Nat} (h : Rep X (.nptr id i off) u) : ∃ iv t f h l b base C, u = .pointer (some ⟨b, base + i * t.cells + off, none⟩) ∧ X.σ.get id = some (.nest iv t f h l) ∧ X.μ id = some (b, base, C) := by
  cases h with
  | nptr h1 h2 => exact ⟨_, _, _, _, _, _, _, _, rfl, h1, h2⟩
theorem Rep.rows_inv {n : Nat} {cells : List V} (h : Rep X (.rows n cells) u) : ∃ (A : Option Addr) (len cap : Nat) (f : Nat → Value), u = .slice A len cap ∧ len * n = cells.length ∧ len ≤ cap ∧
    (0 < cells.length → ∃ b o, A = some ⟨b, o, none⟩ ∧ X.G b ∧ ∀ (j : Nat) c, cells[j]? = some c → X.w.cell? ⟨b, o + j, none⟩ = some (f j)) ∧ (∀ (j : Nat) c, cells[j]? = some c → Rep X c (f j)) := by
  cases h with
  | rows f h1 h2 h3 h4 => exact ⟨_, _, _, f, rfl, h1, h2, h3, h4⟩
/-- Rows, seen from elsewhere. -/
theorem Rep.rows_re {X' : Ctx} {n : Nat} {cells cs : List V} (h : Rep X (.rows n cells) u) (hl : ∀ us, RepL X cells us → RepL X' cs us) (hG : ∀ b, X.G b → X'.G b ∧ X'.w.heap[b]? = X.w.heap[b]?) : Rep X' (.rows n cs) u := by
  obtain ⟨A, len, cap, f, rfl, h1, h2, h3, h4⟩ := h.rows_inv
  have hr := hl ((List.range cells.length).map f) ⟨by simp, fun j c x hj hx => by
    simp only [List.getElem?_map, Option.map_eq_some_iff] at hx
    obtain ⟨a, ha, rfl⟩ := hx
    obtain ⟨q1, q2⟩ := List.getElem?_eq_some_iff.1 ha
    simp at q2
    subst q2
    exact h4 _ c hj⟩
  have hlen : cs.length = cells.length := by have := hr.1; simp at this; omega
  have get : ∀ {j : Nat} {c : V}, cs[j]? = some c → j < cells.length ∧ Rep X' c (f j) := by
    intro j c hj
    have hj' : j < cells.length := by rw [← hlen]; exact (List.getElem?_eq_some_iff.1 hj).1
    refine ⟨hj', hr.2 j c (f j) hj ?_⟩
    simp [hj']
  refine .rows f (by rw [hlen]; exact h1) h2 (fun h0 => ?_) (fun j c hj => (get hj).2)
  obtain ⟨b, o, e, hb, hc⟩ := h3 (by omega)
  refine ⟨b, o, e, (hG b hb).1, fun j c hj => ?_⟩
  rw [cell_same (hG b hb).2]
  exact hc j _ (List.getElem?_eq_getElem (get hj).1)
theorem Rep.nslc_inv {id : Nat} (h : Rep X (.nslc id) u) : ∃ A len cap iv t f h l, u = .slice A len cap ∧ X.σ.get id = some (.nest iv t f h l) ∧ Hdr (X.μ id) t l.length none A len cap := by
  cases h with
  | nslc h1 h2 => exact ⟨_, _, _, _, _, _, _, _, rfl, h1, h2⟩
theorem Rep.nin_inv {id iv i : Nat} {t : Ty} {f : Nat} {h : Option Nat} {l : List t.den} (hr : Rep X (.nin id iv i) u) (hg : X.σ.get id = some (.nest iv t f h l)) : (i < l.length ∧ h ≠ some i) ∧ ∃ p, X.μ id = some p ∧ hcell X.w p t f i = some u := by
  cases hr with
  | nin h1 h2 h3 =>
    rw [hg] at h1
    cases h1
    obtain ⟨q1, q2, q3⟩ := h3 rfl
    exact ⟨⟨q1, q2⟩, q3⟩
theorem Rep.slc_inv {id ep : Nat} {rng : Option (Nat × Nat)} (h : Rep X (.slc id ep rng) u) : ∃ A len cap ep' t l, u = .slice A len cap ∧ X.σ.get id = some (.arr ep' t l) ∧ ep ≤ ep' ∧
    (ep = ep' → Hdr (X.μ id) t l.length rng A len cap) := by
  cases h with
  | slc h1 h2 h3 => exact ⟨_, _, _, _, _, _, rfl, h1, h2, h3⟩
theorem Rep.agg_inv {cs : List V} (h : Rep X (.agg cs) u) : ∃ vs : Array Value, u = .agg vs ∧ RepL X cs vs.toList := by
  cases h with
  | agg h1 h2 => exact ⟨_, rfl, by simpa using h1, fun j c u hc hu => h2 j c u hc (by simpa using hu)⟩
theorem Rep.tuple_inv {cs : List V} (h : Rep X (.tuple cs) u) : ∃ vs : Array Value, u = .tuple vs ∧ RepL X cs vs.toList := by
  cases h with
  | tuple h1 h2 => exact ⟨_, rfl, by simpa using h1, fun j c u hc hu => h2 j c u hc (by simpa using hu)⟩
theorem Rep.fn_inv {f : Fn} {a b : List V} (h : Rep X (.fn f a b) u) : ∃ vs ws : Array Value, u = .func f vs ws ∧ RepL X a vs.toList ∧ RepL X b ws.toList := by
  cases h with
  | fn h1 h2 h3 h4 => exact ⟨_, _, rfl, ⟨by simpa using h1, fun j c u hc hu => h3 j c u hc (by simpa using hu)⟩, ⟨by simpa using h2, fun j c u hc hu => h4 j c u hc (by simpa using hu)⟩⟩
end

theorem load_ok {P : Program} {o : Oper} {t : TypeId} {a : Operand} (ho : o.op = .load t a) {ρ : Operand → V} {σ : Store} {k : K} (h : loadV P t (ρ a) σ k) :
    ∃ v σ', k v σ' ∧ OpOk P o ρ σ v σ' := by
  have hops : o.op.operands.toList = [a] := by rw [ho]; rfl
  have run : ∀ (ρr : Operand → Value) (w : World) (ad : Addr) (u : Value), ρr a = .pointer (some ad) → (loadVar t ad).run P w = .ok u w → (execOp ρr o).run P w = .ok (.value u) w := by
    intro ρr w ad u h1 h2
    simp [execOp, ho, h1, Instr.loadAt, Instr.sureAddr, h2]
  unfold loadV at h
  split at h
  · rename_i g n hg hn
    split at h
    · rename_i cells ha
      split at h
      · rename_i v hv
        refine ⟨v, σ, h, ok_pure fun X ρr _ _ hr => ?_⟩
        have hra := hr a (mem_ops hops (by simp))
        rw [ha] at hra
        obtain ⟨b, o', f, e, _, hc, hrc⟩ := hra.fptr_inv
        obtain ⟨u', h1, h2⟩ := load_core (X := X) hg hn hv (b := b) (o := o') f hc hrc
        exact ⟨u', run ρr X.w _ u' e h1, h2⟩
      · exact h.elim
    · rename_i id off ha
      split at h
      · rename_i cells hget
        split at h
        · rename_i v hv
          refine ⟨v, σ, h, ok_pure fun X ρr hσ hI hr => ?_⟩
          have hra := hr a (mem_ops hops (by simp))
          rw [ha] at hra
          obtain ⟨cells', b, base, C, e, hg', hm⟩ := hra.ptr_inv
          obtain ⟨B, hI⟩ := hI
          subst hσ
          rw [hget] at hg'
          cases hg'
          obtain ⟨b', cs, ty, k1, k2, k3⟩ := hI.objs id _ hget
          rw [hm] at k1
          cases k1
          obtain ⟨u', h1, h2⟩ := load_core (X := X) hg hn hv (b := b) (o := 0) (fun j => cs.getD j undef)
            (fun j c hj => by
              have hlt : j < cs.toList.length := by rw [k3.1]; exact (List.getElem?_eq_some_iff.1 hj).1
              simp at hlt
              simp [World.cell?, k2, hlt])
            (fun j c hj => by
              have hlt : j < cs.toList.length := by rw [k3.1]; exact (List.getElem?_eq_some_iff.1 hj).1
              have := k3.2 j c _ hj (List.getElem?_eq_getElem hlt)
              simp at hlt
              simpa [hlt] using this)
          exact ⟨u', run ρr X.w _ u' e h1, h2⟩
        · exact h.elim
      · exact h.elim
    · rename_i id ep i off ha
      split at h
      · rename_i ep' t' l hget
        split at h
        · rename_i hep
          obtain ⟨hi, h⟩ := h
          have hx : nth l i = some (l[i]'hi) := List.getElem?_eq_getElem hi
          have h := h _ hx
          generalize l[i]'hi = x at hx h
          split at h
          · rename_i v hv
            refine ⟨v, σ, h, ok_pure fun X ρr hσ hI hr => ?_⟩
            have hra := hr a (mem_ops hops (by simp))
            rw [ha] at hra
            obtain ⟨ad, ep2, t2, l2, e, hg', _, hcur⟩ := hra.eptr_inv
            obtain ⟨B, hI⟩ := hI
            subst hσ
            rw [hget] at hg'
            cases hg'
            obtain ⟨b, base, C, hm, rfl⟩ := hcur hep
            have hob := hI.objs id _ hget
            rcases hob with ⟨k1, _⟩ | ⟨b', base', C', cs, ty, k1, k2, k3, k4, k5, k6⟩
            · rw [hm] at k1; cases k1
            · rw [hm] at k1
              cases k1
              obtain ⟨row, r1, r2⟩ := k6 i x hx
              have hrow := enc_rep (X := X) r1
              obtain ⟨u', h1, h2⟩ := load_core (X := X) hg hn hv (b := b) (o := base + i * t'.cells) (fun j => row.getD j undef)
                (fun j c hj => by
                  have hlt : j < row.length := by rw [hrow.1]; exact (List.getElem?_eq_some_iff.1 hj).1
                  have := r2 j _ (List.getElem?_eq_getElem hlt)
                  simp [World.cell?, k2, this, hlt])
                (fun j c hj => by
                  have hlt : j < row.length := by rw [hrow.1]; exact (List.getElem?_eq_some_iff.1 hj).1
                  have := hrow.2 j c _ hj (List.getElem?_eq_getElem hlt)
                  simpa [hlt] using this)
              exact ⟨u', run ρr X.w _ u' e h1, h2⟩
          · exact h.elim
        · exact h.elim
      · exact h.elim
    · rename_i id i off ha
      split at h
      · rename_i iv t' f l hget
        obtain ⟨hi, h⟩ := h
        have hx : nth l i = some (l[i]'hi) := List.getElem?_eq_getElem hi
        have h := h _ hx
        split at h
        · rename_i v hv
          refine ⟨v, σ, h, ok_pure fun X ρr hσ hI hr => ?_⟩
          have hra := hr a (mem_ops hops (by simp))
          rw [ha] at hra
          obtain ⟨B, hI⟩ := hI
          subst hσ
          obtain ⟨iv2, t2, f2, h2, l2, b, base, C, e, hg', hm⟩ := hra.nptr_inv
          rw [hget] at hg'
          cases hg'
          obtain ⟨b', base', C', cs, ty, k1, k2, k3, k4, k5, kf, k6, k7, k8⟩ := hI.objs id _ hget
          rw [hm] at k1
          cases k1
          have hcell : ∀ (j : Nat) c, ((enc t' l[i]).set f (.nin id iv i))[j]? = some c → ∃ u, cs[base + i * t'.cells + j]? = some u ∧ Rep X c u := by
            intro j c hj
            have hlt : j < t'.cells := by have := (List.getElem?_eq_some_iff.1 hj).1; simpa [enc_len] using this
            obtain ⟨c0, hc0⟩ := enc_get (x := l[i]) hlt
            obtain ⟨u, q1, q2, q3⟩ := k6 i _ hx j c0 hc0
            refine ⟨u, q1, ?_⟩
            by_cases hjf : j = f
            · subst hjf
              rw [List.getElem?_set_self (by rw [enc_len]; exact kf)] at hj
              cases hj
              exact .nin hget (Nat.le_refl _) (fun _ => ⟨hi, by simp, _, hm, hcell_of k2 q1⟩)
            · rw [List.getElem?_set_ne (fun e => hjf e.symm), hc0] at hj
              cases hj
              exact q2 hjf
          obtain ⟨u', h1, h2⟩ := load_core (X := X) hg hn hv (b := b) (o := base + i * t'.cells) (fun j => cs.getD (base + i * t'.cells + j) undef)
            (fun j c hj => by
              obtain ⟨u, q1, _⟩ := hcell j c hj
              simp [World.cell?, k2, q1])
            (fun j c hj => by
              obtain ⟨u, q1, q2⟩ := hcell j c hj
              rw [show cs.getD (base + i * t'.cells + j) undef = u by simp [Array.getD_eq_getD_getElem?, q1]]
              exact q2)
          exact ⟨u', run ρr X.w _ u' e h1, h2⟩
        · exact h.elim
      · exact h.elim
    · exact h.elim
  · exact h.elim

theorem splice_get {α : Type} (cs vs : List α) (o n : Nat) (hn : vs.length = n) (hfit : o + n ≤ cs.length) (p : Nat) :
    (cs.take o ++ vs ++ cs.drop (o + n))[p]? = if p < o then cs[p]? else if p < o + n then vs[p - o]? else cs[p]? := by
  have ht : (cs.take o).length = o := by simp; omega
  by_cases h1 : p < o
  · rw [if_pos h1, List.append_assoc, List.getElem?_append_left (by omega), List.getElem?_take, if_pos h1]
  · rw [if_neg h1, List.append_assoc, List.getElem?_append_right (by omega), ht]
    by_cases h2 : p < o + n
    · rw [if_pos h2, List.getElem?_append_left (by omega)]
    · rw [if_neg h2, List.getElem?_append_right (by omega), hn, List.getElem?_drop]
      congr 1
      omega

/-- A row of a nest is written over. -/
theorem nest_put {B : Nat → Prop} {X : Ctx} (hI : Inv B X) (hB : ∀ b, X.w.heap.size ≤ b → B b) {id iv : Nat} {t : Ty} {f : Nat} {h : Option Nat} {l : List t.den} (hg : X.σ.get id = some (.nest iv t f h l)) {b base C : Nat} (hm : X.μ id = some (b, base, C))
    {i : Nat} (hi : i < l.length) (hh : h = none ∨ h = some i) {z : t.den} {arr cs : Array Value} {ty : TypeId} (hb : X.w.heap[b]? = some (.cells cs ty (0, 0))) (hasz : arr.size = cs.size)
    (hother : ∀ j jj, j ≠ i → jj < t.cells → arr[base + j * t.cells + jj]? = cs[base + j * t.cells + jj]?)
    (hrow : ∀ (j : Nat) c, (enc t z)[j]? = some c → ∃ u, arr[base + i * t.cells + j]? = some u ∧ (j ≠ f → Rep X c u)) {h' : Option Nat}
    (hh' : h' = some i ∨ (h' = none ∧ ∃ u c, arr[base + i * t.cells + f]? = some u ∧ (enc t z)[f]? = some c ∧ RepH X.w X.G c u ∧ ∀ b', hblk u = some b' → h = none ∧ cs[base + i * t.cells + f]? = some u)) :
    Evo X ⟨X.w.setRow b arr, (id, .nest (iv + 1) t f h' (l.set i z)) :: X.σ, fun k => if k = id then X.μ id else X.μ k, X.F⟩ ∧
      Inv B ⟨X.w.setRow b arr, (id, .nest (iv + 1) t f h' (l.set i z)) :: X.σ, fun k => if k = id then X.μ id else X.μ k, X.F⟩ := by
  obtain ⟨b', base', C', cs', ty', k1, k2, k3, k4, k5, kf, k6, k7, k8⟩ := hI.objs id _ hg
  rw [hm] at k1
  cases k1
  rw [hb] at k2
  cases k2
  have hnew : (X.w.setRow b arr).heap[b]? = some (.cells arr ty (0, 0)) := setRow_heap X.w b cs _ ty (0, 0) hb
  have oth : ∀ {j : Nat}, h' ≠ some j → j ≠ i → h ≠ some j := by
    intro j _ hji e
    rcases hh with rfl | rfl
    · cases e
    · exact hji (Option.some.inj e).symm
  have cell' : ∀ {j : Nat} {v : Value}, hcell (X.w.setRow b arr) (b, base, C) t f j = some v → arr[base + j * t.cells + f]? = some v := by
    intro j v hv
    simpa [hcell, World.cell?, hnew] using hv
  -- a header behind, and ahead
  have hdr : ∀ {j : Nat} {v : Value} {b' : Nat}, j < l.length → h' ≠ some j → hcell (X.w.setRow b arr) (b, base, C) t f j = some v → hblk v = some b' → h ≠ some j ∧ hcell X.w (b, base, C) t f j = some v := by
    intro j v b' hj hn hv hbv
    have hv := cell' hv
    by_cases hji : j = i
    · subst hji
      rcases hh' with e | ⟨_, u, c, q1, q2, q3, q4⟩
      · exact absurd e hn
      · rw [q1] at hv
        cases hv
        obtain ⟨e1, e2⟩ := q4 b' hbv
        exact ⟨by rw [e1]; simp, hcell_of hb e2⟩
    · rw [hother j f hji kf] at hv
      exact ⟨oth hn hji, hcell_of hb hv⟩
  refine put_evoG hI hB (o' := .nest (iv + 1) t f h' (l.set i z)) (p' := X.μ id) (w' := X.w.setRow b arr) rfl rfl rfl (by simp) (fun b2 _ hk => setRow_other X.w b b2 arr (fun e => hk _ hg ⟨_, hm, .inl e.symm⟩)) (fun b2 hk => ?_)
    (fun c hc => by rw [hg] at hc; cases hc) (fun ep t2 l2 hc => by rw [hg] at hc; cases hc)
    (fun iv2 t2 f2 h2 l2 hc => by rw [hg] at hc; cases hc; exact ⟨_, _, _, rfl, Nat.le_succ _, rfl, List.length_set, fun e => by omega⟩) (fun hE => ?_)
  · obtain ⟨p, hp, hk⟩ := hk
    have hp : X.μ id = some p := by simpa using hp
    rw [hm] at hp
    cases hp
    refine .inr ⟨_, hg, _, hm, ?_⟩
    rcases hk with hk | ⟨j, v, q1, q2, q3, q4⟩
    · exact .inl hk
    · rw [List.length_set] at q1
      obtain ⟨e1, e2⟩ := hdr q1 q2 q3 q4
      exact .inr ⟨j, v, q1, e1, e2, q4⟩
  · refine ⟨b, base, C, arr, ty, by simpa using hm, hnew, by rw [hasz]; exact k3, by rw [List.length_set]; exact k4, k5, kf, fun j x hx jj c hc => ?_, fun a1 a2 v1 v2 b' q1 q2 q3 q4 q5 q6 q7 q8 => ?_, fun a v q1 q2 q3 q4 => ?_⟩
    · by_cases hji : j = i
      · subst hji
        have hxz : x = z := by
          have : (List.set l j z)[j]? = some z := by simp [hi]
          exact (Option.some.inj (this.symm.trans hx)).symm
        subst hxz
        obtain ⟨u, r1, r2⟩ := hrow jj c hc
        refine ⟨u, r1, fun hj => (r2 hj).dat hE.good (enc_dat (List.mem_of_getElem? hc)), fun hj hn => ?_⟩
        subst hj
        rcases hh' with e | ⟨_, u', c', q1, q2, q3, q4⟩
        · exact absurd e hn
        · rw [r1] at q1
          cases q1
          rw [hc] at q2
          cases q2
          refine q3.keep hE.good (fun b2 hb2 => setRow_other X.w b b2 arr (fun e => ?_))
          obtain ⟨e1, e2⟩ := q4 b2 hb2
          subst e
          exact k8 j u hi (by rw [e1]; simp) (hcell_of hb e2) hb2
      · have hx' : l[j]? = some x := by
          have : (List.set l i z)[j]? = l[j]? := List.getElem?_set_ne (fun e => hji e.symm)
          exact this.symm.trans hx
        obtain ⟨u, r1, r2, r3⟩ := k6 j x hx' jj c hc
        have hjl : jj < t.cells := by rw [← enc_len t x]; exact (List.getElem?_eq_some_iff.1 hc).1
        refine ⟨u, by rw [hother j jj hji hjl]; exact r1, fun hj => (r2 hj).dat hE.good (enc_dat (List.mem_of_getElem? hc)), fun hj hn => ?_⟩
        subst hj
        refine (r3 rfl (oth hn hji)).keep hE.good (fun b2 hb2 => setRow_other X.w b b2 arr (fun e => ?_))
        subst e
        exact k8 j u (List.getElem?_eq_some_iff.1 hx').1 (oth hn hji) (hcell_of hb r1) hb2
    · rw [List.length_set] at q1 q2
      obtain ⟨e1, e2⟩ := hdr q1 q3 q5 q7
      obtain ⟨e3, e4⟩ := hdr q2 q4 q6 q8
      exact k7 a1 a2 v1 v2 b' q1 q2 e1 e3 e2 e4 q7 q8
    · rw [List.length_set] at q1
      obtain ⟨e1, e2⟩ := hdr q1 q2 q3 q4
      exact k8 a v q1 e1 e2 q4

theorem holeIs_or {h : Option Nat} {i : Nat} (hh : holeIs h i) : h = none ∨ h = some i := by
  cases h with
  | none => exact .inl rfl
  | some j => have hh : i = j := hh; exact .inr (by rw [hh])

theorem get_set_ne {cells : List V} {f j : Nat} {c : V} (h : j ≠ f) : (cells.set f c)[j]? = cells[j]? := List.getElem?_set_ne (fun e => h e.symm)

theorem over_get (cells new : List V) (off : Nat) (hfit : off + new.length ≤ cells.length) (p : Nat) :
    (over cells off new)[p]? = if p < off then cells[p]? else if p < off + new.length then new[p - off]? else cells[p]? := splice_get cells new off new.length rfl hfit p

theorem storeN_ok {P : Program} {o : Oper} {t : TypeId} {a x : Operand} (ho : o.op = .store t a x) {ρ : Operand → V} {σ : Store} {k : K} {n id i off : Nat} (hn : size? P t = some n) (ha : ρ a = .nptr id i off)
    (hcl : (cellsV (ρ x)).length = n) (hone : (cellsV (ρ x)).all oneV = true) (h : storeN id i off n (cellsV (ρ x)) σ k) : ∃ v σ', k v σ' ∧ OpOk P o ρ σ v σ' := by
  have hops : o.op.operands.toList = [a, x] := by rw [ho]; rfl
  have run : ∀ (ρr : Operand → Value) (w w' : World) (ad : Addr), ρr a = .pointer (some ad) → (storeVar t ad (ρr x)).run P w = .ok () w' → (execOp ρr o).run P w = .ok .skip w' := by
    intro ρr w w' ad h1 h2
    simp [execOp, ho, h1, Instr.storeAt, Instr.sureAddr, h2]
  unfold storeN at h
  split at h
  · rename_i iv t' f hl l hget
    split at h
    · rename_i hfit0
      -- what memory does
      have phys : ∀ {B : Nat → Prop} {F : Fr} {ρr : Operand → Value} {w : World} {μ : Mu}, Inv B ⟨w, σ, μ, F⟩ → (∀ y, y ∈ o.op.operands.toList → Rep ⟨w, σ, μ, F⟩ (ρ y) (ρr y)) → i < l.length →
          ∃ b base C cs ty arr, μ id = some (b, base, C) ∧ w.heap[b]? = some (.cells cs ty (0, 0)) ∧ (execOp ρr o).run P w = .ok .skip (w.setRow b arr) ∧ arr.size = cs.size ∧
            (∀ j jj, j ≠ i → jj < t'.cells → arr[base + j * t'.cells + jj]? = cs[base + j * t'.cells + jj]?) ∧
            (∀ jj, jj < t'.cells → arr[base + i * t'.cells + jj]? = if jj < off then cs[base + i * t'.cells + jj]? else if jj < off + n then (ρr x).cells.toList[jj - off]? else cs[base + i * t'.cells + jj]?) ∧
            RepL ⟨w, σ, μ, F⟩ (cellsV (ρ x)) (ρr x).cells.toList ∧ base + i * t'.cells + t'.cells ≤ cs.size := by
        intro B F ρr w μ hI hr hi
        have hra := hr a (mem_ops hops (by simp))
        rw [ha] at hra
        have hrx := cells_rep (hr x (mem_ops hops (by simp))) (notAny_of_one hone)
        obtain ⟨iv2, t2, f2, h2, l2, b, base, C, e, hg', hm⟩ := hra.nptr_inv
        have hg2 : Store.get σ id = some (.nest iv2 t2 f2 h2 l2) := hg'
        rw [hget] at hg2
        cases hg2
        obtain ⟨b', base', C', cs, ty, k1, k2, k3, k4, k5, kf, k6, k7, k8⟩ := hI.objs id _ hget
        have k1' : μ id = some (b', base', C') := k1
        have hm' : μ id = some (b, base, C) := hm
        rw [hm'] at k1'
        cases k1'
        have hvl : (ρr x).cells.size = n := by have := hrx.1; simp at this; omega
        have hvl2 : (ρr x).cells.toList.length = n := by simpa using hvl
        have hiC : i < C := by omega
        have hmul : (i + 1) * t'.cells ≤ C * t'.cells := Nat.mul_le_mul_right _ hiC
        have hmul2 : (i + 1) * t'.cells = i * t'.cells + t'.cells := by rw [Nat.add_mul, Nat.one_mul]
        have hfit : base + i * t'.cells + off + n ≤ cs.size := by omega
        have hst := run_storeVar (P := P) hn w b (base + i * t'.cells + off) ty cs k2 (ρr x) hvl (hrx.one hone) hfit
        generalize harr : (cs.toList.take (base + i * t'.cells + off) ++ (ρr x).cells.toList ++ cs.toList.drop (base + i * t'.cells + off + n)).toArray = arr at hst
        have harr2 : ∀ p : Nat, arr[p]? = if p < base + i * t'.cells + off then cs[p]? else if p < base + i * t'.cells + off + n then (ρr x).cells.toList[p - (base + i * t'.cells + off)]? else cs[p]? := by
          intro p
          have := splice_get cs.toList (ρr x).cells.toList (base + i * t'.cells + off) n hvl2 (by simpa using hfit) p
          rw [← harr]
          simpa using this
        refine ⟨b, base, C, cs, ty, arr, hm', k2, run ρr w _ _ e hst, by rw [← harr]; simp; omega, fun j jj hj hjj => ?_, fun jj hjj => ?_, hrx, by omega⟩
        · rw [harr2]
          rcases Nat.lt_or_gt_of_ne hj with h3 | h3
          · have h4 : (j + 1) * t'.cells ≤ i * t'.cells := Nat.mul_le_mul_right _ h3
            have h5 : (j + 1) * t'.cells = j * t'.cells + t'.cells := by rw [Nat.add_mul, Nat.one_mul]
            rw [if_pos (by omega)]
          · have h4 : (i + 1) * t'.cells ≤ j * t'.cells := Nat.mul_le_mul_right _ h3
            rw [if_neg (by omega), if_neg (by omega)]
        · rw [harr2]
          by_cases h1 : jj < off
          · rw [if_pos (by omega), if_pos h1]
          · rw [if_neg (by omega), if_neg h1]
            by_cases h2 : jj < off + n
            · rw [if_pos (by omega), if_pos h2]
              congr 1
              omega
            · rw [if_neg (by omega), if_neg h2]
      -- the cells of the row, but for the list's
      have rows : ∀ {B : Nat → Prop} {F : Fr} {ρr : Operand → Value} {w : World} {μ : Mu} {b base C : Nat} {cs arr : Array Value} {ty : TypeId}, Inv B ⟨w, σ, μ, F⟩ → μ id = some (b, base, C) → w.heap[b]? = some (.cells cs ty (0, 0)) →
          RepL ⟨w, σ, μ, F⟩ (cellsV (ρ x)) (ρr x).cells.toList → (∀ jj, jj < t'.cells → arr[base + i * t'.cells + jj]? = if jj < off then cs[base + i * t'.cells + jj]? else if jj < off + n then (ρr x).cells.toList[jj - off]? else cs[base + i * t'.cells + jj]?) →
          ∀ (hi : i < l.length) (cs' : List V) (z : t'.den), decAll t' cs' = some z → (∀ jj, jj ≠ f → cs'[jj]? = (over (enc t' l[i]) off (cellsV (ρ x)))[jj]?) → base + i * t'.cells + t'.cells ≤ cs.size → arr.size = cs.size →
          ∀ (j : Nat) c, (enc t' z)[j]? = some c → ∃ u, arr[base + i * t'.cells + j]? = some u ∧ (j ≠ f → Rep ⟨w, σ, μ, F⟩ c u) := by
        intro B F ρr w μ b base C cs arr ty hI hm hb hrx harr hi cs' z hz hcs hsz hasz j c hc
        have hj : j < t'.cells := by rw [← enc_len t' z]; exact (List.getElem?_eq_some_iff.1 hc).1
        have hlt : base + i * t'.cells + j < arr.size := by omega
        refine ⟨arr[base + i * t'.cells + j], Array.getElem?_eq_getElem hlt, fun hjf => ?_⟩
        have hu : arr[base + i * t'.cells + j]? = some arr[base + i * t'.cells + j] := Array.getElem?_eq_getElem hlt
        generalize arr[base + i * t'.cells + j] = u at hu
        obtain ⟨hcl', hdc⟩ := decAll_cell hz
        obtain ⟨c0, hc0⟩ : ∃ c0, cs'[j]? = some c0 := ⟨_, List.getElem?_eq_getElem (by omega)⟩
        obtain ⟨c1, h1, h2, _, _⟩ := hdc j c0 hc0
        rw [hc] at h1
        cases h1
        refine h2 _ _ ?_
        rw [hcs j hjf, over_get _ _ _ (by rw [enc_len]; omega), hcl] at hc0
        rw [harr j hj] at hu
        obtain ⟨b', base', C', cs2, ty2, k1, k2, k3, k4, k5, kf, k6, k7, k8⟩ := hI.objs id _ hget
        have k1' : μ id = some (b', base', C') := k1
        rw [hm] at k1'
        cases k1'
        rw [show Ctx.w ⟨w, σ, μ, F⟩ = w from rfl, hb] at k2
        cases k2
        have old : (enc t' l[i])[j]? = some c0 → cs[base + i * t'.cells + j]? = some u → Rep ⟨w, σ, μ, F⟩ c0 u := by
          intro e1 e2
          obtain ⟨u', q1, q2, _⟩ := k6 i _ (List.getElem?_eq_getElem hi) j c0 e1
          rw [e2] at q1
          cases q1
          exact q2 hjf
        split at hu
        · rename_i h3
          rw [if_pos h3] at hc0
          exact old hc0 hu
        · rename_i h3
          rw [if_neg h3] at hc0
          split at hu
          · rename_i h4
            rw [if_pos h4] at hc0
            exact hrx.2 _ _ _ hc0 hu
          · rename_i h4
            rw [if_neg h4] at hc0
            exact old hc0 hu
      split at h
      · rename_i hoff
        split at h
        · rename_i hnil
          obtain ⟨⟨hi, hho⟩, h⟩ := h
          have h := h _ (List.getElem?_eq_getElem hi)
          split at h
          · rename_i z hz
            refine ⟨_, _, h, fun B F ρr w μ hI hB hr => ?_⟩
            obtain ⟨b, base, C, cs, ty, arr, hm, hb, hrun, hasz, hoth, hrow, hrx, hsz⟩ := phys hI hr hi
            have hr2 := rows (arr := arr) hI hm hb hrx hrow hi _ z hz (fun _ _ => rfl) hsz hasz
            obtain ⟨hcl', hdc⟩ := decAll_cell hz
            have kf : f < t'.cells := by omega
            have hcf : (over (enc t' l[i]) off (cellsV (ρ x)))[f]? = some .nils := by
              rw [over_get _ _ _ (by rw [enc_len]; omega), hcl, if_neg (by omega), if_pos hoff.2]
              exact hnil
            obtain ⟨c1, q1, _, _, q4⟩ := hdc f _ hcf
            obtain ⟨tin, rfl⟩ := q4 rfl
            have huf : arr[base + i * t'.cells + f]? = some (.slice none 0 0) := by
              rw [hrow f kf, if_neg (by omega), if_pos hoff.2]
              have hlt : f - off < (ρr x).cells.toList.length := by rw [hrx.1, hcl]; omega
              have := hrx.2 _ _ _ hnil (List.getElem?_eq_getElem hlt)
              rw [List.getElem?_eq_getElem hlt, this.nils_inv]
            have key := nest_put (X := ⟨w, σ, μ, F⟩) hI hB hget hm hi (holeIs_or hho) (z := z) hb hasz hoth hr2 (h' := none)
              (.inr ⟨rfl, _, _, huf, q1, ⟨tin, [], none, 0, rfl, rfl, .inl ⟨rfl, rfl⟩⟩, fun b' hb' => by simp [hblk] at hb'⟩)
            exact .skip hrun ⟨_, key.2, .any, key.1⟩
          · exact h.elim
        · rename_i id2 ep hnil
          split at h
          · rename_i ep2 tin l2 hg2
            split at h
            · rename_i hep
              subst hep
              obtain ⟨⟨hi, hho⟩, h⟩ := h
              have h := h _ (List.getElem?_eq_getElem hi)
              split at h
              · rename_i z hz
                refine ⟨_, _, h, fun B F ρr w μ hI hB hr => ?_⟩
                obtain ⟨b, base, C, cs, ty, arr, hm, hb, hrun, hasz, hoth, hrow, hrx, hsz⟩ := phys hI hr hi
                have hr2 := rows (arr := arr) hI hm hb hrx hrow hi _ z hz (fun jj hjj => get_set_ne hjj) hsz hasz
                obtain ⟨hcl', hdc⟩ := decAll_cell hz
                have kf : f < t'.cells := by omega
                have hlo : (over (enc t' l[i]) off (cellsV (ρ x))).length = t'.cells := by rw [← hcl', List.length_set]
                obtain ⟨c1, q1, _, q3, _⟩ := hdc f (.list .part tin l2) (List.getElem?_set_self (by omega))
                obtain rfl := q3 _ _ rfl
                have hlt : f - off < (ρr x).cells.toList.length := by rw [hrx.1, hcl]; omega
                have hru := hrx.2 _ _ _ hnil (List.getElem?_eq_getElem hlt)
                have huf : arr[base + i * t'.cells + f]? = some ((ρr x).cells.toList[f - off]) := by
                  rw [hrow f kf, if_neg (by omega), if_pos hoff.2, List.getElem?_eq_getElem hlt]
                generalize (ρr x).cells.toList[f - off] = u at hru huf
                have key := nest_put (X := ⟨w, σ, μ, F⟩) hI hB hget hm hi (holeIs_or hho) (z := z) hb hasz hoth hr2 (h' := some i) (.inl rfl)
                have hne : id2 ≠ id := by rintro rfl; rw [hget] at hg2; cases hg2
                have key2 := attach_evo (X := ⟨w.setRow b arr, (id, .nest (iv + 1) t' f (some i) (l.set i z)) :: σ, fun k => if k = id then μ id else μ k, F⟩) key.2 (id := id) (iv := iv + 1) (f := f) (id2 := id2) (ep2 := ep) (i := i) (l := l.set i z) (by simp [get_cons])
                  (tin := tin) (l2 := l2) (by simp only [get_cons]; rw [if_neg (fun e => hne e.symm)]; exact hg2) (p := (b, base, C)) (by simpa using hm) (u := u) (by simp [hcell, World.cell?, setRow_heap w b cs arr ty (0, 0) hb, huf])
                  (hru.evo key.1) (by simpa using hi) (by simpa using q1)
                exact .skip hrun ⟨_, key2.2, .any, key.1.trans key2.1⟩
              · exact h.elim
            · exact h.elim
          · exact h.elim
        · exact h.elim
      · rename_i hoff
        split at h
        · obtain ⟨hi, h⟩ := h
          have h := h _ (List.getElem?_eq_getElem hi)
          split at h
          · rename_i z hz
            refine ⟨_, _, h, fun B F ρr w μ hI hB hr => ?_⟩
            obtain ⟨b, base, C, cs, ty, arr, hm, hb, hrun, hasz, hoth, hrow, hrx, hsz⟩ := phys hI hr hi
            have hr2 := rows (arr := arr) hI hm hb hrx hrow hi _ z hz (fun _ _ => rfl) hsz hasz
            obtain ⟨hcl', hdc⟩ := decAll_cell hz
            obtain ⟨b', base', C', cs2, ty2, k1, k2, k3, k4, k5, kf, k6, k7, k8⟩ := hI.objs id _ hget
            have k1' : μ id = some (b', base', C') := k1
            rw [hm] at k1'
            cases k1'
            rw [show Ctx.w ⟨w, σ, μ, F⟩ = w from rfl, hb] at k2
            cases k2
            obtain ⟨c, hc⟩ := enc_get (x := l[i]) kf
            obtain ⟨u, r1, _, r3⟩ := k6 i _ (List.getElem?_eq_getElem hi) f c hc
            have hH := r3 rfl (by simp)
            have hcf : (over (enc t' l[i]) off (cellsV (ρ x)))[f]? = some c := by
              rw [over_get _ _ _ (by rw [enc_len]; omega), hcl]
              by_cases h1 : f < off
              · rw [if_pos h1]; exact hc
              · rw [if_neg h1, if_neg (by omega)]; exact hc
            obtain ⟨c1, q1, _, q3, _⟩ := hdc f c hcf
            have huf : arr[base + i * t'.cells + f]? = cs[base + i * t'.cells + f]? := by
              rw [hrow f kf]
              by_cases h1 : f < off
              · rw [if_pos h1]
              · rw [if_neg h1, if_neg (by omega)]
            obtain ⟨tin, li, A, cap, rfl, rfl, hH2⟩ := hH
            obtain rfl := q3 _ _ rfl
            have key := nest_put (X := ⟨w, σ, μ, F⟩) hI hB hget hm hi (.inl rfl) (z := z) hb hasz hoth hr2 (h' := none)
              (.inr ⟨rfl, _, _, huf.trans r1, q1, ⟨tin, li, A, cap, rfl, rfl, hH2⟩, fun b' hb' => ⟨rfl, r1⟩⟩)
            exact .skip hrun ⟨_, key.2, .any, key.1⟩
          · exact h.elim
        · exact h.elim
    · exact h.elim
  · exact h.elim

theorem store_ok {P : Program} {o : Oper} {t : TypeId} {a x : Operand} (ho : o.op = .store t a x) {ρ : Operand → V} {σ : Store} {k : K} (h : storeV P t (ρ a) (ρ x) σ k) :
    ∃ v σ', k v σ' ∧ OpOk P o ρ σ v σ' := by
  have hops : o.op.operands.toList = [a, x] := by rw [ho]; rfl
  have run : ∀ (ρr : Operand → Value) (w w' : World) (ad : Addr), ρr a = .pointer (some ad) → (storeVar t ad (ρr x)).run P w = .ok () w' → (execOp ρr o).run P w = .ok .skip w' := by
    intro ρr w w' ad h1 h2
    simp [execOp, ho, h1, Instr.storeAt, Instr.sureAddr, h2]
  unfold storeV at h
  split at h
  · rename_i n hn
    split at h
    · rename_i hc
      obtain ⟨hcl, hone⟩ := hc
      split at h
      · rename_i id off ha
        split at h
        · rename_i cells hget
          split at h
          · rename_i hfit
            refine ⟨_, _, h, fun B F ρr w μ hI hB hr => ?_⟩
            have hra := hr a (mem_ops hops (by simp))
            rw [ha] at hra
            have hrx := cells_rep (hr x (mem_ops hops (by simp))) (notAny_of_one hone)
            obtain ⟨cells', b, base, C, e, hg', hm⟩ := hra.ptr_inv
            have hg2 : Store.get σ id = some (.box cells') := hg'
            rw [hget] at hg2
            cases hg2
            obtain ⟨b', cs, ty, k1, k2, k3⟩ := hI.objs id _ hget
            have k1' : μ id = some (b', 0, 1) := k1
            have hm' : μ id = some (b, base, C) := hm
            rw [hm'] at k1'
            cases k1'
            have hvl : (ρr x).cells.size = n := by have := hrx.1; simp at this; omega
            have hfit2 : 0 + off + n ≤ cs.size := by have := k3.1; simp at this; omega
            have hst := run_storeVar (P := P) hn w b (0 + off) ty cs k2 (ρr x) hvl (hrx.one hone) hfit2
            generalize harr : (cs.toList.take (0 + off) ++ (ρr x).cells.toList ++ cs.toList.drop (0 + off + n)).toArray = arr at hst
            have key := put_evo hI hB (id := id) (o' := .box (over cells off (cellsV (ρ x)))) (p' := μ id) (w' := w.setRow b arr) rfl rfl rfl (by simp)
              (fun b2 _ hne => setRow_other w b b2 arr (fun e => hne _ _ hget hm' e.symm))
              (fun q hq => .inr ⟨_, _, hget, hm', by rw [hm'] at hq; cases hq; rfl⟩)
              (fun c _ => ⟨⟨_, rfl⟩, rfl⟩)
              (fun ep t l hg => by have hg3 : Store.get σ id = some (.arr ep t l) := hg; rw [hget] at hg3; cases hg3)
              (fun hE => ⟨b, _, ty, by simpa using hm', setRow_heap w b cs _ ty (0, 0) k2, by
                have h1 := over_rep (X := ⟨w, σ, μ, F⟩) off k3 hrx
                have h2 : (ρr x).cells.toList.length = n := by simpa using hvl
                rw [h2] at h1
                have h3 : arr.toList = cs.toList.take off ++ (ρr x).cells.toList ++ cs.toList.drop (off + n) := by rw [← harr]; simp
                rw [h3]
                exact h1.evo hE⟩)
            exact .skip (run ρr w _ _ e hst) ⟨_, key.2, .any, key.1⟩
          · exact h.elim
        · exact h.elim
      · rename_i id ep i off ha
        split at h
        · rename_i ep' t' l hget
          split at h
          · rename_i hep
            obtain ⟨hep, hin⟩ := hep
            obtain ⟨hi, h⟩ := h
            have hx : nth l i = some (l[i]'hi) := List.getElem?_eq_getElem hi
            have h := h _ hx
            generalize l[i]'hi = y at hx h
            split at h
            · rename_i z hz
              refine ⟨_, _, h, fun B F ρr w μ hI hB hr => ?_⟩
              have hra := hr a (mem_ops hops (by simp))
              rw [ha] at hra
              have hrx := cells_rep (hr x (mem_ops hops (by simp))) (notAny_of_one hone)
              obtain ⟨ad, ep2, t2, l2, e, hg', _, hcur⟩ := hra.eptr_inv
              have hg2 : Store.get σ id = some (.arr ep2 t2 l2) := hg'
              rw [hget] at hg2
              cases hg2
              obtain ⟨b, base, C, hm, rfl⟩ := hcur hep
              have hm' : μ id = some (b, base, C) := hm
              have hob := hI.objs id _ hget
              rcases hob with ⟨k1, _⟩ | ⟨b', base', C', cs, ty, k1, k2, k3, k4, k5, k6⟩
              · have k1' : μ id = none := k1
                rw [hm'] at k1'; cases k1'
              · have k1' : μ id = some (b', base', C') := k1
                rw [hm'] at k1'
                cases k1'
                obtain ⟨row, r1, r2⟩ := k6 i y hx
                have hrow := enc_rep (X := ⟨w, σ, μ, F⟩) r1
                have hvl : (ρr x).cells.size = n := by have := hrx.1; simp at this; omega
                have hvl2 : (ρr x).cells.toList.length = n := by simpa using hvl
                have hsz := r1.len
                have hiC : i < C := by omega
                have hmul : (i + 1) * t'.cells ≤ C * t'.cells := Nat.mul_le_mul_right _ hiC
                have hmul2 : (i + 1) * t'.cells = i * t'.cells + t'.cells := by rw [Nat.add_mul, Nat.one_mul]
                have hfit : base + i * t'.cells + off + n ≤ cs.size := by omega
                have hst := run_storeVar (P := P) hn w b (base + i * t'.cells + off) ty cs k2 (ρr x) hvl (hrx.one hone) hfit
                generalize harr : (cs.toList.take (base + i * t'.cells + off) ++ (ρr x).cells.toList ++ cs.toList.drop (base + i * t'.cells + off + n)).toArray = arr at hst
                have harr2 : ∀ p : Nat, arr[p]? = if p < base + i * t'.cells + off then cs[p]? else if p < base + i * t'.cells + off + n then (ρr x).cells.toList[p - (base + i * t'.cells + off)]? else cs[p]? := by
                  intro p
                  have := splice_get cs.toList (ρr x).cells.toList (base + i * t'.cells + off) n hvl2 (by simpa using hfit) p
                  rw [← harr]
                  simpa using this
                have hasz : arr.size = cs.size := by rw [← harr]; simp; omega
                have hover := over_rep (X := ⟨w, σ, μ, F⟩) off hrow hrx
                have hzr := decAll_rep hz hover
                rw [hvl2] at hzr
                have key := put_evo hI hB (id := id) (o' := .arr ep' t' (List.set l i z)) (p' := μ id) (w' := w.setRow b arr) rfl rfl rfl (by simp)
                  (fun b2 _ hne => setRow_other w b b2 arr (fun e => hne _ _ hget hm' e.symm))
                  (fun q hq => .inr ⟨_, _, hget, hm', by rw [hm'] at hq; cases hq; rfl⟩)
                  (fun c hg => by have hg3 : Store.get σ id = some (.box c) := hg; rw [hget] at hg3; cases hg3)
                  (fun ep t l3 hg => by
                    have hg3 : Store.get σ id = some (.arr ep t l3) := hg
                    rw [hget] at hg3
                    cases hg3
                    exact ⟨_, _, rfl, Nat.le_refl _, fun _ => ⟨rfl, List.length_set⟩⟩)
                  (fun hE => .inr ⟨b, base, C, _, ty, by simpa using hm', setRow_heap w b cs _ ty (0, 0) k2, by rw [hasz]; exact k3, by rw [List.length_set]; exact k4, k5, fun j w0 hj => by
                    by_cases hji : i = j
                    · subst hji
                      have hzj : w0 = z := by
                        have : (List.set l i z)[i]? = some z := by simp [hi]
                        exact (Option.some.inj (this.symm.trans hj)).symm
                      subst hzj
                      refine ⟨_, hzr.keep hE.good, fun jj u hu => ?_⟩
                      rw [splice_get _ _ off n hvl2 (by omega)] at hu
                      rw [harr2]
                      split at hu
                      · rw [if_pos (by omega)]
                        have := r2 jj u hu
                        simpa using this
                      · rw [if_neg (by omega)]
                        split at hu
                        · rw [if_pos (by omega)]
                          rw [show base + i * t'.cells + jj - (base + i * t'.cells + off) = jj - off by omega]
                          exact hu
                        · rw [if_neg (by omega)]
                          have := r2 jj u hu
                          simpa using this
                    · have hj' : nth (α := t'.den) l j = some w0 := by
                        have : (List.set l i z)[j]? = l[j]? := List.getElem?_set_ne hji
                        exact this.symm.trans hj
                      obtain ⟨row2, q1, q2⟩ := k6 j w0 hj'
                      refine ⟨row2, q1.keep hE.good, fun jj u hu => ?_⟩
                      have hjl := q1.len
                      have hlt : jj < row2.length := (List.getElem?_eq_some_iff.1 hu).1
                      have hc := q2 jj u hu
                      rw [harr2]
                      rcases Nat.lt_or_gt_of_ne hji with hlt2 | hgt
                      · have : (i + 1) * t'.cells ≤ j * t'.cells := Nat.mul_le_mul_right _ hlt2
                        rw [if_neg (by omega), if_neg (by omega)]
                        simpa using hc
                      · have h3 : (j + 1) * t'.cells ≤ i * t'.cells := Nat.mul_le_mul_right _ hgt
                        have h4 : (j + 1) * t'.cells = j * t'.cells + t'.cells := by rw [Nat.add_mul, Nat.one_mul]
                        rw [if_pos (by omega)]
                        simpa using hc⟩)
                exact .skip (run ρr w _ _ e hst) ⟨_, key.2, .any, key.1⟩
            · exact h.elim
          · exact h.elim
        · exact h.elim
      · rename_i id i off ha
        exact storeN_ok ho hn ha hcl hone h
      · exact h.elim
    · exact h.elim
  · exact h.elim

theorem isFresh_none {σ : Store} {id : Nat} (h : isFresh σ id = true) : σ.get id = none := by
  unfold isFresh at h
  split at h
  · assumption
  · cases h

/-- A new block of cells for a new thing. -/
theorem new_evo {B : Nat → Prop} {w : World} {σ : Store} {μ : Mu} {F : Fr} (hI : Inv B ⟨w, σ, μ, F⟩) (hB : ∀ b, w.heap.size ≤ b → B b) {id : Nat} (hid : isFresh σ id = true) {o' : Obj} {p' : Option (Nat × Nat × Nat)} {w' : World}
    (hos : w'.os = w.os) (ht : w'.tape = w.tape) (ho : w'.output = w.output) (hs : w.heap.size ≤ w'.heap.size) (hblk : ∀ b, b < w.heap.size → w'.heap[b]? = w.heap[b]?)
    (hp : ∀ q, p' = some q → w.heap.size ≤ q.1)
    (hok : Evo ⟨w, σ, μ, F⟩ ⟨w', (id, o') :: σ, fun i => if i = id then p' else μ i, F⟩ → ObjOk ⟨w', (id, o') :: σ, fun i => if i = id then p' else μ i, F⟩ id o') (hn1 : isNest (some o') = false := by rfl) :
    Evo ⟨w, σ, μ, F⟩ ⟨w', (id, o') :: σ, fun i => if i = id then p' else μ i, F⟩ ∧ Inv B ⟨w', (id, o') :: σ, fun i => if i = id then p' else μ i, F⟩ := by
  have h0 := isFresh_none hid
  exact put_evo hI hB hos ht ho hs (fun b hb _ => hblk b hb) (fun q hq => .inl (hp q hq))
    (fun c hg => by have hg3 : Store.get σ id = some (.box c) := hg; rw [h0] at hg3; cases hg3)
    (fun ep t l hg => by have hg3 : Store.get σ id = some (.arr ep t l) := hg; rw [h0] at hg3; cases hg3) hok hn1 (by show isNest (σ.get id) = false; rw [h0]; rfl)

theorem newVar_ok {B : Nat → Prop} {w : World} {σ : Store} {μ : Mu} {F : Fr} (hI : Inv B ⟨w, σ, μ, F⟩) (hB : ∀ b, w.heap.size ≤ b → B b) {id : Nat} (hid : isFresh σ id = true) (ty : TypeId) {cs : List V} {vs : Array Value}
    (hr : RepL ⟨w, σ, μ, F⟩ cs vs.toList) :
    ∃ μ', Inv B ⟨w.alloc (.cells vs ty), (id, .box cs) :: σ, μ', F⟩ ∧ Rep ⟨w.alloc (.cells vs ty), (id, .box cs) :: σ, μ', F⟩ (.ptr id 0) (.pointer (some ⟨w.heap.size, 0, none⟩)) ∧
      Evo ⟨w, σ, μ, F⟩ ⟨w.alloc (.cells vs ty), (id, .box cs) :: σ, μ', F⟩ := by
  have key := new_evo hI hB hid (o' := .box cs) (p' := some (w.heap.size, 0, 1)) (w' := w.alloc (.cells vs ty)) rfl rfl rfl (by simp) (fun b hb => heap_alloc_old w _ hb)
    (fun q hq => by cases hq; exact Nat.le_refl _)
    (fun hE => ⟨w.heap.size, vs, ty, by simp, heap_alloc_new w _, hr.evo hE⟩)
  exact ⟨_, key.2, .ptr (cells := cs) (C := 1) (base := 0) (by simp [get_cons]) (by simp), key.1⟩

theorem alloc_ok {P : Program} {o : Oper} {t : TypeId} (ho : o.op = .alloc t) {ρ : Operand → V} {σ : Store} {k : K} {id : Nat} (h : allocV P t id σ k) :
    ∃ v σ', k v σ' ∧ OpOk P o ρ σ v σ' := by
  unfold allocV at h
  split at h
  · rename_i i hi
    split at h
    · rename_i z hz
      split at h
      · rename_i hf
        refine ⟨_, _, h, fun B F ρr w μ hI hB hr => ?_⟩
        refine .val (w' := w.alloc (.cells z.cells t)) (u := .pointer (some ⟨w.heap.size, 0, none⟩)) ?_ (newVar_ok hI hB hf t (zero_rep _ z))
        simp [execOp, ho, Instr.alloc, zeroValue, typeInfo, hi, hz, newVar, newRow, newObj, Sem.run]
      · exact h.elim
    · exact h.elim
  · exact h.elim

theorem box_ok {P : Program} {o : Oper} {t : TypeId} {x : Operand} (ho : o.op = .box t x) {ρ : Operand → V} {σ : Store} {k : K} {id : Nat} (h : boxV id (ρ x) σ k) :
    ∃ v σ', k v σ' ∧ OpOk P o ρ σ v σ' := by
  unfold boxV at h
  split at h
  · rename_i hf
    refine ⟨_, _, h, fun B F ρr w μ hI hB hr => ?_⟩
    have hrx := cells_rep (hr x (by rw [ho]; simp [Op.operands])) hf.2
    refine .val (w' := w.alloc (.cells (ρr x).cells t)) (u := .pointer (some ⟨w.heap.size, 0, none⟩)) ?_ (newVar_ok hI hB hf.1 t hrx)
    simp [execOp, ho, Instr.box, newVar, newRow, newObj, Sem.run]
  · exact h.elim

end Go.Vm
