/-
  The engine, part 4: what the operations on values and memory do is what part 2 says of them.
-/
import Derived.Test.YtoiofigknkpieaaVm3
namespace Go.Vm

theorem cv1_rep (X : Ctx) (v : Value) : Rep X (cv1 v) v := by
  unfold cv1
  split <;> first | exact .kb | exact .int | exact .str rfl | exact .nilp | exact .nils | exact .nilm | exact .nilf | exact .nili | exact .any

theorem map_cv1_rep (X : Ctx) (cs : Array Value) : RepL X (cs.toList.map cv1) cs.toList :=
  ⟨by simp, fun j c u hc hu => by
    rw [List.getElem?_map, hu] at hc
    simp at hc
    subst hc
    exact cv1_rep X u⟩

theorem RepL.agg {X : Ctx} {cs : List V} {vs : Array Value} (h : RepL X cs vs.toList) : Rep X (.agg cs) (.agg vs) :=
  .agg (by simpa using h.1) (fun j c u hc hu => h.2 j c u hc (by simpa using hu))

theorem cv_rep (X : Ctx) (v : Value) : Rep X (cv v) v := by
  unfold cv
  split
  · exact (map_cv1_rep X _).agg
  · split
    · rename_i h
      exact .fn h.1 h.2 (fun _ _ _ h => by simp at h) (fun _ _ _ h => by simp at h)
    · exact .any
  · exact cv1_rep X v

theorem cells_rep {X : Ctx} {x : V} {v : Value} (h : Rep X x v) (hn : notAny x = true) : RepL X (cellsV x) v.cells.toList := by
  cases h
  case any => simp [notAny] at hn
  case agg h1 h2 => exact ⟨by simpa [cellsV, Value.cells] using h1, fun j c u hc hu => h2 j c u hc (by simpa [Value.cells] using hu)⟩
  case kb => exact .single .kb
  case bool => exact .single .bool
  case int => exact .single .int
  case str h => exact .single (.str h)
  case nilp => exact .single .nilp
  case nils => exact .single .nils
  case nilm => exact .single .nilm
  case nilf => exact .single .nilf
  case nili => exact .single .nili
  case bq h => exact .single (.bq h)
  case list h1 h2 => exact .single (.list h1 h2)
  case slc h1 h2 h3 => exact .single (.slc h1 h2 h3)
  case fptr f h1 h2 h3 => exact .single (.fptr f h1 h2 h3)
  case ptr h1 h2 => exact .single (.ptr h1 h2)
  case eptr h1 h2 h3 => exact .single (.eptr h1 h2 h3)
  case fn h1 h2 h3 h4 => exact .single (.fn h1 h2 h3 h4)
  case tuple h1 h2 => exact .single (.tuple h1 h2)
  case iface h => exact .single (.iface h)

theorem zero_rep (X : Ctx) (z : Value) : RepL X (cellsV (cv z)) z.cells.toList := by
  cases hz : cv z with
  | any =>
    cases z with
    | agg cs => simp [cv] at hz
    | _ => exact .single .any
  | _ => rw [← hz]; exact cells_rep (cv_rep X z) (by rw [hz]; rfl)

theorem RepL.one {X : Ctx} {cs : List V} {vs : List Value} (h : RepL X cs vs) (ho : cs.all oneV = true) : ∀ u ∈ vs, u.oneCell' = true := by
  intro u hu
  obtain ⟨j, hj, rfl⟩ := List.getElem_of_mem hu
  have hc : cs[j]? = some (cs[j]'(by rw [← h.1]; exact hj)) := List.getElem?_eq_getElem _
  exact (h.2 j _ _ hc (List.getElem?_eq_getElem hj)).one (List.all_eq_true.1 ho _ (List.getElem_mem _))

theorem notAny_of_one {x : V} (h : (cellsV x).all oneV = true) : notAny x = true := by
  cases x <;> first | rfl | simp [cellsV, oneV] at h

/-- A variable is written over its cells. -/
theorem run_storeVar {P : Program} {t : TypeId} {n : Nat} (hn : size? P t = some n) (w : World) (b o : Nat) (ty : TypeId) (cur : Array Value) (hg : w.heap[b]? = some (.cells cur ty (0, 0))) (v : Value)
    (hl : v.cells.size = n) (h1 : ∀ u ∈ v.cells.toList, u.oneCell' = true) (hfit : o + n ≤ cur.size) :
    (storeVar t ⟨b, o, none⟩ v).run P w = .ok () (w.setRow b (cur.toList.take o ++ v.cells.toList ++ cur.toList.drop (o + n)).toArray) := by
  have h := run_storeCells_at P b o ty v.cells.toList 0 cur w hg (by simpa [hl] using hfit) h1
  simp only [Nat.add_zero, Array.length_toList, hl] at h
  simp only [storeVar, Sem.run_bind, size?_run hn, Result.andThen_ok, ne_eq, hl, not_true_eq_false, if_false, h]

theorem over_rep {X : Ctx} {cells new : List V} {vs us : List Value} (off : Nat) (h : RepL X cells vs) (k : RepL X new us) : RepL X (over cells off new) (vs.take off ++ us ++ vs.drop (off + us.length)) := by
  unfold over
  rw [k.1]
  exact ((h.take off).append k).append (h.drop _)

theorem mem_ops {o : Oper} {x : Operand} {l : List Operand} (h : o.op.operands.toList = l) (hx : x ∈ l) : x ∈ o.op.operands.toList := by rw [h]; exact hx

/-- A value out of memory that nobody changes. -/
theorem ok_pure {P : Program} {o : Oper} {ρ : Operand → V} {σ : Store} {v : V}
    (h : ∀ (X : Ctx) (ρr : Operand → Value), X.σ = σ → (∃ B, Inv B X) → (∀ x, x ∈ o.op.operands.toList → Rep X (ρ x) (ρr x)) → ∃ u, (execOp ρr o).run P X.w = .ok (.value u) X.w ∧ Rep X v u) :
    OpOk P o ρ σ v σ := by
  intro B F ρr w μ hI hB hr
  obtain ⟨u, h1, h2⟩ := h ⟨w, σ, μ, F⟩ ρr rfl ⟨B, hI⟩ hr
  exact .val h1 ⟨μ, hI, h2, Evo.refl _⟩

/-! What a value must be that an abstract one stands for. -/
section
variable {X : Ctx} {u : Value}
theorem Rep.int_inv {k : IntKind} {n : Int} (h : Rep X (.int k n) u) : u = .int k n := by cases h; rfl
theorem Rep.kb_inv {b : Bool} (h : Rep X (.kb b) u) : u = .bool b := by cases h; rfl
theorem Rep.bool_inv {b : Bool} (h : Rep X (.bool b) u) : u = .bool b := by cases h; rfl
theorem Rep.str_inv {l : List UInt8} (h : Rep X (.str l) u) : ∃ s : ByteArray, u = .string s ∧ s.data.toList = l := by cases h; exact ⟨_, rfl, by assumption⟩
theorem Rep.nils_inv (h : Rep X .nils u) : u = .slice none 0 0 := by cases h; rfl
theorem Rep.nilp_inv (h : Rep X .nilp u) : u = .pointer none := by cases h; rfl
theorem Rep.nilf_inv (h : Rep X .nilf u) : u = .nilFunc := by cases h; rfl
theorem Rep.list_inv {kd : LK} {t : Ty} {l : List t.den} (h : Rep X (.list kd t l) u) : ∃ A cap, u = .slice A l.length cap ∧ RepS X.w (X.H kd) X.G t l A l.length cap ∧ (kd = .full → cap = l.length) := by
  cases h with
  | list h1 h2 =>
    have h0 := h1
    obtain ⟨rfl, _⟩ := h1
    exact ⟨_, _, rfl, h0, h2⟩
theorem Rep.fptr_inv {cells : List V} (h : Rep X (.fptr cells) u) : ∃ (b o : Nat) (f : Nat → Value), u = .pointer (some ⟨b, o, none⟩) ∧ (0 < cells.length → X.T b) ∧
    (∀ (j : Nat) c, cells[j]? = some c → X.w.cell? ⟨b, o + j, none⟩ = some (f j)) ∧ (∀ (j : Nat) c, cells[j]? = some c → Rep X c (f j)) := by
  cases h with
  | fptr f h1 h2 h3 => exact ⟨_, _, f, rfl, h1, h2, h3⟩
theorem Rep.ptr_inv {id off : Nat} (h : Rep X (.ptr id off) u) : ∃ cells b base C, u = .pointer (some ⟨b, base + off, none⟩) ∧ X.σ.get id = some (.box cells) ∧ X.μ id = some (b, base, C) := by
  cases h with
  | ptr h1 h2 => exact ⟨_, _, _, _, rfl, h1, h2⟩
theorem Rep.eptr_inv {id ep i off : Nat} (h : Rep X (.eptr id ep i off) u) : ∃ a ep' t l, u = .pointer (some a) ∧ X.σ.get id = some (.arr ep' t l) ∧ ep ≤ ep' ∧
    (ep = ep' → ∃ b base C, X.μ id = some (b, base, C) ∧ a = ⟨b, base + i * t.cells + off, none⟩) := by
  cases h with
  | eptr h1 h2 h3 => exact ⟨_, _, _, _, rfl, h1, h2, h3⟩
theorem Rep.slc_inv {id ep : Nat} {rng : Option (Nat × Nat)} (h : Rep X (.slc id ep rng) u) : ∃ A len cap ep' t l, u = .slice A len cap ∧ X.σ.get id = some (.arr ep' t l) ∧ ep ≤ ep' ∧
    (ep = ep' → Hdr (X.μ id) t l.length rng A len cap) := by
  cases h with
  | slc h1 h2 h3 => exact ⟨_, _, _, _, _, _, rfl, h1, h2, h3⟩
theorem Rep.agg_inv {cs : List V} (h : Rep X (.agg cs) u) : ∃ vs : Array Value, u = .agg vs ∧ RepL X cs vs.toList := by
  cases h with
  | agg h1 h2 => exact ⟨_, rfl, by simpa using h1, fun j c u hc hu => h2 j c u hc (by simpa using hu)⟩
theorem Rep.tuple_inv {cs : List V} (h : Rep X (.tuple cs) u) : ∃ vs : Array Value, u = .tuple vs ∧ RepL X cs vs.toList := by
  cases h with
  | tuple h1 h2 => exact ⟨_, rfl, by simpa using h1, fun j c u hc hu => h2 j c u hc (by simpa using hu)⟩
theorem Rep.fn_inv {f : Fn} {a b : List V} (h : Rep X (.fn f a b) u) : ∃ vs ws : Array Value, u = .func f vs ws ∧ RepL X a vs.toList ∧ RepL X b ws.toList := by
  cases h with
  | fn h1 h2 h3 h4 => exact ⟨_, _, rfl, ⟨by simpa using h1, fun j c u hc hu => h3 j c u hc (by simpa using hu)⟩, ⟨by simpa using h2, fun j c u hc hu => h4 j c u hc (by simpa using hu)⟩⟩
end

theorem load_ok {P : Program} {o : Oper} {t : TypeId} {a : Operand} (ho : o.op = .load t a) {ρ : Operand → V} {σ : Store} {k : K} (h : loadV P t (ρ a) σ k) :
    ∃ v σ', k v σ' ∧ OpOk P o ρ σ v σ' := by
  have hops : o.op.operands.toList = [a] := by rw [ho]; rfl
  have run : ∀ (ρr : Operand → Value) (w : World) (ad : Addr) (u : Value), ρr a = .pointer (some ad) → (loadVar t ad).run P w = .ok u w → (execOp ρr o).run P w = .ok (.value u) w := by
    intro ρr w ad u h1 h2
    simp [execOp, ho, h1, Instr.loadAt, Instr.sureAddr, h2]
  unfold loadV at h
  split at h
  · rename_i g n hg hn
    split at h
    · rename_i cells ha
      split at h
      · rename_i v hv
        refine ⟨v, σ, h, ok_pure fun X ρr _ _ hr => ?_⟩
        have hra := hr a (mem_ops hops (by simp))
        rw [ha] at hra
        obtain ⟨b, o', f, e, _, hc, hrc⟩ := hra.fptr_inv
        obtain ⟨u', h1, h2⟩ := load_core (X := X) hg hn hv (b := b) (o := o') f hc hrc
        exact ⟨u', run ρr X.w _ u' e h1, h2⟩
      · exact h.elim
    · rename_i id off ha
      split at h
      · rename_i cells hget
        split at h
        · rename_i v hv
          refine ⟨v, σ, h, ok_pure fun X ρr hσ hI hr => ?_⟩
          have hra := hr a (mem_ops hops (by simp))
          rw [ha] at hra
          obtain ⟨cells', b, base, C, e, hg', hm⟩ := hra.ptr_inv
          obtain ⟨B, hI⟩ := hI
          subst hσ
          rw [hget] at hg'
          cases hg'
          obtain ⟨b', cs, ty, k1, k2, k3⟩ := hI.objs id _ hget
          rw [hm] at k1
          cases k1
          obtain ⟨u', h1, h2⟩ := load_core (X := X) hg hn hv (b := b) (o := 0) (fun j => cs.getD j undef)
            (fun j c hj => by
              have hlt : j < cs.toList.length := by rw [k3.1]; exact (List.getElem?_eq_some_iff.1 hj).1
              simp at hlt
              simp [World.cell?, k2, hlt])
            (fun j c hj => by
              have hlt : j < cs.toList.length := by rw [k3.1]; exact (List.getElem?_eq_some_iff.1 hj).1
              have := k3.2 j c _ hj (List.getElem?_eq_getElem hlt)
              simp at hlt
              simpa [hlt] using this)
          exact ⟨u', run ρr X.w _ u' e h1, h2⟩
        · exact h.elim
      · exact h.elim
    · rename_i id ep i off ha
      split at h
      · rename_i ep' t' l hget
        split at h
        · rename_i hep
          obtain ⟨hi, h⟩ := h
          have hx : nth l i = some (l[i]'hi) := List.getElem?_eq_getElem hi
          have h := h _ hx
          generalize l[i]'hi = x at hx h
          split at h
          · rename_i v hv
            refine ⟨v, σ, h, ok_pure fun X ρr hσ hI hr => ?_⟩
            have hra := hr a (mem_ops hops (by simp))
            rw [ha] at hra
            obtain ⟨ad, ep2, t2, l2, e, hg', _, hcur⟩ := hra.eptr_inv
            obtain ⟨B, hI⟩ := hI
            subst hσ
            rw [hget] at hg'
            cases hg'
            obtain ⟨b, base, C, hm, rfl⟩ := hcur hep
            have hob := hI.objs id _ hget
            rcases hob with ⟨k1, _⟩ | ⟨b', base', C', cs, ty, k1, k2, k3, k4, k5, k6⟩
            · rw [hm] at k1; cases k1
            · rw [hm] at k1
              cases k1
              obtain ⟨row, r1, r2⟩ := k6 i x hx
              have hrow := enc_rep (X := X) r1
              obtain ⟨u', h1, h2⟩ := load_core (X := X) hg hn hv (b := b) (o := base + i * t'.cells) (fun j => row.getD j undef)
                (fun j c hj => by
                  have hlt : j < row.length := by rw [hrow.1]; exact (List.getElem?_eq_some_iff.1 hj).1
                  have := r2 j _ (List.getElem?_eq_getElem hlt)
                  simp [World.cell?, k2, this, hlt])
                (fun j c hj => by
                  have hlt : j < row.length := by rw [hrow.1]; exact (List.getElem?_eq_some_iff.1 hj).1
                  have := hrow.2 j c _ hj (List.getElem?_eq_getElem hlt)
                  simpa [hlt] using this)
              exact ⟨u', run ρr X.w _ u' e h1, h2⟩
          · exact h.elim
        · exact h.elim
      · exact h.elim
    · exact h.elim
  · exact h.elim

theorem splice_get {α : Type} (cs vs : List α) (o n : Nat) (hn : vs.length = n) (hfit : o + n ≤ cs.length) (p : Nat) :
    (cs.take o ++ vs ++ cs.drop (o + n))[p]? = if p < o then cs[p]? else if p < o + n then vs[p - o]? else cs[p]? := by
  have ht : (cs.take o).length = o := by simp; omega
  by_cases h1 : p < o
  · rw [if_pos h1, List.append_assoc, List.getElem?_append_left (by omega), List.getElem?_take, if_pos h1]
  · rw [if_neg h1, List.append_assoc, List.getElem?_append_right (by omega), ht]
    by_cases h2 : p < o + n
    · rw [if_pos h2, List.getElem?_append_left (by omega)]
    · rw [if_neg h2, List.getElem?_append_right (by omega), hn, List.getElem?_drop]
      congr 1
      omega

theorem store_ok {P : Program} {o : Oper} {t : TypeId} {a x : Operand} (ho : o.op = .store t a x) {ρ : Operand → V} {σ : Store} {k : K} (h : storeV P t (ρ a) (ρ x) σ k) :
    ∃ v σ', k v σ' ∧ OpOk P o ρ σ v σ' := by
  have hops : o.op.operands.toList = [a, x] := by rw [ho]; rfl
  have run : ∀ (ρr : Operand → Value) (w w' : World) (ad : Addr), ρr a = .pointer (some ad) → (storeVar t ad (ρr x)).run P w = .ok () w' → (execOp ρr o).run P w = .ok .skip w' := by
    intro ρr w w' ad h1 h2
    simp [execOp, ho, h1, Instr.storeAt, Instr.sureAddr, h2]
  unfold storeV at h
  split at h
  · rename_i n hn
    split at h
    · rename_i hc
      obtain ⟨hcl, hone⟩ := hc
      split at h
      · rename_i id off ha
        split at h
        · rename_i cells hget
          split at h
          · rename_i hfit
            refine ⟨_, _, h, fun B F ρr w μ hI hB hr => ?_⟩
            have hra := hr a (mem_ops hops (by simp))
            rw [ha] at hra
            have hrx := cells_rep (hr x (mem_ops hops (by simp))) (notAny_of_one hone)
            obtain ⟨cells', b, base, C, e, hg', hm⟩ := hra.ptr_inv
            have hg2 : Store.get σ id = some (.box cells') := hg'
            rw [hget] at hg2
            cases hg2
            obtain ⟨b', cs, ty, k1, k2, k3⟩ := hI.objs id _ hget
            have k1' : μ id = some (b', 0, 1) := k1
            have hm' : μ id = some (b, base, C) := hm
            rw [hm'] at k1'
            cases k1'
            have hvl : (ρr x).cells.size = n := by have := hrx.1; simp at this; omega
            have hfit2 : 0 + off + n ≤ cs.size := by have := k3.1; simp at this; omega
            have hst := run_storeVar (P := P) hn w b (0 + off) ty cs k2 (ρr x) hvl (hrx.one hone) hfit2
            generalize harr : (cs.toList.take (0 + off) ++ (ρr x).cells.toList ++ cs.toList.drop (0 + off + n)).toArray = arr at hst
            have key := put_evo hI hB (id := id) (o' := .box (over cells off (cellsV (ρ x)))) (p' := μ id) (w' := w.setRow b arr) rfl rfl rfl (by simp)
              (fun b2 _ hne => setRow_other w b b2 arr (fun e => hne _ _ hget hm' e.symm))
              (fun q hq => .inr ⟨_, _, hget, hm', by rw [hm'] at hq; cases hq; rfl⟩)
              (fun c _ => ⟨⟨_, rfl⟩, rfl⟩)
              (fun ep t l hg => by have hg3 : Store.get σ id = some (.arr ep t l) := hg; rw [hget] at hg3; cases hg3)
              (fun hE => ⟨b, _, ty, by simpa using hm', setRow_heap w b cs _ ty (0, 0) k2, by
                have h1 := over_rep (X := ⟨w, σ, μ, F⟩) off k3 hrx
                have h2 : (ρr x).cells.toList.length = n := by simpa using hvl
                rw [h2] at h1
                have h3 : arr.toList = cs.toList.take off ++ (ρr x).cells.toList ++ cs.toList.drop (off + n) := by rw [← harr]; simp
                rw [h3]
                exact h1.evo hE⟩)
            exact .skip (run ρr w _ _ e hst) ⟨_, key.2, .any, key.1⟩
          · exact h.elim
        · exact h.elim
      · rename_i id ep i off ha
        split at h
        · rename_i ep' t' l hget
          split at h
          · rename_i hep
            obtain ⟨hep, hin⟩ := hep
            obtain ⟨hi, h⟩ := h
            have hx : nth l i = some (l[i]'hi) := List.getElem?_eq_getElem hi
            have h := h _ hx
            generalize l[i]'hi = y at hx h
            split at h
            · rename_i z hz
              refine ⟨_, _, h, fun B F ρr w μ hI hB hr => ?_⟩
              have hra := hr a (mem_ops hops (by simp))
              rw [ha] at hra
              have hrx := cells_rep (hr x (mem_ops hops (by simp))) (notAny_of_one hone)
              obtain ⟨ad, ep2, t2, l2, e, hg', _, hcur⟩ := hra.eptr_inv
              have hg2 : Store.get σ id = some (.arr ep2 t2 l2) := hg'
              rw [hget] at hg2
              cases hg2
              obtain ⟨b, base, C, hm, rfl⟩ := hcur hep
              have hm' : μ id = some (b, base, C) := hm
              have hob := hI.objs id _ hget
              rcases hob with ⟨k1, _⟩ | ⟨b', base', C', cs, ty, k1, k2, k3, k4, k5, k6⟩
              · have k1' : μ id = none := k1
                rw [hm'] at k1'; cases k1'
              · have k1' : μ id = some (b', base', C') := k1
                rw [hm'] at k1'
                cases k1'
                obtain ⟨row, r1, r2⟩ := k6 i y hx
                have hrow := enc_rep (X := ⟨w, σ, μ, F⟩) r1
                have hvl : (ρr x).cells.size = n := by have := hrx.1; simp at this; omega
                have hvl2 : (ρr x).cells.toList.length = n := by simpa using hvl
                have hsz := r1.len
                have hiC : i < C := by omega
                have hmul : (i + 1) * t'.cells ≤ C * t'.cells := Nat.mul_le_mul_right _ hiC
                have hmul2 : (i + 1) * t'.cells = i * t'.cells + t'.cells := by rw [Nat.add_mul, Nat.one_mul]
                have hfit : base + i * t'.cells + off + n ≤ cs.size := by omega
                have hst := run_storeVar (P := P) hn w b (base + i * t'.cells + off) ty cs k2 (ρr x) hvl (hrx.one hone) hfit
                generalize harr : (cs.toList.take (base + i * t'.cells + off) ++ (ρr x).cells.toList ++ cs.toList.drop (base + i * t'.cells + off + n)).toArray = arr at hst
                have harr2 : ∀ p : Nat, arr[p]? = if p < base + i * t'.cells + off then cs[p]? else if p < base + i * t'.cells + off + n then (ρr x).cells.toList[p - (base + i * t'.cells + off)]? else cs[p]? := by
                  intro p
                  have := splice_get cs.toList (ρr x).cells.toList (base + i * t'.cells + off) n hvl2 (by simpa using hfit) p
                  rw [← harr]
                  simpa using this
                have hasz : arr.size = cs.size := by rw [← harr]; simp; omega
                have hover := over_rep (X := ⟨w, σ, μ, F⟩) off hrow hrx
                have hzr := decAll_rep hz hover
                rw [hvl2] at hzr
                have key := put_evo hI hB (id := id) (o' := .arr ep' t' (List.set l i z)) (p' := μ id) (w' := w.setRow b arr) rfl rfl rfl (by simp)
                  (fun b2 _ hne => setRow_other w b b2 arr (fun e => hne _ _ hget hm' e.symm))
                  (fun q hq => .inr ⟨_, _, hget, hm', by rw [hm'] at hq; cases hq; rfl⟩)
                  (fun c hg => by have hg3 : Store.get σ id = some (.box c) := hg; rw [hget] at hg3; cases hg3)
                  (fun ep t l3 hg => by
                    have hg3 : Store.get σ id = some (.arr ep t l3) := hg
                    rw [hget] at hg3
                    cases hg3
                    exact ⟨_, _, rfl, Nat.le_refl _, fun _ => ⟨rfl, List.length_set⟩⟩)
                  (fun hE => .inr ⟨b, base, C, _, ty, by simpa using hm', setRow_heap w b cs _ ty (0, 0) k2, by rw [hasz]; exact k3, by rw [List.length_set]; exact k4, k5, fun j w0 hj => by
                    by_cases hji : i = j
                    · subst hji
                      have hzj : w0 = z := by
                        have : (List.set l i z)[i]? = some z := by simp [hi]
                        exact (Option.some.inj (this.symm.trans hj)).symm
                      subst hzj
                      refine ⟨_, hzr.keep hE.good, fun jj u hu => ?_⟩
                      rw [splice_get _ _ off n hvl2 (by omega)] at hu
                      rw [harr2]
                      split at hu
                      · rw [if_pos (by omega)]
                        have := r2 jj u hu
                        simpa using this
                      · rw [if_neg (by omega)]
                        split at hu
                        · rw [if_pos (by omega)]
                          rw [show base + i * t'.cells + jj - (base + i * t'.cells + off) = jj - off by omega]
                          exact hu
                        · rw [if_neg (by omega)]
                          have := r2 jj u hu
                          simpa using this
                    · have hj' : nth (α := t'.den) l j = some w0 := by
                        have : (List.set l i z)[j]? = l[j]? := List.getElem?_set_ne hji
                        exact this.symm.trans hj
                      obtain ⟨row2, q1, q2⟩ := k6 j w0 hj'
                      refine ⟨row2, q1.keep hE.good, fun jj u hu => ?_⟩
                      have hjl := q1.len
                      have hlt : jj < row2.length := (List.getElem?_eq_some_iff.1 hu).1
                      have hc := q2 jj u hu
                      rw [harr2]
                      rcases Nat.lt_or_gt_of_ne hji with hlt2 | hgt
                      · have : (i + 1) * t'.cells ≤ j * t'.cells := Nat.mul_le_mul_right _ hlt2
                        rw [if_neg (by omega), if_neg (by omega)]
                        simpa using hc
                      · have h3 : (j + 1) * t'.cells ≤ i * t'.cells := Nat.mul_le_mul_right _ hgt
                        have h4 : (j + 1) * t'.cells = j * t'.cells + t'.cells := by rw [Nat.add_mul, Nat.one_mul]
                        rw [if_pos (by omega)]
                        simpa using hc⟩)
                exact .skip (run ρr w _ _ e hst) ⟨_, key.2, .any, key.1⟩
            · exact h.elim
          · exact h.elim
        · exact h.elim
      · exact h.elim
    · exact h.elim
  · exact h.elim

theorem isFresh_none {σ : Store} {id : Nat} (h : isFresh σ id = true) : σ.get id = none := by
  unfold isFresh at h
  split at h
  · assumption
  · cases h

/-- A new block of cells for a new thing. -/
theorem new_evo {B : Nat → Prop} {w : World} {σ : Store} {μ : Mu} {F : Fr} (hI : Inv B ⟨w, σ, μ, F⟩) (hB : ∀ b, w.heap.size ≤ b → B b) {id : Nat} (hid : isFresh σ id = true) {o' : Obj} {p' : Option (Nat × Nat × Nat)} {w' : World}
    (hos : w'.os = w.os) (ht : w'.tape = w.tape) (ho : w'.output = w.output) (hs : w.heap.size ≤ w'.heap.size) (hblk : ∀ b, b < w.heap.size → w'.heap[b]? = w.heap[b]?)
    (hp : ∀ q, p' = some q → w.heap.size ≤ q.1)
    (hok : Evo ⟨w, σ, μ, F⟩ ⟨w', (id, o') :: σ, fun i => if i = id then p' else μ i, F⟩ → ObjOk ⟨w', (id, o') :: σ, fun i => if i = id then p' else μ i, F⟩ id o') :
    Evo ⟨w, σ, μ, F⟩ ⟨w', (id, o') :: σ, fun i => if i = id then p' else μ i, F⟩ ∧ Inv B ⟨w', (id, o') :: σ, fun i => if i = id then p' else μ i, F⟩ := by
  have h0 := isFresh_none hid
  exact put_evo hI hB hos ht ho hs (fun b hb _ => hblk b hb) (fun q hq => .inl (hp q hq))
    (fun c hg => by have hg3 : Store.get σ id = some (.box c) := hg; rw [h0] at hg3; cases hg3)
    (fun ep t l hg => by have hg3 : Store.get σ id = some (.arr ep t l) := hg; rw [h0] at hg3; cases hg3) hok

theorem newVar_ok {B : Nat → Prop} {w : World} {σ : Store} {μ : Mu} {F : Fr} (hI : Inv B ⟨w, σ, μ, F⟩) (hB : ∀ b, w.heap.size ≤ b → B b) {id : Nat} (hid : isFresh σ id = true) (ty : TypeId) {cs : List V} {vs : Array Value}
    (hr : RepL ⟨w, σ, μ, F⟩ cs vs.toList) :
    ∃ μ', Inv B ⟨w.alloc (.cells vs ty), (id, .box cs) :: σ, μ', F⟩ ∧ Rep ⟨w.alloc (.cells vs ty), (id, .box cs) :: σ, μ', F⟩ (.ptr id 0) (.pointer (some ⟨w.heap.size, 0, none⟩)) ∧
      Evo ⟨w, σ, μ, F⟩ ⟨w.alloc (.cells vs ty), (id, .box cs) :: σ, μ', F⟩ := by
  have key := new_evo hI hB hid (o' := .box cs) (p' := some (w.heap.size, 0, 1)) (w' := w.alloc (.cells vs ty)) rfl rfl rfl (by simp) (fun b hb => heap_alloc_old w _ hb)
    (fun q hq => by cases hq; exact Nat.le_refl _)
    (fun hE => ⟨w.heap.size, vs, ty, by simp, heap_alloc_new w _, hr.evo hE⟩)
  exact ⟨_, key.2, .ptr (cells := cs) (C := 1) (base := 0) (by simp [get_cons]) (by simp), key.1⟩

theorem alloc_ok {P : Program} {o : Oper} {t : TypeId} (ho : o.op = .alloc t) {ρ : Operand → V} {σ : Store} {k : K} {id : Nat} (h : allocV P t id σ k) :
    ∃ v σ', k v σ' ∧ OpOk P o ρ σ v σ' := by
  unfold allocV at h
  split at h
  · rename_i i hi
    split at h
    · rename_i z hz
      split at h
      · rename_i hf
        refine ⟨_, _, h, fun B F ρr w μ hI hB hr => ?_⟩
        refine .val (w' := w.alloc (.cells z.cells t)) (u := .pointer (some ⟨w.heap.size, 0, none⟩)) ?_ (newVar_ok hI hB hf t (zero_rep _ z))
        simp [execOp, ho, Instr.alloc, zeroValue, typeInfo, hi, hz, newVar, newRow, newObj, Sem.run]
      · exact h.elim
    · exact h.elim
  · exact h.elim

theorem box_ok {P : Program} {o : Oper} {t : TypeId} {x : Operand} (ho : o.op = .box t x) {ρ : Operand → V} {σ : Store} {k : K} {id : Nat} (h : boxV id (ρ x) σ k) :
    ∃ v σ', k v σ' ∧ OpOk P o ρ σ v σ' := by
  unfold boxV at h
  split at h
  · rename_i hf
    refine ⟨_, _, h, fun B F ρr w μ hI hB hr => ?_⟩
    have hrx := cells_rep (hr x (by rw [ho]; simp [Op.operands])) hf.2
    refine .val (w' := w.alloc (.cells (ρr x).cells t)) (u := .pointer (some ⟨w.heap.size, 0, none⟩)) ?_ (newVar_ok hI hB hf.1 t hrx)
    simp [execOp, ho, Instr.box, newVar, newRow, newObj, Sem.run]
  · exact h.elim

end Go.Vm
