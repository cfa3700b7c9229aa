/-
  The engine, part 6: addresses, indexes, lengths, pieces, built values.
-/
import Derived.Test.YtdplodofdfkndaaDoorVm5
namespace Go.Vm
section
variable {P : Program} {o : Oper} {ρ : Operand → V} {σ : Store} {k : K}

theorem fieldAddr_ok {t : TypeId} {x : Operand} {f : Nat} (ho : o.op = .fieldAddr t x f) (h : fieldAddrV P t (ρ x) f σ k) : ∃ v σ', k v σ' ∧ OpOk P o ρ σ v σ' := by
  have hops : o.op.operands.toList = [x] := by rw [ho]; rfl
  unfold fieldAddrV at h
  split at h
  · rename_i fs hu
    split at h
    · rename_i fd hf
      split at h
      · rename_i n hn
        have run : ∀ (ρr : Operand → Value) (w : World) (b off : Nat), ρr x = .pointer (some ⟨b, off, none⟩) → (execOp ρr o).run P w = .ok (.value (.pointer (some ⟨b, off + fd.offset, none⟩))) w := by
          intro ρr w b off e
          simp [execOp, ho, e, Instr.fieldAt, run_underlying hu, hf, Instr.sureAddr, fieldPlace, size?_run hn, Addr.add_lit]
        split at h
        · rename_i id off hx
          refine ⟨_, _, h, ok_pure fun X ρr _ _ hr => ?_⟩
          have hra := hr x (mem_ops hops (by simp))
          rw [hx] at hra
          obtain ⟨cells, b, base, C, e, hg, hm⟩ := hra.ptr_inv
          refine ⟨_, run ρr X.w _ _ e, ?_⟩
          rw [Nat.add_assoc]
          exact .ptr hg hm
        · rename_i cells hx
          refine ⟨_, _, h, ok_pure fun X ρr _ _ hr => ?_⟩
          have hra := hr x (mem_ops hops (by simp))
          rw [hx] at hra
          obtain ⟨b, o', g, e, hG, hc, hrc⟩ := hra.fptr_inv
          refine ⟨_, run ρr X.w _ _ e, .fptr (fun j => g (fd.offset + j)) (fun h0 => hG (by simp at h0; omega)) (fun j c hj => ?_) (fun j c hj => ?_)⟩
          · rw [List.getElem?_drop] at hj
            rw [Nat.add_assoc]
            exact hc _ c hj
          · rw [List.getElem?_drop] at hj
            exact hrc _ c hj
        · rename_i id ep i off hx
          refine ⟨_, _, h, ok_pure fun X ρr _ _ hr => ?_⟩
          have hra := hr x (mem_ops hops (by simp))
          rw [hx] at hra
          obtain ⟨a, ep', t', l, e, hg, hle, hcur⟩ := hra.eptr_inv
          refine ⟨.pointer (some (a.add fd.offset)), ?_, .eptr hg hle (fun he => ?_)⟩
          · simp [execOp, ho, e, Instr.fieldAt, run_underlying hu, hf, Instr.sureAddr, fieldPlace, size?_run hn]
          · obtain ⟨b, base, C, hm, rfl⟩ := hcur he
            exact ⟨b, base, C, hm, by rw [Addr.add_lit, Nat.add_assoc]⟩
        · rename_i id i off hx
          refine ⟨_, _, h, ok_pure fun X ρr _ _ hr => ?_⟩
          have hra := hr x (mem_ops hops (by simp))
          rw [hx] at hra
          obtain ⟨iv, t', f', h', l, b, base, C, e, hg, hm⟩ := hra.nptr_inv
          refine ⟨_, run ρr X.w _ _ e, ?_⟩
          rw [Nat.add_assoc]
          exact .nptr hg hm
        · exact h.elim
      · exact h.elim
    · exact h.elim
  · exact h.elim

theorem field_ok {t : TypeId} {x : Operand} {f : Nat} (ho : o.op = .field t x f) (h : fieldV P t (ρ x) f σ k) : ∃ v σ', k v σ' ∧ OpOk P o ρ σ v σ' := by
  have hops : o.op.operands.toList = [x] := by rw [ho]; rfl
  unfold fieldV at h
  split at h
  · rename_i fs hu
    split at h
    · rename_i fd hf
      split at h
      · rename_i g n cs hg hn hx
        split at h
        · rename_i v hv
          refine ⟨_, _, h, ok_pure fun X ρr _ _ hr => ?_⟩
          have hra := hr x (mem_ops hops (by simp))
          rw [hx] at hra
          obtain ⟨vs, e, hl⟩ := hra.agg_inv
          obtain ⟨u, h1, h2⟩ := ofCells_rep hv hl hg hn X.w
          exact ⟨u, by simp [execOp, ho, e, Instr.field, run_underlying hu, hf, asAgg, h1], h2⟩
        · exact h.elim
      · exact h.elim
    · exact h.elim
  · exact h.elim

theorem elem_of_slice {t e : TypeId} (hu : P.underlying t = some (.slice e)) : P.elem t = e := by simp [Program.elem, hu]

theorem indexAddr_ok {E : Env} {t : TypeId} {x i : Operand} (ho : o.op = .indexAddr t x i) (h : indexAddrV E t (ρ x) (ρ i) σ k) : ∃ v σ', k v σ' ∧ OpOk E.P o ρ σ v σ' := by
  have hops : o.op.operands.toList = [x, i] := by rw [ho]; rfl
  unfold indexAddrV at h
  split at h
  · rename_i ki n hi
    split at h
    · rename_i e hu
      split at h
      · rename_i sz hsz
        have run : ∀ (ρr : Operand → Value) (w : World) (a : Addr) (len cap : Nat), ρr i = .int ki n → ρr x = .slice (some a) len cap → 0 ≤ n → n < len →
            (execOp ρr o).run E.P w = .ok (.value (.pointer (some (a.add (n.toNat * sz))))) w := by
          intro ρr w a len cap e1 e2 h0 h1
          simp [execOp, ho, e1, e2, Instr.indexAt, run_underlying hu, asIntOf, h0, h1, size?_run hsz]
        split at h
        · rename_i kd t' l hx
          split at h
          · rename_i hsc
            obtain ⟨⟨h0, h1⟩, h⟩ := h
            have hlt : n.toNat < l.length := by omega
            have hnx : nth l n.toNat = some (l[n.toNat]'hlt) := List.getElem?_eq_getElem hlt
            have h := h _ hnx
            generalize l[n.toNat]'hlt = y at hnx h
            refine ⟨_, _, h, ok_pure fun X ρr _ _ hr => ?_⟩
            have hra := hr x (mem_ops hops (by simp))
            have hri := hr i (mem_ops hops (by simp))
            rw [hx] at hra
            rw [hi] at hri
            obtain ⟨A, cap, e2, hc, _⟩ := hra.list_inv
            obtain ⟨_, _, hcell⟩ := hc
            obtain ⟨b, of, rfl, hG, hrow⟩ := hcell (by omega)
            obtain ⟨row, r1, r2⟩ := hrow n.toNat y hnx
            have hl := enc_rep (X := X) r1
            refine ⟨_, run ρr X.w _ _ _ hri.int_inv e2 h0 h1, ?_⟩
            rw [Addr.add_lit, hsc]
            refine .fptr (fun j => row.getD j undef) (fun _ => hG.1) (fun j c hj => ?_) (fun j c hj => ?_)
            · have hlt : j < row.length := by rw [hl.1]; exact (List.getElem?_eq_some_iff.1 hj).1
              have := r2 j _ (List.getElem?_eq_getElem hlt)
              simpa [hlt] using this
            · have hlt : j < row.length := by rw [hl.1]; exact (List.getElem?_eq_some_iff.1 hj).1
              have := hl.2 j c _ hj (List.getElem?_eq_getElem hlt)
              simpa [hlt] using this
          · exact h.elim
        · rename_i id ep hx
          split at h
          · rename_i ep' t' l hg
            split at h
            · rename_i hc
              obtain ⟨hep, hsc⟩ := hc
              obtain ⟨⟨h0, h1⟩, h⟩ := h
              refine ⟨_, _, h, ok_pure fun X ρr hσ _ hr => ?_⟩
              subst hσ
              have hra := hr x (mem_ops hops (by simp))
              have hri := hr i (mem_ops hops (by simp))
              rw [hx] at hra
              rw [hi] at hri
              obtain ⟨A, len, cap, ep2, t2, l2, e2, hg', hle, hcur⟩ := hra.slc_inv
              rw [hg] at hg'
              cases hg'
              have hh := hcur hep
              cases hm : X.μ id with
              | none =>
                rw [hm] at hh
                simp only [Hdr] at hh
                omega
              | some q =>
                obtain ⟨b, base, C⟩ := q
                rw [hm] at hh
                simp only [Hdr] at hh
                obtain ⟨rfl, rfl, hC, a, rfl, ha⟩ := hh
                have ha := ha (by omega)
                subst ha
                refine ⟨_, run ρr X.w _ _ _ hri.int_inv e2 h0 h1, .eptr hg hle (fun _ => ⟨b, base, _, hm, ?_⟩)⟩
                rw [Addr.add_lit, hsc]
                rfl
            · exact h.elim
          · exact h.elim
        · rename_i id ep off m hx
          split at h
          · rename_i ep' t' l hg
            split at h
            · rename_i hc
              obtain ⟨hep, hsc⟩ := hc
              obtain ⟨⟨h0, h1⟩, h⟩ := h
              refine ⟨_, _, h, ok_pure fun X ρr hσ _ hr => ?_⟩
              subst hσ
              have hra := hr x (mem_ops hops (by simp))
              have hri := hr i (mem_ops hops (by simp))
              rw [hx] at hra
              rw [hi] at hri
              obtain ⟨A, len, cap, ep2, t2, l2, e2, hg', hle, hcur⟩ := hra.slc_inv
              rw [hg] at hg'
              cases hg'
              have hh := hcur hep
              cases hm : X.μ id with
              | none =>
                rw [hm] at hh
                simp only [Hdr] at hh
                omega
              | some q =>
                obtain ⟨b, base, C⟩ := q
                rw [hm] at hh
                simp only [Hdr] at hh
                obtain ⟨rfl, hoff, hC, rfl, a, rfl, ha⟩ := hh
                have ha := ha (by omega)
                subst ha
                refine ⟨_, run ρr X.w _ _ _ hri.int_inv e2 h0 h1, .eptr hg hle (fun _ => ⟨b, base, C, hm, ?_⟩)⟩
                rw [Addr.add_lit, hsc, Nat.add_mul, Nat.add_zero, Nat.add_assoc]
            · exact h.elim
          · exact h.elim
        · rename_i n' cells hx
          split at h
          · rename_i hc
            obtain ⟨hsc, hpos⟩ := hc
            subst hsc
            obtain ⟨⟨h0, h1⟩, h⟩ := h
            have pick : ∀ (L : List Nat), (L.foldr (fun (i : Nat) (acc : Prop) => (n = (i : Int) → k (.fptr (cells.drop (i * sz))) σ) ∧ acc) True) → ∀ i ∈ L, n = (i : Int) → k (.fptr (cells.drop (i * sz))) σ := by
              intro L
              induction L with
              | nil => intro _ i hi; simp at hi
              | cons a r ih =>
                intro hL i hi
                simp only [List.foldr_cons] at hL
                rcases List.mem_cons.1 hi with rfl | hi
                · exact hL.1
                · exact ih hL.2 i hi
            have h := pick _ h n.toNat (List.mem_range.2 (by omega)) (by omega)
            refine ⟨_, _, h, ok_pure fun X ρr _ _ hr => ?_⟩
            have hra := hr x (mem_ops hops (by simp))
            have hri := hr i (mem_ops hops (by simp))
            rw [hx] at hra
            rw [hi] at hri
            obtain ⟨A, len, cap, g, e2, q1, q2, q3, q4⟩ := hra.rows_inv
            have hlen : cells.length / sz = len := by rw [← q1]; exact Nat.mul_div_cancel _ hpos
            have hlt : n.toNat < len := by omega
            have hmul : (n.toNat + 1) * sz ≤ len * sz := Nat.mul_le_mul_right _ hlt
            have hmul2 : (n.toNat + 1) * sz = n.toNat * sz + sz := by rw [Nat.add_mul, Nat.one_mul]
            obtain ⟨b, o', rfl, hG, hcell⟩ := q3 (by omega)
            refine ⟨_, run ρr X.w _ _ _ hri.int_inv e2 h0 (by omega), ?_⟩
            rw [Addr.add_lit]
            refine .fptr (fun j => g (n.toNat * sz + j)) (fun _ => hG.1) (fun j c hj => ?_) (fun j c hj => ?_)
            · rw [List.getElem?_drop] at hj
              rw [Nat.add_assoc]
              exact hcell _ c hj
            · rw [List.getElem?_drop] at hj
              exact q4 _ c hj
          · exact h.elim
        · rename_i id hx
          split at h
          · rename_i iv t' f' h' l hg
            split at h
            · rename_i hsc
              obtain ⟨⟨h0, h1⟩, h⟩ := h
              refine ⟨_, _, h, ok_pure fun X ρr hσ _ hr => ?_⟩
              subst hσ
              have hra := hr x (mem_ops hops (by simp))
              have hri := hr i (mem_ops hops (by simp))
              rw [hx] at hra
              rw [hi] at hri
              obtain ⟨A, len, cap, iv2, t2, f2, h2, l2, e2, hg', hh⟩ := hra.nslc_inv
              rw [hg] at hg'
              cases hg'
              cases hm : X.μ id with
              | none =>
                rw [hm] at hh
                simp only [Hdr] at hh
                omega
              | some q =>
                obtain ⟨b, base, C⟩ := q
                rw [hm] at hh
                simp only [Hdr] at hh
                obtain ⟨rfl, rfl, hC, a, rfl, ha⟩ := hh
                have ha := ha (by omega)
                subst ha
                refine ⟨_, run ρr X.w _ _ _ hri.int_inv e2 h0 h1, ?_⟩
                rw [Addr.add_lit, hsc]
                have := Rep.nptr (X := X) (i := n.toNat) (off := 0) hg hm
                simpa using this
            · exact h.elim
          · exact h.elim
        · exact h.elim
      · exact h.elim
    · rename_i len e hu
      split at h
      · rename_i sz m hsz
        split at h
        · rename_i hm
          have run : ∀ (ρr : Operand → Value) (w : World) (a : Addr), ρr i = .int ki (.ofNat m) → ρr x = .pointer (some a) →
              (execOp ρr o).run E.P w = .ok (.value (.pointer (some (a.add (m * sz))))) w := by
            intro ρr w a e1 e2
            have h0 : (0 : Int) ≤ Int.ofNat m := Int.natCast_nonneg m
            have h1 : Int.ofNat m < (len : Int) := by simpa using hm
            have h2 : (Int.ofNat m).toNat = m := rfl
            simp only [execOp, ho, e1, e2, Instr.indexAt, Sem.run_bind, run_underlying hu, asIntOf, Sem.run_pure, Result.andThen_ok, Instr.sureAddr]
            simp only [h0, h1, and_self, if_true, Sem.run_bind, size?_run hsz, Result.andThen_ok, h2, Sem.run_pure]
          split at h
          · rename_i id off hx
            refine ⟨_, _, h, ok_pure fun X ρr _ _ hr => ?_⟩
            have hra := hr x (mem_ops hops (by simp))
            have hri := hr i (mem_ops hops (by simp))
            rw [hx] at hra
            rw [hi] at hri
            obtain ⟨cells, b, base, C, e2, hg, hm2⟩ := hra.ptr_inv
            refine ⟨_, run ρr X.w _ hri.int_inv e2, ?_⟩
            rw [Addr.add_lit, Nat.add_assoc]
            exact .ptr hg hm2
          · rename_i cells hx
            refine ⟨_, _, h, ok_pure fun X ρr _ _ hr => ?_⟩
            have hra := hr x (mem_ops hops (by simp))
            have hri := hr i (mem_ops hops (by simp))
            rw [hx] at hra
            rw [hi] at hri
            obtain ⟨b, o', g, e2, hG, hc, hrc⟩ := hra.fptr_inv
            refine ⟨_, run ρr X.w _ hri.int_inv e2, ?_⟩
            rw [Addr.add_lit]
            refine .fptr (fun j => g (m * sz + j)) (fun h0 => hG (by simp at h0; omega)) (fun j c hj => ?_) (fun j c hj => ?_)
            · rw [List.getElem?_drop] at hj
              rw [Nat.add_assoc]
              exact hc _ c hj
            · rw [List.getElem?_drop] at hj
              exact hrc _ c hj
          · exact h.elim
        · exact h.elim
      · exact h.elim
    · exact h.elim
  · exact h.elim

theorem index_ok {E : Env} {t : TypeId} {x i : Operand} (ho : o.op = .index t x i) (h : indexV E t (ρ x) (ρ i) σ k) : ∃ v σ', k v σ' ∧ OpOk E.P o ρ σ v σ' := by
  have hops : o.op.operands.toList = [x, i] := by rw [ho]; rfl
  unfold indexV at h
  split at h
  · rename_i ki n l hi hu hx
    obtain ⟨⟨h0, h1⟩, h⟩ := h
    have hlt : n.toNat < l.length := by omega
    have h := h _ (List.getElem?_eq_getElem hlt)
    refine ⟨_, _, h, ok_pure fun X ρr _ _ hr => ?_⟩
    have hra := hr x (mem_ops hops (by simp))
    have hri := hr i (mem_ops hops (by simp))
    rw [hx] at hra
    rw [hi] at hri
    obtain ⟨s, e, e1⟩ := hra.str_inv
    subst e1
    have hsz : n.toNat < s.size := by simpa using hlt
    have hs : s[n.toNat]? = some (s.data.toList[n.toNat]'hlt) := by
      rw [getElem?_pos s n.toNat hsz]
      rfl
    refine ⟨_, ?_, .int⟩
    simp [execOp, ho, e, hri.int_inv, Instr.index, run_underlying hu, asIntOf, h0, hs]
  · exact h.elim

theorem len_ok {E : Env} {t : TypeId} {x : Operand} {c : Call} (ho : o.op = .call c) (hc : c.callee = .builtin .len) (ha : c.args[0]? = some x) (hs : c.args.size = 1) (ht : c.argTypes[0]? = some t)
    (h : lenV E t (ρ x) σ k) : ∃ v σ', k v σ' ∧ OpOk E.P o ρ σ v σ' := by
  have hargs : c.args = #[x] := by
    apply Array.ext'
    match hl : c.args.toList with
    | [] => have := congrArg List.length hl; simp at this; simp [this] at hs
    | [y] =>
      have : c.args[0]? = some y := by rw [← Array.getElem?_toList, hl]; rfl
      rw [ha] at this
      cases this
      rfl
    | _ :: _ :: _ => have := congrArg List.length hl; simp at this; omega
  have hops : o.op.operands.toList = [x] := by rw [ho]; simp [Op.operands, Call.operands, hc, hargs]
  have run : ∀ (ρr : Operand → Value) (w : World) (n : Int) (d : TypeDesc), E.P.underlying t = some d → (Builtin.len_ c.argTypes o.type #[ρr x]).run E.P w = .ok (.int .i64 n) w → (execOp ρr o).run E.P w = .ok (.value (.int .i64 n)) w := by
    intro ρr w n d _ h1
    simp [execOp, ho, resolve, hc, invoke, builtin, hargs, h1]
  unfold lenV at h
  split at h
  · rename_i l hu hx
    refine ⟨_, _, h, ok_pure fun X ρr _ _ hr => ?_⟩
    have hra := hr x (mem_ops hops (by simp))
    rw [hx] at hra
    obtain ⟨s, e, e1⟩ := hra.str_inv
    refine ⟨_, run ρr X.w l.length _ hu ?_, .int⟩
    subst e1
    simp [Builtin.len_, ht, e, run_underlying hu, goInt]
  · rename_i d hu hx
    refine ⟨_, _, h, ok_pure fun X ρr _ _ hr => ?_⟩
    have hra := hr x (mem_ops hops (by simp))
    rw [hx] at hra
    exact ⟨_, run ρr X.w 0 _ hu (by simp [Builtin.len_, ht, hra.nils_inv, run_underlying hu, goInt]), .int⟩
  · rename_i d kd t' l hu hx
    refine ⟨_, _, h, ok_pure fun X ρr _ _ hr => ?_⟩
    have hra := hr x (mem_ops hops (by simp))
    rw [hx] at hra
    obtain ⟨A, cap, e, _⟩ := hra.list_inv
    exact ⟨_, run ρr X.w l.length _ hu (by simp [Builtin.len_, ht, e, run_underlying hu, goInt]), .int⟩
  · rename_i d id ep hu hx
    split at h
    · rename_i ep' t' l hg
      split at h
      · rename_i hep
        refine ⟨_, _, h, ok_pure fun X ρr hσ _ hr => ?_⟩
        subst hσ
        have hra := hr x (mem_ops hops (by simp))
        rw [hx] at hra
        obtain ⟨A, len, cap, ep2, t2, l2, e2, hg', hle, hcur⟩ := hra.slc_inv
        rw [hg] at hg'
        cases hg'
        have hh := hcur hep
        have hlen : len = l.length := by
          cases hm : X.μ id with
          | none => rw [hm] at hh; simp only [Hdr] at hh; omega
          | some q => obtain ⟨b, base, C⟩ := q; rw [hm] at hh; simp only [Hdr] at hh; exact hh.1
        subst hlen
        exact ⟨_, run ρr X.w l.length _ hu (by simp [Builtin.len_, ht, e2, run_underlying hu, goInt]), .int⟩
      · exact h.elim
    · exact h.elim
  · rename_i d id ep off m hu hx
    split at h
    · rename_i ep' t' l hg
      split at h
      · rename_i hep
        refine ⟨_, _, h, ok_pure fun X ρr hσ _ hr => ?_⟩
        subst hσ
        have hra := hr x (mem_ops hops (by simp))
        rw [hx] at hra
        obtain ⟨A, len, cap, ep2, t2, l2, e2, hg', hle, hcur⟩ := hra.slc_inv
        rw [hg] at hg'
        cases hg'
        have hh := hcur hep
        have hlen : len = m := by
          cases hm : X.μ id with
          | none => rw [hm] at hh; simp only [Hdr] at hh; omega
          | some q => obtain ⟨b, base, C⟩ := q; rw [hm] at hh; simp only [Hdr] at hh; exact hh.1
        subst hlen
        exact ⟨_, run ρr X.w len _ hu (by simp [Builtin.len_, ht, e2, run_underlying hu, goInt]), .int⟩
      · exact h.elim
    · exact h.elim
  · rename_i d n cells hu hx
    split at h
    · rename_i hpos
      refine ⟨_, _, h, ok_pure fun X ρr _ _ hr => ?_⟩
      have hra := hr x (mem_ops hops (by simp))
      rw [hx] at hra
      obtain ⟨A, len, cap, g, e2, q1, _⟩ := hra.rows_inv
      have hlen : cells.length / n = len := by rw [← q1]; exact Nat.mul_div_cancel _ hpos
      rw [hlen]
      exact ⟨_, run ρr X.w len _ hu (by simp [Builtin.len_, ht, e2, run_underlying hu, goInt]), .int⟩
    · exact h.elim
  · rename_i d id hu hx
    split at h
    · rename_i iv t' f' h' l hg
      refine ⟨_, _, h, ok_pure fun X ρr hσ _ hr => ?_⟩
      subst hσ
      have hra := hr x (mem_ops hops (by simp))
      rw [hx] at hra
      obtain ⟨A, len, cap, iv2, t2, f2, h2, l2, e2, hg', hh⟩ := hra.nslc_inv
      rw [hg] at hg'
      cases hg'
      have hlen : len = l.length := by
        cases hm : X.μ id with
        | none => rw [hm] at hh; simp only [Hdr] at hh; omega
        | some q => obtain ⟨b, base, C⟩ := q; rw [hm] at hh; simp only [Hdr] at hh; exact hh.1
      subst hlen
      exact ⟨_, run ρr X.w l.length _ hu (by simp [Builtin.len_, ht, e2, run_underlying hu, goInt]), .int⟩
    · exact h.elim
  · rename_i d id iv i hu hx
    split at h
    · rename_i iv' t' f' l hg
      split at h
      · rename_i hiv
        subst hiv
        obtain ⟨hi, h⟩ := h
        have h := h _ (List.getElem?_eq_getElem hi)
        split at h
        · rename_i tin l2 he
          refine ⟨_, _, h, ok_pure fun X ρr hσ hI hr => ?_⟩
          subst hσ
          obtain ⟨B, hI⟩ := hI
          have hra := hr x (mem_ops hops (by simp))
          rw [hx] at hra
          obtain ⟨_, p, hp, hc⟩ := hra.nin_inv hg
          obtain ⟨c', u, q1, q2, q3⟩ := nest_row (hI.objs id _ hg) hp hi (by simp)
          rw [he] at q1
          cases q1
          rw [hc] at q2
          cases q2
          obtain ⟨A, cap, e, _⟩ := q3.slice
          exact ⟨_, run ρr X.w l2.length _ hu (by simp [Builtin.len_, ht, e, run_underlying hu, goInt]), .int⟩
        · exact h.elim
      · exact h.elim
    · exact h.elim
  · exact h.elim

theorem extract_ok {x : Operand} {i : Nat} (ho : o.op = .extract x i) {vs : List V} {v : V} (hx : ρ x = .tuple vs) (hv : vs[i]? = some v) (h : k v σ) : ∃ v σ', k v σ' ∧ OpOk P o ρ σ v σ' := by
  have hops : o.op.operands.toList = [x] := by rw [ho]; rfl
  refine ⟨_, _, h, ok_pure fun X ρr _ _ hr => ?_⟩
  have hra := hr x (mem_ops hops (by simp))
  rw [hx] at hra
  obtain ⟨us, e, hl⟩ := hra.tuple_inv
  have hlt : i < us.size := by have := (List.getElem?_eq_some_iff.1 hv).1; have := hl.1; simp at this; omega
  refine ⟨us[i], ?_, hl.2 i v _ hv (by simp [hlt])⟩
  simp [execOp, ho, e, Instr.extract, hlt]

theorem pick_ok {c a b : Operand} (ho : o.op = .pick c a b) (h : match ρ c with
    | .kb true => k (ρ a) σ
    | .kb false => k (ρ b) σ
    | .bool c => match boolOf (ρ a), boolOf (ρ b) with
      | some x, some y => k (.bool (if c then x else y)) σ
      | _, _ => False
    | _ => False) : ∃ v σ', k v σ' ∧ OpOk P o ρ σ v σ' := by
  have hops : o.op.operands.toList = [c, a, b] := by rw [ho]; rfl
  split at h
  · rename_i hc
    refine ⟨_, _, h, ok_pure fun X ρr _ _ hr => ?_⟩
    have hrc := hr c (mem_ops hops (by simp))
    rw [hc] at hrc
    exact ⟨ρr a, by simp [execOp, ho, hrc.kb_inv, asBool], hr a (mem_ops hops (by simp))⟩
  · rename_i hc
    refine ⟨_, _, h, ok_pure fun X ρr _ _ hr => ?_⟩
    have hrc := hr c (mem_ops hops (by simp))
    rw [hc] at hrc
    exact ⟨ρr b, by simp [execOp, ho, hrc.kb_inv, asBool], hr b (mem_ops hops (by simp))⟩
  · rename_i cb hc
    split at h
    · rename_i x y hx hy
      refine ⟨_, _, h, ok_pure fun X ρr _ _ hr => ?_⟩
      have hrc := hr c (mem_ops hops (by simp))
      rw [hc] at hrc
      have ha := boolOf_rep hx (hr a (mem_ops hops (by simp)))
      have hb := boolOf_rep hy (hr b (mem_ops hops (by simp)))
      refine ⟨.bool (if cb then x else y), ?_, .bool⟩
      cases cb <;> simp [execOp, ho, hrc.bool_inv, asBool, ha, hb]
    · exact h.elim
  · exact h.elim

theorem makeFunc_ok {fn : Fn} {a b : Array Operand} (ho : o.op = .makeFunc fn a b) (h : k (.fn fn (a.toList.map ρ) (b.toList.map ρ)) σ) : ∃ v σ', k v σ' ∧ OpOk P o ρ σ v σ' := by
  have hops : o.op.operands.toList = a.toList ++ b.toList := by rw [ho]; simp [Op.operands]
  refine ⟨_, _, h, ok_pure fun X ρr _ _ hr => ⟨.func fn (a.map ρr) (b.map ρr), by simp [execOp, ho, Instr.makeFunc], .fn (by simp) (by simp) (fun j c u hc hu => ?_) (fun j c u hc hu => ?_)⟩⟩
  · simp only [List.getElem?_map, Option.map_eq_some_iff, Array.getElem?_toList] at hc
    obtain ⟨x, hx, rfl⟩ := hc
    simp only [Array.getElem?_map, hx, Option.map_some, Option.some.injEq] at hu
    subst hu
    exact hr x (mem_ops hops (List.mem_append.2 (.inl (Array.mem_toList_iff.2 (Array.mem_of_getElem? hx)))))
  · simp only [List.getElem?_map, Option.map_eq_some_iff, Array.getElem?_toList] at hc
    obtain ⟨x, hx, rfl⟩ := hc
    simp only [Array.getElem?_map, hx, Option.map_some, Option.some.injEq] at hu
    subst hu
    exact hr x (mem_ops hops (List.mem_append.2 (.inr (Array.mem_toList_iff.2 (Array.mem_of_getElem? hx)))))

end
end Go.Vm
