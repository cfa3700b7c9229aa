/-
  The engine, part 13: what is handed back and never written again; the call; every operation.
-/
import Derived.Test.YtdplodofdfkndaaDoorVm12
namespace Go.Vm
open Go.RowKit (Below)

section
variable {X' X : Ctx}

mutual
theorem frz_ok {B : Nat → Prop} (hI : Inv B X') (hw : X.w = X'.w) (hgood : ∀ b, X'.G b → X.G b) (hown : ∀ id o p, X'.σ.get id = some o → X'.μ id = some p → X.G p.1) :
    ∀ {n : Nat} {v r r' : V} {u : Value}, own X'.σ n v = some r → frzV n r = some r' → Rep X' v u → Rep X r' u
  | 0, v, r, r', u, h, _, _ => by simp [own] at h
  | n + 1, v, r, r', u, h, hf, hr => by
    unfold own at h
    split at h
    · rename_i id ep
      split at h
      · rename_i ep' t l hg
        split at h
        · rename_i hep
          simp only [Option.some.injEq] at h
          subst h
          simp only [frzV, Option.some.injEq] at hf
          subst hf
          obtain ⟨A, len, cap, ep2, t2, l2, rfl, hg', hle, hcur⟩ := hr.slc_inv
          rw [hg] at hg'
          cases hg'
          have hh := hcur hep
          refine .list ?_ (fun e => by cases e)
          cases hm : X'.μ id with
          | none =>
            rw [hm] at hh
            simp only [Hdr] at hh
            obtain ⟨rfl, rfl, h0⟩ := hh
            exact ⟨h0.symm, Nat.le_refl _, fun h => absurd h (Nat.lt_irrefl _)⟩
          | some q =>
            obtain ⟨b, base, C⟩ := q
            rw [hm] at hh
            simp only [Hdr] at hh
            obtain ⟨rfl, rfl, hC, a, rfl, ha⟩ := hh
            obtain ⟨cs, ty, k2, k3, k4, k5, k6⟩ := arr_rows hI hg hm
            have hG := hown id _ _ hg hm
            refine ⟨rfl, hC, fun h0 => ⟨b, base, by rw [ha (by omega)], ⟨hG.1, fun _ => hG.2⟩, fun i x hx => ?_⟩⟩
            obtain ⟨row, r1, r2⟩ := k6 i x hx
            refine ⟨row, r1.keep (fun b hb => ⟨hgood b hb, by rw [hw]⟩), fun j v hv => ?_⟩
            have := r2 j v hv
            rw [hw]
            simp only at this
            unfold World.cell?
            simp only [k2]
            rw [← this, Nat.add_assoc]
            simp
        · cases h
      · cases h
    · rename_i id
      split at h
      · rename_i cells hg
        simp only [Option.map_eq_some_iff] at h
        obtain ⟨cs, ho, rfl⟩ := h
        simp only [frzV, Option.map_eq_some_iff] at hf
        obtain ⟨cs', hf, rfl⟩ := hf
        obtain ⟨cells', b, base, C, rfl, hg', hm⟩ := hr.ptr_inv
        rw [hg] at hg'
        cases hg'
        obtain ⟨b', ws, ty, k1, k2, k3⟩ := hI.objs id _ hg
        rw [hm] at k1
        cases k1
        have hG := hown id _ _ hg hm
        have hl := frzL_ok hI hw hgood hown ho hf k3
        refine .fptr (fun j => ws.getD j undef) (fun _ => hG.1) (fun j c hj => ?_) (fun j c hj => ?_)
        · obtain ⟨x, hx, _⟩ := hl.get hj
          simp only [Array.getElem?_toList] at hx
          have h1 := (Array.getElem?_eq_some_iff.1 hx).1
          rw [hw]
          unfold World.cell?
          simp only [k2]
          simp [h1]
        · obtain ⟨x, hx, hrx⟩ := hl.get hj
          simp only [Array.getElem?_toList] at hx
          obtain ⟨h1, h2⟩ := Array.getElem?_eq_some_iff.1 hx
          simp [h1, h2, hrx]
      · cases h
    · rename_i kd t l
      split at h
      · cases h
      · rename_i hk
        simp only [Option.some.injEq] at h
        subst h
        simp only [frzV, if_neg hk, Option.some.injEq] at hf
        subst hf
        obtain ⟨A, cap, rfl, hc, hfull⟩ := hr.list_inv
        exact .list (hc.keep (fun b hb => ⟨hgood b hb, by rw [hw]⟩) (fun b hb => by
          have := hgood b ⟨hb.1, hb.2 hk⟩
          exact ⟨⟨this.1, fun _ => this.2⟩, by rw [hw]⟩)) hfull
    · simp only [Option.map_eq_some_iff] at h
      obtain ⟨cs, ho, rfl⟩ := h
      simp only [frzV, Option.map_eq_some_iff] at hf
      obtain ⟨cs', hf, rfl⟩ := hf
      exact hr.rows_re (fun us hl => frzL_ok hI hw hgood hown ho hf hl) (fun b hb => ⟨hgood b hb, by rw [hw]⟩)
    · simp only [Option.map_eq_some_iff] at h
      obtain ⟨cs, ho, rfl⟩ := h
      simp only [frzV, Option.map_eq_some_iff] at hf
      obtain ⟨cs', hf, rfl⟩ := hf
      obtain ⟨vs, rfl, hl⟩ := hr.agg_inv
      exact (frzL_ok hI hw hgood hown ho hf hl).agg
    · simp only [Option.map_eq_some_iff] at h
      obtain ⟨cs, ho, rfl⟩ := h
      simp only [frzV, Option.map_eq_some_iff] at hf
      obtain ⟨cs', hf, rfl⟩ := hf
      obtain ⟨vs, rfl, hl⟩ := hr.tuple_inv
      have := frzL_ok hI hw hgood hown ho hf hl
      exact .tuple (by simpa using this.1) (fun j c x hc hx => this.2 j c x hc (by simpa using hx))
    · split at h
      · rename_i a' b' ha hb
        simp only [Option.some.injEq] at h
        subst h
        simp only [frzV] at hf
        split at hf
        · rename_i a2 b2 hfa hfb
          simp only [Option.some.injEq] at hf
          subst hf
          obtain ⟨vs, ws, rfl, h1, h2⟩ := hr.fn_inv
          have l1 := frzL_ok hI hw hgood hown ha hfa h1
          have l2 := frzL_ok hI hw hgood hown hb hfb h2
          exact .fn (by simpa using l1.1) (by simpa using l2.1) (fun j c x hc hx => l1.2 j c x hc (by simpa using hx)) (fun j c x hc hx => l2.2 j c x hc (by simpa using hx))
        · cases hf
      · cases h
    all_goals first
      | (cases h; done)
      | (simp only [Option.some.injEq] at h
         subst h
         simp only [frzV, Option.some.injEq] at hf
         subst hf
         cases hr <;> first | exact .any | exact .kb | exact .bool | exact .int | (exact .str (by assumption)) | exact .nilp | exact .nils | exact .nilm | exact .nilf | exact .nili | exact .errN | exact .errS)
theorem frzL_ok {B : Nat → Prop} (hI : Inv B X') (hw : X.w = X'.w) (hgood : ∀ b, X'.G b → X.G b) (hown : ∀ id o p, X'.σ.get id = some o → X'.μ id = some p → X.G p.1) :
    ∀ {n : Nat} {vs rs rs' : List V} {us : List Value}, ownL X'.σ n vs = some rs → frzL n rs = some rs' → RepL X' vs us → RepL X rs' us
  | 0, vs, rs, rs', us, h, _, _ => by simp [ownL] at h
  | n + 1, [], rs, rs', us, h, hf, hr => by
    simp only [ownL, Option.some.injEq] at h
    subst h
    simp only [frzL, Option.some.injEq] at hf
    subst hf
    rw [hr.nil_inv]
    exact .nil
  | n + 1, v :: vs, rs, rs', us, h, hf, hr => by
    unfold ownL at h
    split at h
    · rename_i v1 r1 hv hr1
      simp only [Option.some.injEq] at h
      subst h
      simp only [frzL] at hf
      split at hf
      · rename_i a2 b2 hfa hfb
        simp only [Option.some.injEq] at hf
        subst hf
        obtain ⟨u, us', rfl, h1, h2⟩ := hr.cons_inv
        exact .cons (frz_ok hI hw hgood hown hv hfa h1) (frzL_ok hI hw hgood hown hr1 hfb h2)
      · cases hf
    · cases h
end

end

/-- **A function, given these arguments over this store, leaves that store and hands back r.** -/
def Upd (P : Program) (f : FuncId) (args : List V) (σ : Store) (r : V) (σ' : Store) : Prop :=
  ∀ (B : Nat → Prop) (F : Fr) (w : World) (μ : Mu) (vs : List Value), Inv B ⟨w, σ, μ, F⟩ → (∀ b, w.heap.size ≤ b → B b) → RepL ⟨w, σ, μ, F⟩ args vs →
    Calls P f vs.toArray w fun e w' => ∃ u, e = .returned u ∧ ∃ μ', Inv B ⟨w', σ', μ', F⟩ ∧ Rep ⟨w', σ', μ', F⟩ r u ∧ Evo ⟨w, σ, μ, F⟩ ⟨w', σ', μ', F⟩

/-- A function that the machine does in one step: it leaves memory alone. -/
def Ext (P : Program) (f : FuncId) (args : List V) (r : V) : Prop :=
  ∀ (X : Ctx) (vs : List Value), RepL X args vs → ∃ u, (callFunc f vs.toArray).run P X.w = .ok (.value u) X.w ∧ Rep X r u

/-- What a call hands back to one who never writes it. -/
def HandedZ (B0 : Nat) (F : Fr) (w' : World) (r : V) (u : Value) : Prop :=
  ∃ σ' μ' v', Inv (fun b => B0 ≤ b) ⟨w', σ', μ', F⟩ ∧ Rep ⟨w', σ', μ', F⟩ v' u ∧ own σ' 60 v' = some r

/-- As Pure, for a result that nobody writes any more. -/
def PureZ (P : Program) (f : FuncId) (args : List V) (r : V) : Prop :=
  ∀ (F : Fr) (w : World) (vs : List Value), Ground F w → RepL ⟨w, [], fun _ => none, F⟩ args vs →
    Calls P f vs.toArray w fun e w' => ∃ u, e = .returned u ∧ Below w.heap.size w w' ∧ HandedZ w.heap.size F w' r u

/-- The specifications hold. -/
structure SpecsOk (E : Env) : Prop where
  pure : ∀ f args pre r, E.specs f args = some (pre, r) → pre → Pure E.P f args r
  upd : ∀ f args σ pre r new, E.upd f args σ = some (pre, r, new) → pre → Upd E.P f args σ r (new ++ σ)
  ext : ∀ f args pre r, E.ext f args = some (pre, r) → pre → Ext E.P f args r
  z : ∀ f args pre r, E.zspecs f args = some (pre, r) → pre → PureZ E.P f args r

theorem callFunc_run {P : Program} {g : FuncId} (h : hasBody P g = true) (args : Array Value) (w : World) : (callFunc g args).run P w = .ok (.enter g args) w := by
  unfold hasBody at h
  split at h
  · rename_i fn hf
    simp only [Bool.and_eq_true, Bool.not_eq_true', beq_eq_false_iff_ne, ne_eq] at h
    obtain ⟨h1, h2⟩ := h
    obtain ⟨b, hb⟩ := Option.isSome_iff_exists.1 h1
    simp [callFunc, hf, h2, hb]
  · cases h

theorem idf_inj (dst : Nat) : ∀ i j, idf dst i = idf dst j → i = j := by
  intro i j h
  unfold idf at h
  omega

theorem call_ok {E : Env} (hS : SpecsOk E) {o : Oper} {ρ : Operand → V} {σ : Store} {k : K} {c : Call} {f : Operand} {dst : Nat} (ho : o.op = .call c) (hc : c.callee = .value f)
    (h : callV E (ρ f) (c.args.toList.map ρ) dst σ k) : ∃ v σ', k v σ' ∧ OpOk E.P o ρ σ v σ' := by
  have hops : o.op.operands.toList = f :: c.args.toList := by rw [ho]; simp [Op.operands, Call.operands, hc]
  unfold callV at h
  split at h
  · rename_i g a b hf
    split at h
    · rename_i hb
      have start : ∀ {B : Nat → Prop} {F : Fr} {ρr : Operand → Value} {w : World} {μ : Mu}, Inv B ⟨w, σ, μ, F⟩ → (∀ x, x ∈ o.op.operands.toList → Rep ⟨w, σ, μ, F⟩ (ρ x) (ρr x)) →
          ∃ us : List Value, RepL ⟨w, σ, μ, F⟩ (a ++ c.args.toList.map ρ ++ b) us ∧ (execOp ρr o).run E.P w = .ok (.enter g us.toArray) w := by
        intro B F ρr w μ hI hr
        have hrf := hr f (mem_ops hops (by simp))
        rw [hf] at hrf
        obtain ⟨vs, ws, e, h1, h2⟩ := hrf.fn_inv
        have hargs : RepL ⟨w, σ, μ, F⟩ (c.args.toList.map ρ) (c.args.toList.map ρr) := ⟨by simp, fun j x u hx hu => by
          simp only [List.getElem?_map, Option.map_eq_some_iff] at hx hu
          obtain ⟨y, hy, rfl⟩ := hx
          obtain ⟨y', hy', rfl⟩ := hu
          rw [hy] at hy'
          cases hy'
          exact hr y (mem_ops hops (List.mem_cons_of_mem _ (List.mem_of_getElem? hy)))⟩
        have hall := (h1.append hargs).append h2
        refine ⟨_, hall, ?_⟩
        have e3 : vs ++ c.args.map ρr ++ ws = (vs.toList ++ c.args.toList.map ρr ++ ws.toList).toArray := by
          apply Array.ext'
          simp
        simp only [execOp, ho, resolve, hc, e, Deferred.ofValue, Sem.run_bind, Sem.run_pure, Result.andThen_ok, invoke]
        rw [callFunc_run hb, ← e3]
      split at h
      · rename_i pre r new hu
        obtain ⟨hpre, h⟩ := h
        split at hu
        · cases hu
        have hupd := hS.upd g _ σ pre r new hu hpre
        refine ⟨_, _, h, fun B F ρr w μ hI hB hr => ?_⟩
        obtain ⟨us, hus, hrun⟩ := start hI hr
        unfold OpRuns
        rw [hrun]
        exact (hupd B F w μ us hI hB hus).mono fun e w' ⟨u, he, hq⟩ => ⟨u, he, hq⟩
      split at h
      · rename_i as has
        have hout : ∀ {B : Nat → Prop} {F : Fr} {w : World} {μ : Mu}, Inv B ⟨w, σ, μ, F⟩ → ∀ b, w.heap.size ≤ b → ¬ (Ctx.outerF ⟨w, σ, μ, F⟩).any b := by
          intro B F w μ hI
          rintro b hb ((h3 | ⟨id, o', hg, hm⟩) | h3)
          rotate_left 2
          · exact hI.out b hb (.inr h3)
          · exact hI.out b hb (.inl h3)
          · have h4 := hI.ltB hg hm
            have h5 : b < w.heap.size := h4
            omega
        split at h
        · rename_i pre r hsp
          obtain ⟨hpre, h⟩ := h
          split at hsp
          rotate_left
          · cases hsp
          have hpure := hS.z g as pre r hsp hpre
          split at h
          · rename_i r' hfz
            refine ⟨_, _, h, fun B F ρr w μ hI hB hr => ?_⟩
            obtain ⟨us, hall, hrun⟩ := start hI hr
            have hsn := snapL_ok hI has hall
            have hcalls := hpure _ w _ ⟨hout hI, rfl, fun e he => (hI.marks.gnd e he).1⟩ hsn
            unfold OpRuns
            rw [hrun]
            refine hcalls.mono fun e w' ⟨u, he, hbl, hh⟩ => ⟨u, he, μ, ?_⟩
            obtain ⟨hE, hI2⟩ := evo_of_blocks hI (w' := w') hbl.os hbl.tape hbl.output hbl.size (fun b hb => hbl.block b hb)
            obtain ⟨σ', μ', v', hI', hrv, hov⟩ := hh
            refine ⟨hI2, frz_ok (X' := ⟨w', σ', μ', _⟩) (X := ⟨w', σ, μ, F⟩) hI' rfl (fun b hb => ?_) (fun id o' p hg hm => ?_) hov hfz hrv, hE⟩
            · refine ⟨⟨⟨hb.1.1.1, fun id o' hg hm => hb.2 (.inr ⟨id, o', hg, blk_old hI (w' := w') (fun b hb => hbl.block b hb) hg hm⟩)⟩, hb.1.2⟩, fun h3 => hb.2 (.inl h3)⟩
            · have h1 : w.heap.size ≤ p.1 := hI'.base id o' p hg hm
              have h2 := hI'.lt hg hm
              refine ⟨⟨⟨h2, fun id2 o2 hg2 hm2 => ?_⟩, fun h3 => hI.out _ h1 (.inr h3)⟩, fun h3 => hI.out _ h1 (.inl h3)⟩
              have h4 : p.1 < w.heap.size := hI.ltB hg2 (blk_old hI (w' := w') (fun b hb => hbl.block b hb) hg2 hm2)
              omega
          · exact h.elim
        split at h
        · rename_i pre r hsp
          obtain ⟨hpre, h⟩ := h
          have hpure := hS.pure g as pre r hsp hpre
          -- what the run comes to
          have runs : ∀ {B : Nat → Prop} {F : Fr} {ρr : Operand → Value} {w : World} {μ : Mu} {Q : Value → World → Prop}, Inv B ⟨w, σ, μ, F⟩ → (∀ x, x ∈ o.op.operands.toList → Rep ⟨w, σ, μ, F⟩ (ρ x) (ρr x)) →
              (∀ u w', Below w.heap.size w w' → Handed w.heap.size (Ctx.outerF ⟨w, σ, μ, F⟩) w' r u → Q u w') → OpRuns E.P o ρr w Q := by
            intro B F ρr w μ Q hI hr hQ
            obtain ⟨us, hall, hrun⟩ := start hI hr
            have hsn := snapL_ok hI has hall
            have hout : ∀ b, w.heap.size ≤ b → ¬ (Ctx.outerF ⟨w, σ, μ, F⟩).any b := by
              rintro b hb ((h3 | ⟨id, o', hg, hm⟩) | h3)
              rotate_left 2
              · exact hI.out b hb (.inr h3)
              · exact hI.out b hb (.inl h3)
              · have h4 := hI.ltB hg hm
                have h5 : b < w.heap.size := h4
                omega
            have hcalls := hpure _ w _ ⟨hout, rfl, fun e he => (hI.marks.gnd e he).1⟩ hsn
            unfold OpRuns
            rw [hrun]
            exact hcalls.mono fun e w' ⟨u, he, hbl, hh⟩ => ⟨u, he, hQ u w' hbl hh⟩
          split at h
          · split at h
            · rename_i r' hfz
              refine ⟨_, _, h, fun B F ρr w μ hI hB hr => runs hI hr fun u w' hbl hh => ⟨μ, ?_⟩⟩
              obtain ⟨hE, hI2⟩ := evo_of_blocks hI (w' := w') hbl.os hbl.tape hbl.output hbl.size (fun b hb => hbl.block b hb)
              obtain ⟨σ', μ', v', hI', hrv, hov, _⟩ := hh
              refine ⟨hI2, frz_ok (X' := ⟨w', σ', μ', _⟩) (X := ⟨w', σ, μ, F⟩) hI' rfl (fun b hb => ?_) (fun id o' p hg hm => ?_) hov hfz hrv, hE⟩
              · refine ⟨⟨⟨hb.1.1.1, fun id o' hg hm => hb.2 (.inr ⟨id, o', hg, blk_old hI (w' := w') (fun b hb => hbl.block b hb) hg hm⟩)⟩, hb.1.2⟩, fun h3 => hb.2 (.inl h3)⟩
              · have h1 : w.heap.size ≤ p.1 := hI'.base id o' p hg hm
                have h2 := hI'.lt hg hm
                refine ⟨⟨⟨h2, fun id2 o2 hg2 hm2 => ?_⟩, fun h3 => hI.out _ h1 (.inr h3)⟩, fun h3 => hI.out _ h1 (.inl h3)⟩
                have h4 : p.1 < w.heap.size := hI.ltB hg2 (blk_old hI (w' := w') (fun b hb => hbl.block b hb) hg2 hm2)
                omega
            · exact h.elim
          · split at h
            · rename_i r' new n hex
              split at h
              · rename_i hfr
                exact ⟨_, _, h, fun B F ρr w μ hI hB hr => runs hI hr fun u w' hbl hh => take_ok hI hB hbl hh (idf_inj dst) hex hfr⟩
              · exact h.elim
            · exact h.elim
        · exact h.elim
      · exact h.elim
    · split at h
      · rename_i pre r hx
        obtain ⟨hpre, h⟩ := h
        refine ⟨r, σ, h, ok_pure fun X ρr hσ hI hr => ?_⟩
        have hrf := hr f (mem_ops hops (by simp))
        rw [hf] at hrf
        obtain ⟨vs, ws, e, h1, h2⟩ := hrf.fn_inv
        have hargs : RepL X (c.args.toList.map ρ) (c.args.toList.map ρr) := ⟨by simp, fun j x u hx hu => by
          simp only [List.getElem?_map, Option.map_eq_some_iff] at hx hu
          obtain ⟨y, hy, rfl⟩ := hx
          obtain ⟨y', hy', rfl⟩ := hu
          rw [hy] at hy'
          cases hy'
          exact hr y (mem_ops hops (List.mem_cons_of_mem _ (List.mem_of_getElem? hy)))⟩
        have hall := (h1.append hargs).append h2
        obtain ⟨u, k1, k2⟩ := hS.ext g _ pre r hx hpre X _ hall
        refine ⟨u, ?_, k2⟩
        have e3 : vs ++ c.args.map ρr ++ ws = (vs.toList ++ c.args.toList.map ρr ++ ws.toList).toArray := by
          apply Array.ext'
          simp
        simp only [execOp, ho, resolve, hc, e, Deferred.ofValue, Sem.run_bind, Sem.run_pure, Result.andThen_ok, invoke]
        rw [e3, k1]
      · exact h.elim
  · exact h.elim

/-- **Every operation.** -/
theorem op_ok {E : Env} (hS : SpecsOk E) {o : Oper} {ρ : Operand → V} {σ : Store} {k : K} (h : vcOp E o ρ σ k) : ∃ v σ', k v σ' ∧ OpOk E.P o ρ σ v σ' := by
  unfold vcOp at h
  simp only at h
  split at h
  · rename_i x ho
    refine ⟨_, _, h, ok_pure fun X ρr _ _ hr => ⟨ρr x, by simp [execOp, ho], hr x (by rw [ho]; simp [Op.operands])⟩⟩
  · rename_i x ho
    refine ⟨_, _, h, ok_pure fun X ρr _ _ hr => ⟨ρr x, by simp [execOp, ho], hr x (by rw [ho]; simp [Op.operands])⟩⟩
  · rename_i c a b ho; exact pick_ok ho h
  · rename_i t ho; exact alloc_ok ho h
  · rename_i t x ho; exact box_ok ho h
  · rename_i t ps ho; exact build_ok ho h
  · rename_i t n ps ho; exact buildSlice_ok ho h
  · rename_i t a ho; exact load_ok ho h
  · rename_i t a x ho; exact store_ok ho h
  · rename_i x ho; exact nilCheck_ok ho h
  · rename_i op t x y t2 ho; exact binO_ok ho h
  · rename_i op t x ho; exact un_ok ho h
  · rename_i s d x ho; exact conv_ok ho h
  · rename_i fn a b ho; exact makeFunc_ok ho h
  · rename_i t l c ho; exact makeSlice_ok ho h
  · rename_i t x lo hi mx ho; exact slice_ok ho h
  · rename_i t x f ho; exact fieldAddr_ok ho h
  · rename_i t x f ho; exact field_ok ho h
  · rename_i t x i ho; exact indexAddr_ok ho h
  · rename_i t x i ho; exact index_ok ho h
  · rename_i x i ho
    split at h
    · rename_i vs hx
      split at h
      · rename_i v hv; exact extract_ok ho hx hv h
      · exact h.elim
    · exact h.elim
  · rename_i c ho
    split at h
    · rename_i hc
      split at h
      · rename_i x t ha ht
        split at h
        · rename_i hs; exact len_ok ho hc ha hs ht h
        · exact h.elim
      · exact h.elim
    · rename_i hc
      split at h
      · rename_i d x t t' h0 h1 t0 t1
        split at h
        · rename_i hcond
          obtain ⟨rfl, hs, ts⟩ := hcond
          exact append_ok ho hc h0 h1 hs t0 t1 ts h
        · exact h.elim
      · exact h.elim
    · rename_i f hc; exact call_ok hS ho hc h
    · exact h.elim
  · exact h.elim

end Go.Vm
