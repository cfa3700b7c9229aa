/-
  The engine, part 7: pieces of slices and texts, built structs and slices, makes and appends.
-/
import Derived.Test.YtdplodofdfkndaaDoorVm6
namespace Go.Vm
section
variable {P : Program} {o : Oper} {ρ : Operand → V} {σ : Store} {k : K}

theorem bound_rep {X : Ctx} {ρr : Operand → Value} {lo : Option Operand} {b : Option Int} (h : boundOf (lo.map ρ) = some b) (hr : ∀ x, lo = some x → Rep X (ρ x) (ρr x)) :
    (b = none ∧ lo.map ρr = none) ∨ ∃ n kd, b = some n ∧ lo.map ρr = some (.int kd n) := by
  cases lo with
  | none => simp [boundOf] at h; exact .inl ⟨h.symm, rfl⟩
  | some x =>
    simp only [Option.map_some, boundOf] at h
    split at h
    · cases ‹some (ρ x) = none›
    · rename_i kd n e
      simp only [Option.some.injEq] at h e
      have hx := hr x rfl
      rw [e] at hx
      exact .inr ⟨n, kd, h.symm, by simp [hx.int_inv]⟩
    · cases h

/-- The bounds, as numbers. -/
def loN (lo : Option Int) : Nat := (lo.getD 0).toNat
def hiN (n : Nat) (hi : Option Int) : Nat := match hi with
  | none => n
  | some h => h.toNat

theorem boundsOk_iff {n : Nat} {lo hi : Option Int} (h : boundsOk n lo hi) : loN lo ≤ hiN n hi ∧ hiN n hi ≤ n := by
  unfold boundsOk at h
  split at h <;> simp only [loN, hiN, Option.getD_none, Option.getD_some] <;> omega

theorem piece_eq {α : Type} (l : List α) {lo hi : Option Int} : piece l lo hi = (l.take (hiN l.length hi)).drop (loN lo) := by
  unfold piece
  split <;> simp [loN, hiN]

/-- The model's bounds, reckoned. -/
theorem run_bounds {isS : Bool} {n cap : Nat} {lo hi : Option Int} {lv hv : Option Value} (hl : (lo = none ∧ lv = none) ∨ ∃ m kd, lo = some m ∧ lv = some (.int kd m))
    (hh : (hi = none ∧ hv = none) ∨ ∃ m kd, hi = some m ∧ hv = some (.int kd m)) (hb : boundsOk n lo hi) (hn : n ≤ cap) (w : World) :
    (Instr.sliceBounds isS n cap lv hv none).run P w = .ok (loN lo, hiN n hi, cap) w := by
  rcases hl with ⟨rfl, rfl⟩ | ⟨a, ka, rfl, rfl⟩ <;> rcases hh with ⟨rfl, rfl⟩ | ⟨b, kb, rfl, rfl⟩ <;> simp only [boundsOk] at hb
  · simp [Instr.sliceBounds, loN, hiN]
  · have h1 : 0 ≤ b ∧ b ≤ (cap : Int) := by omega
    simp [Instr.sliceBounds, Instr.sliceBound, asIntOf, loN, hiN, h1]
  · have h1 : 0 ≤ a ∧ a ≤ (n : Int) := by omega
    simp [Instr.sliceBounds, Instr.sliceBound, asIntOf, loN, hiN, h1]
  · have h1 : 0 ≤ b ∧ b ≤ (cap : Int) := by omega
    have h2 : 0 ≤ a ∧ a ≤ (b.toNat : Int) := by omega
    simp only [Instr.sliceBounds, Instr.sliceBound, asIntOf, Sem.run_bind, Sem.run_pure, Result.andThen_ok, h1, and_self, if_true, h2, loN, hiN, Option.getD_some]

theorem RepS.sub {w : World} {H G : Nat → Prop} {t : Ty} {l : List t.den} {A : Option Addr} {n cap : Nat} (h : RepS w H G t l A n cap) {a b : Nat} (hab : a ≤ b) (hb : b ≤ n) :
    RepS w H G t ((l.take b).drop a) (if cap = a then A else A.map (·.add (a * t.cells))) (b - a) (cap - a) := by
  obtain ⟨rfl, hle, hc⟩ := h
  have hlen : ((l.take b).drop a).length = b - a := by simp; omega
  refine ⟨hlen.symm, by omega, fun h0 => ?_⟩
  obtain ⟨bl, of, rfl, hG, hi⟩ := hc (by omega)
  rw [if_neg (by omega)]
  refine ⟨bl, of + a * t.cells, by simp [Addr.add_lit], hG, fun i x hx => ?_⟩
  have hx' : nth (α := t.den) l (a + i) = some x := by
    have h1 : ((l.take b).drop a)[i]? = some x := hx
    rw [List.getElem?_drop, List.getElem?_take] at h1
    split at h1
    · exact h1
    · cases h1
  obtain ⟨row, r1, r2⟩ := hi (a + i) x hx'
  refine ⟨row, r1, fun j u hu => ?_⟩
  have := r2 j u hu
  rw [Nat.add_mul] at this
  rw [show of + a * t.cells + i * t.cells + j = of + (a * t.cells + i * t.cells) + j by omega]
  exact this

theorem RepS.head {w : World} {H H' G : Nat → Prop} {t : Ty} {l : List t.den} {A : Option Addr} {n cap : Nat} (h : RepS w H G t l A n cap) (hH : ∀ b, H b → H' b) : RepS w H' G t l A n cap := by
  obtain ⟨h1, h2, hc⟩ := h
  refine ⟨h1, h2, fun h0 => ?_⟩
  obtain ⟨b, o, e, hb, hr⟩ := hc h0
  exact ⟨b, o, e, hH b hb, hr⟩

theorem slice_ok {E : Env} {t : TypeId} {x : Operand} {lo hi mx : Option Operand} (ho : o.op = .slice t x lo hi mx) (h : sliceV E t (ρ x) (lo.map ρ) (hi.map ρ) (mx.map ρ) σ k) :
    ∃ v σ', k v σ' ∧ OpOk E.P o ρ σ v σ' := by
  unfold sliceV at h
  split at h
  · rename_i lo' hi' hmx hlo hhi
    have hmx0 : mx = none := by cases mx with
      | none => rfl
      | some _ => cases hmx
    subst hmx0
    have hops : o.op.operands.toList = x :: (lo.toList ++ hi.toList) := by rw [ho]; cases lo <;> cases hi <;> simp [Op.operands]
    have bnd : ∀ (X : Ctx) (ρr : Operand → Value), (∀ y, y ∈ o.op.operands.toList → Rep X (ρ y) (ρr y)) →
        ((lo' = none ∧ lo.map ρr = none) ∨ ∃ m kd, lo' = some m ∧ lo.map ρr = some (.int kd m)) ∧ ((hi' = none ∧ hi.map ρr = none) ∨ ∃ m kd, hi' = some m ∧ hi.map ρr = some (.int kd m)) :=
      fun X ρr hr => ⟨bound_rep (X := X) hlo (fun y hy => hr y (mem_ops hops (by simp [hy]))), bound_rep (X := X) hhi (fun y hy => hr y (mem_ops hops (by simp [hy])))⟩
    split at h
    · rename_i hu
      split at h
      · rename_i l hx
        obtain ⟨hb, h⟩ := h
        refine ⟨_, _, h, ok_pure fun X ρr _ _ hr => ?_⟩
        have hra := hr x (mem_ops hops (by simp))
        rw [hx] at hra
        obtain ⟨s, e, e1⟩ := hra.str_inv
        obtain ⟨b1, b2⟩ := bnd X ρr hr
        have hsz : s.size = l.length := by rw [← e1]; rfl
        have hrun := run_bounds (P := E.P) (isS := false) (n := l.length) (cap := l.length) b1 b2 hb (Nat.le_refl _) X.w
        obtain ⟨i1, i2⟩ := boundsOk_iff hb
        refine ⟨.string (s.extract (loN lo') (hiN l.length hi')), ?_, .str ?_⟩
        · simp only [execOp, ho, e, Instr.sliceAt, Sem.run_bind, run_underlying hu, Result.andThen_ok, Instr.slice, Option.map_none, Option.isSome_none, Bool.false_eq_true, if_false, hsz, hrun, Sem.run_pure]
        · rw [piece_eq, ← e1]
          simp [ByteArray.data_extract, List.drop_take]
      · exact h.elim
    · rename_i el hu
      split at h
      · rename_i sz hsz
        have run : ∀ (ρr : Operand → Value) (w : World) (A : Option Addr) (n cap : Nat), ρr x = .slice A n cap →
            ((lo' = none ∧ lo.map ρr = none) ∨ ∃ m kd, lo' = some m ∧ lo.map ρr = some (.int kd m)) → ((hi' = none ∧ hi.map ρr = none) ∨ ∃ m kd, hi' = some m ∧ hi.map ρr = some (.int kd m)) →
            boundsOk n lo' hi' → n ≤ cap →
            (execOp ρr o).run E.P w = .ok (.value (.slice (if cap = loN lo' then A else A.map (·.add (loN lo' * sz))) (hiN n hi' - loN lo') (cap - loN lo'))) w := by
          intro ρr w A n cap e b1 b2 hb hn
          have hrun := run_bounds (P := E.P) (isS := true) (n := n) (cap := cap) b1 b2 hb hn w
          simp only [execOp, ho, e, Instr.sliceAt, Sem.run_bind, run_underlying hu, Result.andThen_ok, Instr.slice, Option.map_none, hrun, size?_run hsz, Sem.run_pure]
        split at h
        · rename_i kd t' l hx
          split at h
          · rename_i hsc
            subst hsc
            obtain ⟨hb, h⟩ := h
            refine ⟨_, _, h, ok_pure fun X ρr _ _ hr => ?_⟩
            have hra := hr x (mem_ops hops (by simp))
            rw [hx] at hra
            obtain ⟨A, cap, e, hc, _⟩ := hra.list_inv
            obtain ⟨b1, b2⟩ := bnd X ρr hr
            have hle : l.length ≤ cap := hc.2.1
            obtain ⟨i1, i2⟩ := boundsOk_iff hb
            refine ⟨_, run ρr X.w A l.length cap e b1 b2 hb hle, ?_⟩
            rw [piece_eq]
            refine .list ((hc.sub i1 i2).head fun b hb => ⟨hb.1, fun hk => hb.2 fun e => hk ?_⟩) (fun e => ?_)
            · rw [if_pos e]
            · split at e <;> cases e
          · exact h.elim
        · rename_i hx
          split at h
          · refine ⟨_, _, h, ok_pure fun X ρr _ _ hr => ?_⟩
            have hra := hr x (mem_ops hops (by simp))
            rw [hx] at hra
            obtain ⟨b1, b2⟩ := bnd X ρr hr
            refine ⟨_, run ρr X.w none 0 0 hra.nils_inv b1 b2 (by simp [boundsOk]) (Nat.le_refl _), ?_⟩
            simp [loN, hiN]
            exact .nils
          · exact h.elim
        · rename_i id ep hx
          split at h
          · rename_i ep' t' l hg
            split at h
            · rename_i hc
              obtain ⟨hep, hsc⟩ := hc
              subst hsc
              have core : ∀ (rng : Option (Nat × Nat)), boundsOk l.length lo' hi' → ((lo' = none ∧ hi' = none ∧ rng = none) ∨ rng = some (loN lo', hiN l.length hi' - loN lo')) →
                  OpOk E.P o ρ σ (.slc id ep rng) σ := by
                intro rng hb hrng
                refine ok_pure fun X ρr hσ _ hr => ?_
                subst hσ
                have hra := hr x (mem_ops hops (by simp))
                rw [hx] at hra
                obtain ⟨b1, b2⟩ := bnd X ρr hr
                obtain ⟨A, len, cap, ep2, t2, l2, e2, hg', hle, hcur⟩ := hra.slc_inv
                rw [hg] at hg'
                cases hg'
                have hh := hcur hep
                obtain ⟨i1, i2⟩ := boundsOk_iff hb
                have hlc : len = l.length ∧ len ≤ cap := by
                  cases hm : X.μ id with
                  | none => rw [hm] at hh; simp only [Hdr] at hh; omega
                  | some q => obtain ⟨b, base, C⟩ := q; rw [hm] at hh; simp only [Hdr] at hh; omega
                obtain ⟨rfl, hcap⟩ := hlc
                refine ⟨_, run ρr X.w A _ cap e2 b1 b2 hb hcap, .slc hg hle (fun _ => ?_)⟩
                cases hm : X.μ id with
                | none =>
                  rw [hm] at hh
                  simp only [Hdr] at hh
                  rcases hrng with ⟨rfl, rfl, rfl⟩ | rfl
                  · simp only [Hdr]; refine ⟨?_, ?_, ?_⟩ <;> (try simp only [loN, hiN, Option.getD_none, Int.toNat_zero]) <;> omega
                  · simp only [Hdr]; omega
                | some q =>
                  obtain ⟨b, base, C⟩ := q
                  rw [hm] at hh
                  simp only [Hdr] at hh
                  obtain ⟨_, rfl, hC, a, rfl, ha⟩ := hh
                  rcases hrng with ⟨rfl, rfl, rfl⟩ | rfl
                  · have e0 : loN none = 0 := rfl
                    refine ⟨by rw [e0]; rfl, by rw [e0]; rfl, hC, if cap = loN none then a else a.add (loN none * t'.cells), by split <;> rfl, fun h0 => ?_⟩
                    rw [e0, if_neg (by omega), ha h0]
                    simp [Addr.add_lit]
                  · simp only [Hdr, true_and]
                    refine ⟨by omega, hC, if cap = loN lo' then a else a.add (loN lo' * t'.cells), by split <;> rfl, fun h0 => ?_⟩
                    rw [if_neg (by omega), ha (by omega), Addr.add_lit]
              split at h
              · exact ⟨_, _, h, core none (by simp [boundsOk]) (.inl ⟨rfl, rfl, rfl⟩)⟩
              · rename_i b; exact ⟨_, _, h.2, core _ (by simp only [boundsOk]; exact h.1) (.inr (by simp [loN, hiN]))⟩
              · rename_i a; exact ⟨_, _, h.2, core _ (by simp only [boundsOk]; exact h.1) (.inr (by simp [loN, hiN]))⟩
              · rename_i a b; exact ⟨_, _, h.2, core _ (by simp only [boundsOk]; exact h.1) (.inr (by simp [loN, hiN]))⟩
            · exact h.elim
          · exact h.elim
        · rename_i id ep off m hx
          split at h
          · rename_i ep' t' l hg
            split at h
            · rename_i hc
              obtain ⟨hep, hsc⟩ := hc
              subst hsc
              have core : boundsOk m lo' hi' → OpOk E.P o ρ σ (.slc id ep (some (off + loN lo', hiN m hi' - loN lo'))) σ := by
                intro hb
                refine ok_pure fun X ρr hσ _ hr => ?_
                subst hσ
                have hra := hr x (mem_ops hops (by simp))
                rw [hx] at hra
                obtain ⟨b1, b2⟩ := bnd X ρr hr
                obtain ⟨A, len, cap, ep2, t2, l2, e2, hg', hle, hcur⟩ := hra.slc_inv
                rw [hg] at hg'
                cases hg'
                have hh := hcur hep
                obtain ⟨i1, i2⟩ := boundsOk_iff hb
                have hlc : len = m ∧ len ≤ cap := by
                  cases hm : X.μ id with
                  | none => rw [hm] at hh; simp only [Hdr] at hh; omega
                  | some q => obtain ⟨b, base, C⟩ := q; rw [hm] at hh; simp only [Hdr] at hh; omega
                obtain ⟨rfl, hcap⟩ := hlc
                refine ⟨_, run ρr X.w A _ cap e2 b1 b2 hb hcap, .slc hg hle (fun _ => ?_)⟩
                cases hm : X.μ id with
                | none =>
                  rw [hm] at hh
                  simp only [Hdr] at hh
                  simp only [Hdr]
                  omega
                | some q =>
                  obtain ⟨b, base, C⟩ := q
                  rw [hm] at hh
                  simp only [Hdr] at hh
                  obtain ⟨_, h2, hC, rfl, a, rfl, ha⟩ := hh
                  simp only [Hdr, true_and]
                  refine ⟨by omega, hC, by omega, if C - off = loN lo' then a else a.add (loN lo' * t'.cells), by split <;> rfl, fun h0 => ?_⟩
                  rw [if_neg (by omega), ha (by omega), Addr.add_lit, Nat.add_mul, Nat.add_assoc]
              split at h
              · exact ⟨_, _, h, by simpa [loN, hiN] using core (by simp [boundsOk])⟩
              · rename_i b; exact ⟨_, _, h.2, by simpa [loN, hiN] using core (by simp only [boundsOk]; exact h.1)⟩
              · rename_i a; exact ⟨_, _, h.2, by simpa [loN, hiN] using core (by simp only [boundsOk]; exact h.1)⟩
              · rename_i a b; exact ⟨_, _, h.2, by simpa [loN, hiN] using core (by simp only [boundsOk]; exact h.1)⟩
            · exact h.elim
          · exact h.elim
        · exact h.elim
      · exact h.elim
    · exact h.elim
  · exact h.elim

end
end Go.Vm
