/-
  The engine, part 5: the operations that only reckon.
-/
import Derived.Laws.BytesArg
import Derived.Test.YtdplodofdfkndaaDoorVm4
import Derived.ChangeKeysEq
namespace Go.Vm

theorem InK.wrap {k : IntKind} {n : Int} (h : InK k n) : k.wrap n = n := by
  cases k <;> simp only [InK] at h <;> simp only [IntKind.wrap, IntKind.bits, IntKind.signed] <;> simp <;> omega

section
variable {P : Program} {o : Oper} {ρ : Operand → V} {σ : Store} {k : K}

theorem beqd {α : Type} [DecidableEq α] (a b : α) : (a == b) = decide (a = b) := by by_cases h : a = b <;> simp [h]

theorem bytes_list_eq {a b : ByteArray} : (a.toList == b.toList) = decide (a.data.toList = b.data.toList) := by
  rw [ByteArray.toList_eq, ByteArray.toList_eq]
  by_cases h : a.data.toList = b.data.toList
  · rw [h]; simp
  · rw [decide_eq_false h]; exact beq_eq_false_iff_ne.2 h

theorem num_ok {wr : Bool} {kd : IntKind} {n : Int} (h : num wr kd n σ k) : ∃ m, k (.int kd m) σ ∧ kd.wrap n = m := by
  unfold num at h
  split at h
  · exact ⟨_, h, rfl⟩
  · exact ⟨_, h.2, h.1.wrap⟩

theorem intBin_ok {wr : Bool} {op : BinOp} {kd : IntKind} {a b : Int} (h : intBin wr op kd a b σ k) :
    ∃ v, k v σ ∧ ∀ (t : TypeId) (w : World), ∃ u, (binOp op t (.int kd a) (.int kd b)).run P w = .ok u w ∧ ∀ X, Rep X v u := by
  unfold intBin at h
  split at h
  case h_1 => obtain ⟨m, h1, h2⟩ := num_ok h; exact ⟨_, h1, fun t w => ⟨.int kd m, by simp [binOp, Op.intArith, h2], fun X => .int⟩⟩
  case h_2 => obtain ⟨m, h1, h2⟩ := num_ok h; exact ⟨_, h1, fun t w => ⟨.int kd m, by simp [binOp, Op.intArith, h2], fun X => .int⟩⟩
  case h_3 => obtain ⟨m, h1, h2⟩ := num_ok h; exact ⟨_, h1, fun t w => ⟨.int kd m, by simp [binOp, Op.intArith, h2], fun X => .int⟩⟩
  case h_4 => obtain ⟨hb, h⟩ := h; obtain ⟨m, h1, h2⟩ := num_ok h; exact ⟨_, h1, fun t w => ⟨.int kd m, by simp [binOp, Op.intDiv, hb, h2], fun X => .int⟩⟩
  case h_5 => obtain ⟨hb, h⟩ := h; exact ⟨_, h, fun t w => ⟨.int kd (a.tmod b), by simp [binOp, Op.intDiv, hb], fun X => .int⟩⟩
  case h_6 => exact ⟨_, h, fun t w => ⟨.bool (decide (a = b)), by simp only [binOp, Op.intCmp, beqd]; simp, fun X => .bool⟩⟩
  case h_7 => exact ⟨_, h, fun t w => ⟨.bool (!decide (a = b)), by simp only [binOp, Op.intCmp, bne, beqd]; simp, fun X => .bool⟩⟩
  case h_8 => exact ⟨_, h, fun t w => ⟨.bool (decide (a < b)), by simp only [binOp, Op.intCmp]; simp, fun X => .bool⟩⟩
  case h_9 => exact ⟨_, h, fun t w => ⟨.bool (decide (a ≤ b)), by simp only [binOp, Op.intCmp]; simp, fun X => .bool⟩⟩
  case h_10 => exact ⟨_, h, fun t w => ⟨.bool (decide (b < a)), by simp only [binOp, Op.intCmp]; simp, fun X => .bool⟩⟩
  case h_11 => exact ⟨_, h, fun t w => ⟨.bool (decide (b ≤ a)), by simp only [binOp, Op.intCmp]; simp, fun X => .bool⟩⟩
  case h_12 => exact h.elim

theorem strBin_ok {op : BinOp} {a b : List UInt8} (h : strBin op a b σ k) :
    ∃ v, k v σ ∧ ∀ (t : TypeId) (w : World) (s s' : ByteArray), s.data.toList = a → s'.data.toList = b → ∃ u, (binOp op t (.string s) (.string s')).run P w = .ok u w ∧ ∀ X, Rep X v u := by
  unfold strBin at h
  split at h
  case h_1 => exact ⟨_, h, fun t w s s' e1 e2 => ⟨.bool (decide (a = b)), by simp only [binOp, Op.stringOp, bytes_list_eq, e1, e2]; simp, fun X => .bool⟩⟩
  case h_2 => exact ⟨_, h, fun t w s s' e1 e2 => ⟨.bool (!decide (a = b)), by simp only [binOp, Op.stringOp, bytes_list_eq, e1, e2]; simp, fun X => .bool⟩⟩
  case h_3 =>
    refine ⟨_, h.2, fun t w s s' e1 e2 => ⟨.string (s ++ s'), ?_, fun X => .str ?_⟩⟩
    · have h1 : s.size = a.length := by rw [← e1]; rfl
      have h2 : s'.size = b.length := by rw [← e2]; rfl
      have h3 : ¬ (((s.size + s'.size : Nat) : Int) > IntKind.i64.max) := by
        have := h.1
        simp only [IntKind.max, IntKind.signed, IntKind.bits]
        simp
        omega
      simp only [binOp, Op.stringOp, h3, if_false]
      simp
    · rw [← e1, ← e2]; simp
  case h_4 => exact ⟨_, h, fun t w s s' e1 e2 => ⟨.bool (Op.bytesLess a b), by simp only [binOp, Op.stringOp, ByteArray.toList_eq, e1, e2]; simp, fun X => .bool⟩⟩
  case h_5 => exact h.elim

theorem boolOf_rep {X : Ctx} {x : V} {u : Value} {b : Bool} (h : boolOf x = some b) (hr : Rep X x u) : u = .bool b := by
  unfold boolOf at h
  split at h <;> simp at h
  · subst h; exact hr.kb_inv
  · subst h; exact hr.bool_inv

theorem ofCells_rep {X : Ctx} {g : Bool} {cs : List V} {off sz : Nat} {v : V} {vs : Array Value} (h : (cut cs off sz).bind (ofCells g) = some v) (hr : RepL X cs vs.toList) {t : TypeId}
    (hg : isAgg? P t = some g) (hn : size? P t = some sz) (w : World) : ∃ u, (part t vs off).run P w = .ok u w ∧ Rep X v u := by
  cases hcut : cut cs off sz with
  | none => simp [hcut] at h
  | some c2 =>
    simp only [hcut, Option.bind_some] at h
    obtain ⟨hle, rfl⟩ := cut_some hcut
    have hl := hr.1
    simp at hl
    unfold ofCells at h
    cases g with
    | true =>
      simp only [if_true, Option.some.injEq] at h
      subst h
      refine ⟨.agg (vs.extract off (off + sz)), by simp [part, isAgg?_run hg, size?_run hn], RepL.agg ?_⟩
      have e : (vs.extract off (off + sz)).toList = (vs.toList.drop off).take sz := by simp
      rw [e]
      exact (hr.drop off).take sz
    | false =>
      simp only [Bool.false_eq_true, if_false] at h
      split at h
      · rename_i c hc
        simp only [Option.some.injEq] at h
        subst h
        have h1 : sz = 1 := by
          have := congrArg List.length hc
          simp at this
          omega
        subst h1
        have hlt : off < vs.size := by omega
        have hc0 : cs[off]? = some c := by
          have := congrArg (fun l => l[0]?) hc
          simpa [List.getElem?_take, List.getElem?_drop] using this
        refine ⟨vs[off], by simp [part, isAgg?_run hg, hlt], hr.2 off c _ hc0 (by simp [hlt])⟩
      · cases h

mutual
theorem eqT_ok {X : Ctx} : ∀ {n : Nat} {t : TypeId} {x y : V} {b : Bool} {u v : Value} (d : Nat), eqT P n t x y = some b → Rep X x u → Rep X y v → n ≤ d →
    (Op.equalIn d t u v).run P X.w = .ok b X.w
  | 0, t, x, y, b, u, v, d, h, _, _, _ => by simp [eqT] at h
  | n + 1, t, x, y, b, u, v, d, h, hx, hy, hd => by
    obtain ⟨d, rfl⟩ : ∃ d', d = d' + 1 := ⟨d - 1, by omega⟩
    unfold eqT at h
    split at h
    · rename_i kd hu
      split at h
      · split at h
        · rename_i hk
          obtain ⟨rfl, rfl⟩ := hk
          simp only [Option.some.injEq] at h
          subst h
          rw [hx.int_inv, hy.int_inv, run_equalIn_int X.w d t _ _ _ _ hu, beqd]
        · cases h
      · cases h
    · rename_i hu
      split at h
      · rename_i a b' ha hb
        simp only [Option.some.injEq] at h
        subst h
        rw [boolOf_rep ha hx, boolOf_rep hb hy, run_equalIn_bool X.w d t _ _ hu]
      · cases h
    · rename_i hu
      split at h
      · simp only [Option.some.injEq] at h
        subst h
        obtain ⟨s, rfl, e1⟩ := hx.str_inv
        obtain ⟨s', rfl, e2⟩ := hy.str_inv
        rw [run_equalIn_string X.w d t _ _ hu, bytes_list_eq, e1, e2]
      · cases h
    · rename_i fs hu
      split at h
      · split at h
        · rename_i hs
          obtain ⟨us, rfl, hxs⟩ := hx.agg_inv
          obtain ⟨vs, rfl, hys⟩ := hy.agg_inv
          have hf : P.fieldsOf t = fs := by simp [Program.fieldsOf, hu]
          rw [run_equalIn_struct X.w d t us vs (by rw [hf]; exact hu) hs, hf]
          exact eqFieldsV_ok d h hxs hys (by omega)
        · cases h
      · cases h
    · rename_i len e hu
      split at h
      · split at h
        · rename_i hs
          obtain ⟨i, hi⟩ := Option.isSome_iff_exists.1 hs
          obtain ⟨us, rfl, hxs⟩ := hx.agg_inv
          obtain ⟨vs, rfl, hys⟩ := hy.agg_inv
          rw [run_equalIn_array X.w d us vs hu hi]
          exact eqItemsV_ok d h hxs hys (by omega)
        · cases h
      · cases h
    · cases h
theorem eqItemsV_ok {X : Ctx} : ∀ {n : Nat} {e : TypeId} {js : List Nat} {xs ys : List V} {b : Bool} {us vs : Array Value} (d : Nat), eqItemsV P n e xs ys js = some b → RepL X xs us.toList → RepL X ys vs.toList → n ≤ d →
    (Op.eqItems d e (P.cellsOf e) us vs js).run P X.w = .ok b X.w
  | 0, e, js, xs, ys, b, us, vs, d, h, _, _, _ => by simp [eqItemsV] at h
  | n + 1, e, [], xs, ys, b, us, vs, d, h, _, _, _ => by
    simp only [eqItemsV, Option.some.injEq] at h
    subst h
    simp [Op.eqItems]
  | n + 1, e, j :: js, xs, ys, b, us, vs, d, h, hx, hy, hd => by
    unfold eqItemsV at h
    split at h
    · rename_i g sz hg hn
      have hc : P.cellsOf e = sz := by
        unfold size? at hn
        simp only [Option.map_eq_some_iff] at hn
        obtain ⟨i, h1, h2⟩ := hn
        simp [Program.cellsOf, h1, h2]
      split at h
      · rename_i x y hcx hcy
        split at h
        · rename_i b1 b2 hb1 hb2
          simp only [Option.some.injEq] at h
          subst h
          obtain ⟨u, p1, r1⟩ := ofCells_rep hcx hx hg hn X.w
          obtain ⟨v, p2, r2⟩ := ofCells_rep hcy hy hg hn X.w
          have e1 := eqT_ok d hb1 r1 r2 (by omega)
          have e2 := eqItemsV_ok d hb2 hx hy (by omega)
          rw [hc] at e2 ⊢
          simp only [Op.eqItems, Sem.run_bind, p1, p2, e1, Result.andThen_ok, Sem.run_ite]
          cases b1
          · simp
          · simpa using e2
        · cases h
      · cases h
    · cases h
theorem eqFieldsV_ok {X : Ctx} : ∀ {n : Nat} {fs : List Field} {xs ys : List V} {b : Bool} {us vs : Array Value} (d : Nat), eqFieldsV P n xs ys fs = some b → RepL X xs us.toList → RepL X ys vs.toList → n ≤ d →
    (Op.eqFields d us vs fs).run P X.w = .ok b X.w
  | 0, fs, xs, ys, b, us, vs, d, h, _, _, _ => by simp [eqFieldsV] at h
  | n + 1, [], xs, ys, b, us, vs, d, h, _, _, _ => by
    simp only [eqFieldsV, Option.some.injEq] at h
    subst h
    simp [Op.eqFields]
  | n + 1, f :: fs, xs, ys, b, us, vs, d, h, hx, hy, hd => by
    unfold eqFieldsV at h
    split at h
    · rename_i hname
      split at h
      · rename_i g sz hg hn
        split at h
        · rename_i x y hcx hcy
          split at h
          · rename_i b1 b2 hb1 hb2
            simp only [Option.some.injEq] at h
            subst h
            obtain ⟨u, p1, r1⟩ := ofCells_rep hcx hx hg hn X.w
            obtain ⟨v, p2, r2⟩ := ofCells_rep hcy hy hg hn X.w
            have e1 := eqT_ok d hb1 r1 r2 (by omega)
            have e2 := eqFieldsV_ok d hb2 hx hy (by omega)
            simp only [Op.eqFields, hname, ne_eq, not_false_eq_true, if_true, Sem.run_bind, p1, p2, e1, Result.andThen_ok, Sem.run_ite]
            cases b1
            · simp
            · simpa using e2
          · cases h
        · cases h
      · cases h
    · cases h
end

theorem equal_ptr_nil {w : World} {t e : TypeId} (hu : P.underlying t = some (.pointer e)) (x : Option Addr) : (Op.equal t (.pointer x) (.pointer none)).run P w = .ok x.isNone w := by
  show (Op.equalIn (9999 + 1) t (.pointer x) (.pointer none)).run P w = _
  generalize 9999 = d
  cases x <;> simp [Op.equalIn, run_underlying hu]
theorem equal_fn_nil {w : World} {t : TypeId} {a b : Array TypeId} {c : Bool} (hu : P.underlying t = some (.func a b c)) (f : Fn) (us vs : Array Value) : (Op.equal t (.func f us vs) .nilFunc).run P w = .ok false w := by
  show (Op.equalIn (9999 + 1) t (.func f us vs) .nilFunc).run P w = _
  generalize 9999 = d
  simp [Op.equalIn, run_underlying hu]
theorem equal_nilfn {w : World} {t : TypeId} {a b : Array TypeId} {c : Bool} (hu : P.underlying t = some (.func a b c)) : (Op.equal t .nilFunc .nilFunc).run P w = .ok true w := by
  show (Op.equalIn (9999 + 1) t .nilFunc .nilFunc).run P w = _
  generalize 9999 = d
  simp [Op.equalIn, run_underlying hu]

theorem equal_slice_nil {w : World} {t e : TypeId} (hu : P.underlying t = some (.slice e)) (A : Option Addr) (n c : Nat) : (Op.equal t (.slice A n c) (.slice none 0 0)).run P w = .ok A.isNone w := by
  show (Op.equalIn (9999 + 1) t (.slice A n c) (.slice none 0 0)).run P w = _
  generalize 9999 = d
  cases A <;> simp [Op.equalIn, run_underlying hu]

theorem nilQ_ok {X : Ctx} {t : TypeId} {x y : V} {p : Bool → Prop} {u v : Value} (h : nilQ P t X.σ x y = some p) (hx : Rep X x u) (hy : Rep X y v) (a b : Operand) :
    ∃ c, p c ∧ (do eqGuard .eql t a b u v; binOp .eql t u v).run P X.w = .ok (.bool c) X.w ∧ (do eqGuard .neq t a b u v; binOp .neq t u v).run P X.w = .ok (.bool (!c)) X.w := by
  have key : ∀ (A : Option Addr) n c e, P.underlying t = some (.slice e) → (do eqGuard .eql t a b (.slice A n c) (.slice none 0 0); binOp .eql t (.slice A n c) (.slice none 0 0)).run P X.w = .ok (.bool A.isNone) X.w ∧
      (do eqGuard .neq t a b (.slice A n c) (.slice none 0 0); binOp .neq t (.slice A n c) (.slice none 0 0)).run P X.w = .ok (.bool (!A.isNone)) X.w := by
    intro A n c e hu
    constructor <;> simp only [eqGuard, binOp, Sem.run_bind] <;> simp [equal_slice_nil hu]
  unfold nilQ at h
  split at h
  · rename_i e hu
    rw [hy.nils_inv]
    split at h
    · cases h
      rw [hx.nils_inv]
      exact ⟨true, rfl, key _ _ _ _ hu⟩
    · cases h
      obtain ⟨A, cap, rfl, hc, _⟩ := hx.list_inv
      refine ⟨A.isNone, fun hA => ?_, key _ _ _ _ hu⟩
      rename_i l
      apply Classical.byContradiction
      intro hne
      obtain ⟨b0, o0, hA2, _⟩ := hc.2.2 (by omega)
      rw [hA2] at hA
      cases hA
    · rename_i id ep
      split at h
      · rename_i ep' t' l hg
        split at h
        · rename_i hep
          cases h
          obtain ⟨A, len, cap, ep2, t2, l2, rfl, hg', hle, hcur⟩ := hx.slc_inv
          rw [hg] at hg'
          cases hg'
          refine ⟨A.isNone, fun hA => ?_, key _ _ _ _ hu⟩
          have hh := hcur hep
          cases hm : X.μ id with
          | none => rw [hm] at hh; exact hh.2.2
          | some q =>
            obtain ⟨b0, base, C⟩ := q
            rw [hm] at hh
            obtain ⟨_, _, _, a0, rfl, _⟩ := hh
            cases hA
        · cases h
      · cases h
    · cases h
  · cases h

theorem nilEq_ok {X : Ctx} {t : TypeId} {x y : V} {c : Bool} {u v : Value} (h : nilEq P t x y = some c) (hx : Rep X x u) (hy : Rep X y v) (a b : Operand) :
    (do eqGuard .eql t a b u v; binOp .eql t u v).run P X.w = .ok (.bool c) X.w ∧ (do eqGuard .neq t a b u v; binOp .neq t u v).run P X.w = .ok (.bool (!c)) X.w := by
  have ptr : ∀ (x : Option Addr) e, P.underlying t = some (.pointer e) → (do eqGuard .eql t a b (.pointer x) (.pointer none); binOp .eql t (.pointer x) (.pointer none)).run P X.w = .ok (.bool x.isNone) X.w ∧
      (do eqGuard .neq t a b (.pointer x) (.pointer none); binOp .neq t (.pointer x) (.pointer none)).run P X.w = .ok (.bool (!x.isNone)) X.w := by
    intro x e hu
    constructor <;> simp only [eqGuard, binOp, Sem.run_bind] <;> simp [equal_ptr_nil hu]
  have fnn : ∀ (f : Fn) (us vs : Array Value) p q r, P.underlying t = some (.func p q r) → (do eqGuard .eql t a b (.func f us vs) .nilFunc; binOp .eql t (.func f us vs) .nilFunc).run P X.w = .ok (.bool false) X.w ∧
      (do eqGuard .neq t a b (.func f us vs) .nilFunc; binOp .neq t (.func f us vs) .nilFunc).run P X.w = .ok (.bool true) X.w := by
    intro f us vs p q r hu
    constructor <;> simp only [eqGuard, binOp, Sem.run_bind] <;> simp [equal_fn_nil hu]
  unfold nilEq at h
  split at h
  case h_7 => cases h
  all_goals
    split at h <;> simp at h
    subst h
    rename_i hu
  · rw [hx.nilp_inv, hy.nilp_inv]
    exact ptr none _ hu
  · rw [hx.nilf_inv, hy.nilf_inv]
    constructor <;> simp only [eqGuard, binOp, Sem.run_bind] <;> simp [equal_nilfn hu]
  · obtain ⟨_, _, _, _, rfl, _⟩ := hx.ptr_inv
    rw [hy.nilp_inv]
    exact ptr (some _) _ hu
  · obtain ⟨_, _, _, rfl, _⟩ := hx.fptr_inv
    rw [hy.nilp_inv]
    exact ptr (some _) _ hu
  · obtain ⟨_, _, _, _, rfl, _⟩ := hx.eptr_inv
    rw [hy.nilp_inv]
    exact ptr (some _) _ hu
  · obtain ⟨_, _, rfl, _⟩ := hx.fn_inv
    rw [hy.nilf_inv]
    exact fnn _ _ _ _ _ _ hu

theorem eqBin_cases {op : BinOp} {c : Option Bool} {kn : Bool} (h : eqBin op c kn σ k) : ∃ b v, c = some b ∧ k v σ ∧
    ((op = .eql ∧ ∀ X, Rep X v (.bool b)) ∨ (op = .neq ∧ ∀ X, Rep X v (.bool (!b)))) := by
  unfold eqBin at h
  split at h
  · exact ⟨_, _, rfl, h, .inl ⟨rfl, fun X => .kb⟩⟩
  · exact ⟨_, _, rfl, h, .inr ⟨rfl, fun X => .kb⟩⟩
  · exact ⟨_, _, rfl, h, .inl ⟨rfl, fun X => .bool⟩⟩
  · exact ⟨_, _, rfl, h, .inr ⟨rfl, fun X => .bool⟩⟩
  · exact h.elim

theorem bin_ok {E : Env} {op : BinOp} {t : TypeId} {a b : Operand} {t2 : TypeId} (ho : o.op = .binOp op t a b t2) {dst : Nat} (h : binV E op t (ρ a) (ρ b) dst σ k) :
    ∃ v σ', k v σ' ∧ OpOk E.P o ρ σ v σ' := by
  have hops : o.op.operands.toList = [a, b] := by rw [ho]; rfl
  have close : ∀ {v : V}, k v σ → (∀ (X : Ctx) (u u' : Value), Rep X (ρ a) u → Rep X (ρ b) u' → ∃ r, (do eqGuard op t a b u u'; binOp op t u u').run E.P X.w = .ok r X.w ∧ Rep X v r) → ∃ v σ', k v σ' ∧ OpOk E.P o ρ σ v σ' := by
    intro v hk hc
    refine ⟨v, σ, hk, ok_pure fun X ρr _ _ hr => ?_⟩
    obtain ⟨r, h1, h2⟩ := hc X _ _ (hr a (mem_ops hops (by simp))) (hr b (mem_ops hops (by simp)))
    refine ⟨r, ?_, h2⟩
    simp only [execOp, ho]
    simp only [Sem.run_bind] at h1 ⊢
    rw [h1]
    rfl
  unfold binV at h
  split at h
  · rename_i kx x ky y hx hy
    split at h
    · obtain ⟨⟨h0, h1⟩, h⟩ := h
      refine close h fun X u u' r1 r2 => ?_
      rw [hx] at r1
      rw [hy] at r2
      rw [r1.int_inv, r2.int_inv]
      refine ⟨_, ?_, .int⟩
      have hg : eqGuard .shr t a b (.int kx x) (.int ky y) = pure () := rfl
      rw [hg]
      have hm : min y.toNat kx.bits = y.toNat := by omega
      have hp : (0 : Int) ≤ ((2 ^ y.toNat : Nat) : Int) := Int.natCast_nonneg _
      simp only [binOp, Op.shift, hm, Sem.run_bind, Sem.run_pure, Result.andThen_ok]
      rw [if_neg (by omega)]
      rw [← Int.fdiv_eq_ediv_of_nonneg x hp]
      simp
    · obtain ⟨⟨h0, h1⟩, h⟩ := h
      refine close h fun X u u' r1 r2 => ?_
      rw [hx] at r1
      rw [hy] at r2
      rw [r1.int_inv, r2.int_inv]
      refine ⟨_, ?_, .int⟩
      have hg : eqGuard .shl t a b (.int kx x) (.int ky y) = pure () := rfl
      rw [hg]
      have hm : min y.toNat kx.bits = y.toNat := by omega
      simp only [binOp, Op.shift, hm, Sem.run_bind, Sem.run_pure, Result.andThen_ok]
      rw [if_neg (by omega)]
      simp
    split at h
    · rename_i hk
      subst hk
      obtain ⟨v, h1, h2⟩ := intBin_ok (P := E.P) h
      refine close h1 fun X u u' r1 r2 => ?_
      rw [hx] at r1
      rw [hy] at r2
      rw [r1.int_inv, r2.int_inv]
      obtain ⟨r, h3, h4⟩ := h2 t X.w
      refine ⟨r, ?_, h4 X⟩
      have hg : eqGuard op t a b (.int kx x) (.int kx y) = pure () := by cases op <;> rfl
      rw [hg]
      simpa using h3
    · exact h.elim
  · rename_i x y hx hy
    obtain ⟨v, h1, h2⟩ := strBin_ok (P := E.P) h
    refine close h1 fun X u u' r1 r2 => ?_
    rw [hx] at r1
    rw [hy] at r2
    obtain ⟨s, rfl, e1⟩ := r1.str_inv
    obtain ⟨s', rfl, e2⟩ := r2.str_inv
    obtain ⟨r, h3, h4⟩ := h2 t X.w s s' e1 e2
    refine ⟨r, ?_, h4 X⟩
    have hg : eqGuard op t a b (.string s) (.string s') = pure () := by cases op <;> rfl
    rw [hg]
    simpa using h3
  · rename_i xs ys hx hy
    split at h
    · rename_i hgt
      obtain ⟨c, v, hc, h1, h2⟩ := eqBin_cases h
      refine close h1 fun X u u' r1 r2 => ?_
      rw [hx] at r1
      rw [hy] at r2
      have he := eqT_ok 10000 hc r1 r2 (by omega)
      obtain ⟨us, rfl, _⟩ := r1.agg_inv
      obtain ⟨vs, rfl, _⟩ := r2.agg_inv
      rcases h2 with ⟨rfl, h2⟩ | ⟨rfl, h2⟩
      · exact ⟨.bool c, by simp only [Sem.run_bind, run_eqGuard_agg X.w .eql t a b us vs hgt, Result.andThen_ok, run_eql_struct, he], h2 X⟩
      · exact ⟨.bool (!c), by simp only [Sem.run_bind, run_eqGuard_agg X.w .neq t a b us vs hgt, Result.andThen_ok, run_neq_struct, he], h2 X⟩
    · exact h.elim
  · rename_i x hx
    split at h
    · rename_i y hu hy
      obtain ⟨c, v, hc, h1, h2⟩ := eqBin_cases h
      refine close h1 fun X u u' r1 r2 => ?_
      rw [hx] at r1
      rw [r1.kb_inv, boolOf_rep hy r2]
      simp only [Option.some.injEq] at hc
      subst hc
      rcases h2 with ⟨rfl, h2⟩ | ⟨rfl, h2⟩
      · exact ⟨.bool (x == y), by simp [eqGuard, run_eql_bool X.w t x y hu], h2 X⟩
      · exact ⟨.bool (!(x == y)), by simp [eqGuard, run_neq_bool X.w t x y hu], h2 X⟩
    · exact h.elim
  · rename_i x hx
    split at h
    · rename_i y hu hy
      obtain ⟨c, v, hc, h1, h2⟩ := eqBin_cases h
      refine close h1 fun X u u' r1 r2 => ?_
      rw [hx] at r1
      rw [r1.bool_inv, boolOf_rep hy r2]
      simp only [Option.some.injEq] at hc
      subst hc
      rcases h2 with ⟨rfl, h2⟩ | ⟨rfl, h2⟩
      · exact ⟨.bool (x == y), by simp [eqGuard, run_eql_bool X.w t x y hu], h2 X⟩
      · exact ⟨.bool (!(x == y)), by simp [eqGuard, run_neq_bool X.w t x y hu], h2 X⟩
    · exact h.elim
  · split at h
    · rename_i p hp
      split at h
      · refine ⟨_, _, h, ok_pure fun X ρr hσ _ hr => ?_⟩
        obtain ⟨c, hc, e1, e2⟩ := nilQ_ok (X := X) (by rw [hσ]; exact hp) (hr a (mem_ops hops (by simp))) (hr b (mem_ops hops (by simp))) a b
        refine ⟨.bool c, ?_, .bq hc⟩
        simp only [execOp, ho]
        simp only [Sem.run_bind] at e1 ⊢
        rw [e1]
        rfl
      · refine ⟨_, _, h, ok_pure fun X ρr hσ _ hr => ?_⟩
        obtain ⟨c, hc, e1, e2⟩ := nilQ_ok (X := X) (by rw [hσ]; exact hp) (hr a (mem_ops hops (by simp))) (hr b (mem_ops hops (by simp))) a b
        refine ⟨.bool (!c), ?_, .bq (by simpa using hc)⟩
        simp only [execOp, ho]
        simp only [Sem.run_bind] at e2 ⊢
        rw [e2]
        rfl
      · exact h.elim
    obtain ⟨c, v, hc, h1, h2⟩ := eqBin_cases h
    refine close h1 fun X u u' r1 r2 => ?_
    obtain ⟨e1, e2⟩ := nilEq_ok hc r1 r2 a b
    rcases h2 with ⟨rfl, h2⟩ | ⟨rfl, h2⟩
    · exact ⟨_, e1, h2 X⟩
    · exact ⟨_, e2, h2 X⟩

theorem equal_err {w : World} {t : TypeId} {ms : Array (String × TypeId)} (hu : P.underlying t = some (.interface ms)) (te : TypeId) (v : Value) : (Op.equal t (.iface te v) .nilIface).run P w = .ok false w := by
  show (Op.equalIn (9999 + 1) t (.iface te v) .nilIface).run P w = _
  generalize 9999 = d
  simp [Op.equalIn, run_underlying hu]
theorem equal_noerr {w : World} {t : TypeId} {ms : Array (String × TypeId)} (hu : P.underlying t = some (.interface ms)) : (Op.equal t .nilIface .nilIface).run P w = .ok true w := by
  show (Op.equalIn (9999 + 1) t .nilIface .nilIface).run P w = _
  generalize 9999 = d
  simp [Op.equalIn, run_underlying hu]

theorem binO_ok {E : Env} {op : BinOp} {t : TypeId} {a b : Operand} {t2 : TypeId} (ho : o.op = .binOp op t a b t2) {dst : Nat} (h : binO E op t b (ρ a) (ρ b) dst σ k) :
    ∃ v σ', k v σ' ∧ OpOk E.P o ρ σ v σ' := by
  unfold binO at h
  split at h
  rotate_left
  · exact bin_ok ho h
  rename_i c hq
  have hops : o.op.operands.toList = [a, b] := by rw [ho]; rfl
  unfold errQ at hq
  split at hq
  rotate_left
  · cases hq
  rename_i c' ms hra hu' hu2
  have hrb : ρ (.const .nilIface) = .nili := by first | exact hu' | exact hu2
  have hu : E.P.underlying t = some (.interface ms) := by first | exact hu' | exact hu2
  cases hq
  obtain ⟨d, v, hc, h1, h2⟩ := eqBin_cases h
  cases hc
  have key : ∀ (X : Ctx) (u : Value), Rep X (.err c) u → (do eqGuard .eql t a (.const .nilIface) u .nilIface; binOp .eql t u .nilIface).run E.P X.w = .ok (.bool (!c)) X.w ∧
      (do eqGuard .neq t a (.const .nilIface) u .nilIface; binOp .neq t u .nilIface).run E.P X.w = .ok (.bool (!!c)) X.w := by
    intro X u hr
    cases hr with
    | errN => constructor <;> simp only [eqGuard, binOp, Sem.run_bind] <;> simp [equal_noerr hu]
    | errS => constructor <;> simp only [eqGuard, binOp, Sem.run_bind] <;> simp [equal_err hu]
  refine ⟨v, σ, h1, ok_pure fun X ρr _ hn hr => ?_⟩
  have hra' := hr a (mem_ops hops (by simp))
  rw [hra] at hra'
  have hrb' := hr (.const .nilIface) (mem_ops hops (by simp))
  rw [hrb] at hrb'
  have hn' : ρr (.const .nilIface) = .nilIface := by generalize ρr (.const .nilIface) = q at hrb'; cases hrb'; rfl
  obtain ⟨e1, e2⟩ := key X _ hra'
  rcases h2 with ⟨rfl, h2⟩ | ⟨rfl, h2⟩
  · refine ⟨_, ?_, h2 X⟩
    simp only [execOp, ho, hn']
    simp only [Sem.run_bind] at e1 ⊢
    rw [e1]
    rfl
  · refine ⟨_, ?_, h2 X⟩
    simp only [execOp, ho, hn']
    simp only [Sem.run_bind] at e2 ⊢
    rw [e2]
    rfl

theorem un_ok {E : Env} {op : UnOp} {t : TypeId} {a : Operand} (ho : o.op = .unOp op t a) {dst : Nat} (h : unV E op (ρ a) dst σ k) :
    ∃ v σ', k v σ' ∧ OpOk E.P o ρ σ v σ' := by
  have hops : o.op.operands.toList = [a] := by rw [ho]; rfl
  unfold unV at h
  split at h
  · rename_i kd n ha
    obtain ⟨m, h1, h2⟩ := num_ok h
    refine ⟨_, _, h1, ok_pure fun X ρr _ _ hr => ⟨.int kd m, ?_, .int⟩⟩
    have hra := hr a (mem_ops hops (by simp))
    rw [ha] at hra
    rw [execOp]
    simp only [ho, hra.int_inv, Op.unary, Op.intArith, h2]
    simp
  · rename_i b ha
    refine ⟨_, _, h, ok_pure fun X ρr _ _ hr => ⟨.bool (!b), ?_, .kb⟩⟩
    have hra := hr a (mem_ops hops (by simp))
    rw [ha] at hra
    simp [execOp, ho, hra.kb_inv, Op.unary]
  · rename_i b ha
    refine ⟨_, _, h, ok_pure fun X ρr _ _ hr => ⟨.bool (!b), ?_, .bool⟩⟩
    have hra := hr a (mem_ops hops (by simp))
    rw [ha] at hra
    simp [execOp, ho, hra.bool_inv, Op.unary]
  · rename_i p ha
    refine ⟨_, _, h, ok_pure fun X ρr _ _ hr => ?_⟩
    have hra := hr a (mem_ops hops (by simp))
    rw [ha] at hra
    generalize hu : ρr a = u at hra
    cases hra with
    | bq hb => exact ⟨.bool (!_), by simp [execOp, ho, hu, Op.unary]; rfl, .bq (by simpa using hb)⟩
  · exact h.elim

theorem bytes_str {P : Program} {w : World} {H G : Nat → Prop} {s d e : TypeId} {l : List Int} {A : Option Addr} {cap : Nat} (hS : RepS w H G (.int .u8) l A l.length cap)
    (hs : P.underlying s = some (.slice e)) (he : P.underlying e = some (.int .u8)) (hd : P.underlying d = some .string) :
    ∃ st : ByteArray, (convert s d (.slice A l.length cap)).run P w = .ok (.string st) w ∧ st.data.toList = l.map fun n => UInt8.ofNat n.toNat := by
  obtain ⟨_, _, hc⟩ := hS
  cases A with
  | none =>
    have h0 : l = [] := by
      cases l with
      | nil => rfl
      | cons x r =>
        obtain ⟨b, o', q, _⟩ := hc (by simp)
        cases q
    subst h0
    exact ⟨ByteArray.empty, run_convert_bytes_nil w s e hs he _ _ d hd, rfl⟩
  | some A =>
    have hl : (loadCells A l.length).run P w = .ok (l.map (Value.int .u8)).toArray w := by
      have := run_loadCells_list (P := P) w A (l.map (Value.int .u8)) (fun j v hj => by
        rw [List.getElem?_map] at hj
        cases hx : l[j]? with
        | none => rw [hx] at hj; cases hj
        | some x =>
          rw [hx] at hj
          cases hj
          have hjl := (List.getElem?_eq_some_iff.1 hx).1
          obtain ⟨b, o', q, _, q2⟩ := hc (by omega)
          cases q
          obtain ⟨row, r1, r2⟩ := q2 j x hx
          have r1 : row = [.int .u8 x] := r1
          subst r1
          have := r2 0 _ rfl
          have hplain : (⟨b, o', none⟩ : Addr).add j = ⟨b, o' + j, none⟩ := by unfold Addr.add; split <;> simp_all
          rw [hplain]
          simpa [Ty.cells] using this)
      simpa using this
    refine ⟨strOfNums l, ?_, strOfNums_data l⟩
    rw [run_convert_bytes_string w s d e _ _ _ hs he hd, run_bytesToString w A _ cap l hl, foldl_push_bytes]
    simp [strOfNums, ByteArray.empty, ByteArray.emptyWithCapacity]
    rfl

theorem conv_ok {E : Env} {s d : TypeId} {a : Operand} (ho : o.op = .convert s d a) {dst : Nat} (h : convV E s d (ρ a) dst σ k) :
    ∃ v σ', k v σ' ∧ OpOk E.P o ρ σ v σ' := by
  have hops : o.op.operands.toList = [a] := by rw [ho]; rfl
  unfold convV at h
  split at h
  · rename_i k1 kd k2 n hs hd ha
    obtain ⟨m, h1, h2⟩ := num_ok h
    refine ⟨_, _, h1, ok_pure fun X ρr _ _ hr => ⟨.int kd m, ?_, .int⟩⟩
    have hra := hr a (mem_ops hops (by simp))
    rw [ha] at hra
    simp [execOp, ho, hra.int_inv, convert, run_underlying hs, run_underlying hd, Conv.intToInt, h2]
  · rename_i l hs hd ha
    refine ⟨_, _, h, ok_pure fun X ρr _ _ hr => ?_⟩
    have hra := hr a (mem_ops hops (by simp))
    rw [ha] at hra
    obtain ⟨st, e, e1⟩ := hra.str_inv
    exact ⟨.string st, by simp [execOp, ho, e, convert, run_underlying hs, run_underlying hd], .str e1⟩
  · rename_i e kd l hs hd ha
    split at h
    · rename_i he
      refine ⟨_, _, h, ok_pure fun X ρr _ _ hr => ?_⟩
      have hra := hr a (mem_ops hops (by simp))
      rw [ha] at hra
      obtain ⟨A, cap, hu, ⟨_, hcap, hc⟩, _⟩ := hra.list_inv
      obtain ⟨st, h1, h2⟩ := bytes_str (s := s) (d := d) (l := l) ⟨rfl, hcap, hc⟩ hs he hd
      refine ⟨.string st, ?_, .str h2⟩
      simp only [execOp, ho, hu]
      rw [Sem.run_bind]
      erw [h1]
      rfl
    · exact h.elim
  · exact h.elim

theorem nilCheck_ok {a : Operand} (ho : o.op = .nilCheck a) (h : nilCheckV (ρ a) σ k) : ∃ v σ', k v σ' ∧ OpOk P o ρ σ v σ' := by
  have hops : o.op.operands.toList = [a] := by rw [ho]; rfl
  unfold nilCheckV at h
  split at h
  · rename_i id off ha
    refine ⟨_, _, h, ok_pure fun X ρr _ _ hr => ?_⟩
    have hra := hr a (mem_ops hops (by simp))
    rw [ha] at hra
    have h0 := hra
    obtain ⟨_, _, _, _, e, _⟩ := hra.ptr_inv
    exact ⟨ρr a, by simp [execOp, ho, e], h0⟩
  · rename_i cells ha
    refine ⟨_, _, h, ok_pure fun X ρr _ _ hr => ?_⟩
    have hra := hr a (mem_ops hops (by simp))
    rw [ha] at hra
    have h0 := hra
    obtain ⟨_, _, _, e, _⟩ := hra.fptr_inv
    exact ⟨ρr a, by simp [execOp, ho, e], h0⟩
  · rename_i id ep i off ha
    refine ⟨_, _, h, ok_pure fun X ρr _ _ hr => ?_⟩
    have hra := hr a (mem_ops hops (by simp))
    rw [ha] at hra
    have h0 := hra
    obtain ⟨_, _, _, _, e, _⟩ := hra.eptr_inv
    exact ⟨ρr a, by simp [execOp, ho, e], h0⟩
  · rename_i id i off ha
    refine ⟨_, _, h, ok_pure fun X ρr _ _ hr => ?_⟩
    have hra := hr a (mem_ops hops (by simp))
    rw [ha] at hra
    have h0 := hra
    obtain ⟨_, _, _, _, _, _, _, _, e, _⟩ := hra.nptr_inv
    exact ⟨ρr a, by simp [execOp, ho, e], h0⟩
  · rename_i f c d ha
    refine ⟨_, _, h, ok_pure fun X ρr _ _ hr => ?_⟩
    have hra := hr a (mem_ops hops (by simp))
    rw [ha] at hra
    have h0 := hra
    obtain ⟨_, _, e, _⟩ := hra.fn_inv
    exact ⟨ρr a, by simp [execOp, ho, e], h0⟩
  · exact h.elim

end
end Go.Vm
