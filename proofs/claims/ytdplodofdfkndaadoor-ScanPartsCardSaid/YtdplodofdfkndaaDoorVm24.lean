/-
  The engine, part 24: from what a function hands back to what a law says: arguments that are read as data.
-/
import Derived.Test.YtdplodofdfkndaaDoorVm23
import Derived.Below
import Derived.ChangeSame
import Derived.WideKeyArgs
import Derived.OpenShut
namespace Go.Vm
open Go.RowKit (Below)
open Go.ChangeShapes Go.WideShapes Go.WideElems

/-- A struct's fields are a type's parts, one behind the other. -/
def fieldsOk (P : Program) (ok : TypeId → Ty → Bool) : List Field → Nat → Ty → Bool
  | [f], off, ty => f.offset == off && (ok f.type ty && P.cellsOf f.type == ty.cells)
  | f :: r, off, .pair a b => f.offset == off && (ok f.type a && (P.cellsOf f.type == a.cells && fieldsOk P ok r (off + a.cells) b))
  | _, _, _ => false

def arrOk (P : Program) (ok : TypeId → Ty → Bool) (e : TypeId) : Nat → Ty → Bool
  | 1, ty => ok e ty && P.cellsOf e == ty.cells
  | n + 2, .pair a b => ok e a && (P.cellsOf e == a.cells && arrOk P ok e (n + 1) b)
  | _, _ => false

/-- A program's type is plain data of this type. -/
def tyOk (P : Program) : Nat → TypeId → Ty → Bool
  | 0, _, _ => false
  | n + 1, t, ty => match P.underlying t with
    | some .bool => (match ty with
      | .bool => true
      | _ => false)
    | some .string => (match ty with
      | .str => true
      | _ => false)
    | some (.int k) => (match ty with
      | .int k' => k == k'
      | _ => false)
    | some (.slice e) => (match ty with
      | .slice ty' => tyOk P n e ty' && P.cellsOf e == ty'.cells
      | _ => false)
    | some (.struct fs) => fieldsOk P (tyOk P n) fs.toList 0 ty && P.cellsOf t == ty.cells
    | some (.array m e) => arrOk P (tyOk P n) e m ty && P.cellsOf t == ty.cells
    | _ => false

/-- Data in their ranges. -/
def okD : (t : Ty) → t.den → Prop
  | .bool, _ => True
  | .str, l => List.length l ≤ maxLen
  | .int k, n => InK k n
  | .slice t, l => List.length l ≤ maxLen ∧ ∀ (i : Nat) (x : t.den), nth (α := t.den) l i = some x → okD t x
  | .pair a b, x => okD a x.1 ∧ okD b x.2

theorem inK_of_wf {k : IntKind} {n : Int} (h : (Lit.int k n).wf = true) : InK k n := by
  cases k <;> simp [Lit.wf, IntKind.min, IntKind.max, IntKind.signed, IntKind.bits] at h <;> simp only [InK] <;> omega

section
variable {H : Type} {enc : TypeId × Value → H} {P : Program} {w : World} {base : Nat} {spare : Nat → Bool} {held : Bool}

abbrev Lies (w : World) (b : Nat) : Prop := b < w.heap.size

theorem fields_rep {ok : TypeId → Ty → Bool} {rd : TypeId → List Value → Option (DataW H × List MemPlace)} (hok : ∀ t ty cs x, ok t ty = true → rd t cs = some x → ∃ d, RepC w (Lies w) ty d cs ∧ okD ty d) {cs : List Value} :
    ∀ (fs : List Field) (off : Nat) (ty : Ty), fieldsOk P ok fs off ty = true → (∀ f ∈ fs, ∃ x, rd f.type ((cs.drop f.offset).take (P.cellsOf f.type)) = some x) → (cs.drop off).length = ty.cells → ∃ d, RepC w (Lies w) ty d (cs.drop off) ∧ okD ty d
  | [], off, ty, h, _, _ => by simp [fieldsOk] at h
  | [f], off, ty, h, hr, hl => by
    simp only [fieldsOk, Bool.and_eq_true, beq_iff_eq] at h
    obtain ⟨rfl, h2, h3⟩ := h
    obtain ⟨x, hx⟩ := hr f (by simp)
    obtain ⟨d, hd⟩ := hok _ _ _ _ h2 hx
    rw [List.take_of_length_le (by omega)] at hd
    exact ⟨d, hd⟩
  | f :: g :: r, off, .pair a b, h, hr, hl => by
    simp only [fieldsOk, Bool.and_eq_true, beq_iff_eq] at h
    obtain ⟨rfl, h2, h3, h4⟩ := h
    obtain ⟨x, hx⟩ := hr f (by simp)
    obtain ⟨d1, hd1, ho1⟩ := hok _ _ _ _ h2 hx
    simp only [Ty.cells, List.length_drop] at hl
    obtain ⟨d2, hd2, ho2⟩ := fields_rep hok (g :: r) (f.offset + a.cells) b h4 (fun q hq => hr q (List.mem_cons_of_mem _ hq)) (by simp only [List.length_drop]; omega)
    refine ⟨(d1, d2), ⟨_, _, ?_, hd1, hd2⟩, ho1, ho2⟩
    rw [h3, ← List.drop_drop, List.take_append_drop]
  | f :: g :: r, off, .bool, h, _, _ => by simp [fieldsOk] at h
  | f :: g :: r, off, .str, h, _, _ => by simp [fieldsOk] at h
  | f :: g :: r, off, .int _, h, _, _ => by simp [fieldsOk] at h
  | f :: g :: r, off, .slice _, h, _, _ => by simp [fieldsOk] at h

theorem arr_rep {ok : TypeId → Ty → Bool} {e : TypeId} {rd : TypeId → List Value → Option (DataW H × List MemPlace)} (hok : ∀ t ty cs x, ok t ty = true → rd t cs = some x → ∃ d, RepC w (Lies w) ty d cs ∧ okD ty d) {cs : List Value} :
    ∀ (n i : Nat) (ty : Ty), arrOk P ok e n ty = true → (∀ j, i ≤ j → j < i + n → ∃ x, rd e ((cs.drop (j * P.cellsOf e)).take (P.cellsOf e)) = some x) → (cs.drop (i * P.cellsOf e)).length = ty.cells → ∃ d, RepC w (Lies w) ty d (cs.drop (i * P.cellsOf e)) ∧ okD ty d
  | 0, i, ty, h, _, _ => by simp [arrOk] at h
  | 1, i, ty, h, hr, hl => by
    simp only [arrOk, Bool.and_eq_true, beq_iff_eq] at h
    obtain ⟨h2, h3⟩ := h
    obtain ⟨x, hx⟩ := hr i (Nat.le_refl _) (by omega)
    obtain ⟨d, hd⟩ := hok _ _ _ _ h2 hx
    rw [List.take_of_length_le (by omega)] at hd
    exact ⟨d, hd⟩
  | n + 2, i, .pair a b, h, hr, hl => by
    simp only [arrOk, Bool.and_eq_true, beq_iff_eq] at h
    obtain ⟨h2, h3, h4⟩ := h
    obtain ⟨x, hx⟩ := hr i (Nat.le_refl _) (by omega)
    obtain ⟨d1, hd1, ho1⟩ := hok _ _ _ _ h2 hx
    simp only [Ty.cells, List.length_drop] at hl
    have ei : (i + 1) * P.cellsOf e = i * P.cellsOf e + a.cells := by rw [Nat.succ_mul, h3]
    obtain ⟨d2, hd2, ho2⟩ := arr_rep hok (n + 1) (i + 1) b h4 (fun j h5 h6 => hr j (by omega) (by omega)) (by simp only [List.length_drop]; omega)
    refine ⟨(d1, d2), ⟨_, _, ?_, hd1, hd2⟩, ho1, ho2⟩
    rw [ei, h3, ← List.drop_drop, List.take_append_drop]
  | n + 2, i, .bool, h, _, _ => by simp [arrOk] at h
  | n + 2, i, .str, h, _, _ => by simp [arrOk] at h
  | n + 2, i, .int _, h, _, _ => by simp [arrOk] at h
  | n + 2, i, .slice _, h, _, _ => by simp [arrOk] at h

theorem choose_list {α : Type} {Q : Nat → α → Prop} : ∀ (n : Nat), (∀ i, i < n → ∃ x, Q i x) → ∃ l : List α, l.length = n ∧ ∀ i x, l[i]? = some x → Q i x
  | 0, _ => ⟨[], rfl, fun i x h => by simp at h⟩
  | n + 1, h => by
    obtain ⟨l, h1, h2⟩ := choose_list n (fun i hi => h i (by omega))
    obtain ⟨x, hx⟩ := h n (by omega)
    refine ⟨l ++ [x], by simp [h1], fun i y hy => ?_⟩
    by_cases hi : i < n
    · rw [List.getElem?_append_left (by omega)] at hy
      exact h2 i y hy
    · rw [List.getElem?_append_right (by omega)] at hy
      have : i = n := by
        have := (List.getElem?_eq_some_iff.1 hy).1
        simp at this; omega
      subst this
      rw [h1, Nat.sub_self] at hy
      simp at hy
      subst hy
      exact hx

/-- **What is read as data lies as data.** -/
theorem trod_rep : ∀ (n : Nat) (t : TypeId) (ty : Ty) (fuel : Nat) (cs : List Value) (x : DataW H × List MemPlace), tyOk P n t ty = true → DataW.trod enc P w base spare held fuel t cs = some x → ∃ d, RepC w (Lies w) ty d cs ∧ okD ty d
  | 0, _, _, _, _, _, h, _ => by simp [tyOk] at h
  | n + 1, t, ty, fuel, cs, x, h, hx => by
    unfold tyOk at h
    split at h
    · rename_i hu
      split at h
      · obtain ⟨b, rfl, _⟩ := DataW.trod_bool hu hx
        exact ⟨b, rfl, trivial⟩
      · cases h
    · rename_i hu
      split at h
      · obtain ⟨s, rfl, _, hs⟩ := DataW.trod_string hu hx
        exact ⟨s.data.toList, ⟨s, rfl, rfl⟩, by simpa [okD] using hs⟩
      · cases h
    · rename_i k hu
      split at h
      · rename_i k'
        obtain ⟨m, rfl, _, hw⟩ := DataW.trod_int hu hx
        have : k = k' := by simpa using h
        subst this
        exact ⟨m, rfl, inK_of_wf hw⟩
      · cases h
    · rename_i e hu
      split at h
      · rename_i ty'
        simp only [Bool.and_eq_true, beq_iff_eq] at h
        obtain ⟨h1, h2⟩ := h
        rcases DataW.trod_slice hu hx with ⟨rfl, _⟩ | ⟨a, len, cap, elems, rest, m, rfl, rfl, _, hb, hl, hm, hlen, hel, _, _⟩
        · exact ⟨([] : List ty'.den), ⟨none, 0, rfl, Nat.le_refl _, fun h0 => absurd h0 (Nat.lt_irrefl _)⟩, Nat.zero_le _, fun i x hx => by simp [nth] at hx⟩
        · have each : ∀ i, i < len → ∃ d : ty'.den, (∃ row, RepC w (Lies w) ty' d row ∧ w.cells? base (a.add (i * P.cellsOf e)) (P.cellsOf e) = some row) ∧ okD ty' d := by
            intro i hi
            have h3 := hel i hi
            rw [List.getElem?_eq_getElem (by omega), Option.bind_eq_some_iff] at h3
            obtain ⟨row, h4, h5⟩ := h3
            obtain ⟨d, hd, ho⟩ := trod_rep n e ty' m row _ h1 h5
            exact ⟨d, ⟨row, hd, h4⟩, ho⟩
          obtain ⟨l, hll, hlq⟩ := choose_list len each
          refine ⟨l, ⟨some a, cap, by rw [hll], by omega, fun h0 => ?_⟩, by omega, fun i x hx => (hlq i x hx).2⟩
          obtain ⟨b, off, spot⟩ := a
          have hfirst := hlq 0 l[0] (List.getElem?_eq_getElem h0)
          obtain ⟨⟨row, hr1, hr2⟩, _⟩ := hfirst
          obtain ⟨_, hcl, hat⟩ := World.cells?_some hr2
          have hpos := ty'.cells_pos
          have hc0 := hat 0 (by omega)
          rw [List.getElem?_eq_getElem (by omega)] at hc0
          have hspot : spot = none := by
            have := World.cell?_spot hc0
            simpa [Addr.add] using this
          subst hspot
          have hblt : b < w.heap.size := by
            have := World.block_lt_of_cell? _ _ hc0
            simpa [Addr.add] using this
          refine ⟨b, off, rfl, hblt, fun i x hxi => ?_⟩
          obtain ⟨⟨row', hq1, hq2⟩, _⟩ := hlq i x hxi
          refine ⟨row', hq1, fun j u hu => ?_⟩
          obtain ⟨_, hcl', hat'⟩ := World.cells?_some hq2
          have hj : j < P.cellsOf e := by
            have := (List.getElem?_eq_some_iff.1 hu).1
            omega
          have := hat' j hj
          rw [hu] at this
          rw [← this, add_plain, add_plain, h2]
      · cases h
    · rename_i fs hu
      simp only [Bool.and_eq_true, beq_iff_eq] at h
      obtain ⟨ys, m, rfl, _, hlen, hyl, hf⟩ := DataW.trod_struct hu hx
      obtain ⟨d, hd, ho⟩ := fields_rep (rd := DataW.trod enc P w base spare held m) (P := P) (fun t ty cs x => trod_rep n t ty m cs x) (cs := cs) fs.toList 0 ty h.1 (fun f hfm => by
        obtain ⟨i, hi, e⟩ := List.mem_iff_getElem.1 hfm
        have h3 := hf i f (by rw [← e]; simp at hi; simp [hi])
        simp at hi
        exact ⟨ys[i]'(by omega), by rw [h3, List.getElem?_eq_getElem]⟩) (by rw [List.drop_zero, hlen, h.2])
      rw [List.drop_zero] at hd
      exact ⟨d, hd, ho⟩
    · rename_i m' e hu
      simp only [Bool.and_eq_true, beq_iff_eq] at h
      obtain ⟨ys, m, rfl, _, hlen, hyl, hf⟩ := DataW.trod_array hu hx
      obtain ⟨d, hd, ho⟩ := arr_rep (rd := DataW.trod enc P w base spare held m) (P := P) (fun t ty cs x => trod_rep n t ty m cs x) (cs := cs) (e := e) m' 0 ty h.1 (fun j _ hj => by
        have h3 := hf j (by omega)
        exact ⟨ys[j]'(by omega), by rw [h3, List.getElem?_eq_getElem]⟩) (by rw [Nat.zero_mul, List.drop_zero, hlen, h.2])
      rw [Nat.zero_mul, List.drop_zero] at hd
      exact ⟨d, hd, ho⟩
    · cases h

end

/-- An argument. -/
def argV (g : Bool) (t : Ty) (x : t.den) : V := if g then .agg (enc t x) else (enc t x).headD .any

/-- Arguments. -/
def ArgsT : List (TypeId × Ty) → Type
  | [] => Unit
  | p :: r => p.2.den × ArgsT r

def aggB (P : Program) (t : TypeId) : Bool := match P.underlying t with
  | some (.struct _) | some (.array _ _) => true
  | _ => false

def argsV (P : Program) : (l : List (TypeId × Ty)) → ArgsT l → List V
  | [], _ => []
  | p :: r, x => argV (aggB P p.1) p.2 x.1 :: argsV P r x.2

def argsOk : (l : List (TypeId × Ty)) → ArgsT l → Prop
  | [], _ => True
  | p :: r, x => okD p.2 x.1 ∧ argsOk r x.2

def noF (g : { l : List (Nat × _root_.Go.Obj) // Tabs l }) : Fr := ⟨fun _ => False, fun _ => False, [], g⟩

section
variable {g0 : { l : List (Nat × _root_.Go.Obj) // Tabs l }} {H : Type} {enc : TypeId × Value → H} {P : Program} {w : World} {base : Nat} {spare : Nat → Bool} {held : Bool}

theorem arg_rep {b0 : Nat} {t : TypeId} {ty : Ty} {v : Value} {d : DataW H} {p : List MemPlace} (h : tyOk P 60 t ty = true) (hv : Value.okWide P w .any b0 t v) (hd : DataW.Trod enc P w base spare held t v d p) :
    ∃ x : ty.den, Rep ⟨w, [], fun _ => none, noF g0⟩ (argV (aggB P t) ty x) v ∧ okD ty x := by
  obtain ⟨fuel, hf⟩ := hd
  obtain ⟨x, hx, ho⟩ := trod_rep 60 t ty fuel _ _ h hf
  have hG : ∀ b, Lies w b → Ctx.G ⟨w, [], fun _ => none, noF g0⟩ b := fun b hb => ⟨⟨⟨hb, fun _ _ hg => by simp [Store.get] at hg⟩, fun hh => hh⟩, fun hh => hh⟩
  have hr := enc_rep (X := ⟨w, [], fun _ => none, noF g0⟩) (hx.keep (w' := w) (fun b hb => ⟨hG b hb, rfl⟩))
  refine ⟨x, ?_, ho⟩
  unfold argV aggB
  have one : (∀ cs, v ≠ .agg cs) → Rep ⟨w, [], fun _ => none, noF g0⟩ ((Go.Vm.enc ty x).headD .any) v := by
    intro hne
    have hc : v.cells.toList = [v] := by
      cases v <;> first | rfl | exact absurd rfl (hne _)
    rw [hc] at hr
    have hl := hr.1
    match henc : Go.Vm.enc ty x, hl with
    | [c], _ => rw [henc] at hr; exact hr.2 0 c v rfl rfl
  have agg : ∀ cs, v = .agg cs → Rep ⟨w, [], fun _ => none, noF g0⟩ (.agg (Go.Vm.enc ty x)) v := by
    rintro cs rfl
    exact hr.agg
  unfold tyOk at h
  split at h
  · rename_i hu
    rw [hu]
    obtain ⟨b, rfl⟩ := okWide_bool hu hv
    exact one (fun cs e => by cases e)
  · rename_i hu
    rw [hu]
    obtain ⟨b, rfl⟩ := okWide_string hu hv
    exact one (fun cs e => by cases e)
  · rename_i k hu
    rw [hu]
    obtain ⟨b, rfl⟩ := okWide_int hu hv
    exact one (fun cs e => by cases e)
  · rename_i e hu
    rw [hu]
    obtain ⟨a, len, cap, rfl⟩ := okWide_slice hu hv
    exact one (fun cs e => by cases e)
  · rename_i fs hu
    rw [hu]
    simp only [Value.okWide, hu] at hv
    obtain ⟨cs, rfl, _⟩ := hv
    exact agg cs rfl
  · rename_i m e hu
    rw [hu]
    simp only [Value.okWide, hu] at hv
    obtain ⟨cs, rfl, _⟩ := hv
    exact agg cs rfl
  · cases h

theorem args_rep {b0 : Nat} : ∀ {l : List (TypeId × Ty)} {vs : List Value} {ds : List (DataW H)} {ps : List MemPlace}, (l.all fun p => tyOk P 60 p.1 p.2) = true →
    (∀ (j : Nat) t v, (l.map (·.1))[j]? = some t → vs[j]? = some v → Value.okWide P w .any b0 t v) → DataW.TrodAll enc P w base spare held (l.map (·.1)) vs ds ps →
    ds.length = l.length ∧ ∃ x : ArgsT l, RepL ⟨w, [], fun _ => none, noF g0⟩ (argsV P l x) vs ∧ argsOk l x
  | [], vs, ds, ps, _, _, h => by
    obtain ⟨rfl, rfl, _⟩ := trodAll_nil h
    exact ⟨rfl, (), .nil, trivial⟩
  | p :: r, vs, ds, ps, ht, hv, h => by
    obtain ⟨v, vs', d, ds', a, b, rfl, rfl, rfl, h1, h2⟩ := trodAll_cons h
    simp only [List.all_cons, Bool.and_eq_true] at ht
    obtain ⟨x, hx, ho⟩ := arg_rep ht.1 (hv 0 p.1 v rfl rfl) h1
    obtain ⟨hl, y, hy, hoy⟩ := args_rep ht.2 (fun j t u h3 h4 => hv (j + 1) t u (by simpa using h3) (by simpa using h4)) h2
    exact ⟨by simp [hl], (x, y), .cons hx hy, ho, hoy⟩

theorem args_stay (hl : laidOutB P = true) {W W' : World} {sp : Nat → Bool} : ∀ {ts : List TypeId} {vs : List Value} {ds : List (DataW H)} {ps : List MemPlace}, (ts.all fun t => P.readableRec t && decide (t < P.types.size)) = true →
    DataW.TrodAll enc P W 0 (fun _ => true) true ts vs ds ps → (∀ p ∈ ps, W.sameAt W' p) → (∀ p ∈ ps, sp p.block = true) → DataW.TrodAll enc P W' 0 sp true ts vs ds ps
  | [], vs, ds, ps, _, h, _, _ => by
    obtain ⟨rfl, rfl, rfl⟩ := trodAll_nil h
    exact rfl
  | t :: ts, vs, ds, ps, ht, h, h1, h2 => by
    obtain ⟨v, vs', d, ds', a, b, rfl, rfl, rfl, k1, k2⟩ := trodAll_cons h
    simp only [List.all_cons, Bool.and_eq_true, decide_eq_true_eq] at ht
    exact ⟨a, b, Trod_stays hl ht.1.1 ht.1.2 k1 (fun p hp => h1 p (List.mem_append_left _ hp)) (fun p hp => h2 p (List.mem_append_left _ hp)),
      args_stay hl ht.2 k2 (fun p hp => h1 p (List.mem_append_right _ hp)) (fun p hp => h2 p (List.mem_append_right _ hp)), rfl⟩

/-- The row's last step: all that was there is as it was. -/
theorem post_below {f : Func} {s : ChangeSpec} {apart fresh handsOn again : Bool} {W W' : World} {args : Array Value} {v : Value} {ds gs : List (DataW H)} {before pa pv : List MemPlace}
    (hW : DataW.Whole enc P f.params.toList s.vars apart W args.toList ds gs before)
    (hres : ∀ (b : Nat) (sp : Nat → Bool) (hd : Bool), DataW.TrodAll enc P W' b sp hd f.resultTypes.toList (v.resultList f.resultTypes.size) (s.fn H (ds ++ gs)).results [])
    (hargs : ∀ sp : Nat → Bool, (∀ p ∈ before, sp p.block = true) → DataW.TrodAll enc P W' 0 sp true f.params.toList args.toList (s.fn H (ds ++ gs)).args pa)
    (hvars : ∀ sp : Nat → Bool, (∀ p ∈ before, sp p.block = true) → DataW.TrodVars enc P W' sp s.vars (s.fn H (ds ++ gs)).vars pv)
    (hps : before = pa ++ pv) (hb : Below W.heap.size W W')
    (hok : ∀ (j : Nat) (t : TypeId) (r : Value), f.resultTypes[j]? = some t → (v.resultList f.resultTypes.size)[j]? = some r → Value.okWide P W' .any 0 t r) :
    s.post enc P f apart fresh handsOn again W args v W' := by
  have hlt : ∀ p ∈ before, p.block < W.heap.size := fun p hp => hW.lt p hp
  have hold : ∀ p ∈ before, (fun b => decide (b < W.heap.size)) p.block = true := fun p hp => by simpa using hlt p hp
  refine ⟨ds, gs, before, [], pa, pv, hW, hres _ _ _, hargs _ hold, hvars _ hold, World.keptBut_mono (fun p hp => ⟨hp, ?_⟩) (hb.frame (· ∈ before)), fun _ => ?_⟩
  · rw [hps, List.mem_append] at hp
    exact Or.inr hp
  · obtain ⟨_, _, _, _, _, hz, hn⟩ := hW
    refine ⟨hok, _, _, ([] ++ pa) ++ pv, ⟨[] ++ pa, pv, trodAll_append (hargs _ (fun _ _ => rfl)) (hres _ _ _), hvars _ (fun _ _ => rfl), rfl, ?_, ?_⟩, ?_⟩
    · intro b off hp
      have hin : MemPlace.cell b off ∈ before := by rw [hps]; simpa using hp
      rw [hb.frozen (hlt _ hin)]
      exact hz b off hin
    · intro ha
      have := hn ha
      rw [hps] at this
      simpa using this
    · intro p hp _
      rw [hps]
      simpa using hp

theorem own_bool {σ : Store} {n : Nat} {v : V} {b : Bool} (h : own σ (n + 1) v = some (.bool b)) : v = .bool b := by
  unfold own at h
  repeat' (split at h)
  all_goals first
    | (cases h; done)
    | (cases h; rfl)
    | (simp only [Option.map_eq_some_iff] at h; obtain ⟨_, _, h9⟩ := h; cases h9; done)

/-- **A law holds of what its function hands back.** -/
theorem law_contract (hl : laidOutB P = true) {l : List (TypeId × Ty)} {f : FuncId} {fn : Func} {s : ChangeSpec} {apart : Bool} {rt : TypeId} (hps : fn.params.toList = l.map (·.1))
    (hty : (l.all fun p => tyOk P 60 p.1 p.2) = true) (hrd : ((l.map (·.1)).all fun t => P.readableRec t && decide (t < P.types.size)) = true)
    (hres : fn.resultTypes = #[rt]) (hrt : P.underlying rt = some .bool) (hv : s.vars = []) (hs : ∀ ds : List (DataW H), ds.length = l.length → s.fn H ds = { results := [.lit (.bool true)], args := ds })
    (hp : ∀ x : ArgsT l, argsOk l x → Pure P f (argsV P l x) (.bool true)) (W : World) (hT : ∃ g, Tabs g ∧ ∀ e ∈ g, W.heap[e.1]? = some e.2) (base : Nat) (args : Array Value) (ds gs : List (DataW H)) (before : List MemPlace)
    (hval : ∀ (j : Nat) t v, fn.params[j]? = some t → args[j]? = some v → Value.okWide P W .any base t v) (hW : DataW.Whole enc P fn.params.toList s.vars apart W args.toList ds gs before) :
    Calls P f args W fun e W' => ∃ v, e = .returned v ∧ s.post enc P fn apart true false false W args v W' := by
  have hW' := hW
  obtain ⟨p, q, hA, hV, rfl, _, _⟩ := hW
  have hpj : ∀ (j : Nat), fn.params[j]? = (l.map (·.1))[j]? := fun j => by rw [← hps]; simp
  rw [hps] at hA
  rw [hv] at hV
  obtain ⟨rfl, rfl⟩ := trodVars_none hV
  obtain ⟨g, hg, hgW⟩ := hT
  obtain ⟨hlen, x, hx, ho⟩ := args_rep (g0 := ⟨g, hg⟩) hty (fun j t v h1 h2 => hval j t v (by rw [hpj]; exact h1) (by simpa using h2)) hA
  refine (hp x ho (noF ⟨g, hg⟩) W args.toList ⟨fun b _ hh => by rcases hh with hh | hh <;> exact hh, rfl, hgW⟩ hx).mono fun e W' ⟨u, he, hb, hh⟩ => ⟨u, he, ?_⟩
  obtain ⟨σ', μ', v', _, hr, hown, _⟩ := hh
  have hu : u = .bool true := by
    have := own_bool (n := 59) hown
    subst this
    cases hr
    rfl
  subst hu
  have hsame : ∀ p' ∈ p, W.sameAt W' p' := fun p' hp' => hb.same (hW'.lt p' (by simpa using hp'))
  have hfn := hs ds hlen
  refine post_below hW' (pa := p) (pv := []) (fun b sp hd => ?_) (fun sp hsp => ?_) (fun sp _ => ?_) rfl hb (fun j t r h1 h2 => ?_)
  · rw [List.append_nil, hfn, hres]
    exact trodAll_mk1 ⟨1, by simp [DataW.trod, Value.cells, hrt]⟩
  · rw [List.append_nil, hfn, hps]
    exact args_stay hl hrd hA hsame (fun p' hp' => hsp p' (by simpa using hp'))
  · rw [List.append_nil, hfn, hv]; rfl
  · rw [hres] at h1 h2
    have h2' : ([Value.bool true] : List Value)[j]? = some r := h2
    match j with
    | 0 =>
      simp at h1 h2'
      subst h1; subst h2'
      simp [Value.okWide, hrt, Cell.okWide, Cell.ok]
    | j + 1 => simp at h1

end
end Go.Vm
