/-
  A law whose arguments are of bounded bulk.
-/
import Derived.Test.YteaajihmfacinaaRows
import Derived.Test.YteaajihmfacinaaVmJ
import Derived.JoinedCond
namespace Go.Proofs.Yteaajihmfacinaa.Up
open Go Go.Vm
open Go.RowKit (Below)
open Go.ChangeShapes Go.WideShapes Go.WideElems
def bulkD : (t : Ty) → t.den → Nat
  | .bool, _ => 1
  | .str, _ => 1
  | .int _, _ => 1
  | .slice t, l => (List.map (bulkD t) (l : List t.den)).sum + 1
  | .pair a b, x => bulkD a x.1 + bulkD b x.2
section
variable {H : Type} {enc : TypeId × Value → H} {P : Program} {w : World} {base : Nat} {spare : Nat → Bool} {held : Bool}
theorem ub_pos (d : DataW H) : 1 ≤ Rows.uptoBulk d := by
  unfold Rows.uptoBulk
  split <;> omega
theorem sum_le {α : Type} (f : α → Nat) : ∀ (l : List α) (ys : List (DataW H × List MemPlace)), l.length = ys.length → (∀ (i : Nat) x y, l[i]? = some x → ys[i]? = some y → f x ≤ Rows.uptoBulk y.1) → (l.map f).sum ≤ Rows.uptoBulkAll (ys.map (·.1))
  | [], _, _, _ => Nat.zero_le _
  | x :: l, [], h, _ => by cases h
  | x :: l, y :: ys, h, hh => by
    have h1 := hh 0 x y rfl rfl
    have h2 := sum_le f l ys (by simpa using h) fun i x y hx hy => hh (i + 1) x y (by simpa using hx) (by simpa using hy)
    rw [List.map_cons, List.sum_cons, List.map_cons, Rows.uptoBulkAll]
    omega
theorem fields_up {ok : TypeId → Ty → Bool} {rd : TypeId → List Value → Option (DataW H × List MemPlace)} (hok : ∀ t ty cs x, ok t ty = true → rd t cs = some x → ∃ d, RepC w (Lies w) ty d cs ∧ okD ty d ∧ bulkD ty d ≤ Rows.uptoBulk x.1) {cs : List Value} :
    ∀ (fs : List Field) (ys : List (DataW H × List MemPlace)) (off : Nat) (ty : Ty), fieldsOk P ok fs off ty = true → ys.length = fs.length → (∀ (i : Nat) f, fs[i]? = some f → rd f.type ((cs.drop f.offset).take (P.cellsOf f.type)) = ys[i]?) → (cs.drop off).length = ty.cells → ∃ d, RepC w (Lies w) ty d (cs.drop off) ∧ okD ty d ∧ bulkD ty d ≤ Rows.uptoBulkAll (ys.map (·.1))
  | [], _, off, ty, h, _, _, _ => by simp [fieldsOk] at h
  | [f], ys, off, ty, h, hy, hr, hl => by
    match ys, hy with
    | [y], _ =>
    simp only [fieldsOk, Bool.and_eq_true, beq_iff_eq] at h
    obtain ⟨rfl, h2, h3⟩ := h
    have hx : rd f.type ((cs.drop f.offset).take (P.cellsOf f.type)) = some y := hr 0 f rfl
    obtain ⟨d, hd, ho, hb⟩ := hok _ _ _ _ h2 hx
    rw [List.take_of_length_le (by omega)] at hd
    exact ⟨d, hd, ho, hb⟩
  | f :: g :: r, ys, off, .pair a b, h, hy, hr, hl => by
    match ys, hy with
    | y :: ys, hy =>
    simp only [fieldsOk, Bool.and_eq_true, beq_iff_eq] at h
    obtain ⟨rfl, h2, h3, h4⟩ := h
    have hx : rd f.type ((cs.drop f.offset).take (P.cellsOf f.type)) = some y := hr 0 f rfl
    obtain ⟨d1, hd1, ho1, hb1⟩ := hok _ _ _ _ h2 hx
    simp only [Ty.cells, List.length_drop] at hl
    obtain ⟨d2, hd2, ho2, hb2⟩ := fields_up hok (g :: r) ys (f.offset + a.cells) b h4 (by simpa using hy) (fun i q hq => hr (i + 1) q (by simpa using hq)) (by simp only [List.length_drop]; omega)
    refine ⟨(d1, d2), ⟨_, _, ?_, hd1, hd2⟩, ⟨ho1, ho2⟩, ?_⟩
    · rw [h3, ← List.drop_drop, List.take_append_drop]
    · rw [List.map_cons, Rows.uptoBulkAll]
      show bulkD a d1 + bulkD b d2 ≤ _
      omega
  | f :: g :: r, _, off, .bool, h, _, _, _ => by simp [fieldsOk] at h
  | f :: g :: r, _, off, .str, h, _, _, _ => by simp [fieldsOk] at h
  | f :: g :: r, _, off, .int _, h, _, _, _ => by simp [fieldsOk] at h
  | f :: g :: r, _, off, .slice _, h, _, _, _ => by simp [fieldsOk] at h
theorem arr_up {ok : TypeId → Ty → Bool} {e : TypeId} {rd : TypeId → List Value → Option (DataW H × List MemPlace)} (hok : ∀ t ty cs x, ok t ty = true → rd t cs = some x → ∃ d, RepC w (Lies w) ty d cs ∧ okD ty d ∧ bulkD ty d ≤ Rows.uptoBulk x.1) {cs : List Value} :
    ∀ (n i : Nat) (ys : List (DataW H × List MemPlace)) (ty : Ty), arrOk P ok e n ty = true → ys.length = n → (∀ j, j < n → rd e ((cs.drop ((i + j) * P.cellsOf e)).take (P.cellsOf e)) = ys[j]?) → (cs.drop (i * P.cellsOf e)).length = ty.cells → ∃ d, RepC w (Lies w) ty d (cs.drop (i * P.cellsOf e)) ∧ okD ty d ∧ bulkD ty d ≤ Rows.uptoBulkAll (ys.map (·.1))
  | 0, i, _, ty, h, _, _, _ => by simp [arrOk] at h
  | 1, i, ys, ty, h, hy, hr, hl => by
    match ys, hy with
    | [y], _ =>
    simp only [arrOk, Bool.and_eq_true, beq_iff_eq] at h
    obtain ⟨h2, h3⟩ := h
    have hx : rd e ((cs.drop (i * P.cellsOf e)).take (P.cellsOf e)) = some y := hr 0 (by omega)
    obtain ⟨d, hd, ho, hb⟩ := hok _ _ _ _ h2 hx
    rw [List.take_of_length_le (by omega)] at hd
    exact ⟨d, hd, ho, hb⟩
  | n + 2, i, ys, .pair a b, h, hy, hr, hl => by
    match ys, hy with
    | y :: ys, hy =>
    simp only [arrOk, Bool.and_eq_true, beq_iff_eq] at h
    obtain ⟨h2, h3, h4⟩ := h
    have hx : rd e ((cs.drop (i * P.cellsOf e)).take (P.cellsOf e)) = some y := hr 0 (by omega)
    obtain ⟨d1, hd1, ho1, hb1⟩ := hok _ _ _ _ h2 hx
    simp only [Ty.cells, List.length_drop] at hl
    have ei : (i + 1) * P.cellsOf e = i * P.cellsOf e + a.cells := by rw [Nat.succ_mul, h3]
    obtain ⟨d2, hd2, ho2, hb2⟩ := arr_up hok (n + 1) (i + 1) ys b h4 (by simpa using hy) (fun j h5 => by rw [show i + 1 + j = i + (j + 1) by omega]; exact hr (j + 1) (by omega)) (by simp only [List.length_drop]; omega)
    refine ⟨(d1, d2), ⟨_, _, ?_, hd1, hd2⟩, ⟨ho1, ho2⟩, ?_⟩
    · rw [ei, h3, ← List.drop_drop, List.take_append_drop]
    · rw [List.map_cons, Rows.uptoBulkAll]
      show bulkD a d1 + bulkD b d2 ≤ _
      omega
  | n + 2, i, _, .bool, h, _, _, _ => by simp [arrOk] at h
  | n + 2, i, _, .str, h, _, _, _ => by simp [arrOk] at h
  | n + 2, i, _, .int _, h, _, _, _ => by simp [arrOk] at h
  | n + 2, i, _, .slice _, h, _, _, _ => by simp [arrOk] at h
theorem trod_up : ∀ (n : Nat) (t : TypeId) (ty : Ty) (fuel : Nat) (cs : List Value) (x : DataW H × List MemPlace), tyOk P n t ty = true → DataW.trod enc P w base spare held fuel t cs = some x → ∃ d, RepC w (Lies w) ty d cs ∧ okD ty d ∧ bulkD ty d ≤ Rows.uptoBulk x.1
  | 0, _, _, _, _, _, h, _ => by simp [tyOk] at h
  | n + 1, t, ty, fuel, cs, x, h, hx => by
    unfold tyOk at h
    split at h
    · rename_i hu
      split at h
      · obtain ⟨b, rfl, rfl⟩ := DataW.trod_bool hu hx
        exact ⟨b, rfl, trivial, ub_pos _⟩
      · cases h
    · rename_i hu
      split at h
      · obtain ⟨s, rfl, _, hs⟩ := DataW.trod_string hu hx
        exact ⟨s.data.toList, ⟨s, rfl, rfl⟩, by simpa [okD] using hs, ub_pos _⟩
      · cases h
    · rename_i k hu
      split at h
      · rename_i k'
        obtain ⟨m, rfl, _, hw⟩ := DataW.trod_int hu hx
        have : k = k' := by simpa using h
        subst this
        exact ⟨m, rfl, inK_of_wf hw, ub_pos _⟩
      · cases h
    · rename_i e hu
      split at h
      · rename_i ty'
        simp only [Bool.and_eq_true, beq_iff_eq] at h
        obtain ⟨h1, h2⟩ := h
        rcases DataW.trod_slice hu hx with ⟨rfl, rfl⟩ | ⟨a, len, cap, elems, rest, m, rfl, rfl, rfl, hb, hl, hm, hlen, hel, _, _⟩
        · exact ⟨([] : List ty'.den), ⟨none, 0, rfl, Nat.le_refl _, fun h0 => absurd h0 (Nat.lt_irrefl _)⟩, ⟨Nat.zero_le _, fun i x hx => by simp [nth] at hx⟩, ub_pos _⟩
        · have each : ∀ i, i < len → ∃ d : ty'.den, (∃ row, RepC w (Lies w) ty' d row ∧ w.cells? base (a.add (i * P.cellsOf e)) (P.cellsOf e) = some row) ∧ okD ty' d ∧ ∀ y, elems[i]? = some y → bulkD ty' d ≤ Rows.uptoBulk y.1 := by
            intro i hi
            have h3 := hel i hi
            rw [List.getElem?_eq_getElem (by omega), Option.bind_eq_some_iff] at h3
            obtain ⟨row, h4, h5⟩ := h3
            obtain ⟨d, hd, ho, hbk⟩ := trod_up n e ty' m row _ h1 h5
            exact ⟨d, ⟨row, hd, h4⟩, ho, fun y hy => by rw [List.getElem?_eq_getElem (by omega)] at hy; rw [← Option.some.inj hy]; exact hbk⟩
          obtain ⟨l, hll, hlq⟩ := choose_list len each
          refine ⟨l, ⟨some a, cap, by rw [hll], by omega, fun h0 => ?_⟩, ⟨by omega, fun i x hx => (hlq i x hx).2.1⟩, ?_⟩
          rotate_left
          · have hs := sum_le (bulkD ty') l elems (by omega) fun i x y hx hy => (hlq i x hx).2.2 y hy
            simp only [bulkD, Rows.uptoBulk]
            omega
          obtain ⟨b, off, spot⟩ := a
          have hfirst := hlq 0 l[0] (List.getElem?_eq_getElem h0)
          obtain ⟨⟨row, hr1, hr2⟩, _⟩ := hfirst
          obtain ⟨_, hcl, hat⟩ := World.cells?_some hr2
          have hpos := ty'.cells_pos
          have hc0 := hat 0 (by omega)
          rw [List.getElem?_eq_getElem (by omega)] at hc0
          have hspot : spot = none := by
            have := World.cell?_spot hc0
            simpa [Addr.add] using this
          subst hspot
          have hblt : b < w.heap.size := by
            have := World.block_lt_of_cell? _ _ hc0
            simpa [Addr.add] using this
          refine ⟨b, off, rfl, hblt, fun i x hxi => ?_⟩
          obtain ⟨⟨row', hq1, hq2⟩, _⟩ := hlq i x hxi
          refine ⟨row', hq1, fun j u hu => ?_⟩
          obtain ⟨_, hcl', hat'⟩ := World.cells?_some hq2
          have hj : j < P.cellsOf e := by
            have := (List.getElem?_eq_some_iff.1 hu).1
            omega
          have := hat' j hj
          rw [hu] at this
          rw [← this, add_plain, add_plain, h2]
      · cases h
    · rename_i fs hu
      simp only [Bool.and_eq_true, beq_iff_eq] at h
      obtain ⟨ys, m, rfl, rfl, hlen, hyl, hf⟩ := DataW.trod_struct hu hx
      obtain ⟨d, hd, ho, hb⟩ := fields_up (rd := DataW.trod enc P w base spare held m) (P := P) (fun t ty cs x => trod_up n t ty m cs x) (cs := cs) fs.toList ys 0 ty h.1 (by simpa using hyl) (fun i f hfi => hf i f (by simpa using hfi)) (by rw [List.drop_zero, hlen, h.2])
      rw [List.drop_zero] at hd
      refine ⟨d, hd, ho, ?_⟩
      simp only [Rows.uptoBulk]
      omega
    · rename_i m' e hu
      simp only [Bool.and_eq_true, beq_iff_eq] at h
      obtain ⟨ys, m, rfl, rfl, hlen, hyl, hf⟩ := DataW.trod_array hu hx
      obtain ⟨d, hd, ho, hb⟩ := arr_up (rd := DataW.trod enc P w base spare held m) (P := P) (fun t ty cs x => trod_up n t ty m cs x) (cs := cs) (e := e) m' 0 ys ty h.1 hyl (fun j hj => by rw [Nat.zero_add]; exact hf j hj) (by rw [Nat.zero_mul, List.drop_zero, hlen, h.2])
      rw [Nat.zero_mul, List.drop_zero] at hd
      refine ⟨d, hd, ho, ?_⟩
      simp only [Rows.uptoBulk]
      omega
    · cases h
end
def bulkA : (l : List (TypeId × Ty)) → ArgsT l → Nat
  | [], _ => 0
  | p :: r, x => bulkD p.2 x.1 + bulkA r x.2
section
variable {g0 : { l : List (Nat × _root_.Go.Obj) // Tabs l }} {H : Type} {enc : TypeId × Value → H} {P : Program} {w : World} {base : Nat} {spare : Nat → Bool} {held : Bool}
theorem arg_up {b0 : Nat} {t : TypeId} {ty : Ty} {v : Value} {d : DataW H} {p : List MemPlace} (h : tyOk P 60 t ty = true) (hv : Value.okWide P w .any b0 t v) (hd : DataW.Trod enc P w base spare held t v d p) :
    ∃ x : ty.den, Rep ⟨w, [], fun _ => none, noF g0⟩ (argV (aggB P t) ty x) v ∧ okD ty x ∧ bulkD ty x ≤ Rows.uptoBulk d := by
  obtain ⟨fuel, hf⟩ := hd
  obtain ⟨x, hx, ho, hbk⟩ := trod_up 60 t ty fuel _ _ h hf
  have hG : ∀ b, Lies w b → Ctx.G ⟨w, [], fun _ => none, noF g0⟩ b := fun b hb => ⟨⟨⟨hb, fun _ _ hg => by simp [Store.get] at hg⟩, fun hh => hh⟩, fun hh => hh⟩
  have hr := enc_rep (X := ⟨w, [], fun _ => none, noF g0⟩) (hx.keep (w' := w) (fun b hb => ⟨hG b hb, rfl⟩))
  refine ⟨x, ?_, ho, hbk⟩
  unfold argV aggB
  have one : (∀ cs, v ≠ .agg cs) → Rep ⟨w, [], fun _ => none, noF g0⟩ ((Go.Vm.enc ty x).headD .any) v := by
    intro hne
    have hc : v.cells.toList = [v] := by
      cases v <;> first | rfl | exact absurd rfl (hne _)
    rw [hc] at hr
    have hl := hr.1
    match henc : Go.Vm.enc ty x, hl with
    | [c], _ => rw [henc] at hr; exact hr.2 0 c v rfl rfl
  have agg : ∀ cs, v = .agg cs → Rep ⟨w, [], fun _ => none, noF g0⟩ (.agg (Go.Vm.enc ty x)) v := by
    rintro cs rfl
    exact hr.agg
  unfold tyOk at h
  split at h
  · rename_i hu
    rw [hu]
    obtain ⟨b, rfl⟩ := okWide_bool hu hv
    exact one (fun cs e => by cases e)
  · rename_i hu
    rw [hu]
    obtain ⟨b, rfl⟩ := okWide_string hu hv
    exact one (fun cs e => by cases e)
  · rename_i k hu
    rw [hu]
    obtain ⟨b, rfl⟩ := okWide_int hu hv
    exact one (fun cs e => by cases e)
  · rename_i e hu
    rw [hu]
    obtain ⟨a, len, cap, rfl⟩ := okWide_slice hu hv
    exact one (fun cs e => by cases e)
  · rename_i fs hu
    rw [hu]
    simp only [Value.okWide, hu] at hv
    obtain ⟨cs, rfl, _⟩ := hv
    exact agg cs rfl
  · rename_i m e hu
    rw [hu]
    simp only [Value.okWide, hu] at hv
    obtain ⟨cs, rfl, _⟩ := hv
    exact agg cs rfl
  · cases h
theorem args_up {b0 : Nat} : ∀ {l : List (TypeId × Ty)} {vs : List Value} {ds : List (DataW H)} {ps : List MemPlace}, (l.all fun p => tyOk P 60 p.1 p.2) = true →
    (∀ (j : Nat) t v, (l.map (·.1))[j]? = some t → vs[j]? = some v → Value.okWide P w .any b0 t v) → DataW.TrodAll enc P w base spare held (l.map (·.1)) vs ds ps →
    ds.length = l.length ∧ ∃ x : ArgsT l, RepL ⟨w, [], fun _ => none, noF g0⟩ (argsV P l x) vs ∧ argsOk l x ∧ bulkA l x ≤ Rows.uptoBulkAll ds
  | [], vs, ds, ps, _, _, h => by
    obtain ⟨rfl, rfl, _⟩ := trodAll_nil h
    exact ⟨rfl, (), .nil, trivial, Nat.zero_le _⟩
  | p :: r, vs, ds, ps, ht, hv, h => by
    obtain ⟨v, vs', d, ds', a, b, rfl, rfl, rfl, h1, h2⟩ := trodAll_cons h
    simp only [List.all_cons, Bool.and_eq_true] at ht
    obtain ⟨x, hx, ho, hb1⟩ := arg_up ht.1 (hv 0 p.1 v rfl rfl) h1
    obtain ⟨hl, y, hy, hoy, hb2⟩ := args_up ht.2 (fun j t u h3 h4 => hv (j + 1) t u (by simpa using h3) (by simpa using h4)) h2
    exact ⟨by simp [hl], (x, y), .cons hx hy, ⟨ho, hoy⟩, by simp only [bulkA, Rows.uptoBulkAll]; omega⟩
theorem law_upto (hl : laidOutB P = true) {l : List (TypeId × Ty)} {f : FuncId} {fn : Func} {s : ChangeSpec} {apart : Bool} {rt : TypeId} (hps : fn.params.toList = l.map (·.1))
    (hty : (l.all fun p => tyOk P 60 p.1 p.2) = true) (hrd : ((l.map (·.1)).all fun t => P.readableRec t && decide (t < P.types.size)) = true)
    (hres : fn.resultTypes = #[rt]) (hrt : P.underlying rt = some .bool) (hv : s.vars = []) (hs : ∀ ds : List (DataW H), ds.length = l.length → s.fn H ds = { results := [.lit (.bool true)], args := ds })
    (hp : ∀ x : ArgsT l, argsOk l x → bulkA l x ≤ 1048576 → Vm.Pure P f (argsV P l x) (.bool true)) (W : World) (hT : ∃ g, Tabs g ∧ ∀ e ∈ g, W.heap[e.1]? = some e.2) (base : Nat) (args : Array Value) (ds gs : List (DataW H)) (before : List MemPlace)
    (hval : ∀ (j : Nat) t v, fn.params[j]? = some t → args[j]? = some v → Value.okWide P W .any base t v) (hW : DataW.Whole enc P fn.params.toList s.vars apart W args.toList ds gs before) (hk : Rows.uptoBulkAll (ds ++ gs) ≤ 1048576) :
    Calls P f args W fun e W' => ∃ v, e = .returned v ∧ s.post enc P fn apart true false false W args v W' := by
  have hW' := hW
  obtain ⟨p, q, hA, hV, rfl, _, _⟩ := hW
  have hpj : ∀ (j : Nat), fn.params[j]? = (l.map (·.1))[j]? := fun j => by rw [← hps]; simp
  rw [hps] at hA
  rw [hv] at hV
  obtain ⟨rfl, rfl⟩ := trodVars_none hV
  obtain ⟨g, hg, hgW⟩ := hT
  rw [List.append_nil] at hk
  obtain ⟨hlen, x, hx, ho, hbk⟩ := args_up (g0 := ⟨g, hg⟩) hty (fun j t v h1 h2 => hval j t v (by rw [hpj]; exact h1) (by simpa using h2)) hA
  refine (hp x ho (Nat.le_trans hbk hk) (noF ⟨g, hg⟩) W args.toList ⟨fun b _ hh => by rcases hh with hh | hh <;> exact hh, rfl, hgW⟩ hx).mono fun e W' ⟨u, he, hb, hh⟩ => ⟨u, he, ?_⟩
  obtain ⟨σ', μ', v', _, hr, hown, _⟩ := hh
  have hu : u = .bool true := by
    have := own_bool (n := 59) hown
    subst this
    cases hr
    rfl
  subst hu
  have hsame : ∀ p' ∈ p, W.sameAt W' p' := fun p' hp' => hb.same (hW'.lt p' (by simpa using hp'))
  have hfn := hs ds hlen
  refine post_below hW' (pa := p) (pv := []) (fun b sp hd => ?_) (fun sp hsp => ?_) (fun sp _ => ?_) rfl hb (fun j t r h1 h2 => ?_)
  · rw [List.append_nil, hfn, hres]
    exact trodAll_mk1 ⟨1, by simp [DataW.trod, Value.cells, hrt]⟩
  · rw [List.append_nil, hfn, hps]
    exact args_stay hl hrd hA hsame (fun p' hp' => hsp p' (by simpa using hp'))
  · rw [List.append_nil, hfn, hv]; rfl
  · rw [hres] at h1 h2
    have h2' : ([Value.bool true] : List Value)[j]? = some r := h2
    match j with
    | 0 =>
      simp at h1 h2'
      subst h1; subst h2'
      simp [Value.okWide, hrt, Cell.okWide, Cell.ok]
    | j + 1 => simp at h1
end
end Go.Proofs.Yteaajihmfacinaa.Up
