/-
  slices.Values, slices.Sorted, slices.Compact at []int: told to the engine.
-/
import Derived.Test.YteaajihmfacinaaTa8
namespace Go.Proofs.Yteaajihmfacinaa.Ta
open Go Go.RowKit Go.Shelf Go.Proofs
open Go.Vm
noncomputable def env_values (l : List Int) : Env where
  P := Try.prog
  ty := tys0
abbrev ann_values : Ann := { slots := numP 0 [.clo 54 [1]], boxes := [(1, [.list .tmp I])], inv := fun _ _ => True }
def g_values_vc (l : List Int) : Prop :=
  True ∧ ((), l, ()) = ((), l, ())
theorem g_values_eq (l : List Int) : CondO (env_values l) Try.f35 [.list .tmp (.int .i64) l] [] [none] ann_values ((), l, ()) = g_values_vc l := by kernel_rfl
theorem g_values_ok (l : List Int) : g_values_vc l := by
  unfold g_values_vc
  exact ⟨trivial, rfl⟩
set_option maxRecDepth 20000
theorem values_upd (l : List Int) : UpdC Try.prog 35 [.list .tmp (.int .i64) l] [] (.fn (.func 54) [] [.ptr 1 0]) [(1, .box [.list .tmp (.int .i64) l])] :=
  by have k := UpdC.of_cond (g_values_eq l) (g_values_ok l) (specs_ok rfl [] [] rfl rfl) mixed Try.func35; exact k
noncomputable def q_values (l : List Int) : Prop × V × Store := (True, .fn (.func 54) [] [.ptr 1 0], [(1, .box [.list .tmp (.int .i64) l])])
noncomputable def so_values : OSpec Try.prog where
 f := 35
 run := fun args σ => match args, σ with
  | [v0], [] => (asL (.int .i64) v0 : Option (List Int)).bind fun l => some (q_values l)
  | _, _ => none
 ok := fun args σ pre r σ' h hp => by
  try dsimp only at h
  split at h
  · rename_i v0
    obtain ⟨l, h0, h⟩ := Option.bind_eq_some_iff.1 h
    exact of_qo h hp fun h => (values_upd l).weak (.cons (asL_weak h0) .nil)
  · cases h
theorem sorted_upd (l : List Int) (hl : l.length ≤ 1000000000) : UpdC Try.prog 34 [.fn (.func 54) [] [.ptr 9000 0]] [(9000, .box [.list .tmp (.int .i64) l])] (.slc 9001 0 none) [(9001, .arr 0 (.int .i64) (sortF l)), (9000, .box [.list .tmp (.int .i64) l])] := by
  intro B F w μ vs hF hI hB hr
  obtain ⟨u1, r1, rfl, a1, hr⟩ := hr.cons_inv
  obtain rfl := hr.nil_inv
  obtain ⟨xs, ys, rfl, b1, b2⟩ := a1.fn_inv
  have hxs : xs = #[] := Array.eq_empty_of_size_eq_zero (by simpa using b1.1)
  subst hxs
  obtain ⟨p, q, e, c1, c2⟩ := b2.cons_inv
  have hq := c2.nil_inv
  subst hq
  have hys : ys = #[p] := Array.toList_inj.1 (by simpa using e)
  subst hys
  obtain ⟨cells, bb, base, C, rfl, hg, hm⟩ := c1.ptr_inv
  have hg' : (Store.get [(9000, Obj.box [.list .tmp (.int .i64) l])] 9000) = some (.box cells) := hg
  simp only [Store.get, if_true] at hg'
  cases hg'
  obtain ⟨b2, cs, ty, k1, k2, k3⟩ := hI.objs 9000 _ hg
  rw [hm] at k1
  cases k1
  obtain ⟨u, us, e1, k4, k5⟩ := k3.cons_inv
  have hus := k5.nil_inv
  subst hus
  have hcs : cs = #[u] := Array.toList_inj.1 (by simpa using e1)
  subst hcs
  obtain ⟨A, cap, rfl, hS, _⟩ := k4.list_inv
  have hCA : CAt w.heap.size w (.slice A l.length cap) l := ⟨A, cap, rfl, fun h0 => by
    obtain ⟨_, _, hc⟩ := hS
    obtain ⟨g, o, rfl, hH, hi⟩ := hc h0
    refine ⟨g, o, rfl, hH.1.1.1, fun j hj => ?_⟩
    obtain ⟨row, r1, r2⟩ := hi j _ (getD_at hj)
    have r1 : row = [.int .i64 (l.getD j 0)] := r1
    subst r1
    have := r2 0 _ rfl
    simpa [Ty.cells] using this⟩
  have hbl : bb < w.heap.size := (Array.getElem?_eq_some_iff.1 k2).1
  have hcell : w.cell? ⟨bb, 0, none⟩ = some (.slice A l.length cap) := by
    simp [World.cell?, k2]
    rfl
  refine (callsIn_wide.1 (sortedv_in 20 (by omega) bb w.heap.size _ l hl w hbl (Nat.le_refl _) hcell hCA)).mono ?_
  rintro e w' ⟨v, rfl, hrow, hb⟩
  have hlen : (sortF l).length = l.length := List.length_mergeSort _
  refine ⟨v, rfl, ?_⟩
  suffices key0 : ∃ p' : Option (Nat × Nat × Nat), (∀ q, p' = some q → w.heap.size ≤ q.1) ∧
      (Evo ⟨w, [(9000, .box [.list .tmp (.int .i64) l])], μ, F⟩ ⟨w', [(9001, .arr 0 (.int .i64) (sortF l)), (9000, .box [.list .tmp (.int .i64) l])], fun i => if i = 9001 then p' else μ i, F⟩ → ObjOk ⟨w', [(9001, .arr 0 (.int .i64) (sortF l)), (9000, .box [.list .tmp (.int .i64) l])], fun i => if i = 9001 then p' else μ i, F⟩ 9001 (.arr 0 (.int .i64) (sortF l))) ∧
      Rep ⟨w', [(9001, .arr 0 (.int .i64) (sortF l)), (9000, .box [.list .tmp (.int .i64) l])], fun i => if i = 9001 then p' else μ i, F⟩ (.slc 9001 0 none) v by
    obtain ⟨p', hp, hok, hv⟩ := key0
    have key := new_evo hI hB (id := 9001) rfl (o' := .arr 0 (.int .i64) (sortF l)) (p' := p') (w' := w') hb.os hb.tape hb.output hb.size (fun b hb' => hb.block b hb') hp hok
    exact ⟨_, key.2, hv, ⟨key.1.os, key.1.tape, key.1.output, key.1.size, key.1.outer, key.1.still⟩, fun c cells hg => key.1.box c cells hg, fun c k d hg => key.1.opq c k d hg⟩
  rcases hrow.2 with ⟨rfl, hz⟩ | ⟨g, cap', cur, rfl, hbase, hgb, r1, r2, r3, r4⟩
  · have hnil : sortF l = [] := List.eq_nil_of_length_eq_zero (by omega)
    refine ⟨none, (fun q hq => by cases hq), (fun _ => .inl ⟨by simp, by rw [hnil]; rfl⟩), (.slc (ep' := 0) (t := .int .i64) (l := sortF l) (by simp [get_cons]) (Nat.le_refl _) fun _ => ?_)⟩
    simp only [if_true]
    have e : List.length (α := Int) (sortF l) = 0 := by omega
    exact ⟨rfl, rfl, e⟩
  · have hcells : ∀ (i : Nat) x, (sortF l)[i]? = some x → cur[i]? = some (.int .i64 x) := fun i x hx => by
      have hi := (List.getElem?_eq_some_iff.1 hx).1
      have h1 : (cur.toList.take (l.length * 1))[i]? = some (.int .i64 x) := by
        rw [r4, List.getElem?_map]
        show Option.map _ ((sortF l)[i]?) = _
        rw [hx]
        rfl
      rw [List.getElem?_take, if_pos (by omega)] at h1
      simpa using h1
    refine ⟨some (g, 0, cap'), (fun q hq => by cases hq; exact hbase), (fun hE => .inr ⟨g, 0, cap', cur, 3, by simp, hgb, by simp [Ty.cells, r3], (by show List.length (α := Int) (sortF l) ≤ cap'; omega), ⟨r2, fun e => by cases e⟩, fun i x hx => ⟨[.int .i64 x], rfl, fun j u hu => ?_⟩⟩), (.slc (ep' := 0) (t := .int .i64) (l := sortF l) (by simp [get_cons]) (Nat.le_refl _) fun _ => ?_)⟩
    · cases j with
      | zero =>
        cases hu
        simpa [Ty.cells] using hcells i x hx
      | succ j => simp at hu
    · simp only [if_true]
      exact ⟨hlen.symm, rfl, (by show List.length (α := Int) (sortF l) ≤ cap'; omega), _, rfl, fun _ => rfl⟩
noncomputable def so_sorted : OSpec Try.prog where
  f := 34
  run := fun
    | [.fn (.func 54) [] [.ptr 9000 0]], [(9000, .box [.list .tmp (.int .i64) l])] => some (List.length (α := Int) l ≤ 1000000000, .slc 9001 0 none, [(9001, .arr 0 (.int .i64) (sortF l)), (9000, .box [.list .tmp (.int .i64) l])])
    | _, _ => none
  ok := fun args σ pre r σ' h hp => by
    split at h
    · cases h
      exact sorted_upd _ hp
    · cases h
def sp_compact : UFSpec Try.prog := compactSpec 42 ⟨fun blk off cap zs w h1 h2 h3 => Any.slices_Compact_int Try.laysNm220 blk off cap zs w h1 h2 h3, Try.slices_Compact_int_empty⟩
def sp_sort : UFSpec Try.prog := sortSpec 41 ⟨fun blk off cap zs w h1 h2 h3 => Try.slices_Sort_int blk off cap zs w h1 h2 h3, Try.slices_Sort_int_none⟩
end Go.Proofs.Yteaajihmfacinaa.Ta
