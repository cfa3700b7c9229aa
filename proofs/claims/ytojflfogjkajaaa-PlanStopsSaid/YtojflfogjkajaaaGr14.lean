/-
  graph.Set.
-/
import Derived.Test.YtojflfogjkajaaaGr13
namespace Go.Proofs.Ytojflfogjkajaaa.Gr
open Go Go.RowKit Go.Shelf Go.Proofs
open Go.Vm (mapOf MAt LAt GI edgesF readersF GOk GraphAt)
attribute [local go_sem] Oper.semAt_some
theorem wr64 (n : Int) (h : -9223372036854775808 ≤ n ∧ n ≤ 9223372036854775807) : wrap64 n = n := by unfold wrap64; omega
theorem edges_le {R : GI} (h : GOk R) : edgesF R ≤ 20000 * 20000 ∧ 0 ≤ edgesF R := by
  obtain ⟨h1, h2⟩ := h
  have key : ∀ (Q : GI), (∀ l ∈ Q, l.length ≤ 20000) → edgesF Q ≤ (Q.length : Int) * 20000 ∧ 0 ≤ edgesF Q := by
    intro Q
    induction Q with
    | nil => intro _; simp [edgesF]
    | cons a Q ih =>
      intro hq
      obtain ⟨i1, i2⟩ := ih fun l hl => hq l (List.mem_cons_of_mem _ hl)
      have := hq a List.mem_cons_self
      simp only [edgesF, List.map_cons, List.sum_cons, List.length_cons] at i1 i2 ⊢
      omega
  have := key R fun l hl => by
    obtain ⟨v, hv⟩ := List.getElem?_of_mem hl
    obtain ⟨k1, k2⟩ := h2 v l hv
    have hm : ∀ x ∈ l, x.toNat ∈ List.range R.length := fun x hx => by
      obtain ⟨a, b, _⟩ := k2 x hx
      exact List.mem_range.2 (by omega)
    have hn : (l.map Int.toNat).Nodup := by
      rw [List.nodup_iff_pairwise_ne, List.pairwise_map]
      refine List.Pairwise.imp_of_mem (fun {a b} ha hb hne e => hne ?_) (List.nodup_iff_pairwise_ne.1 k1)
      have := (k2 a ha).1
      have := (k2 b hb).1
      omega
    have := List.Nodup.length_le_of_subset hn (l₂ := List.range R.length) (fun y hy => by
      obtain ⟨x, hx, rfl⟩ := List.mem_map.1 hy
      exact hm x hx)
    simp at this
    omega
  omega
theorem set_done {R : GI} {b br cr bm cm : Nat} {S : Nat → Prop} {w : World} {u : Value} {l : List Int} {E : Int} (v : Nat) (hv : v < R.length) (ok : GOk (R.set v l)) (n1 : b ≠ br) (n2 : b ≠ bm) (n3 : br ≠ bm) (hcr : R.length ≤ cr) (hcm : R.length ≤ cm) (hbr : S br) (hbm : S bm)
    (hT : TopAt R w b br cr bm cm E) (hR : RdAt R w br S) (hM : MpAt R.length (readersF (R.set v l)) w bm S) (hu : LAt w S u l) (hlt : ∀ c, S c → c < w.heap.size) :
    GraphAt (R.set v l) ((w.setCell ⟨br, v, none⟩ u).setCell ⟨b, 2, none⟩ (.int .i64 (edgesF (R.set v l)))) b S := by
  have r1 : ∃ csr, w.heap[br]? = some (.cells csr 36 (0, 0)) := ⟨hR.choose, hR.choose_spec.1⟩
  obtain ⟨csr, r1⟩ := r1
  have hT5 : TopAt (R.set v l) (w.setCell ⟨br, v, none⟩ u) b br cr bm cm E := by
    have := (Below.heap_setCell w ⟨br, v, none⟩ u b n1).trans hT
    rwa [TopAt, List.length_set]
  have hR5 := RdAt.put hv hu hR
  have hM5 := MpAt.set (k := v) r1 (Ne.symm n3) u hM
  have hT5' : (w.setCell ⟨br, v, none⟩ u).heap[b]? = some (.cells _ 81 (0, 0)) := hT5
  exact graph_of ok (top_set hT5 _) (RdAt.set hT5' (Ne.symm n1) (by decide) _ hR5) (by rw [List.length_set]; exact MpAt.set hT5' (Ne.symm n2) _ hM5) hbr hbm (by rw [List.length_set]; exact hcr) (by rw [List.length_set]; exact hcm)
    (fun c h => by rw [size_set, size_set]; exact hlt c h)
theorem slice_of {w : World} {base : Nat} {v : Value} {l : List Int} (h : w.ownsRow base 3 1 v l.length (l.map (Value.int .i64))) : ∃ A c, v = .slice A l.length c := by
  obtain ⟨A, c, e, _⟩ := LAt.new (S := fun c => base ≤ c) h fun _ h _ => h
  exact ⟨A, c, e⟩
set_option maxRecDepth 100000 in
set_option maxHeartbeats 4000000 in
theorem set_in (n : Nat) (hn : 14 ≤ n) (b : Nat) (S : Nat → Prop) (R : GI) (w : World) (A : Option Addr) (c : Nat) (v : Int) (l : List Int) (hl : l.length ≤ 1000000000) (h : GraphAt R w b S) (hL : CAt w.heap.size w (.slice A l.length c) l)
    (hU : ∀ g o, A = some ⟨g, o, none⟩ → 0 < l.length → ¬ S g) (hm : mayF R v l = 0) :
    CallsIn Fence.wide n Try.prog 27 #[.pointer (some ⟨b, 0, none⟩), .int .i64 v, .slice A l.length c] w fun e w' => e = .returned (.tuple #[.int .i64 (newsF l (R.getD v.toNat [])), .int .i64 (newsF (R.getD v.toNat []) l), .int .i64 0]) ∧
      ∃ S', GraphAt (R.set v.toNat l) w' b S' ∧ Frm b S w w' ∧ ∀ c, S' c → S c ∨ w.heap.size ≤ c := by
  have hn1 : 1 ≤ n := by omega
  obtain ⟨h0, hv, hall, hnd⟩ := may_ok hm
  have hok := gok_set h.ok hm
  have hmay := may_in b S R w (n - 1) (by omega) _ (Nat.le_refl _) (.slice A l.length c) v l hl h0 h hL
  have f1 : Fence.wide.fn 61 := trivial
  have f2 : Fence.wide.fn 57 := trivial
  have f3 : Fence.wide.fn 58 := trivial
  have f4 : Fence.wide.fn 62 := trivial
  rw [hm] at hmay
  refine callsIn_of_wp Try.func27 rfl trivial ?_ rfl
  simp only [Try.ntmps27, List.size_toArray, List.length_cons, List.length_nil, Nat.reduceAdd, Nat.reduceSub, Array.replicate_succ, Array.replicate_zero, List.push_toArray, List.append_toArray, List.nil_append, List.cons_append]
  obtain ⟨ws, hws⟩ : ∃ ws, R.getD v.toNat [] = ws := ⟨_, rfl⟩
  have hvn : v.toNat < R.length := by omega
  have hRv : R[v.toNat]? = some ws := by rw [← hws, List.getD_eq_getElem?_getD, List.getElem?_eq_getElem hvn]; rfl
  have hwsl := g_small h.ok hRv
  have hafter : ∀ w1, Below w.heap.size w w1 → ∃ br cr bm cm A2 c2, TopAt R w1 b br cr bm cm (edgesF R) ∧ RdAt R w1 br S ∧ MpAt R.length (readersF R) w1 bm S ∧ S br ∧ S bm ∧ R.length ≤ cr ∧ R.length ≤ cm ∧ LAt w1 S (.slice A2 ws.length c2) ws ∧
      w1.cell? ⟨b, 0, none⟩ = some (.slice (some ⟨br, 0, none⟩) R.length cr) ∧ w1.cell? ⟨br, v.toNat, none⟩ = some (.slice A2 ws.length c2) ∧ GraphAt R w1 b S := by
    intro w1 hb1
    have hg1 : GraphAt R w1 b S := h.keep fun c hc => hb1.block c (Vm.OK.lt (k := .graph) (d := R) h hc)
    obtain ⟨br, cr, bm, cm, hT, hR, hM, hbr, hbm, hcr, hcm⟩ := graph_apart hg1
    obtain ⟨csr, r1, r2⟩ := id hR
    obtain ⟨uv, k1, k2⟩ := r2 v.toNat ws hRv
    obtain ⟨A2, c2, rfl, hc2, k3⟩ := id k2
    have c0 := cell_of hT 0
    simp only [List.getElem?_toArray, List.getElem?_cons_zero] at c0
    exact ⟨br, cr, bm, cm, A2, c2, hT, hR, hM, hbr, hbm, hcr, hcm, k2, c0, by rw [cell_of r1]; exact k1, hg1⟩
  gi_wp2_with (gi_at_call 61; refine hmay.mono ?_; rintro e w1 ⟨rfl, hb1⟩; obtain ⟨br, cr, bm, cm, A2, c2, hT, hR, hM, hbr, hbm, hcr, hcm, hlw, c0, hcv, hg1⟩ := hafter w1 hb1)
  have hwnd : ws.Nodup := (h.ok.2 v.toNat ws hRv).1
  have hwall := (h.ok.2 v.toNat ws hRv).2
  have hvv : ((v.toNat : Nat) : Int) = v := Int.toNat_of_nonneg hv.1
  have hkey : keyOf Try.prog 3 (.int .i64 v) = some (.int .i64 v) := Maps.keyOf_int_mk Try.underlying3 (wf_int ⟨hv.1, by have := h.ok.1; omega⟩)
  have hbm3 : ∀ cs t f, w1.heap[bm]? = some (_root_.Go.Obj.cells cs t f) → t ≠ 3 := fun cs t f e => by
    obtain ⟨csm, m1, _⟩ := hM
    rw [m1] at e; cases e; decide
  have hb_bm : b ≠ bm := fun e => by subst e; obtain ⟨csm, m1, _⟩ := hM; rw [show w1.heap[b]? = _ from hT] at m1; cases m1
  have hL1 := hL.below hb1
  have hU1 : ∀ g o, A = some ⟨g, o, none⟩ → 0 < l.length → g ≠ bm ∧ ¬ S g := fun g o e h0 => ⟨fun e2 => hU g o e h0 (e2 ▸ hbm), hU g o e h0⟩
  gi_loopw [7, 31] (fun d i wr => ∃ k : Nat, k ≤ ws.length ∧ i = .int .i64 k ∧ d = .int .i64 (newsF (ws.take k) l) ∧ Stp bm S w1 wr ∧ MpAt R.length (dropL R v.toNat l k) wr bm S) (fun _ i _ => ws.length - (intOf i).toNat)
  case atStart =>
    exact ⟨0, Nat.zero_le _, rfl, rfl, .refl _ _ _, hM.congr fun i _ => (drop_zero R _ l i).symm⟩
  case round =>
    obtain ⟨k, hk, rfl, rfl, hst, hMk⟩ := hrel
    have hLk := CAt.stp hst hb1.size hU1 hL1
    by_cases hlt : k < ws.length
    · obtain ⟨y, hy0⟩ : ∃ y, ws[k]? = some y := ⟨_, List.getElem?_eq_getElem hlt⟩
      obtain ⟨A3, c3, eA, hcs⟩ := ints_cells (LAt.kc hst.kc hbm3 (fun _ h => h) hlw)
      cases eA
      obtain ⟨g, o, rfl, hcell⟩ := hcs (by omega)
      have hck : wr.cell? ⟨g, o + k, none⟩ = some (.int .i64 y) := by
        have e := getD_at hlt
        rw [hy0] at e
        rw [Option.some.inj e]
        exact hcell k hlt
      have hyn := hwall y (List.mem_of_getElem? hy0)
      have hnews := news_take (m := l) hy0
      obtain ⟨d1, d2⟩ := drop_step (l := l) hws hwnd hy0 hyn.1
      have hcon := callsIn_wide (n := n - 1) |>.2 (contains_c hLk hl y)
      have hyw : y ∈ ws := List.mem_of_getElem? hy0
      clear hcell hy0
      by_cases hyl : l.contains y = true
      · rw [hyl] at hcon
        rw [if_pos hyl] at hnews
        gi_wp2_with (gi_at_call 57; refine hcon.mono ?_; rintro e w' ⟨rfl, rfl⟩)
        go_roundw
        case rel => exact ⟨k + 1, by omega, by simp, by rw [hnews]; simp, hst, hMk.congr fun i _ => d1 (List.contains_iff_mem.1 hyl) i⟩
        case measure => simp [intOf]; omega
      · have hyl' : l.contains y = false := by simpa using hyl
        have hyl2 : y ∉ l := fun hm => hyl (List.contains_iff_mem.2 hm)
        obtain ⟨d3, d4⟩ := d2 hyl2
        rw [hyl'] at hcon
        rw [if_neg hyl] at hnews
        obtain ⟨csm, m1, m2, m3⟩ := id hMk
        obtain ⟨u, k1, k2⟩ := m2 y.toNat (by omega)
        have hvr : v ∈ readersF R y.toNat := mem_readers.2 ⟨v.toNat, by omega, hvv.symm, by rw [Int.toNat_of_nonneg hyn.1, hws]; exact hyw⟩
        rw [d3] at k2
        rcases k2 with ⟨rfl, hz⟩ | ⟨mb, rfl, hmS, hown⟩
        · rw [hz] at hvr; cases hvr
        obtain ⟨es, clock, hb0, _⟩ := id hown
        have hmbm : mb ≠ bm := fun e => by subst e; rw [m1] at hb0; cases hb0
        have hcu : wr.cell? ⟨bm, y.toNat, none⟩ = some (.map (some mb)) := by rw [cell_of m1]; exact k1
        have c1 := cell_of (TopAt.kc hst.kc hb_bm hT) 1
        simp only [List.getElem?_toArray, List.getElem?_cons_zero, List.getElem?_cons_succ] at c1
        gi_wp2_with (first
          | (gi_at_call 57; refine hcon.mono ?_; rintro e w' ⟨rfl, rfl⟩)
          | (gi_at_delete; refine wpListIn_delete_own _ rfl _ _ 87 3 rfl 3 (Maps.int_keyed Try.underlying3) Try.underlying87 _ mb _ _ rfl hown _ _ rfl hkey ?_; intro w2 hown2 hturn2))
        go_roundw
        case rel =>
          have hgr := hturn2.grown
          rw [del_mapOf] at hown2
          refine ⟨k + 1, by omega, by simp, ?_, hst.trans (.map hb0 hmS hgr) (fun _ _ h => h), ?_⟩
          · have := news_le (ws.take k) l
            rw [List.length_take] at this
            rw [hnews, wr64 _ ⟨by omega, by omega⟩]
          · refine MpAt.congr (MpAt.turn m1 m2 (by omega) m3 k1 (fun _ h => h) hmS hmbm hgr (tight hown2)) fun i _ => ?_
            have := d4 i
            rwa [hvv] at this
        case measure => simp [intOf]; omega
    · obtain rfl : k = ws.length := by omega
      rw [List.take_length]
      gi_wp2
      gi_loopw [6, 52] (fun d i w3 => ∃ k : Nat, k ≤ l.length ∧ i = .int .i64 k ∧ d = .int .i64 (newsF (l.take k) ws) ∧ Stp bm S w1 w3 ∧ MpAt R.length (addL R v.toNat l k) w3 bm (fun c => S c ∨ (w1.heap.size ≤ c ∧ c < w3.heap.size))) (fun _ i _ => l.length - (intOf i).toNat)
      case atStart =>
        exact ⟨0, Nat.zero_le _, rfl, rfl, hst, (hMk.grow (fun c h => .inl h)).congr fun i _ => by rw [add_zero', hws]⟩
      case round =>
        clear hMk hLk hst
        obtain ⟨k, hk, rfl, rfl, hst, hMk⟩ := hrel
        have hLk := CAt.stp hst hb1.size hU1 hL1
        have hT3 := TopAt.kc hst.kc hb_bm hT
        have hlw3 : LAt wr S (.slice A2 ws.length c2) ws := LAt.kc hst.kc hbm3 (fun _ h => h) hlw
        by_cases hlt : k < l.length
        · obtain ⟨y, hy0⟩ : ∃ y, l[k]? = some y := ⟨_, List.getElem?_eq_getElem hlt⟩
          obtain ⟨A3, c3, eA, hcs⟩ := id hLk
          cases eA
          obtain ⟨g, o, rfl, hgl, hcell⟩ := hcs (by omega)
          have hck : wr.cell? ⟨g, o + k, none⟩ = some (.int .i64 y) := by
            have e := getD_at hlt
            rw [hy0] at e
            rw [Option.some.inj e]
            exact hcell k hlt
          have hyn := hall y (List.mem_of_getElem? hy0)
          have hnews := news_take (m := ws) hy0
          obtain ⟨d1, d2⟩ := add_step hws hnd hy0 hyn.1
          have hcon := callsIn_wide (n := n - 1) |>.2 (contains_at hlw3 hwsl y)
          have hlen := rd_len R h.ok.1 y.toNat
          clear hcell hy0
          by_cases hyl : ws.contains y = true
          · rw [hyl] at hcon
            rw [if_pos hyl] at hnews
            gi_wp2_with (gi_at_call 57; refine hcon.mono ?_; rintro e w' ⟨rfl, rfl⟩)
            go_roundw
            case rel => exact ⟨k + 1, by omega, by simp, by rw [hnews]; simp, hst, hMk.congr fun i _ => d1 (List.contains_iff_mem.1 hyl) i⟩
            case measure => simp [intOf]; omega
          · have hyl' : ws.contains y = false := by simpa using hyl
            have hyl2 : y ∉ ws := fun hm => hyl (List.contains_iff_mem.2 hm)
            obtain ⟨d3, d4⟩ := d2 hyl2
            rw [hyl'] at hcon
            rw [if_neg hyl] at hnews
            have hlink := link_in (n - 1) R (addL R v.toNat l k) b br cr bm cm _ _ wr v y hT3 hMk ⟨hyn.1, hyn.2.1⟩ h.ok.1 (by rw [d3, ← hvv]; exact not_reader (by rw [Int.toNat_of_nonneg hyn.1, hws]; exact hyl2)) ⟨hv.1, by have := h.ok.1; omega⟩ (by rw [d3]; exact hlen) (.inl hbm)
            rw [d3] at hlink
            gi_wp2_with (first
              | (gi_at_call 57; refine hcon.mono ?_; rintro e w' ⟨rfl, rfl⟩)
              | (gi_at_call 62; refine hlink.mono ?_; rintro e w4 ⟨⟨u4, rfl⟩, hs4, hM4⟩))
            go_roundw
            case rel =>
              refine ⟨k + 1, by omega, by simp, ?_, hst.trans hs4 (fun i hi h => h.elim id (fun e => by omega)), ?_⟩
              · have := news_le (l.take k) ws
                rw [List.length_take] at this
                rw [hnews, wr64 _ ⟨by omega, by omega⟩]
              · have z1 := hst.kc.1
                have z2 := hs4.kc.1
                refine MpAt.congr (hM4.grow fun c hc => ?_) fun i _ => ?_
                · rcases hc with (hc | hc) | hc
                  · exact .inl hc
                  · exact .inr ⟨hc.1, by omega⟩
                  · exact .inr ⟨by omega, hc.2⟩
                · have := d4 i
                  rwa [hvv] at this
            case measure => simp [intOf]; omega
        · obtain rfl : k = l.length := by omega
          rw [List.take_length]
          have c03 := cell_of hT3 0
          simp only [List.getElem?_toArray, List.getElem?_cons_zero] at c03
          have hbr_bm : br ≠ bm := fun e => by subst e; obtain ⟨csm, m1, _⟩ := hM; obtain ⟨csr, r1, _⟩ := hR; rw [r1] at m1; cases m1
          have hb_br : b ≠ br := fun e => by subst e; obtain ⟨csr, r1, _⟩ := hR; rw [show w1.heap[b]? = _ from hT] at r1; cases r1
          have hR3 : RdAt R wr br S := hR.kc hst.kc hbr_bm hbm3 (fun _ h => h)
          have hpost : ∀ w4, Below wr.heap.size wr w4 → w4.cell? ⟨b, 0, none⟩ = some (.slice (some ⟨br, 0, none⟩) R.length cr) ∧ (∃ ur, w4.cell? ⟨br, v.toNat, none⟩ = some ur) ∧ w4.frozen? ⟨br, v.toNat, none⟩ = false := by
            intro w4 hb4
            obtain ⟨csr, r1, r2⟩ := hR3
            obtain ⟨ur, k1, _⟩ := r2 v.toNat ws hRv
            have r4 := (hb4.block br (Array.getElem?_eq_some_iff.1 r1).1).trans r1
            refine ⟨(hb4.cell (p := ⟨b, 0, none⟩) (Array.getElem?_eq_some_iff.1 hT3).1).trans c03, ⟨ur, by rw [cell_of r4]; exact k1⟩, by simp [World.frozen?, r4]⟩
          have hdr : ∀ n, Below n wr wr.drew := fun n => (Below.refl n wr).drew
          have hclone := callsIn_wide (n := n - 1) |>.2 (clone_c (hLk.below (hdr _)) hl)
          gi_wp2
          gi_region_with (gi_at_call 58; refine hclone.mono ?_; rintro e w4 ⟨v4, rfl, ho4, hb4⟩; obtain ⟨A4, c4, rfl⟩ := slice_of ho4; obtain ⟨c04, ⟨ur, cv4⟩, hf4⟩ := hpost w4 ((hdr _).trans hb4))
          all_goals
            have hb4' : Below wr.heap.size wr w4 := (hdr _).trans hb4
            have z1 := hb1.size
            have z2 := hst.kc.1
            have z3 := hb4'.size
            have hlt0 : ∀ c, S c → c < w.heap.size := h.lt
            have hT4 : TopAt R w4 b br cr bm cm (edgesF R) := (hb4'.block b (Array.getElem?_eq_some_iff.1 hT3).1).trans hT3
            have hR4 : RdAt R w4 br (fun c => S c ∨ (w1.heap.size ≤ c ∧ c < w4.heap.size)) := hR3.below hb4' fun c h => .inl h
            have hM4 : MpAt R.length (addL R v.toNat l l.length) w4 bm (fun c => S c ∨ (w1.heap.size ≤ c ∧ c < w4.heap.size)) := hMk.below hb4' fun c h => h.elim .inl fun h => .inr ⟨h.1, by omega⟩
            have hl4 : LAt w4 (fun c => S c ∨ (w1.heap.size ≤ c ∧ c < w4.heap.size)) (.slice A4 l.length c4) l := LAt.new ho4 fun c h1 h2 => .inr ⟨Nat.le_trans z2 h1, h2⟩
            have hE : wrap64 (edgesF R + wrap64 (newsF l ws - newsF ws l)) = edgesF (R.set v.toNat l) := by
              have e1 := edges_to hvn hnd (by rw [hws]; exact hwnd)
              rw [hws] at e1
              have n1 := news_le l ws
              have n2 := news_le ws l
              have n3 := edges_le h.ok
              rw [wr64 (newsF l ws - newsF ws l) ⟨by omega, by omega⟩, wr64 _ ⟨by omega, by omega⟩, e1]
            have hdone := set_done v.toNat (l := l) hvn hok hb_br hb_bm hbr_bm hcr hcm (.inl hbr) (.inl hbm) hT4 hR4 (hM4.congr fun i _ => add_all l hvn i) hl4 (fun c h => h.elim (fun h => by have := hlt0 c h; omega) (fun h => h.2))
            have hfr4 : Frm b S w w4 := (Frm.below hb1).trans ((hst.frm hbm).trans (Frm.below (S := S) hb4') (fun _ _ h => h)) (fun _ _ h => h)
            have c25 : (w4.setCell ⟨br, v.toNat, none⟩ (.slice A4 l.length c4)).cell? ⟨b, 2, none⟩ = some (.int .i64 (edgesF R)) := cell_of ((Below.heap_setCell w4 ⟨br, v.toNat, none⟩ _ b hb_br).trans hT4) 2
            have f25 : (w4.setCell ⟨br, v.toNat, none⟩ (.slice A4 l.length c4)).frozen? ⟨b, 2, none⟩ = false := by simp only [World.frozen?, ((Below.heap_setCell w4 ⟨br, v.toNat, none⟩ (.slice A4 l.length c4) b hb_br).trans hT4)]; rfl
            obtain ⟨w5, hw5⟩ : ∃ w5, w4.setCell ⟨br, v.toNat, none⟩ (.slice A4 l.length c4) = w5 := ⟨_, rfl⟩
            have hfr5 : Frm b S w w5 := by rw [← hw5]; exact hfr4.trans (Frm.cell _ (.inr hbr)) (fun _ _ h => h)
            rw [hw5] at hdone c25 f25 ⊢
            gi_wp2
            go_ret3
            rw [hE]
            exact ⟨by rw [hws]; rfl, _, hdone, hfr5.trans (Frm.cell _ (.inl rfl)) (fun _ _ h => h), fun c h => h.elim .inl fun h => .inr (by omega)⟩
end Go.Proofs.Ytojflfogjkajaaa.Gr
