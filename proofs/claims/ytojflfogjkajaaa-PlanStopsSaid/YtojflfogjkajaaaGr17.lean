/-
  graph: Set, as a record.
-/
import Derived.Test.YtojflfogjkajaaaGr14
section
namespace Go.Proofs.Ytojflfogjkajaaa.Gr
open Go Go.RowKit Go.Shelf Go.Proofs
open Go.Vm (mapOf MAt LAt GI edgesF readersF GOk GraphAt)
attribute [local go_sem] Oper.semAt_some
section
set_option maxRecDepth 100000
set_option maxHeartbeats 1000000
theorem new_bad (n : Nat) (m : Int) (hm : ¬ (1 ≤ m ∧ m ≤ 20000)) (w : World) :
    CallsIn Fence.wide n Try.prog 26 #[.int .i64 m] w fun e w' => e = .returned (.tuple #[.pointer none, .int .i64 2]) ∧ w' = w := by
  refine callsIn_of_wp Try.func26 rfl trivial ?_ rfl
  simp only [Try.ntmps26, List.size_toArray, List.length_cons, List.length_nil, Nat.reduceAdd, Nat.reduceSub, Array.replicate_succ, Array.replicate_zero, List.push_toArray, List.append_toArray, List.nil_append, List.cons_append]
  have hd : decide (m < 1) || decide (20000 < m) := by
    rw [Bool.or_eq_true, decide_eq_true_eq, decide_eq_true_eq]
    omega
  by_cases h1 : m < 1
  · gi_wp2
    all_goals first | (exfalso; omega) | (go_ret2; exact ⟨rfl, rfl⟩)
  · gi_wp2
    all_goals first | (exfalso; omega) | (go_ret2; exact ⟨rfl, rfl⟩)
theorem may_nil (n : Nat) (hn : 2 ≤ n) (w : World) (v : Int) (A : Option Addr) (k c : Nat) :
    CallsIn Fence.wide n Try.prog 61 #[.pointer none, .int .i64 v, .slice A k c] w fun e w' => e = .returned (.int .i64 1) ∧ Below w.heap.size w w' := by
  have hn1 : 1 ≤ n := by omega
  have f1 : Fence.wide.fn 52 := trivial
  have hB0 : Below w.heap.size w (w.alloc (.cells #[.pointer none] 26)) := (Below.refl _ w).alloc (Nat.le_refl _) _
  refine callsIn_of_wp Try.func61 rfl trivial ?_ rfl
  simp only [Try.ntmps61, List.size_toArray, List.length_cons, List.length_nil, Nat.reduceAdd, Nat.reduceSub, Array.replicate_succ, Array.replicate_zero, List.push_toArray, List.append_toArray, List.nil_append, List.cons_append]
  gi_wp2_with (gi_at_call 52; refine (nodes_nil _ (n - 1)).mono ?_; rintro e w' ⟨rfl, rfl⟩)
  go_ret
  exact ⟨rfl, hB0⟩
theorem set_err (n : Nat) (hn : 14 ≤ n) (w : World) (a : Value) (v : Int) (A : Option Addr) (k c : Nat) (e0 : Int) (h0 : e0 ≠ 0)
    (hmay : CallsIn Fence.wide (n - 1) Try.prog 61 #[a, .int .i64 v, .slice A k c] w fun e w' => e = .returned (.int .i64 e0) ∧ Below w.heap.size w w') :
    CallsIn Fence.wide n Try.prog 27 #[a, .int .i64 v, .slice A k c] w fun e w' => e = .returned (.tuple #[.int .i64 0, .int .i64 0, .int .i64 e0]) ∧ Below w.heap.size w w' := by
  have hn1 : 1 ≤ n := by omega
  have f1 : Fence.wide.fn 61 := trivial
  refine callsIn_of_wp Try.func27 rfl trivial ?_ rfl
  simp only [Try.ntmps27, List.size_toArray, List.length_cons, List.length_nil, Nat.reduceAdd, Nat.reduceSub, Array.replicate_succ, Array.replicate_zero, List.push_toArray, List.append_toArray, List.nil_append, List.cons_append]
  gi_wp2_with (gi_at_call 61; refine hmay.mono ?_; rintro e w1 ⟨rfl, hb1⟩)
  go_ret3
  exact ⟨rfl, hb1⟩
end
end Go.Proofs.Ytojflfogjkajaaa.Gr
end
section
namespace Go.Proofs.Ytojflfogjkajaaa.Gr
open Go Go.RowKit Go.Shelf Go.Proofs
open Go.Vm
theorem bits_of (S : Nat → Prop) : ∀ N : Nat, (∀ c, S c → c < N) → ∃ C : Nat, ∀ c, C.testBit c = true ↔ S c
  | 0, h => ⟨0, fun c => by simp; exact fun hc => absurd (h c hc) (Nat.not_lt_zero _)⟩
  | N + 1, h => by
    obtain ⟨C, hC⟩ := bits_of (fun c => S c ∧ c < N) N fun c hc => hc.2
    by_cases hN : S N
    · refine ⟨C ||| 2 ^ N, fun c => ?_⟩
      rw [Nat.testBit_or, Bool.or_eq_true, hC, Nat.testBit_two_pow, decide_eq_true_eq]
      constructor
      · rintro (k | rfl)
        · exact k.1
        · exact hN
      · intro k
        have := h c k
        by_cases e : N = c
        · exact .inr e
        · exact .inl ⟨k, by omega⟩
    · refine ⟨C, fun c => ?_⟩
      rw [hC]
      constructor
      · exact And.left
      · intro k
        have := h c k
        have : c ≠ N := fun e => hN (e ▸ k)
        exact ⟨k, by omega⟩
theorem bits_eq {S : Nat → Prop} {C : Nat} (h : ∀ c, C.testBit c = true ↔ S c) : (fun c => C.testBit c = true) = S := funext fun c => propext (h c)
def newR (m : Int) : GI := if 1 ≤ m ∧ m ≤ 20000 then List.replicate m.toNat [] else []
def newE (m : Int) : Int := if 1 ≤ m ∧ m ≤ 20000 then 0 else 2
theorem int_inv {X : Ctx} {k : IntKind} {n : Int} {u : Value} (h : Rep X (.int k n) u) : u = .int k n := by cases h; rfl
theorem new_upd (m : Int) : UpdC Try.prog 26 [.int .i64 m] [] (.tuple [.oref 0, .int .i64 (newE m)]) [(0, .opq .graph (newR m))] := by
  intro B F w μ vs hF hI hB hr
  obtain ⟨u1, r1, rfl, a1, hr⟩ := hr.cons_inv
  obtain rfl := hr.nil_inv
  cases int_inv a1
  by_cases hm : 1 ≤ m ∧ m ≤ 20000
  · refine (callsIn_wide.1 (new_in 20 m hm w)).mono ?_
    rintro e w' ⟨b, S, rfl, hg, hS, hb⟩
    obtain ⟨C, hC⟩ := bits_of S _ hg.lt
    have hR : newR m = List.replicate m.toNat [] := if_pos hm
    refine ⟨_, rfl, fun _ => some (b, 0, C), ⟨fun id o h => ?_, fun i j o o' c hi hj _ _ => ?_, fun id o c hi hk => ?_, fun c hc => hI.out c (Nat.le_trans hb.size hc), hI.vis, ⟨fun e he => by simp [hF] at he, fun e he => ?_⟩⟩, ?_, ⟨hb.os, hb.tape, hb.output, hb.size, rfl, fun c hc => ⟨⟨Nat.lt_of_lt_of_le hc.1 hb.size, fun id o hg' hk => ?_⟩, hb.block c hc.1⟩⟩, fun c cells h => by simp [Store.get] at h, fun c k d h => by simp [Store.get] at h⟩
    · simp only [Store.get] at h
      split at h
      · cases h
        refine .inr ⟨b, 0, C, rfl, ?_, ?_⟩
        · have : 0 < m.toNat := by omega
          simp only [OK.isNil, hR, List.length_replicate, decide_eq_false_iff_not]
          omega
        · rw [bits_eq hC, hR]
          exact hg
      · cases h
    · simp only [Store.get] at hi hj
      split at hi
      · split at hj
        · omega
        · cases hj
      · cases hi
    · simp only [Store.get] at hi
      split at hi
      · cases hi
        obtain ⟨p, hp, hk⟩ := hk
        cases hp
        rcases hk with rfl | hk
        · exact hB _ (hS _ (.inl rfl))
        · exact hB _ (hS _ (.inr ((hC c).1 hk)))
      · cases hi
    · obtain ⟨h1, h2⟩ := hI.marks.gnd e he
      exact ⟨(hb.block _ (Array.getElem?_eq_some_iff.1 h1).1).trans h1, h2⟩
    · refine .tuple rfl fun j c u hc hu => ?_
      match j, hc, hu with
      | 0, hc, hu =>
        cases hc; cases hu
        exact Rep.oref (X := ⟨w', [(0, .opq .graph (newR m))], fun _ => some (b, 0, C), F⟩) (id := 0) rfl
      | 1, hc, hu =>
        cases hc; cases hu
        rw [newE, if_pos hm]
        exact .int
    · simp only [Store.get] at hg'
      split at hg'
      · cases hg'
        obtain ⟨p, hp, hk⟩ := hk
        cases hp
        have := hc.1
        rcases hk with rfl | hk
        · have := hS _ (.inl rfl)
          have h1 : b < w.heap.size := hc.1
          omega
        · have := hS _ (.inr ((hC c).1 hk))
          have h1 : c < w.heap.size := hc.1
          omega
      · cases hg'
  · refine (callsIn_wide.1 (new_bad 20 m hm w)).mono ?_
    rintro e w' ⟨rfl, rfl⟩
    have hR : newR m = [] := if_neg hm
    refine ⟨_, rfl, fun _ => none, ⟨fun id o h => ?_, fun i j o o' c hi hj h => ?_, fun id o c hi hk => ?_, hI.out, hI.vis, ⟨fun e he => by simp [hF] at he, hI.marks.gnd⟩⟩, ?_, ⟨rfl, rfl, rfl, Nat.le_refl _, rfl, fun c hc => ⟨⟨hc.1, fun id o hg' hk => ?_⟩, rfl⟩⟩, fun c cells h => by simp [Store.get] at h, fun c k d h => by simp [Store.get] at h⟩
    · simp only [Store.get] at h
      split at h
      · cases h
        exact .inl ⟨rfl, by rw [hR]; rfl⟩
      · cases h
    · obtain ⟨p, hp, _⟩ := h
      cases hp
    · obtain ⟨p, hp, _⟩ := hk
      cases hp
    · refine .tuple rfl fun j c u hc hu => ?_
      match j, hc, hu with
      | 0, hc, hu =>
        cases hc; cases hu
        exact Rep.oref (X := ⟨w', [(0, .opq .graph (newR m))], fun _ => none, F⟩) (id := 0) rfl
      | 1, hc, hu =>
        cases hc; cases hu
        rw [newE, if_neg hm]
        exact .int
    · obtain ⟨p, hp, _⟩ := hk
      cases hp
end Go.Proofs.Ytojflfogjkajaaa.Gr
end
section
namespace Go.Proofs.Ytojflfogjkajaaa.Gr
open Go Go.RowKit Go.Shelf Go.Proofs
open Go.Vm
theorem newR_len (m : Int) : (newR m).length = if 1 ≤ m ∧ m ≤ 20000 then m.toNat else 0 := by
  unfold newR
  split <;> simp
theorem list_inv {X : Ctx} {kd : LK} {l : List Int} {u : Value} (h : Rep X (.list kd (.int .i64) l) u) : ∃ A c, u = .slice A l.length c ∧ (0 < l.length → ∃ g o, A = some ⟨g, o, none⟩ ∧ X.T g ∧ ∀ j, j < l.length → X.w.cell? ⟨g, o + j, none⟩ = some (.int .i64 (l.getD j 0))) := by
  cases h with
  | @list _ _ _ A len cap h hf =>
    obtain ⟨rfl, _, h2⟩ := h
    refine ⟨A, cap, rfl, fun h0 => ?_⟩
    obtain ⟨g, o, e, h3, h4⟩ := h2 h0
    refine ⟨g, o, e, h3.1, fun j hj => ?_⟩
    obtain ⟨row, r1, r2⟩ := h4 j (l.getD j 0) (getD_at hj)
    simp only [RepC] at r1
    subst r1
    have := r2 0 _ rfl
    simpa [Ty.cells] using this
theorem oref_inv {X : Ctx} {id : Nat} {u : Value} (h : Rep X (.oref id) u) : ∃ k d, X.σ.get id = some (.opq k d) ∧ u = k.val ((X.μ id).map (·.1)) := by
  cases h with
  | oref h => exact ⟨_, _, h, rfl⟩
theorem set_upd (kd : LK) (R : GI) (v : Int) (l : List Int) (hl : l.length ≤ 1000000000) : UpdC Try.prog 27 [.oref 9000, .int .i64 v, .list kd (.int .i64) l] [(9000, .opq .graph R)]
    (.tuple [.int .i64 (addedF R v l), .int .i64 (droppedF R v l), .int .i64 (mayF R v l)]) [(9000, .opq .graph (setR R v l))] := by
  intro B F w μ vs hF hI hB hr
  obtain ⟨u1, r1, rfl, a1, hr⟩ := hr.cons_inv
  obtain ⟨u2, r2, rfl, a2, hr⟩ := hr.cons_inv
  obtain ⟨u3, r3, rfl, a3, hr⟩ := hr.cons_inv
  obtain rfl := hr.nil_inv
  cases int_inv a2
  obtain ⟨A, c, rfl, ha⟩ := list_inv a3
  obtain ⟨k, d, hg, rfl⟩ := oref_inv a1
  cases hg
  have hO := hI.objs 9000 (.opq .graph R) rfl
  have hsame : ∀ w', Below w.heap.size w w' → mayF R v l ≠ 0 → ∃ u, Ending.returned (.tuple #[.int .i64 0, .int .i64 0, .int .i64 (mayF R v l)]) = .returned u ∧ ∃ μ', Inv B ⟨w', [(9000, .opq .graph (setR R v l))], μ', F⟩ ∧ Rep ⟨w', [(9000, .opq .graph (setR R v l))], μ', F⟩ (.tuple [.int .i64 (addedF R v l), .int .i64 (droppedF R v l), .int .i64 (mayF R v l)]) u ∧
      Since ⟨w, [(9000, .opq .graph R)], μ, F⟩ ⟨w', [(9000, .opq .graph (setR R v l))], μ', F⟩ ∧ (∀ c cells, Store.get [(9000, .opq .graph R)] c = some (.box cells) → (∃ cells', Store.get [(9000, .opq .graph (setR R v l))] c = some (.box cells')) ∧ μ' c = μ c) ∧
      ∀ c k d, Store.get [(9000, .opq .graph R)] c = some (.opq k d) → (∃ d', Store.get [(9000, .opq .graph (setR R v l))] c = some (.opq k d')) ∧ (μ' c).map (·.1) = (μ c).map (·.1) := by
    intro w' hb hm
    have hR : setR R v l = R := if_neg hm
    obtain ⟨hE, hI'⟩ := evo_of_blocks hI hb.os hb.tape hb.output hb.size hb.block
    rw [hR]
    refine ⟨_, rfl, μ, hI', ?_, ⟨hE.os, hE.tape, hE.output, hE.size, rfl, hE.still⟩, fun c cells h => ⟨⟨cells, h⟩, rfl⟩, fun c k d h => ⟨⟨d, h⟩, rfl⟩⟩
    rw [addedF, droppedF, if_neg hm, if_neg hm]
    refine .tuple rfl fun j c u hc hu => ?_
    match j, hc, hu with
    | 0, hc, hu => cases hc; cases hu; exact .int
    | 1, hc, hu => cases hc; cases hu; exact .int
    | 2, hc, hu => cases hc; cases hu; exact .int
  rcases hO with ⟨hm0, hnil⟩ | ⟨b, base, C, hmu, hnn, hG⟩
  · have hlen : R.length = 0 := by simpa [OK.isNil] using hnil
    have hmay : mayF R v l = 1 := if_pos hlen
    rw [hm0]
    refine (callsIn_wide.1 (set_err 20 (by omega) w (.pointer none) v A l.length c 1 (by decide) (may_nil 19 (by omega) w v A l.length c))).mono ?_
    rintro e w' ⟨rfl, hb⟩
    have := hsame w' hb (by rw [hmay]; decide)
    rw [hmay] at this ⊢
    exact this
  · have hG : GraphAt R w b (fun c => C.testBit c = true) := hG
    have hlen : 0 < R.length := by
      have : ¬ R.length = 0 := by simpa [OK.isNil] using hnn
      omega
    have hC : CAt w.heap.size w (.slice A l.length c) l := ⟨A, c, rfl, fun h0 => by
      obtain ⟨g, o, e, h1, h2⟩ := ha h0
      exact ⟨g, o, e, h1.1.1, h2⟩⟩
    have hblk : ∀ x, x = b ∨ C.testBit x = true → Blk ⟨w, [(9000, .opq .graph R)], μ, F⟩ 9000 (.opq .graph R) x := fun x hx => ⟨_, hmu, hx.elim (fun e => .inl e.symm) .inr⟩
    have hU : ∀ g o, A = some ⟨g, o, none⟩ → 0 < l.length → ¬ C.testBit g = true := fun g o e h0 hS => by
      obtain ⟨g', o', e', h1, h2⟩ := ha h0
      rw [e] at e'
      cases e'
      exact h1.1.2 9000 _ rfl (hblk g (.inr hS))
    rw [hmu]
    by_cases hm : mayF R v l = 0
    · refine (callsIn_wide.1 (set_in 20 (by omega) b _ R w A c v l hl hG hC hU hm)).mono ?_
      rintro e w' ⟨rfl, S', hg', hfr, hS'⟩
      obtain ⟨C', hC'⟩ := bits_of S' _ hg'.lt
      have hR : setR R v l = R.set v.toNat l := if_pos hm
      have hown : ∀ x, x = b ∨ S' x → (x = b ∨ C.testBit x = true) ∨ w.heap.size ≤ x := fun x hx => hx.elim (fun e => .inl (.inl e)) fun h => (hS' x h).elim (fun h => .inl (.inr h)) .inr
      refine ⟨_, rfl, fun _ => some (b, 0, C'), ⟨fun id o h => ?_, fun i j o o' c hi hj _ _ => ?_, fun id o x hi hk => ?_, fun x hx => hI.out x (Nat.le_trans hfr.size hx), hI.vis, ⟨fun e he => by simp [hF] at he, fun e he => ?_⟩⟩, ?_,
        ⟨hfr.os, hfr.tape, hfr.output, hfr.size, rfl, fun x hx => ?_⟩, fun x cells h => ?_, fun x k d h => ?_⟩
      · simp only [Store.get] at h
        split at h
        · cases h
          refine .inr ⟨b, 0, C', rfl, ?_, ?_⟩
          · simp only [OK.isNil, hR, List.length_set, decide_eq_false_iff_not]
            omega
          · rw [bits_eq hC', hR]
            exact hg'
        · cases h
      · simp only [Store.get] at hi hj
        split at hi
        · split at hj
          · omega
          · cases hj
        · cases hi
      · simp only [Store.get] at hi
        split at hi
        · cases hi
          obtain ⟨p, hp, hk⟩ := hk
          cases hp
          rcases hown x (hk.elim (fun e => .inl e.symm) fun h => .inr ((hC' x).1 h)) with h | h
          · exact hI.baseB 9000 _ x rfl (hblk x h)
          · exact hB x h
        · cases hi
      · obtain ⟨h1, h2⟩ := hI.marks.gnd e he
        have h3 := hI.ground he
        exact ⟨(hfr.out e.1 h3.1 (fun e' => h3.2 9000 _ rfl (hblk _ (.inl e'))) (fun hs => h3.2 9000 _ rfl (hblk _ (.inr hs)))).trans h1, h2⟩
      · rw [addedF, droppedF, if_pos hm, if_pos hm, hm]
        refine .tuple rfl fun j c u hc hu => ?_
        match j, hc, hu with
        | 0, hc, hu => cases hc; cases hu; exact .int
        | 1, hc, hu => cases hc; cases hu; exact .int
        | 2, hc, hu => cases hc; cases hu; exact .int
      · have hlt : x < w.heap.size := hx.1
        have hnb : x ≠ b := fun e' => hx.2 9000 _ rfl (hblk _ (.inl e'))
        have hns : ¬ C.testBit x = true := fun hs => hx.2 9000 _ rfl (hblk _ (.inr hs))
        refine ⟨⟨Nat.lt_of_lt_of_le hlt hfr.size, fun id o hi hk => ?_⟩, hfr.out x hlt hnb hns⟩
        simp only [Store.get] at hi
        split at hi
        · cases hi
          obtain ⟨p, hp, hk⟩ := hk
          cases hp
          rcases hown x (hk.elim (fun e => .inl e.symm) fun h => .inr ((hC' x).1 h)) with (h | h) | h
          · exact hnb h
          · exact hns h
          · omega
        · cases hi
      · simp only [Store.get] at h
        split at h <;> cases h
      · simp only [Store.get] at h ⊢
        split at h
        · rename_i e
          subst e
          cases h
          have hmu' : μ 9000 = some (b, base, C) := hmu
          exact ⟨⟨setR R v l, rfl⟩, by rw [hmu']; rfl⟩
        · cases h
    · refine (callsIn_wide.1 (set_err 20 (by omega) w (.pointer (some ⟨b, 0, none⟩)) v A l.length c _ hm (may_in b _ R w 19 (by omega) _ (Nat.le_refl _) _ v l hl hlen hG hC))).mono ?_
      rintro e w' ⟨rfl, hb⟩
      exact hsame w' hb hm
def osetRun : List V → Store → Option (Prop × V × Store)
  | [.oref 9000, .int .i64 v, .list _ (.int .i64) l], [(9000, .opq .graph R)] => some (List.length (α := Int) l ≤ 1000000000, .tuple [.int .i64 (addedF R v l), .int .i64 (droppedF R v l), .int .i64 (mayF R v l)], [(9000, .opq .graph (setR R v l))])
  | _, _ => none
def oset : OSpec Try.prog where
  f := 27
  run := osetRun
  ok := fun args σ pre r σ' h hp => by
    unfold osetRun at h
    split at h
    · cases h
      exact set_upd _ _ _ _ hp
    · cases h
def onewRun : List V → Store → Option (Prop × V × Store)
  | [.int .i64 m], [] => some (True, .tuple [.oref 0, .int .i64 (newE m)], [(0, .opq .graph (newR m))])
  | _, _ => none
def onew : OSpec Try.prog where
  f := 26
  run := onewRun
  ok := fun args σ pre r σ' h hp => by
    unfold onewRun at h
    split at h
    · cases h
      exact new_upd _
    · cases h
end Go.Proofs.Ytojflfogjkajaaa.Gr
end
