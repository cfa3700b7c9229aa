/-
  A tally in memory; a line is put in: what the closure does, said of memory.
-/
import Derived.Test.YteaajihmfacinaaTa3
namespace Go.Proofs.Yteaajihmfacinaa.Ta
open Go Go.Vm
structure TW (d : TD) (W : World) (tb b0 b1 : Nat) (S0 S1 : Nat → Prop) : Prop where
  top : W.heap[tb]? = some (.cells #[.map (some b0), .map (some b1), .int .i64 d.e, .int .i64 d.n] 83 (0, 0))
  rows : GrpAt 3 rwC d.G none W b0 S0
  per : GrpAt 1 inC d.H none W b1 S1
  n0 : tb ≠ b0 ∧ tb ≠ b1 ∧ b0 ≠ b1
  n1 : ¬ S0 tb ∧ ¬ S1 tb ∧ ¬ S0 b1 ∧ ¬ S1 b0
  ap : ∀ c, S0 c → ¬ S1 c
theorem TW.keep {d : TD} {W W' : World} {tb b0 b1 : Nat} {S0 S1 : Nat → Prop} (h : TW d W tb b0 b1 S0 S1) (hs : ∀ c, c = tb ∨ c = b0 ∨ c = b1 ∨ S0 c ∨ S1 c → W'.heap[c]? = W.heap[c]?) : TW d W' tb b0 b1 S0 S1 :=
  ⟨(hs tb (.inl rfl)).trans h.top, h.rows.keep fun c hc => hs c (hc.elim (fun e => .inr (.inl e)) fun e => .inr (.inr (.inr (.inl e)))), h.per.keep fun c hc => hs c (hc.elim (fun e => .inr (.inr (.inl e))) fun e => .inr (.inr (.inr (.inr e)))), h.n0, h.n1, h.ap⟩
def F0 : Fr := ⟨fun _ => False, fun _ => False, [], ⟨[], trivial⟩⟩
abbrev sig (d : TD) : Store := [(9000, .box [.ptr 9001 0]), (9001, .box [.oref 9002, .oref 9003, .int .i64 d.e, .int .i64 d.n]), (9002, .opq .grw (d.G, none)), (9003, .opq .gpe (d.H, none))]
abbrev muT (pb tb b0 b1 C0 C1 : Nat) : Mu := fun i => if i = 9000 then some (pb, 0, 28) else if i = 9001 then some (tb, 0, 83) else if i = 9002 then some (b0, 0, C0) else if i = 9003 then some (b1, 0, C1) else none
theorem sig_cases {d : TD} {id : Nat} {o : Vm.Obj} (h : Store.get (sig d) id = some o) : (id = 9000 ∧ o = .box [.ptr 9001 0]) ∨ (id = 9001 ∧ o = .box [.oref 9002, .oref 9003, .int .i64 d.e, .int .i64 d.n]) ∨ (id = 9002 ∧ o = .opq .grw (d.G, none)) ∨ (id = 9003 ∧ o = .opq .gpe (d.H, none)) := by
  simp only [sig, Store.get] at h
  split at h
  · rename_i e; cases h; exact .inl ⟨e.symm, rfl⟩
  split at h
  · rename_i e; cases h; exact .inr (.inl ⟨e.symm, rfl⟩)
  split at h
  · rename_i e; cases h; exact .inr (.inr (.inl ⟨e.symm, rfl⟩))
  split at h
  · rename_i e; cases h; exact .inr (.inr (.inr ⟨e.symm, rfl⟩))
  · cases h
theorem tw_inv {d : TD} {W : World} {tb b0 b1 pb C0 C1 : Nat} (h : TW d W tb b0 b1 (fun c => C0.testBit c = true) (fun c => C1.testBit c = true)) (hp : W.heap[pb]? = some (.cells #[.pointer (some ⟨tb, 0, none⟩)] 28 (0, 0)))
    (hpn : pb ≠ tb ∧ pb ≠ b0 ∧ pb ≠ b1 ∧ ¬ C0.testBit pb = true ∧ ¬ C1.testBit pb = true) : Inv (fun _ => True) ⟨W, sig d, muT pb tb b0 b1 C0 C1, F0⟩ := by
  obtain ⟨q1, q2, q3, q4, q5⟩ := hpn
  obtain ⟨m1, m2, m3⟩ := h.n0
  obtain ⟨k1, k2, k3, k4⟩ := h.n1
  have hap := h.ap
  have hb0 := h.rows.nb
  have hb1 := h.per.nb
  have e1 : Rep ⟨W, sig d, muT pb tb b0 b1 C0 C1, F0⟩ (.oref 9002) (.map (some b0)) := Rep.oref (X := ⟨W, sig d, muT pb tb b0 b1 C0 C1, F0⟩) (id := 9002) (k := .grw) (d := (d.G, none)) rfl
  have e2 : Rep ⟨W, sig d, muT pb tb b0 b1 C0 C1, F0⟩ (.oref 9003) (.map (some b1)) := Rep.oref (X := ⟨W, sig d, muT pb tb b0 b1 C0 C1, F0⟩) (id := 9003) (k := .gpe) (d := (d.H, none)) rfl
  have e3 : Rep ⟨W, sig d, muT pb tb b0 b1 C0 C1, F0⟩ (.ptr 9001 0) (.pointer (some ⟨tb, 0, none⟩)) := Rep.ptr (X := ⟨W, sig d, muT pb tb b0 b1 C0 C1, F0⟩) (id := 9001) (off := 0) (base := 0) (C := 83) rfl rfl
  refine ⟨fun id o hg => ?_, fun i j o o' c hi hj hki hkj => ?_, fun _ _ _ _ _ => trivial, fun b _ hb => by simp [F0, Fr.any] at hb, fun b _ hb => by simp [F0, Fr.any] at hb, ⟨(fun e he => by simp [F0] at he), fun e he => by simp [F0] at he⟩⟩
  · rcases sig_cases hg with ⟨rfl, rfl⟩ | ⟨rfl, rfl⟩ | ⟨rfl, rfl⟩ | ⟨rfl, rfl⟩
    · exact ⟨pb, _, _, rfl, hp, .cons e3 .nil⟩
    · exact ⟨tb, _, _, rfl, h.top, .cons e1 (.cons e2 (.cons .int (.cons .int .nil)))⟩
    · exact .inr ⟨b0, 0, C0, rfl, rfl, h.rows⟩
    · exact .inr ⟨b1, 0, C1, rfl, rfl, h.per⟩
  · have hblk : ∀ {id : Nat} {o : Vm.Obj}, Store.get (sig d) id = some o → Blk ⟨W, sig d, muT pb tb b0 b1 C0 C1, F0⟩ id o c → (id = 9000 ∧ c = pb) ∨ (id = 9001 ∧ c = tb) ∨ (id = 9002 ∧ (c = b0 ∨ C0.testBit c = true)) ∨ (id = 9003 ∧ (c = b1 ∨ C1.testBit c = true)) := by
      intro id o hg hk
      obtain ⟨p, hm, hk⟩ := hk
      rcases sig_cases hg with ⟨rfl, rfl⟩ | ⟨rfl, rfl⟩ | ⟨rfl, rfl⟩ | ⟨rfl, rfl⟩
      · cases hm
        rcases hk with hk | hk
        · exact .inl ⟨rfl, hk.symm⟩
        · exact hk.elim
      · cases hm
        rcases hk with hk | hk
        · exact .inr (.inl ⟨rfl, hk.symm⟩)
        · exact hk.elim
      · cases hm
        exact .inr (.inr (.inl ⟨rfl, hk.elim (fun e => .inl e.symm) .inr⟩))
      · cases hm
        exact .inr (.inr (.inr ⟨rfl, hk.elim (fun e => .inl e.symm) .inr⟩))
    rcases hblk hi hki with ⟨rfl, rfl⟩ | ⟨rfl, rfl⟩ | ⟨rfl, hc⟩ | ⟨rfl, hc⟩ <;> rcases hblk hj hkj with ⟨rfl, hc'⟩ | ⟨rfl, hc'⟩ | ⟨rfl, hc'⟩ | ⟨rfl, hc'⟩
    all_goals first
      | rfl
      | (exfalso
         first
           | exact q1 hc'
           | exact q1 hc'.symm
           | exact hc'.elim q2 q4
           | exact hc'.elim q3 q5
           | exact hc'.elim m1 k1
           | exact hc'.elim m2 k2
           | (rcases hc with rfl | hc
              · first
                  | exact q2 hc'.symm
                  | exact m1 hc'.symm
                  | exact q3 hc'.symm
                  | exact m2 hc'.symm
                  | (rcases hc' with hc' | hc'
                     · first
                         | exact m3 hc'
                         | exact m3 hc'.symm
                     · first
                         | exact k4 hc'
                         | exact k3 hc')
              · first
                  | exact q4 (hc' ▸ hc)
                  | exact q5 (hc' ▸ hc)
                  | exact k1 (hc' ▸ hc)
                  | exact k2 (hc' ▸ hc)
                  | (rcases hc' with rfl | hc'
                     · first
                         | exact k3 hc
                         | exact k4 hc
                     · first
                         | exact hap _ hc hc'
                         | exact hap _ hc' hc)))
theorem inv_tw {d : TD} {W : World} {μ : Mu} {tb b0 b1 pb : Nat} (hI : Inv (fun _ => True) ⟨W, [(9002, .opq .grw (d.G, none)), (9003, .opq .gpe (d.H, none)), (9000, .box [.ptr 9001 0]), (9001, .box [.oref 9002, .oref 9003, .int .i64 d.e, .int .i64 d.n])], μ, F0⟩)
    (h0 : μ 9000 = some (pb, 0, 28)) (h1 : μ 9001 = some (tb, 0, 83)) (h2 : (μ 9002).map (·.1) = some b0) (h3 : (μ 9003).map (·.1) = some b1) :
    W.heap[pb]? = some (.cells #[.pointer (some ⟨tb, 0, none⟩)] 28 (0, 0)) ∧ ∃ C0 C1 : Nat, TW d W tb b0 b1 (fun c => C0.testBit c = true) (fun c => C1.testBit c = true) ∧ ¬ C0.testBit pb = true ∧ ¬ C1.testBit pb = true ∧ (∀ c, C0.testBit c = true → Blk ⟨W, [(9002, .opq .grw (d.G, none)), (9003, .opq .gpe (d.H, none)), (9000, .box [.ptr 9001 0]), (9001, .box [.oref 9002, .oref 9003, .int .i64 d.e, .int .i64 d.n])], μ, F0⟩ 9002 (.opq .grw (d.G, none)) c) ∧ ∀ c, C1.testBit c = true → Blk ⟨W, [(9002, .opq .grw (d.G, none)), (9003, .opq .gpe (d.H, none)), (9000, .box [.ptr 9001 0]), (9001, .box [.oref 9002, .oref 9003, .int .i64 d.e, .int .i64 d.n])], μ, F0⟩ 9003 (.opq .gpe (d.H, none)) c := by
  obtain ⟨b, cs, ty, m0, z1, z2⟩ := hI.objs 9000 (.box [.ptr 9001 0]) rfl
  have m0 : μ 9000 = _ := m0
  rw [h0] at m0
  cases m0
  obtain ⟨b, cs', ty, m0, y1, y2⟩ := hI.objs 9001 (.box [.oref 9002, .oref 9003, .int .i64 d.e, .int .i64 d.n]) rfl
  have m0 : μ 9001 = _ := m0
  rw [h1] at m0
  cases m0
  rcases hI.objs 9002 (.opq .grw (d.G, none)) rfl with ⟨_, g2⟩ | ⟨bb, base, C0, g1, _, g2⟩
  · cases g2
  rcases hI.objs 9003 (.opq .gpe (d.H, none)) rfl with ⟨_, k2⟩ | ⟨bb', base', C1, k1, _, k2⟩
  · cases k2
  have g1 : μ 9002 = _ := g1
  have k1 : μ 9003 = _ := k1
  rw [g1] at h2
  rw [k1] at h3
  have eb0 : b0 = bb := (Option.some.inj h2).symm
  have eb1 : b1 = bb' := (Option.some.inj h3).symm
  subst eb0 eb1
  have r0 : ∀ c, Blk ⟨W, [(9002, .opq .grw (d.G, none)), (9003, .opq .gpe (d.H, none)), (9000, .box [.ptr 9001 0]), (9001, .box [.oref 9002, .oref 9003, .int .i64 d.e, .int .i64 d.n])], μ, F0⟩ 9002 (.opq .grw (d.G, none)) c ↔ (c = b0 ∨ C0.testBit c = true) := fun c =>
    ⟨fun ⟨p, hp, hk⟩ => by have hp : μ 9002 = _ := hp; rw [g1] at hp; cases hp; exact hk.elim (fun e => .inl e.symm) .inr, fun h => ⟨_, g1, h.elim (fun e => .inl e.symm) .inr⟩⟩
  have r1 : ∀ c, Blk ⟨W, [(9002, .opq .grw (d.G, none)), (9003, .opq .gpe (d.H, none)), (9000, .box [.ptr 9001 0]), (9001, .box [.oref 9002, .oref 9003, .int .i64 d.e, .int .i64 d.n])], μ, F0⟩ 9003 (.opq .gpe (d.H, none)) c ↔ (c = b1 ∨ C1.testBit c = true) := fun c =>
    ⟨fun ⟨p, hp, hk⟩ => by have hp : μ 9003 = _ := hp; rw [k1] at hp; cases hp; exact hk.elim (fun e => .inl e.symm) .inr, fun h => ⟨_, k1, h.elim (fun e => .inl e.symm) .inr⟩⟩
  have r2 : Blk ⟨W, [(9002, .opq .grw (d.G, none)), (9003, .opq .gpe (d.H, none)), (9000, .box [.ptr 9001 0]), (9001, .box [.oref 9002, .oref 9003, .int .i64 d.e, .int .i64 d.n])], μ, F0⟩ 9001 (.box [.oref 9002, .oref 9003, .int .i64 d.e, .int .i64 d.n]) tb := ⟨_, h1, .inl rfl⟩
  have r3 : Blk ⟨W, [(9002, .opq .grw (d.G, none)), (9003, .opq .gpe (d.H, none)), (9000, .box [.ptr 9001 0]), (9001, .box [.oref 9002, .oref 9003, .int .i64 d.e, .int .i64 d.n])], μ, F0⟩ 9000 (.box [.ptr 9001 0]) pb := ⟨_, h0, .inl rfl⟩
  have x01 : ∀ c, (c = b0 ∨ C0.testBit c = true) → ¬ (c = b1 ∨ C1.testBit c = true) := fun c h h' => absurd (hI.injB 9002 9003 _ _ c rfl rfl ((r0 c).2 h) ((r1 c).2 h')) (by decide)
  have x0t : ¬ (tb = b0 ∨ C0.testBit tb = true) := fun h => absurd (hI.injB 9002 9001 _ _ tb rfl rfl ((r0 tb).2 h) r2) (by decide)
  have x1t : ¬ (tb = b1 ∨ C1.testBit tb = true) := fun h => absurd (hI.injB 9003 9001 _ _ tb rfl rfl ((r1 tb).2 h) r2) (by decide)
  have x0p : ¬ (pb = b0 ∨ C0.testBit pb = true) := fun h => absurd (hI.injB 9002 9000 _ _ pb rfl rfl ((r0 pb).2 h) r3) (by decide)
  have x1p : ¬ (pb = b1 ∨ C1.testBit pb = true) := fun h => absurd (hI.injB 9003 9000 _ _ pb rfl rfl ((r1 pb).2 h) r3) (by decide)
  obtain ⟨v1, l1, c1, f1, z2⟩ := z2.cons_inv
  have := z2.nil_inv
  subst this
  obtain ⟨cells, bq, base2, CC, rfl, hg, hm⟩ := f1.ptr_inv
  have hm : μ 9001 = _ := hm
  rw [h1] at hm
  cases hm
  have hcs : cs = #[.pointer (some ⟨tb, 0, none⟩)] := Array.toList_inj.1 (by simpa using c1)
  obtain ⟨v1, l1, c1, f1, y2⟩ := y2.cons_inv
  obtain ⟨v2, l2, rfl, f2, y2⟩ := y2.cons_inv
  obtain ⟨v3, l3, rfl, f3, y2⟩ := y2.cons_inv
  obtain ⟨v4, l4, rfl, f4, y2⟩ := y2.cons_inv
  have := y2.nil_inv
  subst this
  obtain ⟨ka, da, ea, ga⟩ := f1.oref_inv
  obtain ⟨kb, db, eb, gb⟩ := f2.oref_inv
  cases ga
  cases gb
  have ea : v1 = .map (some b0) := by rw [ea]; show Value.map ((μ 9002).map (·.1)) = _; rw [g1]; rfl
  have eb : v2 = .map (some b1) := by rw [eb]; show Value.map ((μ 9003).map (·.1)) = _; rw [k1]; rfl
  have hcs' : cs' = #[.map (some b0), .map (some b1), .int .i64 d.e, .int .i64 d.n] := Array.toList_inj.1 (by rw [c1, ea, eb, f3.int_inv, f4.int_inv])
  rw [hcs] at z1
  rw [hcs'] at y1
  exact ⟨z1, C0, C1, ⟨y1, g2, k2, ⟨fun e => x0t (.inl e), fun e => x1t (.inl e), fun e => x01 b0 (.inl rfl) (.inl e)⟩, ⟨fun e => x0t (.inr e), fun e => x1t (.inr e), fun e => x01 b1 (.inr e) (.inl rfl), fun e => x01 b0 (.inl rfl) (.inr e)⟩, fun c h h' => x01 c (.inr h) (.inr h')⟩, fun e => x0p (.inr e), fun e => x1p (.inr e), fun c h => (r0 c).2 (.inr h), fun c h => (r1 c).2 (.inr h)⟩
theorem put_calls {d : TD} {W : World} {tb b0 b1 pb : Nat} {S0 S1 : Nat → Prop} (h : TW d W tb b0 b1 S0 S1) (hp : W.heap[pb]? = some (.cells #[.pointer (some ⟨tb, 0, none⟩)] 28 (0, 0))) (hpn : pb ≠ tb ∧ pb ≠ b0 ∧ pb ≠ b1 ∧ ¬ S0 pb ∧ ¬ S1 pb) {u : Pu} (hu : POk d u) :
    Calls Try.prog 52 #[.int .i64 u.1, .agg #[.int .i64 u.2.1, .int .i64 u.2.2.1, .int .i64 u.2.2.2.1, .int .i64 u.2.2.2.2], .pointer (some ⟨pb, 0, none⟩)] W fun e W' => (∃ v, e = .returned v) ∧
      W'.heap[pb]? = some (.cells #[.pointer (some ⟨tb, 0, none⟩)] 28 (0, 0)) ∧ W.heap.size ≤ W'.heap.size ∧ W'.os = W.os ∧ W'.tape = W.tape ∧ W'.output = W.output ∧
      (∀ c, c < W.heap.size → c ≠ pb → c ≠ tb → c ≠ b0 → c ≠ b1 → ¬ S0 c → ¬ S1 c → W'.heap[c]? = W.heap[c]?) ∧
      ∃ S0' S1', TW (putD d u) W' tb b0 b1 S0' S1' ∧ ¬ S0' pb ∧ ¬ S1' pb ∧ ∀ c, (S0' c ∨ S1' c) → c < W.heap.size → S0 c ∨ S1 c := by
  obtain ⟨C0, hC0⟩ := bits_of S0 _ h.rows.lt
  obtain ⟨C1, hC1⟩ := bits_of S1 _ h.per.lt
  have f0 := bits_eq hC0
  have f1 := bits_eq hC1
  rw [← f0, ← f1] at h
  have hI := tw_inv h hp ⟨hpn.1, hpn.2.1, hpn.2.2.1, fun e => hpn.2.2.2.1 ((hC0 pb).1 e), fun e => hpn.2.2.2.2 ((hC1 pb).1 e)⟩
  obtain ⟨p, a, b, c, m⟩ := u
  obtain ⟨G, H, e, n⟩ := d
  have k := put_upd G H e n p a b c m hu (fun _ => True) F0 W (muT pb tb b0 b1 C0 C1) [.int .i64 p, .agg #[.int .i64 a, .int .i64 b, .int .i64 c, .int .i64 m], .pointer (some ⟨pb, 0, none⟩)] rfl hI (fun _ _ => trivial)
    (.cons .int (.cons (.agg rfl fun j c u hc hu => by
      match j, hc, hu with
      | 0, hc, hu => cases hc; cases hu; exact .int
      | 1, hc, hu => cases hc; cases hu; exact .int
      | 2, hc, hu => cases hc; cases hu; exact .int
      | 3, hc, hu => cases hc; cases hu; exact .int) (.cons (Rep.ptr (X := ⟨W, sig ⟨G, H, e, n⟩, muT pb tb b0 b1 C0 C1, F0⟩) (id := 9000) (off := 0) (base := 0) (C := 28) rfl rfl) .nil)))
  refine k.mono ?_
  rintro ex W' ⟨v, rfl, μ', hI', _, hS, hbx, hoq⟩
  have g0 := (hbx 9000 _ rfl).2
  have g1 := (hbx 9001 _ rfl).2
  have g2 := (hoq 9002 _ _ rfl).2
  have g3 := (hoq 9003 _ _ rfl).2
  obtain ⟨y1, D0, D1, y2, y3, y4, y5, y6⟩ := inv_tw (d := putD ⟨G, H, e, n⟩ (p, a, b, c, m)) hI' g0 g1 g2 g3
  have blk : ∀ c id o, Store.get (sig ⟨G, H, e, n⟩) id = some o → Blk ⟨W, sig ⟨G, H, e, n⟩, muT pb tb b0 b1 C0 C1, F0⟩ id o c → c = pb ∨ c = tb ∨ c = b0 ∨ c = b1 ∨ S0 c ∨ S1 c := fun c id o hg hk => by
    obtain ⟨q, hm, hk⟩ := hk
    rcases sig_cases hg with ⟨rfl, rfl⟩ | ⟨rfl, rfl⟩ | ⟨rfl, rfl⟩ | ⟨rfl, rfl⟩
    · cases hm
      exact hk.elim (fun e => .inl e.symm) fun h => h.elim
    · cases hm
      exact hk.elim (fun e => .inr (.inl e.symm)) fun h => h.elim
    · cases hm
      exact hk.elim (fun e => .inr (.inr (.inl e.symm))) fun h => .inr (.inr (.inr (.inr (.inl ((hC0 c).1 h)))))
    · cases hm
      exact hk.elim (fun e => .inr (.inr (.inr (.inl e.symm)))) fun h => .inr (.inr (.inr (.inr (.inr ((hC1 c).1 h)))))
  refine ⟨⟨v, rfl⟩, y1, hS.size, hS.os, hS.tape, hS.output, fun c hc n1 n2 n3 n4 n5 n6 => (hS.still c ⟨hc, fun id o hg hk => ?_⟩).2, _, _, y2, y3, y4, fun c hc hlt => ?_⟩
  · rcases blk c id o hg hk with h | h | h | h | h | h
    · exact n1 h
    · exact n2 h
    · exact n3 h
    · exact n4 h
    · exact n5 h
    · exact n6 h
  · refine Classical.byContradiction fun hn => ?_
    have hT : Ctx.T0 ⟨W, sig ⟨G, H, e, n⟩, muT pb tb b0 b1 C0 C1, F0⟩ c := by
      refine ⟨hlt, fun id o hg hk => ?_⟩
      have hcn : c ≠ pb ∧ c ≠ tb ∧ c ≠ b0 ∧ c ≠ b1 := by
        refine ⟨fun e => ?_, fun e => ?_, fun e => ?_, fun e => ?_⟩
        · subst e; exact hc.elim y3 y4
        · subst e; exact hc.elim y2.n1.1 y2.n1.2.1
        · subst e; exact hc.elim y2.rows.nb y2.n1.2.2.2
        · subst e; exact hc.elim y2.n1.2.2.1 y2.per.nb
      rcases blk c id o hg hk with h | h | h | h | h | h
      · exact hcn.1 h
      · exact hcn.2.1 h
      · exact hcn.2.2.1 h
      · exact hcn.2.2.2 h
      · exact hn (.inl h)
      · exact hn (.inr h)
    have := (hS.still c hT).1.2
    exact hc.elim (fun h => this 9002 _ rfl (y5 c h)) fun h => this 9003 _ rfl (y6 c h)
def Sm (W : World) (m : Nat) (c : Nat) : Prop := ∃ es clock, W.heap[m]? = some (.map es clock) ∧ ∃ (i : Nat) (e : MapEntry), es[i]? = some e ∧ gblk e.val = some c
theorem Sm.same {W W' : World} {m c : Nat} (h : W'.heap[m]? = W.heap[m]?) : Sm W' m c ↔ Sm W m c := by
  unfold Sm
  rw [h]
theorem grp_exact {α : Type} {n : Nat} {enc : α → List Value} {G : List (Sp × List α)} {W : World} {b : Nat} {S : Nat → Prop} (h : GrpAt n enc G none W b S) : GrpAt n enc G none W b (Sm W b) ∧ ∀ c, Sm W b c → S c := by
  obtain ⟨es, clock, t1, t2, t3, t4⟩ := id h.top
  have hsub : ∀ c, Sm W b c → S c := fun c ⟨es', clock', z1, i, e, z2, z3⟩ => by
    rw [t1] at z1
    cases z1
    obtain ⟨p, p1, p2⟩ := h.idx t1 z2
    obtain ⟨e', a1, a2, a4⟩ := t3 i p p1
    rw [z2] at a1
    cases a1
    exact (a4 fun ks e => by cases e).2 c z3
  exact ⟨⟨h.nd, h.ok, fun c hc => h.lt c (hsub c hc), fun hc => h.nb (hsub b hc), h.has, es, clock, t1, t2, fun i p hp => by
    obtain ⟨e, a1, a2, a4⟩ := t3 i p hp
    exact ⟨e, a1, a2, fun hi => ⟨(a4 hi).1, fun g hg => ⟨es, clock, t1, i, e, a1, hg⟩⟩⟩, t4⟩, hsub⟩
theorem TW.exact {d : TD} {W : World} {tb b0 b1 : Nat} {S0 S1 : Nat → Prop} (h : TW d W tb b0 b1 S0 S1) : TW d W tb b0 b1 (Sm W b0) (Sm W b1) ∧ (∀ c, Sm W b0 c → S0 c) ∧ ∀ c, Sm W b1 c → S1 c := by
  obtain ⟨g1, g2⟩ := grp_exact h.rows
  obtain ⟨k1, k2⟩ := grp_exact h.per
  exact ⟨⟨h.top, g1, k1, h.n0, ⟨fun e => h.n1.1 (g2 _ e), fun e => h.n1.2.1 (k2 _ e), fun e => h.n1.2.2.1 (g2 _ e), fun e => h.n1.2.2.2 (k2 _ e)⟩, fun c h1 h2 => h.ap c (g2 c h1) (k2 c h2)⟩, g2, k2⟩
end Go.Proofs.Yteaajihmfacinaa.Ta
