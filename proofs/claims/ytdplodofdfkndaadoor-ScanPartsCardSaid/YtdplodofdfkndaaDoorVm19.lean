/-
  The engine, part 19: code.
-/
import Derived.Test.YtdplodofdfkndaaDoorVm18b
import Derived.ScopeJumps
namespace Go.Vm
open Go.RowKit (Below)

inductive Leaf where
  | normal | exit (id : Nat) | ret | goto (l : Nat)

def Leaf.ex : Leaf → Exit
  | .normal => .normal
  | .exit i => .exit i
  | .ret => .ret
  | .goto l => .goto l

/-- The first region's number. -/
def firstR : Code → Nat
  | .region id _ _ => id
  | .seq a b => match a with
    | .skip => firstR b
    | .label _ => firstR b
    | _ => firstR a
  | .cond _ a _ => firstR a
  | .block _ a => firstR a
  | .loop a => firstR a
  | .scope a => firstR a
  | _ => 1000000

/-- The label of a scope. -/
def labelOf : Code → Option Nat
  | .seq a b => match labelOf a with
    | some l => some l
    | none => labelOf b
  | .label l => some l
  | _ => none

def hasL : Code → Nat → Bool
  | .seq a b, l => hasL a l || hasL b l
  | .label l', l => l' == l
  | _, _ => false

def annW : Option Ann → List Nat
  | some a => a.slots.map (·.1)
  | none => []

/-- The slots that code may write, or heads read anew. -/
def wrs (E : Env) : Code → List Nat
  | .region _ ops _ => opsW ops.toList
  | .seq a b => wrs E a ++ wrs E b ++ annW (E.joins (firstR b))
  | .cond _ a b => wrs E a ++ wrs E b
  | .block _ a => wrs E a
  | .loop a => wrs E a ++ annW (E.heads (firstR a))
  | .scope a => wrs E a ++ (match labelOf a with
    | some l => annW (E.joins (2000000 + l))
    | none => [])
  | _ => []

def onNormal (next : St → Prop) (K : Leaf → St → Prop) : Leaf → St → Prop
  | .normal, st => next st
  | e, st => K e st

def offBlock (id : Nat) (K : Leaf → St → Prop) : Leaf → St → Prop
  | .exit i, st => if i = id then K .normal st else K (.exit i) st
  | e, st => K e st

def regionGo (E : Env) (ops : Array Oper) (draw : Bool) (st : St) (k : St → Prop) : Prop :=
  if draw then vcDraw E ops st k else vcOps E ops ops.toList st k

def seqGo (pins : List Nat) (j : Option Ann) (wr : List Nat) (va vb : St → (Leaf → St → Prop) → Prop) (st : St) (K : Leaf → St → Prop) : Prop :=
  match j with
  | none => va st (onNormal (fun st' => vb st' K) K)
  | some ann => va st (onNormal (fun st' => back pins ann wr st st' (ann.inv st)) K) ∧ ∀ x, ann.inv st x → vb (head ann wr st x) K

def condGo (c : V) (vx vy : Prop) : Prop :=
  match c with
  | .kb true => vx
  | .kb false => vy
  | .bool b => (b = true → vx) ∧ (b = false → vy)
  | .bq p => (p true → vx) ∧ (p false → vy)
  | _ => False

def loopGo (pins : List Nat) (j : Option Ann) (wr : List Nat) (vb : St → (Leaf → St → Prop) → Prop) (st : St) (K : Leaf → St → Prop) : Prop :=
  match j with
  | none => vb st (onNormal (fun _ => False) K)
  | some ann => back pins ann wr st st (ann.inv st) ∧ ∀ x, ann.inv st x → vb (head ann wr st x) (onNormal (fun st' => back pins ann wr st st' fun x' => ann.inv st x' ∧ ann.measure st x' < ann.measure st x) K)

/-- Within a scope: jumps to its label. -/
def jumpK (l : Nat) (J : St → Prop) (K : Leaf → St → Prop) : Leaf → St → Prop
  | .goto l', st => l' = l ∧ J st
  | e, st => K e st

def scopeGo (pins : List Nat) (lb : Option Nat) (j : Nat → Option Ann) (wr : List Nat) (vb : St → (Leaf → St → Prop) → Prop) (vl : Nat → St → (Leaf → St → Prop) → Prop) (st : St) (K : Leaf → St → Prop) : Prop :=
  match lb with
  | none => False
  | some l => match j l with
    | none => False
    | some ann => vb st (jumpK l (fun st' => back pins ann wr st st' (ann.inv st)) K) ∧
      ∀ x, ann.inv st x → vl l (head ann wr st x) (jumpK l (fun st' => back pins ann wr st st' fun x' => ann.inv st x' ∧ ann.measure st x' < ann.measure st x) K)

/-- What code must show: from its start; from a label. -/
def vc2 (E : Env) : Code → (St → (Leaf → St → Prop) → Prop) × (Nat → St → (Leaf → St → Prop) → Prop)
  | .skip => (fun st K => K .normal st, fun _ _ _ => False)
  | .region _ ops draw => (fun st K => regionGo E ops draw st (K .normal), fun _ _ _ => False)
  | .seq a b => (seqGo E.pins (E.joins (firstR b)) (wrs E a) (vc2 E a).1 (vc2 E b).1, fun l st K => if hasL a l then seqGo E.pins none [] ((vc2 E a).2 l) (vc2 E b).1 st K else (vc2 E b).2 l st K)
  | .cond c x y => (fun st K => condGo (evalV st.s c) ((vc2 E x).1 st K) ((vc2 E y).1 st K), fun _ _ _ => False)
  | .block id c => (fun st K => (vc2 E c).1 st (offBlock id K), fun _ _ _ => False)
  | .loop c => (loopGo E.pins (E.heads (firstR c)) (wrs E c) (vc2 E c).1, fun _ _ _ => False)
  | .scope c => (scopeGo E.pins (labelOf c) (fun l => E.joins (2000000 + l)) (wrs E c) (vc2 E c).1 (vc2 E c).2, fun _ _ _ => False)
  | .exit id => (fun st K => K (.exit id) st, fun _ _ _ => False)
  | .goto l => (fun st K => K (.goto l) st, fun _ _ _ => False)
  | .label l' => (fun st K => K .normal st, fun l st K => if l' = l then K .normal st else False)
  | .ret => (fun st K => K .ret st, fun _ _ _ => False)
  | _ => (fun _ _ => False, fun _ _ _ => False)

/-- **What code must show, from a state.** -/
def vc (E : Env) (c : Code) (st : St) (K : Leaf → St → Prop) : Prop := (vc2 E c).1 st K

theorem hasL_find : ∀ {c : Code} {l : Nat}, hasL c l = false → findLabel c l = none
  | .seq a b, l, h => by
    simp only [hasL, Bool.or_eq_false_iff] at h
    simp only [findLabel, hasL_find h.1, hasL_find h.2]
  | .label l', l, h => by
    simp only [hasL] at h
    simp [findLabel, h]
  | .skip, _, _ | .region _ _ _, _, _ | .cond _ _ _, _, _ | .block _ _, _, _ | .loop _, _, _ | .rangeFunc _ _ _ _, _, _ | .exit _, _, _ | .scope _, _, _ | .goto _, _, _ | .ret, _, _ | .refuse _, _, _ => rfl

theorem find_hasL : ∀ {c : Code} {l : Nat} , hasL c l = true → ∃ r, findLabel c l = some r
  | .seq a b, l, h => by
    simp only [hasL, Bool.or_eq_true] at h
    simp only [findLabel]
    cases ha : findLabel a l with
    | some r => exact ⟨_, rfl⟩
    | none =>
      rcases h with h | h
      · obtain ⟨r, hr⟩ := find_hasL h; rw [ha] at hr; cases hr
      · exact find_hasL h
  | .label l', l, h => by
    simp only [hasL] at h
    exact ⟨.skip, by simp [findLabel, h]⟩

theorem labelOf_find : ∀ {c : Code} {l : Nat}, labelOf c = some l → ∃ r, findLabel c l = some r
  | .seq a b, l, h => by
    simp only [labelOf] at h
    simp only [findLabel]
    cases ha : findLabel a l with
    | some r => exact ⟨_, rfl⟩
    | none =>
      split at h
      · rename_i l' hl'
        cases h
        obtain ⟨r, hr⟩ := labelOf_find hl'
        rw [ha] at hr; cases hr
      · exact labelOf_find h
  | .label l', l, h => by
    simp only [labelOf, Option.some.injEq] at h
    subst h
    exact ⟨.skip, by simp [findLabel]⟩

/-- **Code does what it shows.** -/
theorem vc_sound2 {w0 : Start} {F : Fr} {E : Env} (hF : ∀ e ∈ F.pin, e.1 ∈ E.pins) (hS : SpecsOk E) (hm : E.P.follows .mixedOrders = true) : ∀ (c : Code), (∀ (st : St) (K : Leaf → St → Prop) (Q : Exit → Act → World → Prop),
    (∀ e st' a w μ, K e st' → Agree (wrs E c) st.s st'.s → Good w0 F st' a w μ → Q e.ex a w) → vc E c st K → ∀ a w μ, Good w0 F st a w μ → c.wp E.P Q a w) ∧
    (∀ (l : Nat) (rest : Code), findLabel c l = some rest → ∀ (st : St) (K : Leaf → St → Prop) (Q : Exit → Act → World → Prop),
    (∀ e st' a w μ, K e st' → Agree (wrs E c) st.s st'.s → Good w0 F st' a w μ → Q e.ex a w) → (vc2 E c).2 l st K → ∀ a w μ, Good w0 F st a w μ → rest.wp E.P Q a w) := by
  intro c
  induction c with
  | skip => refine ⟨?_, fun l rest hf => by simp [findLabel] at hf⟩; intro st K Q hQ h a w μ hg; exact wp_skip (hQ .normal _ _ _ _ h (.refl _ _) hg)
  | region id ops draw =>
    refine ⟨?_, fun l rest hf => by simp [findLabel] at hf⟩
    intro st K Q hQ h a w μ hg
    change regionGo E ops draw st (K .normal) at h
    unfold regionGo at h
    split at h
    · rename_i hd
      subst hd
      exact draw_sound hS hm (fun st' a' w' μ' hk hag hg' => hQ .normal _ _ _ _ hk hag hg') h hg
    · rename_i hd
      have : draw = false := by simpa using hd
      subst this
      exact wp_region_list (vcOps_sound hS (s0 := st.s) (fun st' a' w' μ' hk hag hg' => hQ .normal _ _ _ _ hk hag hg') _ _ _ _ _ (fun _ h => h) h (.refl _ _) hg)
  | seq x y ihx0 ihy0 =>
    have ihx := ihx0.1
    have ihy := ihy0.1
    refine ⟨?_, ?_⟩
    rotate_left
    · intro l rest hf st K Q hQ h a w μ hg
      simp only [vc2] at h
      simp only [findLabel] at hf
      split at h
      · rename_i hl
        obtain ⟨rx, hrx⟩ := find_hasL hl
        rw [hrx] at hf
        cases hf
        refine wp_seq (ihx0.2 l rx hrx _ _ _ (fun e st' a' w' μ' he hag hg' => ?_) h a w μ hg)
        have hag2 : Agree (wrs E (.seq x y)) st.s st'.s := hag.sub (fun i hi => by simp [wrs, hi])
        cases e with
        | normal => exact ihy _ _ _ (fun e st2 a2 w2 μ2 he2 hag3 hg2 => hQ e _ _ _ _ he2 (hag2.trans (hag3.sub (fun i hi => by simp [wrs, hi]))) hg2) he _ _ _ hg'
        | exit id => exact hQ (.exit id) _ _ _ _ he hag2 hg'
        | ret => exact hQ .ret _ _ _ _ he hag2 hg'
        | goto l => exact hQ (.goto l) _ _ _ _ he hag2 hg'
      · rename_i hl
        rw [hasL_find (by simpa using hl)] at hf
        exact ihy0.2 l rest hf _ _ _ (fun e st' a' w' μ' he hag hg' => hQ e _ _ _ _ he (hag.sub (fun i hi => by simp [wrs, hi])) hg') h a w μ hg
    intro st K Q hQ h a w μ hg
    change seqGo E.pins (E.joins (firstR y)) (wrs E x) (vc E x) (vc E y) st K at h
    refine wp_seq ?_
    unfold seqGo at h
    split at h
    · refine ihx _ _ _ (fun e st' a' w' μ' he hag hg' => ?_) h a w μ hg
      have hag2 : Agree (wrs E (.seq x y)) st.s st'.s := hag.sub (fun i hi => by simp [wrs, hi])
      cases e with
      | normal => exact ihy _ _ _ (fun e st2 a2 w2 μ2 he2 hag3 hg2 => hQ e _ _ _ _ he2 (hag2.trans (hag3.sub (fun i hi => by simp [wrs, hi]))) hg2) he _ _ _ hg'
      | exit id => exact hQ (.exit id) _ _ _ _ he hag2 hg'
      | ret => exact hQ .ret _ _ _ _ he hag2 hg'
      | goto l => exact hQ (.goto l) _ _ _ _ he hag2 hg'
    · rename_i ann hj
      obtain ⟨h1, h2⟩ := h
      refine ihx _ _ _ (fun e st' a' w' μ' he hag hg' => ?_) h1 a w μ hg
      have hag2 : Agree (wrs E (.seq x y)) st.s st'.s := hag.sub (fun i hi => by simp [wrs, hi])
      cases e with
      | normal =>
        obtain ⟨x', μ2, k1, k2, k3, k4⟩ := back_ok hF he (mask_same hag.1 (fun i hi => hag.2 i (Ann.m_off hi).1)) hg'.inv hg'.slots
        have hag4 : Agree (wrs E (.seq x y)) st.s (head ann (wrs E x) st x').s := head_agree (fun i hi => by simp [wrs, hi]) (fun i hi => by simp only [wrs, hj, annW, List.mem_append]; exact .inr hi) _ _
        exact ihy _ _ _ (fun e st2 a2 w2 μ2 he2 hag3 hg2 => hQ e _ _ _ _ he2 (hag4.trans (hag3.sub (fun i hi => by simp [wrs, hi]))) hg2) (h2 x' k1) _ _ _ ⟨k2, k3, hg'.below.anew k4, hg'.defers⟩
      | exit id => exact hQ (.exit id) _ _ _ _ he hag2 hg'
      | ret => exact hQ .ret _ _ _ _ he hag2 hg'
      | goto l => exact hQ (.goto l) _ _ _ _ he hag2 hg'
  | cond c x y ihx ihy =>
    have ihx := ihx.1
    have ihy := ihy.1
    refine ⟨?_, fun l rest hf => by simp [findLabel] at hf⟩
    intro st K Q hQ h a w μ hg
    change condGo (evalV st.s c) (vc E x st K) (vc E y st K) at h
    unfold condGo at h
    have hr := hg.eval c
    have hx : ∀ e st' a w μ, K e st' → Agree (wrs E x) st.s st'.s → Good w0 F st' a w μ → Q e.ex a w := fun e st' a w μ h1 h2 h3 => hQ e st' a w μ h1 (h2.sub (fun i hi => by simp [wrs, hi])) h3
    have hy : ∀ e st' a w μ, K e st' → Agree (wrs E y) st.s st'.s → Good w0 F st' a w μ → Q e.ex a w := fun e st' a w μ h1 h2 h3 => hQ e st' a w μ h1 (h2.sub (fun i hi => by simp [wrs, hi])) h3
    split at h
    · rename_i hc
      rw [hc] at hr
      exact wp_cond_true hr.kb_inv (ihx _ _ _ hx h _ _ _ hg)
    · rename_i hc
      rw [hc] at hr
      exact wp_cond_false hr.kb_inv (ihy _ _ _ hy h _ _ _ hg)
    · rename_i b hc
      rw [hc] at hr
      exact wp_cond_split hr.bool_inv (fun e => ihx _ _ _ hx (h.1 e) _ _ _ hg) (fun e => ihy _ _ _ hy (h.2 e) _ _ _ hg)
    · rename_i p hc
      rw [hc] at hr
      generalize hu : a.eval c = u at hr
      cases hr with
      | @bq _ b hp =>
        exact wp_cond_split hu (fun e => ihx _ _ _ hx (h.1 (e ▸ hp)) _ _ _ hg) (fun e => ihy _ _ _ hy (h.2 (e ▸ hp)) _ _ _ hg)
    · exact h.elim
  | block id c ih =>
    have ih := ih.1
    refine ⟨?_, fun l rest hf => by simp [findLabel] at hf⟩
    intro st K Q hQ h a w μ hg
    change vc E c st (offBlock id K) at h
    refine wp_block (ih _ _ _ (fun e st' a' w' μ' he hag hg' => ?_) h _ _ _ hg)
    cases e with
    | normal => exact hQ .normal _ _ _ _ he hag hg'
    | exit i =>
      simp only [Leaf.ex, Exit.inBlock]
      simp only [offBlock] at he
      split at he
      · rename_i e; rw [if_pos e]; exact hQ .normal _ _ _ _ he hag hg'
      · rename_i e; rw [if_neg e]; exact hQ (.exit i) _ _ _ _ he hag hg'
    | ret => exact hQ .ret _ _ _ _ he hag hg'
    | goto l => exact hQ (.goto l) _ _ _ _ he hag hg'
  | loop c ih =>
    have ih := ih.1
    refine ⟨?_, fun l rest hf => by simp [findLabel] at hf⟩
    intro st K Q hQ h a w μ hg
    change loopGo E.pins (E.heads (firstR c)) (wrs E c) (vc E c) st K at h
    unfold loopGo at h
    have hsub : ∀ i ∈ wrs E c, i ∈ wrs E (.loop c) := fun i hi => by simp [wrs, hi]
    split at h
    · refine wp_loop_once (ih _ _ _ (fun e st' a' w' μ' he hag hg' => ?_) h _ _ _ hg)
      cases e with
      | normal => exact he.elim
      | exit id => exact hQ (.exit id) _ _ _ _ he (hag.sub hsub) hg'
      | ret => exact hQ .ret _ _ _ _ he (hag.sub hsub) hg'
      | goto l => exact hQ (.goto l) _ _ _ _ he (hag.sub hsub) hg'
    · rename_i ann hj
      obtain ⟨h1, h2⟩ := h
      obtain ⟨x0, μ0, k1, k2, k3, k4⟩ := back_ok hF h1 rfl hg.inv hg.slots
      refine wp_loop_ghost (fun n a' w' => ∃ x μ', ann.inv st x ∧ ann.measure st x = n ∧ Good w0 F (head ann (wrs E c) st x) a' w' μ') _ ⟨x0, μ0, k1, rfl, ⟨k2, k3, hg.below.anew k4, hg.defers⟩⟩ ?_
      rintro n a' w' ⟨x, μ', hx, hm, hg'⟩
      have hag4 : ∀ x, Agree (wrs E (.loop c)) st.s (head ann (wrs E c) st x).s := fun x => head_agree hsub (fun i hi => by simp only [wrs, hj, annW, List.mem_append]; exact .inr hi) _ _
      refine ih _ _ _ (fun e st' a2 w2 μ2 he hag hg2 => ?_) (h2 x hx) _ _ _ hg'
      have hag5 : Agree (wrs E (.loop c)) st.s st'.s := (hag4 x).trans (hag.sub hsub)
      cases e with
      | normal =>
        have hmask : maskFrom (ann.m (wrs E c)) 0 st'.s = maskFrom (ann.m (wrs E c)) 0 st.s :=
          mask_same hag5.1 (fun i hi => hag5.2 i (by simp only [wrs, hj, annW, List.mem_append, not_or]; exact Ann.m_off hi))
        obtain ⟨x2, μ3, ⟨j1, j2⟩, j3, j4, j5⟩ := back_ok hF he hmask hg2.inv hg2.slots
        exact ⟨_, by rw [hm] at j2; exact j2, x2, μ3, j1, rfl, ⟨j3, j4, hg2.below.anew j5, hg2.defers⟩⟩
      | exit id => exact hQ (.exit id) _ _ _ _ he hag5 hg2
      | ret => exact hQ .ret _ _ _ _ he hag5 hg2
      | goto l => exact hQ (.goto l) _ _ _ _ he hag5 hg2
  | exit id => refine ⟨?_, fun l rest hf => by simp [findLabel] at hf⟩; intro st K Q hQ h a w μ hg; exact wp_exit (hQ (.exit id) _ _ _ _ h (.refl _ _) hg)
  | label l' =>
    refine ⟨?_, fun l rest hf => ?_⟩
    · intro st K Q hQ h a w μ hg; exact wp_label (hQ .normal _ _ _ _ h (.refl _ _) hg)
    · intro st K Q hQ h a w μ hg
      simp only [findLabel] at hf
      split at hf
      · cases hf
        simp only [vc2] at h
        split at h
        · exact wp_skip (hQ .normal _ _ _ _ h (.refl _ _) hg)
        · exact h.elim
      · cases hf
  | ret => refine ⟨?_, fun l rest hf => by simp [findLabel] at hf⟩; intro st K Q hQ h a w μ hg; exact wp_ret (hQ .ret _ _ _ _ h (.refl _ _) hg)
  | rangeFunc _ _ _ _ _ _ => refine ⟨?_, fun l rest hf => by simp [findLabel] at hf⟩; intro st K Q hQ h a w μ hg; exact h.elim
  | scope c ih =>
    refine ⟨?_, fun l rest hf => by simp [findLabel] at hf⟩
    intro st K Q hQ h a w μ hg
    change scopeGo E.pins (labelOf c) (fun l => E.joins (2000000 + l)) (wrs E c) (vc2 E c).1 (vc2 E c).2 st K at h
    unfold scopeGo at h
    have hsub : ∀ i ∈ wrs E c, i ∈ wrs E (.scope c) := fun i hi => by simp [wrs, hi]
    split at h
    · exact h.elim
    · rename_i l hlb
      split at h
      · exact h.elim
      · rename_i ann hj
        obtain ⟨h1, h2⟩ := h
        obtain ⟨rest, hfl⟩ := labelOf_find hlb
        let p : Act → World → Nat → Prop := fun a' w' n => ∃ x μ', ann.inv st x ∧ ann.measure st x = n ∧ Good w0 F (head ann (wrs E c) st x) a' w' μ'
        have hag4 : ∀ x, Agree (wrs E (.scope c)) st.s (head ann (wrs E c) st x).s := fun x => head_agree hsub (fun i hi => by
          simp only [wrs, hlb, List.mem_append]
          exact .inr (by simp only at hj; rw [hj]; exact hi)) _ _
        have hmask : ∀ s', Agree (wrs E (.scope c)) st.s s' → maskFrom (ann.m (wrs E c)) 0 s' = maskFrom (ann.m (wrs E c)) 0 st.s := fun s' hag =>
          mask_same hag.1 (fun i hi => hag.2 i (by
            simp only [wrs, hlb, List.mem_append, not_or]
            simp only at hj
            rw [hj]
            exact Ann.m_off hi))
        refine wp_scope_jumps l (fun a' w' => ∃ n, p a' w' n) (fun a' w' => leastOf (p a' w')) hfl ?_ ?_
        · refine ih.1 _ _ _ (fun e st' a' w' μ' he hag hg' => ?_) h1 a w μ hg
          have hag2 := hag.sub hsub
          cases e with
          | normal => exact hQ .normal _ _ _ _ he hag2 hg'
          | exit id => exact hQ (.exit id) _ _ _ _ he hag2 hg'
          | ret => exact hQ .ret _ _ _ _ he hag2 hg'
          | goto l' =>
            obtain ⟨rfl, he⟩ := he
            obtain ⟨x2, μ3, j1, j3, j4, j5⟩ := back_ok hF he (hmask _ hag2) hg'.inv hg'.slots
            exact ⟨rfl, _, x2, μ3, j1, rfl, ⟨j3, j4, hg'.below.anew j5, hg'.defers⟩⟩
        · intro a1 w1 hJ
          obtain ⟨x, μ1, hx, hmx, hg1⟩ := (leastOf_spec hJ).1
          refine ih.2 l rest hfl _ _ _ (fun e st' a' w' μ' he hag hg' => ?_) (h2 x hx) a1 w1 μ1 hg1
          have hag2 := (hag4 x).trans (hag.sub hsub)
          cases e with
          | normal => exact hQ .normal _ _ _ _ he hag2 hg'
          | exit id => exact hQ (.exit id) _ _ _ _ he hag2 hg'
          | ret => exact hQ .ret _ _ _ _ he hag2 hg'
          | goto l' =>
            obtain ⟨rfl, he⟩ := he
            obtain ⟨x2, μ3, ⟨j1, j2⟩, j3, j4, j5⟩ := back_ok hF he (hmask _ hag2) hg'.inv hg'.slots
            have hp : p a' w' (ann.measure st x2) := ⟨x2, μ3, j1, rfl, ⟨j3, j4, hg'.below.anew j5, hg'.defers⟩⟩
            refine ⟨rfl, ⟨_, hp⟩, ?_⟩
            show leastOf (p a' w') < leastOf (p a1 w1)
            rw [← hmx]
            exact Nat.lt_of_le_of_lt ((leastOf_spec ⟨_, hp⟩).2 _ hp) j2
  | goto l => refine ⟨?_, fun l rest hf => by simp [findLabel] at hf⟩; intro st K Q hQ h a w μ hg; exact wp_goto (hQ (.goto l) _ _ _ _ h (.refl _ _) hg)
  | refuse _ => refine ⟨?_, fun l rest hf => by simp [findLabel] at hf⟩; intro st K Q hQ h a w μ hg; exact h.elim

theorem vc_sound {w0 : Start} {F : Fr} {E : Env} (hF : ∀ e ∈ F.pin, e.1 ∈ E.pins) (hS : SpecsOk E) (hm : E.P.follows .mixedOrders = true) (c : Code) (st : St) (K : Leaf → St → Prop) (Q : Exit → Act → World → Prop)
    (hQ : ∀ e st' a w μ, K e st' → Agree (wrs E c) st.s st'.s → Good w0 F st' a w μ → Q e.ex a w) (h : vc E c st K) (a : Act) (w : World) (μ : Mu) (hg : Good w0 F st a w μ) : c.wp E.P Q a w :=
  (vc_sound2 hF hS hm c).1 st K Q hQ h a w μ hg

end Go.Vm
