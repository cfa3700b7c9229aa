/-
  The engine, part 21: small helps for specifications.
-/
import Derived.Test.YtdplodofdfkndaaDoorVm20
import Derived.KernelRfl
namespace Go.Vm

/-- A list, of whatever kind. -/
def asL (t : Ty) : V → Option (List t.den)
  | .list _ t' l => if h : t' = t then some (h ▸ l) else none
  | .nils => some []
  | _ => none

/-- One abstract value says less than another. -/
def Weak (v v' : V) : Prop := ∀ X u, Rep X v u → Rep X v' u

theorem Weak.refl (v : V) : Weak v v := fun _ _ h => h

theorem asL_weak {t : Ty} {v : V} {l : List t.den} (h : asL t v = some l) : Weak v (.list .tmp t l) := by
  intro X u hr
  unfold asL at h
  split at h
  · split at h
    · rename_i e
      subst e
      cases h
      obtain ⟨A, cap, rfl, hc, _⟩ := hr.list_inv
      exact .list (hc.keep (fun b hb => ⟨hb, rfl⟩) (fun b hb => ⟨⟨hb.1, fun e => absurd rfl e⟩, rfl⟩)) (fun e => by cases e)
    · cases h
  · cases h
    cases hr
    exact .list ⟨rfl, Nat.le_refl _, fun h => absurd h (Nat.lt_irrefl _)⟩ (fun _ => rfl)
  · cases h

/-- A list that nobody writes any more. -/
def asP (t : Ty) : V → Option (List t.den)
  | .list kd t' l => if kd = .tmp then none else if h : t' = t then some (h ▸ l) else none
  | .nils => some []
  | _ => none

theorem asP_weak {t : Ty} {v : V} {l : List t.den} (h : asP t v = some l) : Weak v (.list .part t l) := by
  intro X u hr
  unfold asP at h
  split at h
  · split at h
    · cases h
    rename_i hk
    split at h
    · rename_i e
      subst e
      cases h
      obtain ⟨A, cap, rfl, hc, _⟩ := hr.list_inv
      exact .list (hc.keep (fun b hb => ⟨hb, rfl⟩) (fun b hb => ⟨⟨hb.1, fun _ => hb.2 hk⟩, rfl⟩)) (fun e => by cases e)
    · cases h
  · cases h
    cases hr
    exact .list ⟨rfl, Nat.le_refl _, fun h => absurd h (Nat.lt_irrefl _)⟩ (fun _ => rfl)
  · cases h

theorem boolOf_weak {v : V} {b : Bool} (h : boolOf v = some b) : Weak v (.bool b) := by
  intro X u hr
  unfold boolOf at h
  split at h
  · cases h; cases hr; exact .bool
  · cases h; exact hr
  · cases h

/-- Rows that say less. -/
inductive WeakL : List V → List V → Prop where
  | nil : WeakL [] []
  | cons {v v' : V} {r r' : List V} : Weak v v' → WeakL r r' → WeakL (v :: r) (v' :: r')

theorem WeakL.rep {X : Ctx} {as bs : List V} (h : WeakL as bs) : ∀ {us : List Value}, RepL X as us → RepL X bs us := by
  induction h with
  | nil => exact fun h => h
  | cons h1 _ ih =>
    intro us hr
    obtain ⟨u, us', rfl, k1, k2⟩ := hr.cons_inv
    exact .cons (h1 X u k1) (ih k2)

theorem Pure.weak {P : Program} {f : FuncId} {args args' : List V} {r : V} (h : Pure P f args' r) (hw : WeakL args args') : Pure P f args r :=
  fun F w vs hF hr => h F w vs hF (hw.rep hr)

/-- What is known of a function. -/
structure FSpec (P : Program) where
  f : FuncId
  run : List V → Option (Prop × V)
  ok : ∀ args pre r, run args = some (pre, r) → pre → Pure P f args r

/-- What is known of a function that changes the store. -/
structure UFSpec (P : Program) where
  f : FuncId
  run : List V → Store → Option (Prop × V × Store)
  ok : ∀ args σ pre r new, run args σ = some (pre, r, new) → pre → Upd P f args σ r (new ++ σ)

def specsOf {P : Program} : List (FSpec P) → FuncId → List V → Option (Prop × V)
  | [], _, _ => none
  | s :: r, f, args => if s.f = f then s.run args else specsOf r f args

def updsOf {P : Program} : List (UFSpec P) → FuncId → List V → Store → Option (Prop × V × Store)
  | [], _, _, _ => none
  | s :: r, f, args, σ => if s.f = f then s.run args σ else updsOf r f args σ

theorem specsOf_ok {P : Program} : ∀ {ss : List (FSpec P)} {f : FuncId} {args : List V} {pre : Prop} {r : V}, specsOf ss f args = some (pre, r) → pre → Pure P f args r
  | [], _, _, _, _, h, _ => by simp [specsOf] at h
  | s :: ss, f, args, pre, r, h, hp => by
    unfold specsOf at h
    split at h
    · rename_i e; subst e; exact s.ok args pre r h hp
    · exact specsOf_ok h hp

theorem updsOf_ok {P : Program} : ∀ {ss : List (UFSpec P)} {f : FuncId} {args : List V} {σ : Store} {pre : Prop} {r : V} {new : Store}, updsOf ss f args σ = some (pre, r, new) → pre → Upd P f args σ r (new ++ σ)
  | [], _, _, _, _, _, _, h, _ => by simp [updsOf] at h
  | s :: ss, f, args, σ, pre, r, σ', h, hp => by
    unfold updsOf at h
    split at h
    · rename_i e; subst e; exact s.ok args σ pre r σ' h hp
    · exact updsOf_ok h hp

/-- What is known of a function that the machine does in one step. -/
structure ESpec (P : Program) where
  f : FuncId
  run : List V → Option (Prop × V)
  ok : ∀ args pre r, run args = some (pre, r) → pre → Ext P f args r

def extsOf {P : Program} : List (ESpec P) → FuncId → List V → Option (Prop × V)
  | [], _, _ => none
  | s :: r, f, args => if s.f = f then s.run args else extsOf r f args

theorem extsOf_ok {P : Program} : ∀ {ss : List (ESpec P)} {f : FuncId} {args : List V} {pre : Prop} {r : V}, extsOf ss f args = some (pre, r) → pre → Ext P f args r
  | [], _, _, _, _, h, _ => by simp [extsOf] at h
  | s :: ss, f, args, pre, r, h, hp => by
    unfold extsOf at h
    split at h
    · rename_i e; subst e; exact s.ok args pre r h hp
    · exact extsOf_ok h hp

theorem PureZ.weak {P : Program} {f : FuncId} {args args' : List V} {r : V} (h : PureZ P f args' r) (hw : WeakL args args') : PureZ P f args r :=
  fun F w vs hF hr => h F w vs hF (hw.rep hr)

/-- What is known of a function whose result nobody writes. -/
structure ZSpec (P : Program) where
  f : FuncId
  run : List V → Option (Prop × V)
  ok : ∀ args pre r, run args = some (pre, r) → pre → PureZ P f args r

def zsOf {P : Program} : List (ZSpec P) → FuncId → List V → Option (Prop × V)
  | [], _, _ => none
  | s :: r, f, args => if s.f = f then s.run args else zsOf r f args

theorem zsOf_ok {P : Program} : ∀ {ss : List (ZSpec P)} {f : FuncId} {args : List V} {pre : Prop} {r : V}, zsOf ss f args = some (pre, r) → pre → PureZ P f args r
  | [], _, _, _, _, h, _ => by simp [zsOf] at h
  | s :: ss, f, args, pre, r, h, hp => by
    unfold zsOf at h
    split at h
    · rename_i e; subst e; exact s.ok args pre r h hp
    · exact zsOf_ok h hp

theorem specs_okz {P : Program} {E : Env} (e : E.P = P) (ss : List (FSpec P)) (us : List (UFSpec P)) (es : List (ESpec P)) (zs : List (ZSpec P)) (h1 : E.specs = specsOf ss) (h2 : E.upd = updsOf us) (h3 : E.ext = extsOf es) (h4 : E.zspecs = zsOf zs) : SpecsOk E := by
  subst e
  exact ⟨fun f args pre r h hp => specsOf_ok (by rw [← h1]; exact h) hp, fun f args σ pre r σ' h hp => updsOf_ok (by rw [← h2]; exact h) hp, fun f args pre r h hp => extsOf_ok (by rw [← h3]; exact h) hp, fun f args pre r h hp => zsOf_ok (by rw [← h4]; exact h) hp⟩

theorem specs_okx {P : Program} {E : Env} (e : E.P = P) (ss : List (FSpec P)) (us : List (UFSpec P)) (es : List (ESpec P)) (h1 : E.specs = specsOf ss) (h2 : E.upd = updsOf us) (h3 : E.ext = extsOf es) (h4 : E.zspecs = fun _ _ => none := by rfl) : SpecsOk E :=
  specs_okz e ss us es [] h1 h2 h3 (by rw [h4]; rfl)

theorem specs_ok {P : Program} {E : Env} (e : E.P = P) (ss : List (FSpec P)) (us : List (UFSpec P)) (h1 : E.specs = specsOf ss) (h2 : E.upd = updsOf us) (h3 : E.ext = fun _ _ => none := by rfl) (h4 : E.zspecs = fun _ _ => none := by rfl) : SpecsOk E :=
  specs_okx e ss us [] h1 h2 (by rw [h3]; rfl) h4

/-- The number in a slot. -/
def St.int (st : St) (i : Nat) : Int := match nth st.s i with
  | some (.int _ n) => n
  | _ => 0

def codeOf (f : Func) : Code := f.body.getD .skip
def start0 (f : Func) (args : List V) : St := ⟨args ++ List.replicate (f.ntmps - args.length) (.tuple []), []⟩
def tsOf (f : Func) : List Nat := (rslots f.results.toList).getD []

end Go.Vm
