/-
  A tally, in plain words: what is put in, and what stands where.
-/
import Derived.Test.YteaajihmfacinaaSeat
namespace Go.Proofs.Yteaajihmfacinaa.Ta
open Go.Vm
structure TD where
  G : List (Sp × List Rw)
  H : List (Sp × List Int)
  e : Int
  n : Int
abbrev Ln := Int × Int × Int × Int
abbrev En := Int × Int × List Ln
abbrev nS : Option Sp := none
def gSet {α : Type} (G : List (Sp × List α)) (k : Sp) (l : List α) : List (Sp × List α) := gPut (gTch G k) k l
theorem gGet_set {α : Type} (G : List (Sp × List α)) (k : Sp) (l : List α) (j : Sp) : gGet (gSet G k l) j = if j = k then l else gGet G j := by
  rw [gSet, gGet_put, gTch_get]
abbrev Pu := Int × Ln
def atP (u : Pu) : Sp := (u.2.1, u.2.2.1, u.1)
def rowP (n : Int) (u : Pu) : Rw := (n, u.2.2.2.1, u.2.2.2.2)
def allP (u : Pu) : Sp := (u.2.1, u.2.2.1, 0)
def putD (d : TD) (u : Pu) : TD :=
  { G := gSet d.G (atP u) (gGet d.G (atP u) ++ [rowP (d.n + 1) u])
    H := if (gGet d.G (atP u)).length = 0 then gSet d.H (allP u) (gGet d.H (allP u) ++ [u.1]) else d.H
    e := d.e
    n := d.n + 1 }
def tal0 : TD := { G := [], H := [], e := 0, n := 0 }
def putsD (d : TD) (L : List Pu) : TD := L.foldl putD d
theorem putsD_app (d : TD) (L M : List Pu) : putsD d (L ++ M) = putsD (putsD d L) M := List.foldl_append ..
def lnP (p : Int) (l : List Ln) : List Pu := l.map fun y => (p, y)
def putsL (N : List En) : List Pu := N.flatMap fun x => lnP x.1 x.2.2
theorem puts_app (N M : List En) : putsL (N ++ M) = putsL N ++ putsL M := List.flatMap_append ..
def rowsG : List Pu → Int → Sp → List Rw
  | [], _, _ => []
  | u :: r, n, k => if atP u = k then rowP (n + 1) u :: rowsG r (n + 1) k else rowsG r (n + 1) k
theorem rowsG_app : ∀ (L M : List Pu) (n : Int) (k : Sp), rowsG (L ++ M) n k = rowsG L n k ++ rowsG M (n + L.length) k
  | [], M, n, k => by simp [rowsG]
  | u :: r, M, n, k => by
    have := rowsG_app r M (n + 1) k
    rw [List.cons_append, rowsG, rowsG, this, show n + ((u :: r).length : Nat) = n + 1 + (r.length : Nat) by rw [List.length_cons]; push_cast; omega]
    split <;> rfl
def perF (L : List Pu) (e a : Int) : List Int := L.foldl (fun acc u => if u.2.1 = e ∧ u.2.2.1 = a ∧ u.1 ∉ acc then acc ++ [u.1] else acc) []
theorem perF_snoc (L : List Pu) (u : Pu) (e a : Int) : perF (L ++ [u]) e a = if u.2.1 = e ∧ u.2.2.1 = a ∧ u.1 ∉ perF L e a then perF L e a ++ [u.1] else perF L e a := by
  unfold perF
  rw [List.foldl_append]
  rfl
structure Tells (d : TD) (L : List Pu) : Prop where
  n : d.n = L.length
  rows : ∀ k, gGet d.G k = rowsG L 0 k
  per : ∀ e a, gGet d.H (e, a, 0) = perF L e a
  mem : ∀ e a p, p ∈ perF L e a ↔ ∃ u ∈ L, atP u = (e, a, p)
  nd : ∀ e a, (perF L e a).Nodup
theorem rowsG_mem (L : List Pu) : ∀ (n : Int) (k : Sp), (rowsG L n k).length = 0 ↔ ¬ ∃ u ∈ L, atP u = k := by
  induction L with
  | nil => intro n k; simp [rowsG]
  | cons u r ih =>
    intro n k
    rw [rowsG]
    split
    · rename_i h
      simp only [List.length_cons]
      exact ⟨fun h0 => by omega, fun h0 => absurd ⟨u, List.mem_cons_self .., h⟩ h0⟩
    · rename_i h
      rw [ih]
      constructor
      · rintro h1 ⟨v, hv, e⟩
        rcases List.mem_cons.1 hv with rfl | hv
        · exact h e
        · exact h1 ⟨v, hv, e⟩
      · rintro h1 ⟨v, hv, e⟩
        exact h1 ⟨v, List.mem_cons_of_mem _ hv, e⟩
theorem Tells.nil (e : Int) : Tells { tal0 with e := e } [] := ⟨rfl, fun k => rfl, fun e a => rfl, fun e a p => by simp [perF], fun e a => List.nodup_nil⟩
theorem Tells.put {d : TD} {L : List Pu} (h : Tells d L) (u : Pu) : Tells (putD d u) (L ++ [u]) := by
  have hk : ((gGet d.G (atP u)).length = 0) ↔ u.1 ∉ perF L u.2.1 u.2.2.1 := by
    rw [h.rows, rowsG_mem, h.mem]
    exact Iff.rfl
  have hper : ∀ e a, gGet (putD d u).H (e, a, 0) = perF (L ++ [u]) e a := fun e a => by
    rw [perF_snoc]
    show gGet (if (gGet d.G (atP u)).length = 0 then gSet d.H (allP u) (gGet d.H (allP u) ++ [u.1]) else d.H) (e, a, 0) = _
    by_cases h0 : (gGet d.G (atP u)).length = 0
    · rw [if_pos h0, gGet_set]
      have h1 := hk.1 h0
      by_cases he : u.2.1 = e ∧ u.2.2.1 = a
      · obtain ⟨rfl, rfl⟩ := he
        rw [if_pos (show ((u.2.1, u.2.2.1, (0 : Int)) : Sp) = allP u from rfl), if_pos ⟨rfl, rfl, h1⟩]
        show gGet d.H (u.2.1, u.2.2.1, 0) ++ [u.1] = _
        rw [h.per]
      · have : ¬ ((e, a, (0 : Int)) : Sp) = allP u := fun q => by
          simp only [allP, Prod.mk.injEq] at q
          exact he ⟨q.1.symm, q.2.1.symm⟩
        rw [if_neg this, if_neg (fun q => he ⟨q.1, q.2.1⟩), h.per]
    · rw [if_neg h0, h.per]
      have h1 : ¬ u.1 ∉ perF L u.2.1 u.2.2.1 := fun q => h0 (hk.2 q)
      rw [if_neg]
      rintro ⟨rfl, rfl, q⟩
      exact h1 q
  have hmem : ∀ e a p, p ∈ perF (L ++ [u]) e a ↔ ∃ v ∈ L ++ [u], atP v = (e, a, p) := fun e a p => by
    rw [perF_snoc]
    have e0 : (∃ v ∈ L ++ [u], atP v = (e, a, p)) ↔ (∃ v ∈ L, atP v = (e, a, p)) ∨ atP u = (e, a, p) := by
      constructor
      · rintro ⟨v, hv, q⟩
        rcases List.mem_append.1 hv with hv | hv
        · exact .inl ⟨v, hv, q⟩
        · rw [List.mem_singleton.1 hv] at q
          exact .inr q
      · rintro (⟨v, hv, q⟩ | q)
        · exact ⟨v, List.mem_append_left _ hv, q⟩
        · exact ⟨u, by simp, q⟩
    have e1 : atP u = (e, a, p) ↔ u.2.1 = e ∧ u.2.2.1 = a ∧ u.1 = p := by simp [atP]
    rw [e0, ← h.mem, e1]
    split
    · rename_i hc
      rw [List.mem_append, List.mem_singleton]
      constructor
      · rintro (q | q)
        · exact .inl q
        · exact .inr ⟨hc.1, hc.2.1, q.symm⟩
      · rintro (q | q)
        · exact .inl q
        · exact .inr q.2.2.symm
    · rename_i hc
      constructor
      · exact .inl
      · rintro (q | ⟨q1, q2, q3⟩)
        · exact q
        · exact Classical.byContradiction fun hn => hc ⟨q1, q2, by rw [q3]; exact hn⟩
  refine ⟨?_, fun k => ?_, hper, hmem, fun e a => ?_⟩
  · show d.n + 1 = _
    rw [h.n, List.length_append, List.length_singleton]
    push_cast
    rfl
  · show gGet (gSet d.G (atP u) (gGet d.G (atP u) ++ [rowP (d.n + 1) u])) k = _
    rw [gGet_set, rowsG_app, rowsG, h.n]
    by_cases hk : k = atP u
    · subst hk
      rw [if_pos rfl, if_pos rfl, h.rows, Int.zero_add]
      rfl
    · rw [if_neg hk, if_neg (fun e => hk e.symm), h.rows]
      simp [rowsG]
  · rw [perF_snoc]
    split
    · rename_i hc
      refine List.nodup_append.2 ⟨h.nd e a, List.nodup_cons.2 ⟨by simp, List.nodup_nil⟩, fun x hx y hy => ?_⟩
      rw [List.mem_singleton.1 hy]
      rintro rfl
      exact hc.2.2 hx
    · exact h.nd e a
theorem Tells.puts {d : TD} : ∀ {L : List Pu} (M : List Pu), Tells d L → Tells (putsD d M) (L ++ M)
  | L, [], h => by rw [List.append_nil]; exact h
  | L, u :: r, h => by
    have := Tells.puts r (h.put u)
    rw [List.append_assoc] at this
    exact this
def newD (N : List En) : TD := { putsD tal0 (putsL N) with e := N.length }
def addD (d : TD) (x : En) : TD := { putsD d (lnP x.1 x.2.2) with e := d.e + 1 }
theorem Tells.ent {d : TD} {L : List Pu} (h : Tells d L) (e : Int) : Tells { d with e := e } L := ⟨h.1, h.2, h.3, h.4, h.5⟩
theorem Tells.new (N : List En) : Tells (newD N) (putsL N) := by
  have := (Tells.nil 0).puts (putsL N)
  rw [List.nil_append] at this
  exact this.ent _
theorem Tells.add {d : TD} {L : List Pu} (h : Tells d L) (x : En) : Tells (addD d x) (L ++ lnP x.1 x.2.2) := (h.puts _).ent _
theorem putsD_e (d : TD) (L : List Pu) : (putsD d L).e = d.e := by
  induction L generalizing d with
  | nil => rfl
  | cons u r ih => exact (ih (putD d u)).trans rfl
def addsD : TD → List En → TD
  | d, [] => d
  | d, x :: r => addsD (if d.e ≥ 2000 then d else addD d x) r
end Go.Proofs.Yteaajihmfacinaa.Ta
