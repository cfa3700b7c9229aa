/-
  All lines, as the document has them; books that are new, and some.
-/
import Derived.Test.YtgjpehgnagfghaaGreatBks6
namespace Go.Proofs.YtgjpehgnagfghaaGreat.Bks
open Go.Vm
abbrev Po := Int × Int × Int × Ln
def lnGo (p i : Int) : List Ln → Nat → List Po
  | [], _ => []
  | x :: r, k => (((k + 1 : Nat) : Int), i + 1, p, x) :: lnGo p i r (k + 1)
def poGo : List En → Int → Nat → List Po
  | [], _, _ => []
  | x :: r, i, k => lnGo x.1 i x.2.2 k ++ poGo r (i + 1) (k + x.2.2.length)
def linesF (N : List En) : List Po := poGo N 0 0
theorem ln_next {p i k : Int} {L : List Ln} {n : Nat} {x : Ln} (h0 : 0 ≤ k) (hx : L[k.toNat]? = some x) : lnGo p i (L.drop k.toNat) n = (((n + 1 : Nat) : Int), i + 1, p, x) :: lnGo p i (L.drop (k + 1).toNat) (n + 1) := by
  obtain ⟨h1, h2⟩ := List.getElem?_eq_some_iff.1 hx
  rw [List.drop_eq_getElem_cons h1, h2, show (k + 1).toNat = k.toNat + 1 by omega]
  rfl
theorem po_next {N : List En} {i : Int} {n : Nat} {x : En} (h0 : 0 ≤ i) (hx : N[i.toNat]? = some x) : poGo (N.drop i.toNat) i n = lnGo x.1 i x.2.2 n ++ poGo (N.drop (i + 1).toNat) (i + 1) (n + x.2.2.length) := by
  obtain ⟨h1, h2⟩ := List.getElem?_eq_some_iff.1 hx
  rw [List.drop_eq_getElem_cons h1, h2, show (i + 1).toNat = i.toNat + 1 by omega]
  rfl
set_option maxRecDepth 20000
def accP (a : Int) (x : Po) : Bool := decide (x.2.2.2.2.1 = a)
def usedF (N : List En) (a : Int) : Bool := (linesF N).any (accP a)
theorem ln_len (p i : Int) : ∀ (L : List Ln) (k : Nat), (lnGo p i L k).length = L.length
  | [], _ => rfl
  | x :: r, k => by rw [lnGo, List.length_cons, ln_len p i r, List.length_cons]
theorem po_len : ∀ (N : List En) (i : Int) (k : Nat), InE N → (poGo N i k).length ≤ 1000 * N.length
  | [], _, _, _ => by simp [poGo]
  | x :: r, i, k, h => by
    have h1 := (h x (by simp)).2
    have h2 := po_len r (i + 1) (k + x.2.2.length) (fun y hy => h y (by simp [hy]))
    rw [poGo, List.length_append, ln_len, List.length_cons]
    omega
theorem lines_len {N : List En} (h : InE N) : (linesF N).length ≤ 1000 * N.length := po_len N 0 0 h
end Go.Proofs.YtgjpehgnagfghaaGreat.Bks
