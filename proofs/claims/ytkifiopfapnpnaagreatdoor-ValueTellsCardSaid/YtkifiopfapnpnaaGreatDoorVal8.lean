/-
  The statement of value's net sums and rates: a card.
-/
import Derived.Test.YtkifiopfapnpnaaGreatDoorDoor
import Derived.Test.YtkifiopfapnpnaaGreatDoorVal7
import Derived.Test.YtkifiopfapnpnaaGreatDoorCards
import Derived.Test.YtkifiopfapnpnaaGreatDoorTie
import Derived.SevenTiedAt
namespace Go.Proofs.YtkifiopfapnpnaaGreatDoor
open Go.Vm Go.ChangeShapes Go.WideShapes Go.ChangeAt
abbrev LVl : Ty := .slice Vl
theorem inVs_of {l : List (Int × Int)} (h : okD LVl l) : InVs l := fun v hv => by
  obtain ⟨i, hi, he⟩ := List.mem_iff_getElem.1 hv
  have := h.2 i v (by rw [← he]; exact List.getElem?_eq_getElem hi)
  exact ⟨this.1, this.2⟩
abbrev Rtd : Ty := .pair Vl (.pair Vl .bool)
set_option maxRecDepth 100000 in
theorem tells_lifted (os : Os) (started : os.Started) (H : Type) (enc : TypeId × Value → H) :
    ReturnsInHanded {} Tryz.checked os 3 .any (fun w args => (Rows.valueTellsSpec.pre enc Tryz.prog Tryz.f3 [] false w args ∧ laidMetH Tryz.prog laidL w) ∧ sizedMet enc Tryz.prog Tryz.f3 (OpenSpec.ofChange Rows.valueTellsSpec) false w args)
      (Rows.valueTellsSpec.post enc Tryz.prog Tryz.f3 false true false false) := by
  refine returns_door (C := Tryz.checked) (X := fun w _ => laidMetH Tryz.prog laidL w) (fun _ _ _ hh h => h.of_heap hh) own started (by kernel_rfl) Tryz.func3
    (ChangeSpec.witness_shaped (enc := enc) (C := Tryz.checked) (os := os) (X := fun w _ => laidMetH Tryz.prog laidL w) false (World.doorLaid Tryz.prog 65 os) #[.slice none 0 0, .slice none 0 0, .agg #[.int .i64 0, .int .i64 0, .int .i64 0, .int .i64 0, .bool false]] 8 rfl (World.shaped_of_RefB (by kernel_rfl) (by kernel_rfl)) (by kernel_rfl) (by kernel_rfl) (by kernel_rfl) (door_met os _)) ?_
  intro W base args ds gs before hval hW hL hS
  exact law_contract (l := [(22, LVl), (22, LVl), (29, Rtd)]) (rt := 4) laid (by rw [Tryz.params3]; rfl) (by kernel_rfl) (by kernel_rfl) (by kernel_rfl) (by kernel_rfl) rfl (fun ds h => match ds, h with | [_, _, _], _ => rfl)
    (fun x hx => (tells_pure x.1 x.2.1 x.2.2.1.1.1 x.2.2.1.1.2 x.2.2.1.2.1.1 x.2.2.1.2.1.2 x.2.2.1.2.2 ⟨inVs_of hx.1, inVs_of hx.2.1, hx.2.2.1.1.1, hx.2.2.1.2.1.1, hx.2.2.1.2.1.2⟩).weak (.cons (asL_weak rfl) (.cons (asL_weak rfl) (.cons (Weak.refl _) .nil)))) W (tabs_of hL hS) base args ds gs before hval hW
theorem tells_holds : Rows.ValueTellsSaid :=
  OpenClaim.holds_of_wide 3 Tryz.f3 rfl rfl rfl rfl rfl rfl rfl ⟨rfl, rfl, rfl, rfl, rfl⟩ rfl rfl rfl rfl rfl (by kernel_rfl) Tryz.func3 (by kernel_rfl)
    (of_decide_eq_true (by kernel_rfl)) (by unfold Func.isWrapper; first | (rw [if_pos (by decide +kernel)]; kernel_rfl) | (rw [if_neg (by decide +kernel)]; exact ⟨rfl, rfl⟩))
    (fun os started H enc _ => tells_lifted os started H enc)

/-- 'ValueTells' holds: for every two rows of values and every value, rate and word whether there is one the call returns true, and the arguments read as before. -/
theorem tells_card : Rows.ValueTellsCardSaid :=
  Claim7.holds_tied_plain_at .later [] [.data, .data, .data, .sentinel, .sentinel] true (true, "20c422646b30240e011826ef8c9056f3f2fe25ee6816c26d715edf0bd5a0da95") true
    tells_holds (fun _ h => by cases h) (by kernel_rfl) (fun _ h => by cases h) valueTells_row_tie rfl ⟨rfl, rfl⟩ (by kernel_rfl) rfl
    (fun f fn hf hfn => by
      obtain rfl : f = 3 := Option.some.inj ((show Tryz.prog.funcNamed Rows.valueTellsRow.func = some 3 by kernel_rfl).symm.trans hf) |>.symm
      obtain rfl : fn = Tryz.f3 := (Option.some.inj (Tryz.func3.symm.trans hfn)).symm
      exact ⟨by kernel_rfl, fun j t ht => by
        rw [Tryz.params3] at ht
        have hm : t ∈ [22, 22, 29] := by simpa using Array.mem_of_getElem? ht
        have hall : ([22, 22, 29].all fun u => !Tryz.prog.wantsStandIn u) = true := by kernel_rfl
        exact (show Tryz.prog.wantsStandIn t = false by simpa using List.all_eq_true.1 hall t hm)⟩)
    (by kernel_rfl)
#print axioms tells_card

end Go.Proofs.YtkifiopfapnpnaaGreatDoor
