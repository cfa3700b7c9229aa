/-
  The statements of command: CommandBack: the card.
-/
import Derived.Test.YtgdcjefnhcamgaaDoorDoor
import Derived.Test.YtgdcjefnhcamgaaDoorCmd14
import Derived.Test.YtgdcjefnhcamgaaDoorCards
import Derived.Test.YtgdcjefnhcamgaaDoorTie
import Derived.SevenTiedAt
namespace Go.Proofs.YtgdcjefnhcamgaaDoor
open Go.Vm Go.ChangeShapes Go.WideShapes Go.ChangeAt
theorem inC_of {c : CmD} (h : okD Cm c) : InC c := by
  obtain ⟨k, a, b, c, d, s, p, ⟨n, m⟩, l⟩ := c
  obtain ⟨_, ha, hb, hc, hd, _, _, ⟨hn, hm⟩, hl⟩ := h
  refine ⟨fun x hx => ?_, fun x hx y hy => ?_⟩
  · simp only [allF, List.mem_cons, List.not_mem_nil, or_false] at hx
    rcases hx with rfl | rfl | rfl | rfl | rfl | rfl | rfl | rfl
    · exact ha
    · exact hb
    · exact hc
    · exact hd
    · cases s <;> (unfold InI bitF; simp)
    · cases p <;> (unfold InI bitF; simp)
    · exact hn
    · exact hm
  · obtain ⟨i, hi, he⟩ := List.mem_iff_getElem.1 hx
    have := hl.2 i x (by rw [← he]; exact List.getElem?_eq_getElem hi)
    obtain ⟨h1, h2, h3, h4⟩ := this
    simp only [lnL, List.mem_cons, List.not_mem_nil, or_false] at hy
    rcases hy with rfl | rfl | rfl | rfl
    · exact h1
    · exact h2
    · exact h3
    · exact h4
set_option maxRecDepth 100000 in
theorem back_lifted (os : Os) (started : os.Started) (H : Type) (enc : TypeId × Value → H) :
    ReturnsInHanded {} Tryd.checked os 5 .any (fun w args => (Rows.commandBackSpec.pre enc Tryd.prog Tryd.f5 [] false w args ∧ laidMetH Tryd.prog laidL w) ∧ sizedMet enc Tryd.prog Tryd.f5 (OpenSpec.ofChange Rows.commandBackSpec) false w args)
      (Rows.commandBackSpec.post enc Tryd.prog Tryd.f5 false true false false) := by
  refine returns_door (C := Tryd.checked) (X := fun w _ => laidMetH Tryd.prog laidL w) (fun _ _ _ hh h => h.of_heap hh) own started (by kernel_rfl) Tryd.func5
    (ChangeSpec.witness_shaped (enc := enc) (C := Tryd.checked) (os := os) (X := fun w _ => laidMetH Tryd.prog laidL w) false (World.doorLaid Tryd.prog 65 os) #[.agg #[.int .i64 0, .int .i64 0, .int .i64 0, .int .i64 0, .int .i64 0, .bool false, .bool false, .int .i64 0, .int .i64 0, .slice none 0 0], .string .empty] 8 rfl (World.shaped_of_RefB (by kernel_rfl) (by kernel_rfl)) (by kernel_rfl) (by kernel_rfl) (by kernel_rfl) (door_met os _)) ?_
  intro W base args ds gs before hval hW hL hS
  exact law_contract (l := [(26, Cm), (9, .str)]) (rt := 4) laid (by rw [Tryd.params5]; rfl) (by kernel_rfl) (by kernel_rfl) (by kernel_rfl) (by kernel_rfl) rfl (fun ds h => match ds, h with | [_, _], _ => rfl)
    (fun x hx => (back_pure x.1.1 x.1.2.1 x.1.2.2.1 x.1.2.2.2.1 x.1.2.2.2.2.1 x.1.2.2.2.2.2.1 x.1.2.2.2.2.2.2.1 x.1.2.2.2.2.2.2.2.1.1 x.1.2.2.2.2.2.2.2.1.2 x.1.2.2.2.2.2.2.2.2 x.2.1 (inC_of hx.1)).weak (.cons (Weak.agg (.cons (Weak.refl _) (.cons (Weak.refl _) (.cons (Weak.refl _) (.cons (Weak.refl _) (.cons (Weak.refl _) (.cons (boolOf_weak rfl) (.cons (boolOf_weak rfl) (.cons (Weak.refl _) (.cons (Weak.refl _) (.cons (asL_weak rfl) .nil))))))))))) (.cons (Weak.refl _) .nil))) W (tabs_of hL hS) base args ds gs before hval hW
theorem back_holds : Rows.CommandBackSaid :=
  OpenClaim.holds_of_wide 5 Tryd.f5 rfl rfl rfl rfl rfl rfl rfl ⟨rfl, rfl, rfl, rfl, rfl⟩ rfl rfl rfl rfl rfl (by kernel_rfl) Tryd.func5 (by kernel_rfl)
    (of_decide_eq_true (by kernel_rfl)) (by unfold Func.isWrapper; first | (rw [if_pos (by decide +kernel)]; kernel_rfl) | (rw [if_neg (by decide +kernel)]; exact ⟨rfl, rfl⟩))
    (fun os started H enc _ => back_lifted os started H enc)

/-- 'CommandBack' holds: for every command and line the call returns true, and the arguments read as before. -/
theorem back_card : Rows.CommandBackCardSaid :=
  Claim7.holds_tied_plain_at .later [] [.data, .data, .data, .sentinel, .sentinel] true (true, "ebd6d898287aa3934fa411a9f292e315e63c3b868584890049e1674573f999d5") true
    back_holds (fun _ h => by cases h) (by kernel_rfl) (fun _ h => by cases h) commandBack_row_tie rfl ⟨rfl, rfl⟩ (by kernel_rfl) rfl
    (fun f fn hf hfn => by
      obtain rfl : f = 5 := Option.some.inj ((show Tryd.prog.funcNamed Rows.commandBackRow.func = some 5 by kernel_rfl).symm.trans hf) |>.symm
      obtain rfl : fn = Tryd.f5 := (Option.some.inj (Tryd.func5.symm.trans hfn)).symm
      exact ⟨by kernel_rfl, fun j t ht => by
        rw [Tryd.params5] at ht
        have hm : t ∈ [26, 9] := by simpa using Array.mem_of_getElem? ht
        have hall : ([26, 9].all fun u => !Tryd.prog.wantsStandIn u) = true := by kernel_rfl
        exact (show Tryd.prog.wantsStandIn t = false by simpa using List.all_eq_true.1 hall t hm)⟩)
    (by kernel_rfl)
#print axioms back_card

end Go.Proofs.YtgdcjefnhcamgaaDoor
