/-
  The statements of diary: DiaryWrites, DiaryReads, DiaryBack: three cards.
-/
import Derived.Test.YtabicbgeoiilmaaGreatDoorDoor
import Derived.Test.YtabicbgeoiilmaaGreatDoorDry4
import Derived.Test.YtabicbgeoiilmaaGreatDoorCards
import Derived.Test.YtabicbgeoiilmaaGreatDoorTie
import Derived.SevenTiedAt
namespace Go.Proofs.YtabicbgeoiilmaaGreatDoor.Dry
open Go.Vm Go.ChangeShapes Go.WideShapes Go.ChangeAt
set_option maxRecDepth 100000 in
theorem dr_lifted (os:Os) (started:os.Started) (H:Type) (enc:TypeId×Value->H):
 ReturnsInHanded {} Tryz.checked os 4 .any (fun w args=>(Rows.diaryReadsSpec.pre enc Tryz.prog Tryz.f4 [] false w args/\laidMetH Tryz.prog laidL w)/\sizedMet enc Tryz.prog Tryz.f4 (OpenSpec.ofChange Rows.diaryReadsSpec) false w args)
  (Rows.diaryReadsSpec.post enc Tryz.prog Tryz.f4 false true false false):=by
 refine returns_door (C:=Tryz.checked) (X:=fun w _=>laidMetH Tryz.prog laidL w) (fun _ _ _ hh h=>h.of_heap hh) own started (by kernel_rfl) Tryz.func4
  (ChangeSpec.witness_shaped (enc:=enc) (C:=Tryz.checked) (os:=os) (X:=fun w _=>laidMetH Tryz.prog laidL w) false (World.doorLaid Tryz.prog 65 os) #[.string .empty] 8 rfl (World.shaped_of_RefB (by kernel_rfl) (by kernel_rfl)) (by kernel_rfl) (by kernel_rfl) (by kernel_rfl) (door_met os _)) ?_
 intro W base args ds gs before hval hW hL hS;exact law_contract (l:=[(9, .str)]) (rt:=4) laid (by rw [Tryz.params4];rfl) (by kernel_rfl) (by kernel_rfl) (by kernel_rfl) (by kernel_rfl) rfl (fun ds h=>match ds,h with|[_],_=>rfl)
  (fun x hx=>(dr_pure x.1).weak (.cons (Weak.refl _) .nil)) W (tabs_of hL hS) base args ds gs before hval hW
theorem dr_holds:Rows.DiaryReadsSaid:=
 OpenClaim.holds_of_wide 4 Tryz.f4 rfl rfl rfl rfl rfl rfl rfl ⟨rfl,rfl,rfl,rfl,rfl⟩ rfl rfl rfl rfl rfl (by kernel_rfl) Tryz.func4 (by kernel_rfl)
  (of_decide_eq_true (by kernel_rfl)) (by unfold Func.isWrapper;first|(rw [if_pos (by decide+kernel)];kernel_rfl)|(rw [if_neg (by decide+kernel)];exact ⟨rfl,rfl⟩))
  (fun os started H enc _=>dr_lifted os started H enc)
theorem dr_card:Rows.DiaryReadsCardSaid:=
 Claim7.holds_tied_plain_at .later [] [.data, .data, .data, .sentinel, .sentinel] true (true, "ebeca086c19dce95351442f8fb3c56672d0acb885522d164d17d14d4da4c05b2") true
  dr_holds (fun _ h=>by cases h) (by kernel_rfl) (fun _ h=>by cases h) diaryReads_row_tie rfl ⟨rfl,rfl⟩ (by kernel_rfl) rfl
  (fun f fn hf hfn=>by
   obtain rfl:f=4:=Option.some.inj ((show Tryz.prog.funcNamed Rows.diaryReadsRow.func=some 4 by kernel_rfl).symm.trans hf)|>.symm;obtain rfl:fn=Tryz.f4:=(Option.some.inj (Tryz.func4.symm.trans hfn)).symm;exact ⟨by kernel_rfl,fun j t ht=>by
    rw [Tryz.params4] at ht;have hm:t∈[9]:=by simpa using Array.mem_of_getElem? ht
    have hall:([9].all fun u=> !Tryz.prog.wantsStandIn u)=true:=by kernel_rfl
    exact (show Tryz.prog.wantsStandIn t=false by simpa using List.all_eq_true.1 hall t hm)⟩)
  (by kernel_rfl)
end Go.Proofs.YtabicbgeoiilmaaGreatDoor.Dry
