import Derived.Test.YtabicbgeoiilmaaGreatDoorDoor
import Derived.Test.YtabicbgeoiilmaaGreatDoorDry5
import Derived.Test.YtabicbgeoiilmaaGreatDoorCards
import Derived.Test.YtabicbgeoiilmaaGreatDoorTie
import Derived.SevenTiedAt
namespace Go.Proofs.YtabicbgeoiilmaaGreatDoor.Dry
open Go.Vm Go.ChangeShapes Go.WideShapes Go.ChangeAt
set_option maxRecDepth 100000 in
theorem EK (os:Os) (started:os.Started) (H:Type) (enc:TypeId×Value->H):
 ReturnsInHanded {} Tryz.checked os 6 .any (fun w args=>(Rows.diaryReplaysSpec.pre enc Tryz.prog Tryz.f6 [] false w args/\laidMetH Tryz.prog wP w)/\sizedMet enc Tryz.prog Tryz.f6 (OpenSpec.ofChange Rows.diaryReplaysSpec) false w args)
  (Rows.diaryReplaysSpec.post enc Tryz.prog Tryz.f6 false true false false):=by
 refine ug (C:=Tryz.checked) (X:=fun w _=>laidMetH Tryz.prog wP w) (fun _ _ _ hh h=>h.of_heap hh) own started (by kernel_rfl) Tryz.func6
  (ChangeSpec.witness_shaped (enc:=enc) (C:=Tryz.checked) (os:=os) (X:=fun w _=>laidMetH Tryz.prog wP w) false (World.doorLaid Tryz.prog 65 os) #[.string .empty, .int .i64 0] 8 rfl (World.shaped_of_RefB (by kernel_rfl) (by kernel_rfl)) (by kernel_rfl) (by kernel_rfl) (by kernel_rfl) (H6 os _)) ?_
 intro W base args ds gs before hval hW hL hS;exact ut (l:=[(9, .str),(3, .int .i64)]) (rt:=4) Q2 (by rw [Tryz.params6];rfl) (by kernel_rfl) (by kernel_rfl) (by kernel_rfl) (by kernel_rfl) rfl (fun ds h=>match ds,h with|[_,_],_=>rfl)
  (fun x hx=>(Mx x.1 x.2.1).weak (.cons (Weak.refl _) (.cons (Weak.refl _) .nil))) W (Mp hL hS) base args ds gs before hval hW
theorem If:Rows.DiaryReplaysSaid:=
 OpenClaim.holds_of_wide 6 Tryz.f6 rfl rfl rfl rfl rfl rfl rfl ⟨rfl,rfl,rfl,rfl,rfl⟩ rfl rfl rfl rfl rfl (by kernel_rfl) Tryz.func6 (by kernel_rfl)
  (Se (by kernel_rfl)) (by unfold Func.isWrapper;first|(rw [Q_ (by decide+kernel)];kernel_rfl)|(rw [Q8 (by decide+kernel)];exact ⟨rfl,rfl⟩))
  (fun os started H enc _=>EK os started H enc)
theorem dp_card:Rows.DiaryReplaysCardSaid:=
 Claim7.holds_tied_plain_at .later [] [.data, .data, .data, .sentinel, .sentinel] true (true, "ebeca086c19dce95351442f8fb3c56672d0acb885522d164d17d14d4da4c05b2") true
  If (fun _ h=>by cases h) (by kernel_rfl) (fun _ h=>by cases h) diaryReplays_row_tie rfl ⟨rfl,rfl⟩ (by kernel_rfl) rfl
  (fun f fn hf hfn=>by
   obtain rfl:f=6:=Option.some.inj ((show Tryz.prog.funcNamed Rows.diaryReplaysRow.func=some 6 by kernel_rfl).symm.trans hf)|>.symm;obtain rfl:fn=Tryz.f6:=(Option.some.inj (Tryz.func6.symm.trans hfn)).symm;exact ⟨by kernel_rfl,fun j t ht=>by
    rw [Tryz.params6] at ht;have hm:t∈[9,3]:=by simpa using Array.mem_of_getElem? ht
    have hall:([9,3].all fun u=> !Tryz.prog.wantsStandIn u)=true:=by kernel_rfl
    exact (show Tryz.prog.wantsStandIn t=false by simpa using RL.1 hall t hm)⟩)
  (by kernel_rfl)
end Go.Proofs.YtabicbgeoiilmaaGreatDoor.Dry
