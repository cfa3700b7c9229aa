/-
  The statements of diary: DiaryWrites, DiaryReads, DiaryBack: three cards.
-/
import Derived.Test.YtabicbgeoiilmaaGreatDoorDoor
import Derived.Test.YtabicbgeoiilmaaGreatDoorDry4
import Derived.Test.YtabicbgeoiilmaaGreatDoorCards
import Derived.Test.YtabicbgeoiilmaaGreatDoorTie
import Derived.SevenTiedAt
namespace Go.Proofs.YtabicbgeoiilmaaGreatDoor.Dry
open Go.Vm Go.ChangeShapes Go.WideShapes Go.ChangeAt
theorem inC_of {c:Cm.CmD} (h:okD Cm c):Cm.InC c:=by
 obtain ⟨k,a,b,c,d,s,p,⟨n,m⟩,l⟩:=c;obtain ⟨_,ha,hb,hc,hd,_,_,⟨hn,hm⟩,hl⟩:=h;refine ⟨fun x hx=> ?_,fun x hx y hy=> ?_⟩
 ·simp only [Cm.allF,List.mem_cons,List.not_mem_nil,or_false] at hx;rcases hx with rfl|rfl|rfl|rfl|rfl|rfl|rfl|rfl
  ·exact ha
  ·exact hb
  ·exact hc
  ·exact hd
  ·cases s<;>(unfold InI Cm.bitF;simp)
  ·cases p<;>(unfold InI Cm.bitF;simp)
  ·exact hn
  ·exact hm
 ·obtain ⟨i,hi,he⟩:=List.mem_iff_getElem.1 hx;have:=hl.2 i x (by rw [<-he];exact List.getElem?_eq_getElem hi);obtain ⟨h1,h2,h3,h4⟩:=this;simp only [Cm.lnL,List.mem_cons,List.not_mem_nil,or_false] at hy;rcases hy with rfl|rfl|rfl|rfl
  ·exact h1
  ·exact h2
  ·exact h3
  ·exact h4
theorem inL_of {l:List Cm.CmD} (h:okD (.slice Cm) l):(∀c∈l,Cm.InC c)/\l.length<=9223372036854775807:=by
 refine ⟨fun c hc=> ?_,h.1⟩;obtain ⟨i,hi,he⟩:=List.mem_iff_getElem.1 hc;exact inC_of (h.2 i c (by rw [<-he];exact List.getElem?_eq_getElem hi))
set_option maxRecDepth 100000 in
theorem dw_lifted (os:Os) (started:os.Started) (H:Type) (enc:TypeId×Value->H):
 ReturnsInHanded {} Tryz.checked os 3 .any (fun w args=>(Rows.diaryWritesSpec.pre enc Tryz.prog Tryz.f3 [] false w args/\laidMetH Tryz.prog laidL w)/\sizedMet enc Tryz.prog Tryz.f3 (OpenSpec.ofChange Rows.diaryWritesSpec) false w args)
  (Rows.diaryWritesSpec.post enc Tryz.prog Tryz.f3 false true false false):=by
 refine returns_door (C:=Tryz.checked) (X:=fun w _=>laidMetH Tryz.prog laidL w) (fun _ _ _ hh h=>h.of_heap hh) own started (by kernel_rfl) Tryz.func3
  (ChangeSpec.witness_shaped (enc:=enc) (C:=Tryz.checked) (os:=os) (X:=fun w _=>laidMetH Tryz.prog laidL w) false (World.doorLaid Tryz.prog 65 os) #[.slice none 0 0] 8 rfl (World.shaped_of_RefB (by kernel_rfl) (by kernel_rfl)) (by kernel_rfl) (by kernel_rfl) (by kernel_rfl) (door_met os _)) ?_
 intro W base args ds gs before hval hW hL hS;exact law_contract (l:=[(22, .slice Cm)]) (rt:=4) laid (by rw [Tryz.params3];rfl) (by kernel_rfl) (by kernel_rfl) (by kernel_rfl) (by kernel_rfl) rfl (fun ds h=>match ds,h with|[_],_=>rfl)
  (fun x hx=>(dw_pure x.1 (inL_of hx.1)).weak (.cons (Weak.refl _) .nil)) W (tabs_of hL hS) base args ds gs before hval hW
theorem dw_holds:Rows.DiaryWritesSaid:=
 OpenClaim.holds_of_wide 3 Tryz.f3 rfl rfl rfl rfl rfl rfl rfl ⟨rfl,rfl,rfl,rfl,rfl⟩ rfl rfl rfl rfl rfl (by kernel_rfl) Tryz.func3 (by kernel_rfl)
  (of_decide_eq_true (by kernel_rfl)) (by unfold Func.isWrapper;first|(rw [if_pos (by decide+kernel)];kernel_rfl)|(rw [if_neg (by decide+kernel)];exact ⟨rfl,rfl⟩))
  (fun os started H enc _=>dw_lifted os started H enc)
theorem dw_card:Rows.DiaryWritesCardSaid:=
 Claim7.holds_tied_plain_at .later [] [.data, .data, .data, .sentinel, .sentinel] true (true, "ebeca086c19dce95351442f8fb3c56672d0acb885522d164d17d14d4da4c05b2") true
  dw_holds (fun _ h=>by cases h) (by kernel_rfl) (fun _ h=>by cases h) diaryWrites_row_tie rfl ⟨rfl,rfl⟩ (by kernel_rfl) rfl
  (fun f fn hf hfn=>by
   obtain rfl:f=3:=Option.some.inj ((show Tryz.prog.funcNamed Rows.diaryWritesRow.func=some 3 by kernel_rfl).symm.trans hf)|>.symm;obtain rfl:fn=Tryz.f3:=(Option.some.inj (Tryz.func3.symm.trans hfn)).symm;exact ⟨by kernel_rfl,fun j t ht=>by
    rw [Tryz.params3] at ht;have hm:t∈[22]:=by simpa using Array.mem_of_getElem? ht
    have hall:([22].all fun u=> !Tryz.prog.wantsStandIn u)=true:=by kernel_rfl
    exact (show Tryz.prog.wantsStandIn t=false by simpa using List.all_eq_true.1 hall t hm)⟩)
  (by kernel_rfl)
end Go.Proofs.YtabicbgeoiilmaaGreatDoor.Dry
