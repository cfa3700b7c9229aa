/-
  ApplyTurns: the statement.
-/
import Derived.Test.YtabicbgeoiilmaaGreatLawO
import Derived.Test.YtabicbgeoiilmaaGreatTurA
namespace Go.Proofs.YtabicbgeoiilmaaGreat.Dsk
open Go.Vm Go.ChangeShapes Go.WideShapes Go.ChangeAt
set_option maxRecDepth 100000 in
theorem turns_lifted (os:Os) (started:os.Started) (H:Type) (enc:TypeId×Value->H):
 ReturnsInHanded {} Tryz.checked os 6 .any (Rows.applyTurnsSpec.pre6 enc Tryz.prog Tryz.f6 Rows.applyTurnsRow.domain false) (Rows.applyTurnsSpec.post enc Tryz.prog Tryz.f6 false true false false):=by
 refine returnsInHanded_of_change (C:=Tryz.checked) own started (by kernel_rfl) Tryz.func6
  (ChangeSpec.witness6 (enc:=enc) (C:=Tryz.checked) false ⟨#[], #[.agg #[.slice none 0 0, .slice none 0 0, .slice none 0 0, .slice none 0 0, .slice none 0 0, .slice none 0 0], .agg #[.int .i64 0, .int .i64 0, .int .i64 0]],[]⟩ 8 (by kernel_rfl) (by kernel_rfl) (by kernel_rfl) (by kernel_rfl)) ?_
 intro W base args ds gs before hval hW _ _;exact law_contract (l:=[(29,BTy),(64, .pair I (.pair I I))]) (rt:=4) laid (by rw [Tryz.params6];rfl) (by kernel_rfl) (by kernel_rfl) (by kernel_rfl) (by kernel_rfl) rfl (fun ds h=>match ds,h with|[_,_],_=>rfl)
  (fun x hx=>(turns_pure x.1.1 x.1.2.1 x.1.2.2.1 x.1.2.2.2.1 x.1.2.2.2.2.1 x.1.2.2.2.2.2 x.2.1.1 x.2.1.2.1 x.2.1.2.2 (ok_of hx))) W ⟨[],trivial,fun e he=>by simp at he⟩ base args ds gs before hval hW
theorem turns_said:Rows.ApplyTurnsSaid:=
 OpenClaim.holds_of_wide 6 Tryz.f6 rfl rfl rfl rfl rfl rfl rfl ⟨rfl,rfl,rfl,rfl,rfl⟩ rfl rfl rfl rfl rfl (by kernel_rfl) Tryz.func6 (by kernel_rfl)
  (of_decide_eq_true (by kernel_rfl)) (by unfold Func.isWrapper;first|(rw [if_pos (by decide+kernel)];kernel_rfl)|(rw [if_neg (by decide+kernel)];exact ⟨rfl,rfl⟩))
  (fun os started H enc _=>turns_lifted os started H enc)
end Go.Proofs.YtabicbgeoiilmaaGreat.Dsk
