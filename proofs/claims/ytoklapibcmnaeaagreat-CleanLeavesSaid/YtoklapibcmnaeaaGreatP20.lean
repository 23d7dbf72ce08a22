/- CleanLeaves holds: whatever is handed, the law answers true, and what was handed reads as before. No condition. -/
import Derived.Test.YtoklapibcmnaeaaGreatP19
set_option linter.unusedVariables false
set_option linter.unusedSimpArgs false
set_option maxRecDepth 100000
namespace Go.Proofs.YtoklapibcmnaeaaGreat
open Go.Abs Go.ChangeShapes Go.WideShapes Go.ChangeAt Go.RowKit
theorem Kf (os:Os) (started:os.Started) (H:Type) (enc:TypeId×Value->H):
 ReturnsInHanded {} Tryz.checked os 9 .any (Rows.cleanLeavesSpec.pre6 enc Tryz.prog Tryz.f9 Rows.cleanLeavesRow.domain false) (Rows.cleanLeavesSpec.post enc Tryz.prog Tryz.f9 false true false false):=by
 refine returnsInHanded_of_change_sized (C:=Tryz.checked) own0 started (by kernel_rfl) Tryz.func9
  (ChangeSpec.witness6 (enc:=enc) (C:=Tryz.checked) false ⟨#[], #[.agg #[.slice none 0 0,.slice none 0 0,.slice none 0 0,.slice none 0 0,.slice none 0 0]],[]⟩ 8 (by kernel_rfl) (by kernel_rfl) (by kernel_rfl) (by kernel_rfl)) ?_
 intro W base args ds gs before hval hW _ hsz _
 exact O7 (s:=Rows.cleanLeavesSpec) Tryz.params9 (by kernel_rfl) rfl (fun _ _=>rfl) (fun S L G na nn h0 hS h1 h2 h3 h4 h5 h6=>OA Tl S L G na nn h0 hS h1 h2 h3 h4 h5 h6) W base args ds gs before hval hW hsz
theorem cleanLeaves_holds:Rows.CleanLeavesSaid:=
 OpenClaim.holds_of_wide (p:=Tryz.pinned) (s:=Rows.cleanLeavesSpec) (c:=Rows.cleanLeavesRow) 9 Tryz.f9 rfl rfl rfl rfl rfl rfl rfl ⟨rfl,rfl,rfl,rfl,rfl⟩ rfl rfl rfl rfl rfl cU Tryz.func9 cV
  cW cY
  (fun os started H enc _=>Kf os started H enc)
#print axioms cleanLeaves_holds
end Go.Proofs.YtoklapibcmnaeaaGreat
