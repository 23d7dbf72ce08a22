/- CleanActs holds: whatever is handed, the law answers true, and what was handed reads as before. No condition. -/
import Derived.Test.YtoklapibcmnaeaaGreatP19
set_option linter.unusedVariables false
set_option linter.unusedSimpArgs false
set_option maxRecDepth 100000
namespace Go.Proofs.YtoklapibcmnaeaaGreat
open Go.Abs Go.ChangeShapes Go.WideShapes Go.ChangeAt Go.RowKit
theorem LC (os:Os) (started:os.Started) (H:Type) (enc:TypeId×Value→H):
 ReturnsInHanded {} Tryz.checked os 11 .any (Rows.cleanActsSpec.pre6 enc Tryz.prog Tryz.f11 Rows.cleanActsRow.domain false) (Rows.cleanActsSpec.post enc Tryz.prog Tryz.f11 false true false false):=by
 refine returnsInHanded_of_change_sized (C:=Tryz.checked) own0 started (by kernel_rfl) Tryz.func11
  (ChangeSpec.witness6 (enc:=enc) (C:=Tryz.checked) false ⟨#[], #[.agg #[.slice none 0 0,.slice none 0 0,.slice none 0 0,.slice none 0 0,.slice none 0 0]],[]⟩ 8 (by kernel_rfl) (by kernel_rfl) (by kernel_rfl) (by kernel_rfl)) ?_
 intro W base args ds gs before hval hW _ hsz _
 exact O6 (s:=Rows.cleanActsSpec) Tryz.params11 (by kernel_rfl) rfl (fun _ _=>rfl) (fun S L G na nn h0 hS h1 h2 h3 h4 h5 h6=>Qt Tf S L G na nn h0 hS h1 h2 h3 h4 h5 h6) W base args ds gs before hval hW hsz
theorem cleanActs_holds:Rows.CleanActsSaid:=
 OpenClaim.holds_of_wide (p:=Tryz.pinned) (s:=Rows.cleanActsSpec) (c:=Rows.cleanActsRow) 11 Tryz.f11 rfl rfl rfl rfl rfl rfl rfl ⟨rfl,rfl,rfl,rfl,rfl⟩ rfl rfl rfl rfl rfl cU Tryz.func11 cV
  cW cY
  (fun os started H enc _=>LC os started H enc)
#print axioms cleanActs_holds
end Go.Proofs.YtoklapibcmnaeaaGreat
