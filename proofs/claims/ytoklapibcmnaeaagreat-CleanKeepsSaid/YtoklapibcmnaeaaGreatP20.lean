/- CleanKeeps holds: whatever is handed, the law answers true, and what was handed reads as before. No condition. -/
import Derived.Test.YtoklapibcmnaeaaGreatP19
set_option linter.unusedVariables false
set_option linter.unusedSimpArgs false
set_option maxRecDepth 100000
namespace Go.Proofs.YtoklapibcmnaeaaGreat
open Go.Abs Go.ChangeShapes Go.WideShapes Go.ChangeAt Go.RowKit
theorem KX (os:Os) (started:os.Started) (H:Type) (enc:TypeId×Value->H):
 ReturnsInHanded {} Tryz.checked os 8 .any (Rows.cleanKeepsSpec.pre6 enc Tryz.prog Tryz.f8 Rows.cleanKeepsRow.domain false) (Rows.cleanKeepsSpec.post enc Tryz.prog Tryz.f8 false true false false):=by
 refine returnsInHanded_of_change_sized (C:=Tryz.checked) own0 started (by kernel_rfl) Tryz.func8
  (ChangeSpec.witness6 (enc:=enc) (C:=Tryz.checked) false ⟨#[], #[.agg #[.slice none 0 0,.slice none 0 0,.slice none 0 0,.slice none 0 0,.slice none 0 0]],[]⟩ 8 (by kernel_rfl) (by kernel_rfl) (by kernel_rfl) (by kernel_rfl)) ?_
 intro W base args ds gs before hval hW _ hsz _
 exact O9 (s:=Rows.cleanKeepsSpec) Tryz.params8 (by kernel_rfl) rfl (fun _ _=>rfl) (fun S L G na nn h0 hS h1 h2 h3 h4 h5 h6=>Pv TC S L G na nn h0 hS h1 h2 h3 h4 h5 h6) W base args ds gs before hval hW hsz
theorem cleanKeeps_holds:Rows.CleanKeepsSaid:=
 OpenClaim.holds_of_wide (p:=Tryz.pinned) (s:=Rows.cleanKeepsSpec) (c:=Rows.cleanKeepsRow) 8 Tryz.f8 rfl rfl rfl rfl rfl rfl rfl ⟨rfl,rfl,rfl,rfl,rfl⟩ rfl rfl rfl rfl rfl dC Tryz.func8 dD
  dE dF
  (fun os started H enc _=>KX os started H enc)
#print axioms cleanKeeps_holds
end Go.Proofs.YtoklapibcmnaeaaGreat
