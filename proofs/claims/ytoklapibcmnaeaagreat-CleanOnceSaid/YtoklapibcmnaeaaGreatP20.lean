/- CleanOnce holds: whatever is handed, the law answers true, and what was handed reads as before. No condition. -/
import Derived.Test.YtoklapibcmnaeaaGreatP19
set_option linter.unusedVariables false
set_option linter.unusedSimpArgs false
set_option maxRecDepth 100000
namespace Go.Proofs.YtoklapibcmnaeaaGreat
open Go.Abs Go.ChangeShapes Go.WideShapes Go.ChangeAt Go.RowKit
theorem KY (os:Os) (started:os.Started) (H:Type) (enc:TypeId×Value→H):
 ReturnsInHanded {} Tryz.checked os 10 .any (Rows.cleanOnceSpec.pre6 enc Tryz.prog Tryz.f10 Rows.cleanOnceRow.domain false) (Rows.cleanOnceSpec.post enc Tryz.prog Tryz.f10 false true false false):=by
 refine returnsInHanded_of_change_sized (C:=Tryz.checked) own0 started (by kernel_rfl) Tryz.func10
  (ChangeSpec.witness6 (enc:=enc) (C:=Tryz.checked) false ⟨#[], #[.agg #[.slice none 0 0,.slice none 0 0,.slice none 0 0,.slice none 0 0,.slice none 0 0]],[]⟩ 8 (by kernel_rfl) (by kernel_rfl) (by kernel_rfl) (by kernel_rfl)) ?_
 intro W base args ds gs before hval hW _ hsz _
 exact Ol (s:=Rows.cleanOnceSpec) Tryz.params10 (by kernel_rfl) rfl (fun _ _=>rfl) (fun S L G na nn h0 hS h1 h2 h3 h4 h5 h6=>PE SC S L G na nn h0 hS h1 h2 h3 h4 h5 h6) W base args ds gs before hval hW hsz
theorem cleanOnce_holds:Rows.CleanOnceSaid:=
 OpenClaim.holds_of_wide (p:=Tryz.pinned) (s:=Rows.cleanOnceSpec) (c:=Rows.cleanOnceRow) 10 Tryz.f10 rfl rfl rfl rfl rfl rfl rfl ⟨rfl,rfl,rfl,rfl,rfl⟩ rfl rfl rfl rfl rfl bG Tryz.func10 bH
  bI bJ
  (fun os started H enc _=>KY os started H enc)
#print axioms cleanOnce_holds
end Go.Proofs.YtoklapibcmnaeaaGreat
