/- ModelOpen holds: whatever is handed, the law answers true, and what was handed reads as before. No condition. -/
import Derived.Test.YtgdmnlibcdajjaaGreatP11
import Derived.Test.YtgdmnlibcdajjaaGreatP13
set_option linter.unusedVariables false
set_option linter.unusedSimpArgs false
set_option maxRecDepth 100000
namespace Go.Proofs.YtgdmnlibcdajjaaGreat
open Go.Abs Go.ChangeShapes Go.WideShapes Go.ChangeAt Go.RowKit
theorem Oj (os:Os) (started:os.Started) (H:Type) (enc:TypeId×Value->H):
 ReturnsInHanded {} Tryz.checked os 8 .any (Rows.modelOpenSpec.pre6 enc Tryz.prog Tryz.f8 Rows.modelOpenRow.domain false) (Rows.modelOpenSpec.post enc Tryz.prog Tryz.f8 false true false false):=by
 refine returnsInHanded_of_change_sized (C:=Tryz.checked) own0 started (by kernel_rfl) Tryz.func8
  (ChangeSpec.witness6 (enc:=enc) (C:=Tryz.checked) false ⟨#[], #[.agg #[.int .i64 0,.int .i64 0,.slice none 0 0,.slice none 0 0,.slice none 0 0]],[]⟩ 8 (by kernel_rfl) (by kernel_rfl) (by kernel_rfl) (by kernel_rfl)) ?_
 intro W base args ds gs before hval hW _ hsz _;exact FB (s:=Rows.modelOpenSpec) Tryz.params8 (by kernel_rfl) rfl (λ_ _=>rfl) (λS O g1 g2 g3=>TN In S O g1 g2) W base args ds gs before hval hW hsz
theorem modelOpen_holds:Rows.ModelOpenSaid:=
 OpenClaim.holds_of_wide (p:=Tryz.pinned) (s:=Rows.modelOpenSpec) (c:=Rows.modelOpenRow) 8 Tryz.f8 rfl rfl rfl rfl rfl rfl rfl ⟨rfl,rfl,rfl,rfl,rfl⟩ rfl rfl rfl rfl rfl ig Tryz.func8 ii
  ij ik
  (λos started H enc _=>Oj os started H enc)
#print axioms modelOpen_holds
end Go.Proofs.YtgdmnlibcdajjaaGreat
