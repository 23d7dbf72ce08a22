/- ModelPin holds: whatever is handed, the law answers true, and what was handed reads as before. No condition. -/
import Derived.Test.YtgdmnlibcdajjaaGreatP11
import Derived.Test.YtgdmnlibcdajjaaGreatP15
set_option linter.unusedVariables false
set_option linter.unusedSimpArgs false
set_option maxRecDepth 100000
namespace Go.Proofs.YtgdmnlibcdajjaaGreat
open Go.Abs Go.ChangeShapes Go.WideShapes Go.ChangeAt Go.RowKit
theorem Ps (os:Os) (started:os.Started) (H:Type) (enc:TypeId×Value->H):
 ReturnsInHanded {} Tryz.checked os 10 .any (Rows.modelPinSpec.pre6 enc Tryz.prog Tryz.f10 Rows.modelPinRow.domain false) (Rows.modelPinSpec.post enc Tryz.prog Tryz.f10 false true false false):=by
 refine returnsInHanded_of_change_sized (C:=Tryz.checked) own0 started (by kernel_rfl) Tryz.func10
  (ChangeSpec.witness6 (enc:=enc) (C:=Tryz.checked) false ⟨#[], #[.agg #[.int .i64 0,.int .i64 0,.slice none 0 0,.slice none 0 0,.slice none 0 0]],[]⟩ 8 (by kernel_rfl) (by kernel_rfl) (by kernel_rfl) (by kernel_rfl)) ?_
 intro W base args ds gs before hval hW _ hsz _;exact FB (s:=Rows.modelPinSpec) Tryz.params10 (by kernel_rfl) rfl (λ_ _=>rfl) (λS O g1 g2 g3=>VX In S O g1 g2) W base args ds gs before hval hW hsz
theorem modelPin_holds:Rows.ModelPinSaid:=
 OpenClaim.holds_of_wide (p:=Tryz.pinned) (s:=Rows.modelPinSpec) (c:=Rows.modelPinRow) 10 Tryz.f10 rfl rfl rfl rfl rfl rfl rfl ⟨rfl,rfl,rfl,rfl,rfl⟩ rfl rfl rfl rfl rfl iq Tryz.func10 ir
  it iu
  (λos started H enc _=>Ps os started H enc)
#print axioms modelPin_holds
end Go.Proofs.YtgdmnlibcdajjaaGreat
