/- ModelUnpin holds: whatever is handed, the law answers true, and what was handed reads as before. No condition. -/
import Derived.Test.YtgdmnlibcdajjaaGreatP11
import Derived.Test.YtgdmnlibcdajjaaGreatP16
set_option linter.unusedVariables false
set_option linter.unusedSimpArgs false
set_option maxRecDepth 100000
namespace Go.Proofs.YtgdmnlibcdajjaaGreat
open Go.Abs Go.ChangeShapes Go.WideShapes Go.ChangeAt Go.RowKit
theorem Np (os:Os) (started:os.Started) (H:Type) (enc:TypeId×Value->H):
 ReturnsInHanded {} Tryz.checked os 11 .any (Rows.modelUnpinSpec.pre6 enc Tryz.prog Tryz.f11 Rows.modelUnpinRow.domain false) (Rows.modelUnpinSpec.post enc Tryz.prog Tryz.f11 false true false false):=by
 refine returnsInHanded_of_change_sized (C:=Tryz.checked) own0 started (by kernel_rfl) Tryz.func11
  (ChangeSpec.witness6 (enc:=enc) (C:=Tryz.checked) false ⟨#[], #[.agg #[.int .i64 0,.int .i64 0,.slice none 0 0,.slice none 0 0,.slice none 0 0]],[]⟩ 8 (by kernel_rfl) (by kernel_rfl) (by kernel_rfl) (by kernel_rfl)) ?_
 intro W base args ds gs before hval hW _ hsz _;exact FB (s:=Rows.modelUnpinSpec) Tryz.params11 (by kernel_rfl) rfl (λ_ _=>rfl) (λS O g1 g2 g3=>To In S O g1 g2) W base args ds gs before hval hW hsz
theorem modelUnpin_holds:Rows.ModelUnpinSaid:=
 OpenClaim.holds_of_wide (p:=Tryz.pinned) (s:=Rows.modelUnpinSpec) (c:=Rows.modelUnpinRow) 11 Tryz.f11 rfl rfl rfl rfl rfl rfl rfl ⟨rfl,rfl,rfl,rfl,rfl⟩ rfl rfl rfl rfl rfl iv Tryz.func11 iw
  iy iz
  (λos started H enc _=>Np os started H enc)
#print axioms modelUnpin_holds
end Go.Proofs.YtgdmnlibcdajjaaGreat
