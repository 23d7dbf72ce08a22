/- ModelClose holds: whatever is handed, the law answers true, and what was handed reads as before. No condition. -/
import Derived.Test.YtgdmnlibcdajjaaGreatP11
import Derived.Test.YtgdmnlibcdajjaaGreatP14
set_option linter.unusedVariables false
set_option linter.unusedSimpArgs false
set_option maxRecDepth 100000
namespace Go.Proofs.YtgdmnlibcdajjaaGreat
open Go.Abs Go.ChangeShapes Go.WideShapes Go.ChangeAt Go.RowKit
theorem No (os:Os) (started:os.Started) (H:Type) (enc:TypeId×Value->H):
 ReturnsInHanded {} Tryz.checked os 9 .any (Rows.modelCloseSpec.pre6 enc Tryz.prog Tryz.f9 Rows.modelCloseRow.domain false) (Rows.modelCloseSpec.post enc Tryz.prog Tryz.f9 false true false false):=by
 refine returnsInHanded_of_change_sized (C:=Tryz.checked) own0 started (by kernel_rfl) Tryz.func9
  (ChangeSpec.witness6 (enc:=enc) (C:=Tryz.checked) false ⟨#[], #[.agg #[.int .i64 0,.int .i64 0,.slice none 0 0,.slice none 0 0,.slice none 0 0]],[]⟩ 8 (by kernel_rfl) (by kernel_rfl) (by kernel_rfl) (by kernel_rfl)) ?_
 intro W base args ds gs before hval hW _ hsz _;exact FB (s:=Rows.modelCloseSpec) Tryz.params9 (by kernel_rfl) rfl (λ_ _=>rfl) (λS O g1 g2 g3=>Tn In S O g1 g2) W base args ds gs before hval hW hsz
theorem modelClose_holds:Rows.ModelCloseSaid:=
 OpenClaim.holds_of_wide (p:=Tryz.pinned) (s:=Rows.modelCloseSpec) (c:=Rows.modelCloseRow) 9 Tryz.f9 rfl rfl rfl rfl rfl rfl rfl ⟨rfl,rfl,rfl,rfl,rfl⟩ rfl rfl rfl rfl rfl il Tryz.func9 im
  io ip
  (λos started H enc _=>No os started H enc)
#print axioms modelClose_holds
end Go.Proofs.YtgdmnlibcdajjaaGreat
