/- ModelDoes holds: whatever is handed, the law answers true, and what was handed reads as before. No condition. -/
import Derived.Test.YtgdmnlibcdajjaaGreatP11
import Derived.Test.YtgdmnlibcdajjaaGreatP12
set_option linter.unusedVariables false
set_option linter.unusedSimpArgs false
set_option maxRecDepth 100000
namespace Go.Proofs.YtgdmnlibcdajjaaGreat
open Go.Abs Go.ChangeShapes Go.WideShapes Go.ChangeAt Go.RowKit
theorem Oi (os:Os) (started:os.Started) (H:Type) (enc:TypeId×Value->H):
 ReturnsInHanded {} Tryz.checked os 7 .any (Rows.modelDoesSpec.pre6 enc Tryz.prog Tryz.f7 Rows.modelDoesRow.domain false) (Rows.modelDoesSpec.post enc Tryz.prog Tryz.f7 false true false false):=by
 refine returnsInHanded_of_change_sized (C:=Tryz.checked) own0 started (by kernel_rfl) Tryz.func7
  (ChangeSpec.witness6 (enc:=enc) (C:=Tryz.checked) false ⟨#[], #[.agg #[.int .i64 0,.int .i64 0,.slice none 0 0,.slice none 0 0,.slice none 0 0]],[]⟩ 8 (by kernel_rfl) (by kernel_rfl) (by kernel_rfl) (by kernel_rfl)) ?_
 intro W base args ds gs before hval hW _ hsz _;exact FB (s:=Rows.modelDoesSpec) Tryz.params7 (by kernel_rfl) rfl (λ_ _=>rfl) (λS O g1 g2 g3=>NO In S O g1 (by have:=reachBytes_lt;simp only[Gw];omega)) W base args ds gs before hval hW hsz
theorem modelDoes_holds:Rows.ModelDoesSaid:=
 OpenClaim.holds_of_wide (p:=Tryz.pinned) (s:=Rows.modelDoesSpec) (c:=Rows.modelDoesRow) 7 Tryz.f7 rfl rfl rfl rfl rfl rfl rfl ⟨rfl,rfl,rfl,rfl,rfl⟩ rfl rfl rfl rfl rfl ia Tryz.func7 ib
  ic ie
  (λos started H enc _=>Oi os started H enc)
#print axioms modelDoes_holds
end Go.Proofs.YtgdmnlibcdajjaaGreat
