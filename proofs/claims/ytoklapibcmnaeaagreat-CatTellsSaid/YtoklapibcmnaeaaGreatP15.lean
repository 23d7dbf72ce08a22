/- CatTells holds: whatever is handed, the law answers true, and what was handed reads as before. No condition. -/
import Derived.Test.YtoklapibcmnaeaaGreatP14
set_option linter.unusedVariables false
set_option linter.unusedSimpArgs false
set_option maxRecDepth 100000
namespace Go.Proofs.YtoklapibcmnaeaaGreat
open Go.Abs Go.ChangeShapes Go.WideShapes Go.ChangeAt Go.RowKit
theorem Jz (os:Os) (started:os.Started) (H:Type) (enc:TypeId×Value→H):
 ReturnsInHanded {} Tryz.checked os 5 .any (Rows.catTellsSpec.pre6 enc Tryz.prog Tryz.f5 Rows.catTellsRow.domain false) (Rows.catTellsSpec.post enc Tryz.prog Tryz.f5 false true false false):=by
 refine returnsInHanded_of_change_sized (C:=Tryz.checked) own0 started (by kernel_rfl) Tryz.func5
  (ChangeSpec.witness6 (enc:=enc) (C:=Tryz.checked) false ⟨#[], #[.agg #[.slice none 0 0,.slice none 0 0,.slice none 0 0,.slice none 0 0,.slice none 0 0]],[]⟩ 8 (by kernel_rfl) (by kernel_rfl) (by kernel_rfl) (by kernel_rfl)) ?_
 intro W base args ds gs before hval hW _ hsz _
 exact LP (s:=Rows.catTellsSpec) Tryz.params5 (by kernel_rfl) rfl (fun _ _=>rfl) (fun S L G na nn h0 hS h1 h2 h3 h4 h5 h6=>N6 Pl S L G na nn h0 hS h1 h2 h3 h4 h5 h6) W base args ds gs before hval hW hsz
theorem Xg:Tryz.prog.funcNamed "herbarium/herbariumlaw14.CatTells" =some 5:=by kernel_rfl
theorem Xh:joinedFacts Tryz.prog 5 Tryz.f5 Rows.catTellsSpec Rows.catTellsRow=true:=by kernel_rfl
theorem Xi:Tryz.f5.isInstance Tryz.prog Rows.catTellsRow.origin Rows.catTellsRow.targs:=of_decide_eq_true (by kernel_rfl)
theorem Xj:Tryz.f5.isWrapper Tryz.prog Rows.catTellsRow.wrapper Rows.catTellsRow.mainSum:=by unfold Func.isWrapper;first| (rw[if_pos (by decide+kernel)];kernel_rfl) | (rw[if_neg (by decide+kernel)];exact⟨rfl,rfl⟩)
theorem catTells_holds:Rows.CatTellsSaid:=
 OpenClaim.holds_of_wide (p:=Tryz.pinned) (s:=Rows.catTellsSpec) (c:=Rows.catTellsRow) 5 Tryz.f5 rfl rfl rfl rfl rfl rfl rfl ⟨rfl,rfl,rfl,rfl,rfl⟩ rfl rfl rfl rfl rfl Xg Tryz.func5 Xh
  Xi Xj
  (fun os started H enc _=>Jz os started H enc)
#print axioms catTells_holds
end Go.Proofs.YtoklapibcmnaeaaGreat
