/- ModelDoes: facts of the row. -/
import Derived.Test.YtgdmnlibcdajjaaGreatP11
set_option linter.unusedVariables false
set_option linter.unusedSimpArgs false
set_option maxRecDepth 100000
namespace Go.Proofs.YtgdmnlibcdajjaaGreat
open Go.Abs Go.ChangeShapes Go.WideShapes Go.ChangeAt Go.RowKit
theorem ia:Tryz.prog.funcNamed "herbarium/herbariumlaw16.ModelDoes" =some 7:=by kernel_rfl
theorem kU:(Rows.modelDoesRow.inPlace==Tryz.prog.inPlace 7)=true:=by kernel_rfl
theorem kV:(Rows.modelDoesRow.unfollowed==Tryz.prog.unfollowed 7)=true:=by kernel_rfl
theorem kW:(Rows.modelDoesRow.recurses==Tryz.prog.recurses 7)=true:=by kernel_rfl
theorem kX:(Rows.modelDoesRow.named==Tryz.prog.varsNamed 7)=true:=by kernel_rfl
theorem kY:Tryz.prog.stopsHeard=true:=by kernel_rfl
theorem kZ:Tryz.prog.mayEnter=true:=by kernel_rfl
theorem la:(Rows.modelDoesRow.lifted==Tryz.prog.liftsFinal)=true:=by kernel_rfl
theorem lc:(Tryz.prog.make==some Rows.modelDoesRow.make)=true:=by kernel_rfl
theorem ld:GC Tryz.prog Tryz.f7 Rows.modelDoesSpec Rows.modelDoesRow=true:=by kernel_rfl
theorem ib:joinedFacts Tryz.prog 7 Tryz.f7 Rows.modelDoesSpec Rows.modelDoesRow=true:=It kU kV kW kX kY kZ la lc ld
theorem ic:Tryz.f7.isInstance Tryz.prog Rows.modelDoesRow.origin Rows.modelDoesRow.targs:=of_decide_eq_true (by kernel_rfl)
theorem ie:Tryz.f7.isWrapper Tryz.prog Rows.modelDoesRow.wrapper Rows.modelDoesRow.mainSum:=by unfold Func.isWrapper;first| (rw[if_pos (by decide+kernel)];kernel_rfl) | (rw[if_neg (by decide+kernel)];exact⟨rfl,rfl⟩)
end Go.Proofs.YtgdmnlibcdajjaaGreat
