/- ModelPin: facts of the row. -/
import Derived.Test.YtgdmnlibcdajjaaGreatP11
set_option linter.unusedVariables false
set_option linter.unusedSimpArgs false
set_option maxRecDepth 100000
namespace Go.Proofs.YtgdmnlibcdajjaaGreat
open Go.Abs Go.ChangeShapes Go.WideShapes Go.ChangeAt Go.RowKit
theorem iq:Tryz.prog.funcNamed "herbarium/herbariumlaw16.ModelPin" =some 10:=by kernel_rfl
theorem lE:(Rows.modelPinRow.inPlace==Tryz.prog.inPlace 10)=true:=by kernel_rfl
theorem lF:(Rows.modelPinRow.unfollowed==Tryz.prog.unfollowed 10)=true:=by kernel_rfl
theorem lG:(Rows.modelPinRow.recurses==Tryz.prog.recurses 10)=true:=by kernel_rfl
theorem lH:(Rows.modelPinRow.named==Tryz.prog.varsNamed 10)=true:=by kernel_rfl
theorem lI:Tryz.prog.stopsHeard=true:=by kernel_rfl
theorem lJ:Tryz.prog.mayEnter=true:=by kernel_rfl
theorem lK:(Rows.modelPinRow.lifted==Tryz.prog.liftsFinal)=true:=by kernel_rfl
theorem lL:(Tryz.prog.make==some Rows.modelPinRow.make)=true:=by kernel_rfl
theorem lM:GC Tryz.prog Tryz.f10 Rows.modelPinSpec Rows.modelPinRow=true:=by kernel_rfl
theorem ir:joinedFacts Tryz.prog 10 Tryz.f10 Rows.modelPinSpec Rows.modelPinRow=true:=It lE lF lG lH lI lJ lK lL lM
theorem it:Tryz.f10.isInstance Tryz.prog Rows.modelPinRow.origin Rows.modelPinRow.targs:=of_decide_eq_true (by kernel_rfl)
theorem iu:Tryz.f10.isWrapper Tryz.prog Rows.modelPinRow.wrapper Rows.modelPinRow.mainSum:=by unfold Func.isWrapper;first| (rw[if_pos (by decide+kernel)];kernel_rfl) | (rw[if_neg (by decide+kernel)];exact⟨rfl,rfl⟩)
end Go.Proofs.YtgdmnlibcdajjaaGreat
