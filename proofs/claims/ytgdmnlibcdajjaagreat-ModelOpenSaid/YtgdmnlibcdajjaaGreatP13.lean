/- ModelOpen: facts of the row. -/
import Derived.Test.YtgdmnlibcdajjaaGreatP11
set_option linter.unusedVariables false
set_option linter.unusedSimpArgs false
set_option maxRecDepth 100000
namespace Go.Proofs.YtgdmnlibcdajjaaGreat
open Go.Abs Go.ChangeShapes Go.WideShapes Go.ChangeAt Go.RowKit
theorem ig:Tryz.prog.funcNamed "herbarium/herbariumlaw16.ModelOpen" =some 8:=by kernel_rfl
theorem lf:(Rows.modelOpenRow.inPlace==Tryz.prog.inPlace 8)=true:=by kernel_rfl
theorem lg:(Rows.modelOpenRow.unfollowed==Tryz.prog.unfollowed 8)=true:=by kernel_rfl
theorem lh:(Rows.modelOpenRow.recurses==Tryz.prog.recurses 8)=true:=by kernel_rfl
theorem li:(Rows.modelOpenRow.named==Tryz.prog.varsNamed 8)=true:=by kernel_rfl
theorem lj:Tryz.prog.stopsHeard=true:=by kernel_rfl
theorem lk:Tryz.prog.mayEnter=true:=by kernel_rfl
theorem lm:(Rows.modelOpenRow.lifted==Tryz.prog.liftsFinal)=true:=by kernel_rfl
theorem ln:(Tryz.prog.make==some Rows.modelOpenRow.make)=true:=by kernel_rfl
theorem lp:GC Tryz.prog Tryz.f8 Rows.modelOpenSpec Rows.modelOpenRow=true:=by kernel_rfl
theorem ii:joinedFacts Tryz.prog 8 Tryz.f8 Rows.modelOpenSpec Rows.modelOpenRow=true:=It lf lg lh li lj lk lm ln lp
theorem ij:Tryz.f8.isInstance Tryz.prog Rows.modelOpenRow.origin Rows.modelOpenRow.targs:=of_decide_eq_true (by kernel_rfl)
theorem ik:Tryz.f8.isWrapper Tryz.prog Rows.modelOpenRow.wrapper Rows.modelOpenRow.mainSum:=by unfold Func.isWrapper;first| (rw[if_pos (by decide+kernel)];kernel_rfl) | (rw[if_neg (by decide+kernel)];exact⟨rfl,rfl⟩)
end Go.Proofs.YtgdmnlibcdajjaaGreat
