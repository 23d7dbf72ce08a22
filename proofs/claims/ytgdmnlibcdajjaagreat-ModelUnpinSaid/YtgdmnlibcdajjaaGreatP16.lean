/- ModelUnpin: facts of the row. -/
import Derived.Test.YtgdmnlibcdajjaaGreatP11
set_option linter.unusedVariables false
set_option linter.unusedSimpArgs false
set_option maxRecDepth 100000
namespace Go.Proofs.YtgdmnlibcdajjaaGreat
open Go.Abs Go.ChangeShapes Go.WideShapes Go.ChangeAt Go.RowKit
theorem iv:Tryz.prog.funcNamed "herbarium/herbariumlaw16.ModelUnpin" =some 11:=by kernel_rfl
theorem lN:(Rows.modelUnpinRow.inPlace==Tryz.prog.inPlace 11)=true:=by kernel_rfl
theorem lO:(Rows.modelUnpinRow.unfollowed==Tryz.prog.unfollowed 11)=true:=by kernel_rfl
theorem lP:(Rows.modelUnpinRow.recurses==Tryz.prog.recurses 11)=true:=by kernel_rfl
theorem lQ:(Rows.modelUnpinRow.named==Tryz.prog.varsNamed 11)=true:=by kernel_rfl
theorem lR:Tryz.prog.stopsHeard=true:=by kernel_rfl
theorem lS:Tryz.prog.mayEnter=true:=by kernel_rfl
theorem lT:(Rows.modelUnpinRow.lifted==Tryz.prog.liftsFinal)=true:=by kernel_rfl
theorem lU:(Tryz.prog.make==some Rows.modelUnpinRow.make)=true:=by kernel_rfl
theorem lV:GC Tryz.prog Tryz.f11 Rows.modelUnpinSpec Rows.modelUnpinRow=true:=by kernel_rfl
theorem iw:joinedFacts Tryz.prog 11 Tryz.f11 Rows.modelUnpinSpec Rows.modelUnpinRow=true:=It lN lO lP lQ lR lS lT lU lV
theorem iy:Tryz.f11.isInstance Tryz.prog Rows.modelUnpinRow.origin Rows.modelUnpinRow.targs:=of_decide_eq_true (by kernel_rfl)
theorem iz:Tryz.f11.isWrapper Tryz.prog Rows.modelUnpinRow.wrapper Rows.modelUnpinRow.mainSum:=by unfold Func.isWrapper;first| (rw[if_pos (by decide+kernel)];kernel_rfl) | (rw[if_neg (by decide+kernel)];exact⟨rfl,rfl⟩)
end Go.Proofs.YtgdmnlibcdajjaaGreat
