/- ModelClose: facts of the row. -/
import Derived.Test.YtgdmnlibcdajjaaGreatP11
set_option linter.unusedVariables false
set_option linter.unusedSimpArgs false
set_option maxRecDepth 100000
namespace Go.Proofs.YtgdmnlibcdajjaaGreat
open Go.Abs Go.ChangeShapes Go.WideShapes Go.ChangeAt Go.RowKit
theorem il:Tryz.prog.funcNamed "herbarium/herbariumlaw16.ModelClose" =some 9:=by kernel_rfl
theorem lq:(Rows.modelCloseRow.inPlace==Tryz.prog.inPlace 9)=true:=by kernel_rfl
theorem lr:(Rows.modelCloseRow.unfollowed==Tryz.prog.unfollowed 9)=true:=by kernel_rfl
theorem lu:(Rows.modelCloseRow.recurses==Tryz.prog.recurses 9)=true:=by kernel_rfl
theorem lw:(Rows.modelCloseRow.named==Tryz.prog.varsNamed 9)=true:=by kernel_rfl
theorem lz:Tryz.prog.stopsHeard=true:=by kernel_rfl
theorem lA:Tryz.prog.mayEnter=true:=by kernel_rfl
theorem lB:(Rows.modelCloseRow.lifted==Tryz.prog.liftsFinal)=true:=by kernel_rfl
theorem lC:(Tryz.prog.make==some Rows.modelCloseRow.make)=true:=by kernel_rfl
theorem lD:GC Tryz.prog Tryz.f9 Rows.modelCloseSpec Rows.modelCloseRow=true:=by kernel_rfl
theorem im:joinedFacts Tryz.prog 9 Tryz.f9 Rows.modelCloseSpec Rows.modelCloseRow=true:=It lq lr lu lw lz lA lB lC lD
theorem io:Tryz.f9.isInstance Tryz.prog Rows.modelCloseRow.origin Rows.modelCloseRow.targs:=of_decide_eq_true (by kernel_rfl)
theorem ip:Tryz.f9.isWrapper Tryz.prog Rows.modelCloseRow.wrapper Rows.modelCloseRow.mainSum:=by unfold Func.isWrapper;first| (rw[if_pos (by decide+kernel)];kernel_rfl) | (rw[if_neg (by decide+kernel)];exact⟨rfl,rfl⟩)
end Go.Proofs.YtgdmnlibcdajjaaGreat
