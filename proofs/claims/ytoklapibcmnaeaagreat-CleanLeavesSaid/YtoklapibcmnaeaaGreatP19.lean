/- CleanLeaves: facts of the row. -/
import Derived.Test.YtoklapibcmnaeaaGreatP18
set_option linter.unusedVariables false
set_option linter.unusedSimpArgs false
set_option maxRecDepth 100000
namespace Go.Proofs.YtoklapibcmnaeaaGreat
open Go.Abs Go.ChangeShapes Go.WideShapes Go.ChangeAt Go.RowKit
theorem cU:Tryz.prog.funcNamed "herbarium/herbariumlaw15.CleanLeaves" =some 9:=by kernel_rfl
theorem ii:(Rows.cleanLeavesRow.inPlace==Tryz.prog.inPlace 9)=true:=by kernel_rfl
theorem ij:(Rows.cleanLeavesRow.unfollowed==Tryz.prog.unfollowed 9)=true:=by kernel_rfl
theorem ik:(Rows.cleanLeavesRow.recurses==Tryz.prog.recurses 9)=true:=by kernel_rfl
theorem il:(Rows.cleanLeavesRow.named==Tryz.prog.varsNamed 9)=true:=by kernel_rfl
theorem im:Tryz.prog.stopsHeard=true:=by kernel_rfl
theorem io:Tryz.prog.mayEnter=true:=by kernel_rfl
theorem ip:(Rows.cleanLeavesRow.lifted==Tryz.prog.liftsFinal)=true:=by kernel_rfl
theorem iq:(Tryz.prog.make==some Rows.cleanLeavesRow.make)=true:=by kernel_rfl
theorem ir:Ka Tryz.prog Tryz.f9 Rows.cleanLeavesSpec Rows.cleanLeavesRow=true:=by kernel_rfl
theorem cV:joinedFacts Tryz.prog 9 Tryz.f9 Rows.cleanLeavesSpec Rows.cleanLeavesRow=true:=TL ii ij ik il im io ip iq ir
theorem cW:Tryz.f9.isInstance Tryz.prog Rows.cleanLeavesRow.origin Rows.cleanLeavesRow.targs:=of_decide_eq_true (by kernel_rfl)
theorem cY:Tryz.f9.isWrapper Tryz.prog Rows.cleanLeavesRow.wrapper Rows.cleanLeavesRow.mainSum:=by unfold Func.isWrapper;first| (rw[if_pos (by decide+kernel)];kernel_rfl) | (rw[if_neg (by decide+kernel)];exact⟨rfl,rfl⟩)
end Go.Proofs.YtoklapibcmnaeaaGreat
