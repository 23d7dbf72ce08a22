/- CleanActs: facts of the row. -/
import Derived.Test.YtoklapibcmnaeaaGreatP18
set_option linter.unusedVariables false
set_option linter.unusedSimpArgs false
set_option maxRecDepth 100000
namespace Go.Proofs.YtoklapibcmnaeaaGreat
open Go.Abs Go.ChangeShapes Go.WideShapes Go.ChangeAt Go.RowKit
theorem cU:Tryz.prog.funcNamed "herbarium/herbariumlaw15.CleanActs" =some 11:=by kernel_rfl
theorem ic:(Rows.cleanActsRow.inPlace==Tryz.prog.inPlace 11)=true:=by kernel_rfl
theorem ie:(Rows.cleanActsRow.unfollowed==Tryz.prog.unfollowed 11)=true:=by kernel_rfl
theorem ig:(Rows.cleanActsRow.recurses==Tryz.prog.recurses 11)=true:=by kernel_rfl
theorem ii:(Rows.cleanActsRow.named==Tryz.prog.varsNamed 11)=true:=by kernel_rfl
theorem ij:Tryz.prog.stopsHeard=true:=by kernel_rfl
theorem ik:Tryz.prog.mayEnter=true:=by kernel_rfl
theorem il:(Rows.cleanActsRow.lifted==Tryz.prog.liftsFinal)=true:=by kernel_rfl
theorem im:(Tryz.prog.make==some Rows.cleanActsRow.make)=true:=by kernel_rfl
theorem io:Ka Tryz.prog Tryz.f11 Rows.cleanActsSpec Rows.cleanActsRow=true:=by kernel_rfl
theorem cV:joinedFacts Tryz.prog 11 Tryz.f11 Rows.cleanActsSpec Rows.cleanActsRow=true:=TC ic ie ig ii ij ik il im io
theorem cW:Tryz.f11.isInstance Tryz.prog Rows.cleanActsRow.origin Rows.cleanActsRow.targs:=of_decide_eq_true (by kernel_rfl)
theorem cY:Tryz.f11.isWrapper Tryz.prog Rows.cleanActsRow.wrapper Rows.cleanActsRow.mainSum:=by unfold Func.isWrapper;first| (rw[if_pos (by decide+kernel)];kernel_rfl) | (rw[if_neg (by decide+kernel)];exact⟨rfl,rfl⟩)
end Go.Proofs.YtoklapibcmnaeaaGreat
