/- CleanKeeps: facts of the row. -/
import Derived.Test.YtoklapibcmnaeaaGreatP18
set_option linter.unusedVariables false
set_option linter.unusedSimpArgs false
set_option maxRecDepth 100000
namespace Go.Proofs.YtoklapibcmnaeaaGreat
open Go.Abs Go.ChangeShapes Go.WideShapes Go.ChangeAt Go.RowKit
theorem dC:Tryz.prog.funcNamed "herbarium/herbariumlaw15.CleanKeeps" =some 8:=by kernel_rfl
theorem iN:(Rows.cleanKeepsRow.inPlace==Tryz.prog.inPlace 8)=true:=by kernel_rfl
theorem iO:(Rows.cleanKeepsRow.unfollowed==Tryz.prog.unfollowed 8)=true:=by kernel_rfl
theorem iP:(Rows.cleanKeepsRow.recurses==Tryz.prog.recurses 8)=true:=by kernel_rfl
theorem iQ:(Rows.cleanKeepsRow.named==Tryz.prog.varsNamed 8)=true:=by kernel_rfl
theorem iR:Tryz.prog.stopsHeard=true:=by kernel_rfl
theorem iS:Tryz.prog.mayEnter=true:=by kernel_rfl
theorem iT:(Rows.cleanKeepsRow.lifted==Tryz.prog.liftsFinal)=true:=by kernel_rfl
theorem iU:(Tryz.prog.make==some Rows.cleanKeepsRow.make)=true:=by kernel_rfl
theorem iV:J7 Tryz.prog Tryz.f8 Rows.cleanKeepsSpec Rows.cleanKeepsRow=true:=by kernel_rfl
theorem dD:joinedFacts Tryz.prog 8 Tryz.f8 Rows.cleanKeepsSpec Rows.cleanKeepsRow=true:=T6 iN iO iP iQ iR iS iT iU iV
theorem dE:Tryz.f8.isInstance Tryz.prog Rows.cleanKeepsRow.origin Rows.cleanKeepsRow.targs:=of_decide_eq_true (by kernel_rfl)
theorem dF:Tryz.f8.isWrapper Tryz.prog Rows.cleanKeepsRow.wrapper Rows.cleanKeepsRow.mainSum:=by unfold Func.isWrapper;first| (rw[if_pos (by decide+kernel)];kernel_rfl) | (rw[if_neg (by decide+kernel)];exact⟨rfl,rfl⟩)
end Go.Proofs.YtoklapibcmnaeaaGreat
