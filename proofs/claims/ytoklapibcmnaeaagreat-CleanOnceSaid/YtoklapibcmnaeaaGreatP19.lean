/- CleanOnce: facts of the row. -/
import Derived.Test.YtoklapibcmnaeaaGreatP18
set_option linter.unusedVariables false
set_option linter.unusedSimpArgs false
set_option maxRecDepth 100000
namespace Go.Proofs.YtoklapibcmnaeaaGreat
open Go.Abs Go.ChangeShapes Go.WideShapes Go.ChangeAt Go.RowKit
theorem bG:Tryz.prog.funcNamed "herbarium/herbariumlaw15.CleanOnce" =some 10:=by kernel_rfl
theorem fT:(Rows.cleanOnceRow.inPlace==Tryz.prog.inPlace 10)=true:=by kernel_rfl
theorem fU:(Rows.cleanOnceRow.unfollowed==Tryz.prog.unfollowed 10)=true:=by kernel_rfl
theorem fV:(Rows.cleanOnceRow.recurses==Tryz.prog.recurses 10)=true:=by kernel_rfl
theorem fW:(Rows.cleanOnceRow.named==Tryz.prog.varsNamed 10)=true:=by kernel_rfl
theorem fX:Tryz.prog.stopsHeard=true:=by kernel_rfl
theorem fY:Tryz.prog.mayEnter=true:=by kernel_rfl
theorem fZ:(Rows.cleanOnceRow.lifted==Tryz.prog.liftsFinal)=true:=by kernel_rfl
theorem f9:(Tryz.prog.make==some Rows.cleanOnceRow.make)=true:=by kernel_rfl
theorem ga:JF Tryz.prog Tryz.f10 Rows.cleanOnceSpec Rows.cleanOnceRow=true:=by kernel_rfl
theorem bH:joinedFacts Tryz.prog 10 Tryz.f10 Rows.cleanOnceSpec Rows.cleanOnceRow=true:=SQ fT fU fV fW fX fY fZ f9 ga
theorem bI:Tryz.f10.isInstance Tryz.prog Rows.cleanOnceRow.origin Rows.cleanOnceRow.targs:=of_decide_eq_true (by kernel_rfl)
theorem bJ:Tryz.f10.isWrapper Tryz.prog Rows.cleanOnceRow.wrapper Rows.cleanOnceRow.mainSum:=by unfold Func.isWrapper;first| (rw[if_pos (by decide+kernel)];kernel_rfl) | (rw[if_neg (by decide+kernel)];exact⟨rfl,rfl⟩)
end Go.Proofs.YtoklapibcmnaeaaGreat
