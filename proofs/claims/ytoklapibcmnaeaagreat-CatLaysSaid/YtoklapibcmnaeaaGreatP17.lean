/- CatLays: facts of the row. -/
import Derived.Test.YtoklapibcmnaeaaGreatP16
set_option linter.unusedVariables false
set_option linter.unusedSimpArgs false
set_option maxRecDepth 100000
namespace Go.Proofs.YtoklapibcmnaeaaGreat
open Go.Abs Go.ChangeShapes Go.WideShapes Go.ChangeAt Go.RowKit
theorem ZP:Tryz.prog.funcNamed "herbarium/herbariumlaw14.CatLays" =some 6:=by kernel_rfl
theorem dv:(Rows.catLaysRow.inPlace==Tryz.prog.inPlace 6)=true:=by kernel_rfl
theorem dw:(Rows.catLaysRow.unfollowed==Tryz.prog.unfollowed 6)=true:=by kernel_rfl
theorem dx:(Rows.catLaysRow.recurses==Tryz.prog.recurses 6)=true:=by kernel_rfl
theorem dy:(Rows.catLaysRow.named==Tryz.prog.varsNamed 6)=true:=by kernel_rfl
theorem dz:Tryz.prog.stopsHeard=true:=by kernel_rfl
theorem dA:Tryz.prog.mayEnter=true:=by kernel_rfl
theorem dB:(Rows.catLaysRow.lifted==Tryz.prog.liftsFinal)=true:=by kernel_rfl
theorem dC:(Tryz.prog.make==some Rows.catLaysRow.make)=true:=by kernel_rfl
theorem dD:I9 Tryz.prog Tryz.f6 Rows.catLaysSpec Rows.catLaysRow=true:=by kernel_rfl
theorem ZQ:joinedFacts Tryz.prog 6 Tryz.f6 Rows.catLaysSpec Rows.catLaysRow=true:=Rl dv dw dx dy dz dA dB dC dD
theorem ZR:Tryz.f6.isInstance Tryz.prog Rows.catLaysRow.origin Rows.catLaysRow.targs:=of_decide_eq_true (by kernel_rfl)
theorem ZS:Tryz.f6.isWrapper Tryz.prog Rows.catLaysRow.wrapper Rows.catLaysRow.mainSum:=by unfold Func.isWrapper;first| (rw[if_pos (by decide+kernel)];kernel_rfl) | (rw[if_neg (by decide+kernel)];exact⟨rfl,rfl⟩)
end Go.Proofs.YtoklapibcmnaeaaGreat
