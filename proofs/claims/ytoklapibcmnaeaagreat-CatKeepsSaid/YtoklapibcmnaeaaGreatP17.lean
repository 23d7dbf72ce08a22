/- CatKeeps: facts of the row. -/
import Derived.Test.YtoklapibcmnaeaaGreatP16
set_option linter.unusedVariables false
set_option linter.unusedSimpArgs false
set_option maxRecDepth 100000
namespace Go.Proofs.YtoklapibcmnaeaaGreat
open Go.Abs Go.ChangeShapes Go.WideShapes Go.ChangeAt Go.RowKit
theorem am:Tryz.prog.funcNamed "herbarium/herbariumlaw14.CatKeeps" =some 7:=by kernel_rfl
theorem d7:(Rows.catKeepsRow.inPlace==Tryz.prog.inPlace 7)=true:=by kernel_rfl
theorem d8:(Rows.catKeepsRow.unfollowed==Tryz.prog.unfollowed 7)=true:=by kernel_rfl
theorem d9:(Rows.catKeepsRow.recurses==Tryz.prog.recurses 7)=true:=by kernel_rfl
theorem ec:(Rows.catKeepsRow.named==Tryz.prog.varsNamed 7)=true:=by kernel_rfl
theorem ed:Tryz.prog.stopsHeard=true:=by kernel_rfl
theorem ei:Tryz.prog.mayEnter=true:=by kernel_rfl
theorem ej:(Rows.catKeepsRow.lifted==Tryz.prog.liftsFinal)=true:=by kernel_rfl
theorem er:(Tryz.prog.make==some Rows.catKeepsRow.make)=true:=by kernel_rfl
theorem eu:Jl Tryz.prog Tryz.f7 Rows.catKeepsSpec Rows.catKeepsRow=true:=by kernel_rfl
theorem ar:joinedFacts Tryz.prog 7 Tryz.f7 Rows.catKeepsSpec Rows.catKeepsRow=true:=RT d7 d8 d9 ec ed ei ej er eu
theorem au:Tryz.f7.isInstance Tryz.prog Rows.catKeepsRow.origin Rows.catKeepsRow.targs:=of_decide_eq_true (by kernel_rfl)
theorem aw:Tryz.f7.isWrapper Tryz.prog Rows.catKeepsRow.wrapper Rows.catKeepsRow.mainSum:=by unfold Func.isWrapper;first| (rw[if_pos (by decide+kernel)];kernel_rfl) | (rw[if_neg (by decide+kernel)];exact⟨rfl,rfl⟩)
end Go.Proofs.YtoklapibcmnaeaaGreat
