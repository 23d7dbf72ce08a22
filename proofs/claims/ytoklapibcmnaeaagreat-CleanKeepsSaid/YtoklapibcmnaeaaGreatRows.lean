/-
  No cell of these rows narrows 'for every input' (looked for: loops, veiled, ifaces, maps, wideKeys, modest, calm, conditions, laid).
  DERIVED. THE GIVEN ROWS OF THIS SEAT. 9 by the template 'for every input the law returns true; each argument reads behind the call as it read before'; 0 by the template 'total and deterministic' (their statements: YtoklapibcmnaeaaGreatTotals.lean).
  GIVEN WITH THE SEED: the statements are not yours to turn. If you find one false, say at which input.
  Laid BY PROGRAM, IN A SANDBOX (cutbox-rows.mjs): the forced cells as the released guide's own fill.sh prints them over the translation ef1740b11c7cd836… (all of the seat's roots in one cut). By AI agents, Wed Nov 11 2026. No macro, syntax, notation, axiom, sorry.
-/
import Derived.Test.YtoklapibcmnaeaaGreatChecked
import GoSem.Claim
import GoSem.ClaimJoined
import GoSem.ClaimMapViews
import Derived.JoinedTies
import Derived.KernelRfl
namespace Go.Proofs.YtoklapibcmnaeaaGreat
/- THE CELL 'sum', in the pinned program and in every row, IS THE sha256 OF THE DUMP (.gsa) THAT YtoklapibcmnaeaaGreatProg.lean LOADS. Nothing in Lean hashes anything: it is a label: what it is worth is what the hold of that sum in a sandbox is worth. -/
noncomputable def Tryz.pinned : Pinned := { name := "ytoklapibcmnaeaagreat", sum := "ef1740b11c7cd8369e038ef2ee294b8f626350e2b1b02be0d1880a7cb4118c94", checked := Tryz.checked }
namespace Rows
def none {H : Type} : Left H := { results := [], args := [] }

/-- 'herbariumlaw14.CatTags': WHATEVER THE INPUT: true; the input reads as it did. -/
def catTagsSpec : ChangeSpec := { name := "catTags", fn := fun _ => fun
  | [d] => { results := [.lit (.bool true)], args := [d] }
  | _ => none }
def catTagsRow : OpenClaim := { program := "ytoklapibcmnaeaagreat", sum := "ef1740b11c7cd8369e038ef2ee294b8f626350e2b1b02be0d1880a7cb4118c94", func := "herbarium/herbariumlaw14.CatTags", spec := "catTags", unfollowed := true, recurses := true, apart := false }
def CatTagsSaid : Prop := catTagsRow.holds Tryz.pinned (OpenSpec.ofChange catTagsSpec)

/-- ITS FALSE NEIGHBOUR: 'it returns false'. Refute it at one input. -/
def catTagsWrong : ChangeSpec := { name := "catTags", fn := fun _ => fun
  | [d] => { results := [.lit (.bool false)], args := [d] }
  | _ => none }
def CatTagsWrongFalsely : Prop := catTagsRow.holds Tryz.pinned (OpenSpec.ofChange catTagsWrong)

/-- 'herbariumlaw14.CatFull': WHATEVER THE INPUT: true; the input reads as it did. -/
def catFullSpec : ChangeSpec := { name := "catFull", fn := fun _ => fun
  | [d] => { results := [.lit (.bool true)], args := [d] }
  | _ => none }
def catFullRow : OpenClaim := { program := "ytoklapibcmnaeaagreat", sum := "ef1740b11c7cd8369e038ef2ee294b8f626350e2b1b02be0d1880a7cb4118c94", func := "herbarium/herbariumlaw14.CatFull", spec := "catFull", unfollowed := true, recurses := true, apart := false }
def CatFullSaid : Prop := catFullRow.holds Tryz.pinned (OpenSpec.ofChange catFullSpec)

/-- ITS FALSE NEIGHBOUR: 'it returns false'. Refute it at one input. -/
def catFullWrong : ChangeSpec := { name := "catFull", fn := fun _ => fun
  | [d] => { results := [.lit (.bool false)], args := [d] }
  | _ => none }
def CatFullWrongFalsely : Prop := catFullRow.holds Tryz.pinned (OpenSpec.ofChange catFullWrong)

/-- 'herbariumlaw14.CatTells': WHATEVER THE INPUT: true; the input reads as it did. -/
def catTellsSpec : ChangeSpec := { name := "catTells", fn := fun _ => fun
  | [d] => { results := [.lit (.bool true)], args := [d] }
  | _ => none }
def catTellsRow : OpenClaim := { program := "ytoklapibcmnaeaagreat", sum := "ef1740b11c7cd8369e038ef2ee294b8f626350e2b1b02be0d1880a7cb4118c94", func := "herbarium/herbariumlaw14.CatTells", spec := "catTells", unfollowed := true, recurses := true, apart := false }
def CatTellsSaid : Prop := catTellsRow.holds Tryz.pinned (OpenSpec.ofChange catTellsSpec)

/-- ITS FALSE NEIGHBOUR: 'it returns false'. Refute it at one input. -/
def catTellsWrong : ChangeSpec := { name := "catTells", fn := fun _ => fun
  | [d] => { results := [.lit (.bool false)], args := [d] }
  | _ => none }
def CatTellsWrongFalsely : Prop := catTellsRow.holds Tryz.pinned (OpenSpec.ofChange catTellsWrong)

/-- 'herbariumlaw14.CatLays': WHATEVER THE INPUT: true; the input reads as it did. -/
def catLaysSpec : ChangeSpec := { name := "catLays", fn := fun _ => fun
  | [d] => { results := [.lit (.bool true)], args := [d] }
  | _ => none }
def catLaysRow : OpenClaim := { program := "ytoklapibcmnaeaagreat", sum := "ef1740b11c7cd8369e038ef2ee294b8f626350e2b1b02be0d1880a7cb4118c94", func := "herbarium/herbariumlaw14.CatLays", spec := "catLays", unfollowed := true, recurses := true, apart := false }
def CatLaysSaid : Prop := catLaysRow.holds Tryz.pinned (OpenSpec.ofChange catLaysSpec)

/-- ITS FALSE NEIGHBOUR: 'it returns false'. Refute it at one input. -/
def catLaysWrong : ChangeSpec := { name := "catLays", fn := fun _ => fun
  | [d] => { results := [.lit (.bool false)], args := [d] }
  | _ => none }
def CatLaysWrongFalsely : Prop := catLaysRow.holds Tryz.pinned (OpenSpec.ofChange catLaysWrong)

/-- 'herbariumlaw14.CatKeeps': WHATEVER THE INPUT: true; the input reads as it did. -/
def catKeepsSpec : ChangeSpec := { name := "catKeeps", fn := fun _ => fun
  | [d] => { results := [.lit (.bool true)], args := [d] }
  | _ => none }
def catKeepsRow : OpenClaim := { program := "ytoklapibcmnaeaagreat", sum := "ef1740b11c7cd8369e038ef2ee294b8f626350e2b1b02be0d1880a7cb4118c94", func := "herbarium/herbariumlaw14.CatKeeps", spec := "catKeeps", unfollowed := true, recurses := true, apart := false }
def CatKeepsSaid : Prop := catKeepsRow.holds Tryz.pinned (OpenSpec.ofChange catKeepsSpec)

/-- ITS FALSE NEIGHBOUR: 'it returns false'. Refute it at one input. -/
def catKeepsWrong : ChangeSpec := { name := "catKeeps", fn := fun _ => fun
  | [d] => { results := [.lit (.bool false)], args := [d] }
  | _ => none }
def CatKeepsWrongFalsely : Prop := catKeepsRow.holds Tryz.pinned (OpenSpec.ofChange catKeepsWrong)

/-- 'herbariumlaw15.CleanKeeps': WHATEVER THE INPUT: true; the input reads as it did. -/
def cleanKeepsSpec : ChangeSpec := { name := "cleanKeeps", fn := fun _ => fun
  | [d] => { results := [.lit (.bool true)], args := [d] }
  | _ => none }
def cleanKeepsRow : OpenClaim := { program := "ytoklapibcmnaeaagreat", sum := "ef1740b11c7cd8369e038ef2ee294b8f626350e2b1b02be0d1880a7cb4118c94", func := "herbarium/herbariumlaw15.CleanKeeps", spec := "cleanKeeps", unfollowed := true, recurses := true, apart := false }
def CleanKeepsSaid : Prop := cleanKeepsRow.holds Tryz.pinned (OpenSpec.ofChange cleanKeepsSpec)

/-- ITS FALSE NEIGHBOUR: 'it returns false'. Refute it at one input. -/
def cleanKeepsWrong : ChangeSpec := { name := "cleanKeeps", fn := fun _ => fun
  | [d] => { results := [.lit (.bool false)], args := [d] }
  | _ => none }
def CleanKeepsWrongFalsely : Prop := cleanKeepsRow.holds Tryz.pinned (OpenSpec.ofChange cleanKeepsWrong)

/-- 'herbariumlaw15.CleanLeaves': WHATEVER THE INPUT: true; the input reads as it did. -/
def cleanLeavesSpec : ChangeSpec := { name := "cleanLeaves", fn := fun _ => fun
  | [d] => { results := [.lit (.bool true)], args := [d] }
  | _ => none }
def cleanLeavesRow : OpenClaim := { program := "ytoklapibcmnaeaagreat", sum := "ef1740b11c7cd8369e038ef2ee294b8f626350e2b1b02be0d1880a7cb4118c94", func := "herbarium/herbariumlaw15.CleanLeaves", spec := "cleanLeaves", unfollowed := true, recurses := true, apart := false }
def CleanLeavesSaid : Prop := cleanLeavesRow.holds Tryz.pinned (OpenSpec.ofChange cleanLeavesSpec)

/-- ITS FALSE NEIGHBOUR: 'it returns false'. Refute it at one input. -/
def cleanLeavesWrong : ChangeSpec := { name := "cleanLeaves", fn := fun _ => fun
  | [d] => { results := [.lit (.bool false)], args := [d] }
  | _ => none }
def CleanLeavesWrongFalsely : Prop := cleanLeavesRow.holds Tryz.pinned (OpenSpec.ofChange cleanLeavesWrong)

/-- 'herbariumlaw15.CleanOnce': WHATEVER THE INPUT: true; the input reads as it did. -/
def cleanOnceSpec : ChangeSpec := { name := "cleanOnce", fn := fun _ => fun
  | [d] => { results := [.lit (.bool true)], args := [d] }
  | _ => none }
def cleanOnceRow : OpenClaim := { program := "ytoklapibcmnaeaagreat", sum := "ef1740b11c7cd8369e038ef2ee294b8f626350e2b1b02be0d1880a7cb4118c94", func := "herbarium/herbariumlaw15.CleanOnce", spec := "cleanOnce", unfollowed := true, recurses := true, apart := false }
def CleanOnceSaid : Prop := cleanOnceRow.holds Tryz.pinned (OpenSpec.ofChange cleanOnceSpec)

/-- ITS FALSE NEIGHBOUR: 'it returns false'. Refute it at one input. -/
def cleanOnceWrong : ChangeSpec := { name := "cleanOnce", fn := fun _ => fun
  | [d] => { results := [.lit (.bool false)], args := [d] }
  | _ => none }
def CleanOnceWrongFalsely : Prop := cleanOnceRow.holds Tryz.pinned (OpenSpec.ofChange cleanOnceWrong)

/-- 'herbariumlaw15.CleanActs': WHATEVER THE INPUT: true; the input reads as it did. -/
def cleanActsSpec : ChangeSpec := { name := "cleanActs", fn := fun _ => fun
  | [d] => { results := [.lit (.bool true)], args := [d] }
  | _ => none }
def cleanActsRow : OpenClaim := { program := "ytoklapibcmnaeaagreat", sum := "ef1740b11c7cd8369e038ef2ee294b8f626350e2b1b02be0d1880a7cb4118c94", func := "herbarium/herbariumlaw15.CleanActs", spec := "cleanActs", unfollowed := true, recurses := true, apart := false }
def CleanActsSaid : Prop := cleanActsRow.holds Tryz.pinned (OpenSpec.ofChange cleanActsSpec)

/-- ITS FALSE NEIGHBOUR: 'it returns false'. Refute it at one input. -/
def cleanActsWrong : ChangeSpec := { name := "cleanActs", fn := fun _ => fun
  | [d] => { results := [.lit (.bool false)], args := [d] }
  | _ => none }
def CleanActsWrongFalsely : Prop := cleanActsRow.holds Tryz.pinned (OpenSpec.ofChange cleanActsWrong)

/- THE SECOND FORM. 'bulk': how many values and letters a reading holds, each counted each time it is reached (what is shared counts as often as it is met; a slice's spare places count too). A statement '..UptoSaid' is the law's where the arguments, and the package variables that the reading takes, are together of bulk at most 1048576: NARROWER than '..Said'. Prove '..Said' where nothing that the law and all that it calls make is longer than what came in: it says more and counts as full. Else prove '..UptoSaid'. A law counts once. -/
mutual
def uptoBulk {H : Type} : DataW H → Nat
  | .lit (.string bytes) => bytes.length + 1
  | .lit _ => 1
  | .nil => 1
  | .ptr d => uptoBulk d + 1
  | .slice elems spare => uptoBulkAll elems + uptoBulkAll spare + 1
  | .agg parts => uptoBulkAll parts + 1
  | .iface _ d => uptoBulk d + 1
  | .map entries => uptoBulkEntries entries + 1
  | .held _ => 1
def uptoBulkAll {H : Type} : List (DataW H) → Nat
  | [] => 0
  | d :: r => uptoBulk d + uptoBulkAll r
def uptoBulkEntries {H : Type} : List (Lit × DataW H) → Nat
  | [] => 0
  | x :: r => uptoBulkEntry x + uptoBulkEntries r
def uptoBulkEntry {H : Type} : Lit × DataW H → Nat
  | (.string bytes, d) => bytes.length + uptoBulk d + 1
  | (_, d) => uptoBulk d + 1
 end
def uptoSmall : (H : Type) → List (DataW H) → Bool := fun _ ds => decide (uptoBulkAll ds ≤ 1048576)
def OpenSpec.upto (s : _root_.Go.ChangeSpec) : _root_.Go.OpenSpec := { _root_.Go.OpenSpec.ofChange s with cond := some uptoSmall }

/-- 'herbariumlaw14.CatTags', WHERE WHAT IT READS IS OF BULK AT MOST 1048576: true; the input reads as it did. -/
def catTagsUptoRow : OpenClaim := { program := "ytoklapibcmnaeaagreat", sum := "ef1740b11c7cd8369e038ef2ee294b8f626350e2b1b02be0d1880a7cb4118c94", func := "herbarium/herbariumlaw14.CatTags", spec := "catTags", unfollowed := true, recurses := true, apart := false, narrowed := true }
def CatTagsUptoSaid : Prop := catTagsUptoRow.holds Tryz.pinned (OpenSpec.upto catTagsSpec)

/-- 'herbariumlaw14.CatFull', WHERE WHAT IT READS IS OF BULK AT MOST 1048576: true; the input reads as it did. -/
def catFullUptoRow : OpenClaim := { program := "ytoklapibcmnaeaagreat", sum := "ef1740b11c7cd8369e038ef2ee294b8f626350e2b1b02be0d1880a7cb4118c94", func := "herbarium/herbariumlaw14.CatFull", spec := "catFull", unfollowed := true, recurses := true, apart := false, narrowed := true }
def CatFullUptoSaid : Prop := catFullUptoRow.holds Tryz.pinned (OpenSpec.upto catFullSpec)

/-- 'herbariumlaw14.CatTells', WHERE WHAT IT READS IS OF BULK AT MOST 1048576: true; the input reads as it did. -/
def catTellsUptoRow : OpenClaim := { program := "ytoklapibcmnaeaagreat", sum := "ef1740b11c7cd8369e038ef2ee294b8f626350e2b1b02be0d1880a7cb4118c94", func := "herbarium/herbariumlaw14.CatTells", spec := "catTells", unfollowed := true, recurses := true, apart := false, narrowed := true }
def CatTellsUptoSaid : Prop := catTellsUptoRow.holds Tryz.pinned (OpenSpec.upto catTellsSpec)

/-- 'herbariumlaw14.CatLays', WHERE WHAT IT READS IS OF BULK AT MOST 1048576: true; the input reads as it did. -/
def catLaysUptoRow : OpenClaim := { program := "ytoklapibcmnaeaagreat", sum := "ef1740b11c7cd8369e038ef2ee294b8f626350e2b1b02be0d1880a7cb4118c94", func := "herbarium/herbariumlaw14.CatLays", spec := "catLays", unfollowed := true, recurses := true, apart := false, narrowed := true }
def CatLaysUptoSaid : Prop := catLaysUptoRow.holds Tryz.pinned (OpenSpec.upto catLaysSpec)

/-- 'herbariumlaw14.CatKeeps', WHERE WHAT IT READS IS OF BULK AT MOST 1048576: true; the input reads as it did. -/
def catKeepsUptoRow : OpenClaim := { program := "ytoklapibcmnaeaagreat", sum := "ef1740b11c7cd8369e038ef2ee294b8f626350e2b1b02be0d1880a7cb4118c94", func := "herbarium/herbariumlaw14.CatKeeps", spec := "catKeeps", unfollowed := true, recurses := true, apart := false, narrowed := true }
def CatKeepsUptoSaid : Prop := catKeepsUptoRow.holds Tryz.pinned (OpenSpec.upto catKeepsSpec)

/-- 'herbariumlaw15.CleanKeeps', WHERE WHAT IT READS IS OF BULK AT MOST 1048576: true; the input reads as it did. -/
def cleanKeepsUptoRow : OpenClaim := { program := "ytoklapibcmnaeaagreat", sum := "ef1740b11c7cd8369e038ef2ee294b8f626350e2b1b02be0d1880a7cb4118c94", func := "herbarium/herbariumlaw15.CleanKeeps", spec := "cleanKeeps", unfollowed := true, recurses := true, apart := false, narrowed := true }
def CleanKeepsUptoSaid : Prop := cleanKeepsUptoRow.holds Tryz.pinned (OpenSpec.upto cleanKeepsSpec)

/-- 'herbariumlaw15.CleanLeaves', WHERE WHAT IT READS IS OF BULK AT MOST 1048576: true; the input reads as it did. -/
def cleanLeavesUptoRow : OpenClaim := { program := "ytoklapibcmnaeaagreat", sum := "ef1740b11c7cd8369e038ef2ee294b8f626350e2b1b02be0d1880a7cb4118c94", func := "herbarium/herbariumlaw15.CleanLeaves", spec := "cleanLeaves", unfollowed := true, recurses := true, apart := false, narrowed := true }
def CleanLeavesUptoSaid : Prop := cleanLeavesUptoRow.holds Tryz.pinned (OpenSpec.upto cleanLeavesSpec)

/-- 'herbariumlaw15.CleanOnce', WHERE WHAT IT READS IS OF BULK AT MOST 1048576: true; the input reads as it did. -/
def cleanOnceUptoRow : OpenClaim := { program := "ytoklapibcmnaeaagreat", sum := "ef1740b11c7cd8369e038ef2ee294b8f626350e2b1b02be0d1880a7cb4118c94", func := "herbarium/herbariumlaw15.CleanOnce", spec := "cleanOnce", unfollowed := true, recurses := true, apart := false, narrowed := true }
def CleanOnceUptoSaid : Prop := cleanOnceUptoRow.holds Tryz.pinned (OpenSpec.upto cleanOnceSpec)

/-- 'herbariumlaw15.CleanActs', WHERE WHAT IT READS IS OF BULK AT MOST 1048576: true; the input reads as it did. -/
def cleanActsUptoRow : OpenClaim := { program := "ytoklapibcmnaeaagreat", sum := "ef1740b11c7cd8369e038ef2ee294b8f626350e2b1b02be0d1880a7cb4118c94", func := "herbarium/herbariumlaw15.CleanActs", spec := "cleanActs", unfollowed := true, recurses := true, apart := false, narrowed := true }
def CleanActsUptoSaid : Prop := cleanActsUptoRow.holds Tryz.pinned (OpenSpec.upto cleanActsSpec)

end Rows
end Go.Proofs.YtoklapibcmnaeaaGreat
