/-
  No cell of these rows narrows 'for every input' (looked for: loops, veiled, ifaces, maps, wideKeys, modest, calm, conditions, laid).
  DERIVED. THE GIVEN ROWS OF THIS SEAT. 10 by the template 'for every input the law returns true; each argument reads behind the call as it read before'; 0 by the template 'total and deterministic' (their statements: YtgdmnlibcdajjaaGreatTotals.lean).
  GIVEN WITH THE SEED: the statements are not yours to turn. If you find one false, say at which input.
  Laid BY PROGRAM, IN A SANDBOX (cutbox-rows.mjs): the forced cells as the released guide's own fill.sh prints them over the translation 972b63d4f50c881f… (all of the seat's roots in one cut). By AI agents, Wed Nov 11 2026. No macro, syntax, notation, axiom, sorry.
-/
import Derived.Test.YtgdmnlibcdajjaaGreatChecked
import GoSem.Claim
import GoSem.ClaimJoined
import GoSem.ClaimMapViews
import Derived.JoinedTies
import Derived.KernelRfl
namespace Go.Proofs.YtgdmnlibcdajjaaGreat
/- THE CELL 'sum', in the pinned program and in every row, IS THE sha256 OF THE DUMP (.gsa) THAT YtgdmnlibcdajjaaGreatProg.lean LOADS. Nothing in Lean hashes anything: it is a label: what it is worth is what the hold of that sum in a sandbox is worth. -/
noncomputable def Tryz.pinned : Pinned := { name := "ytgdmnlibcdajjaagreat", sum := "972b63d4f50c881f11c0bc868d1f262ba40406ec663ead7dd2110fef92edc2cf", checked := Tryz.checked }
namespace Rows
def none {H : Type} : Left H := { results := [], args := [] }

/-- 'herbariumlaw16.ModelPins': WHATEVER THE INPUT: true; the input reads as it did. -/
def modelPinsSpec : ChangeSpec := { name := "modelPins", fn := fun _ => fun
  | [d] => { results := [.lit (.bool true)], args := [d] }
  | _ => none }
def modelPinsRow : OpenClaim := { program := "ytgdmnlibcdajjaagreat", sum := "972b63d4f50c881f11c0bc868d1f262ba40406ec663ead7dd2110fef92edc2cf", func := "herbarium/herbariumlaw16.ModelPins", spec := "modelPins", inPlace := ["slices.overlaps[int]"], unfollowed := true, recurses := true, apart := false }
def ModelPinsSaid : Prop := modelPinsRow.holds Tryz.pinned (OpenSpec.ofChange modelPinsSpec)

/-- ITS FALSE NEIGHBOUR: 'it returns false'. Refute it at one input. -/
def modelPinsWrong : ChangeSpec := { name := "modelPins", fn := fun _ => fun
  | [d] => { results := [.lit (.bool false)], args := [d] }
  | _ => none }
def ModelPinsWrongFalsely : Prop := modelPinsRow.holds Tryz.pinned (OpenSpec.ofChange modelPinsWrong)

/-- 'herbariumlaw16.ModelCommits': WHATEVER THE INPUT: true; the input reads as it did. -/
def modelCommitsSpec : ChangeSpec := { name := "modelCommits", fn := fun _ => fun
  | [d] => { results := [.lit (.bool true)], args := [d] }
  | _ => none }
def modelCommitsRow : OpenClaim := { program := "ytgdmnlibcdajjaagreat", sum := "972b63d4f50c881f11c0bc868d1f262ba40406ec663ead7dd2110fef92edc2cf", func := "herbarium/herbariumlaw16.ModelCommits", spec := "modelCommits", inPlace := ["slices.overlaps[int]"], unfollowed := true, recurses := true, apart := false }
def ModelCommitsSaid : Prop := modelCommitsRow.holds Tryz.pinned (OpenSpec.ofChange modelCommitsSpec)

/-- ITS FALSE NEIGHBOUR: 'it returns false'. Refute it at one input. -/
def modelCommitsWrong : ChangeSpec := { name := "modelCommits", fn := fun _ => fun
  | [d] => { results := [.lit (.bool false)], args := [d] }
  | _ => none }
def ModelCommitsWrongFalsely : Prop := modelCommitsRow.holds Tryz.pinned (OpenSpec.ofChange modelCommitsWrong)

/-- 'herbariumlaw16.PinsGoes': WHATEVER THE INPUT: true; the input reads as it did. -/
def pinsGoesSpec : ChangeSpec := { name := "pinsGoes", fn := fun _ => fun
  | [d] => { results := [.lit (.bool true)], args := [d] }
  | _ => none }
def pinsGoesRow : OpenClaim := { program := "ytgdmnlibcdajjaagreat", sum := "972b63d4f50c881f11c0bc868d1f262ba40406ec663ead7dd2110fef92edc2cf", func := "herbarium/herbariumlaw16.PinsGoes", spec := "pinsGoes", inPlace := ["slices.overlaps[int]"], unfollowed := true, recurses := true, apart := false }
def PinsGoesSaid : Prop := pinsGoesRow.holds Tryz.pinned (OpenSpec.ofChange pinsGoesSpec)

/-- ITS FALSE NEIGHBOUR: 'it returns false'. Refute it at one input. -/
def pinsGoesWrong : ChangeSpec := { name := "pinsGoes", fn := fun _ => fun
  | [d] => { results := [.lit (.bool false)], args := [d] }
  | _ => none }
def PinsGoesWrongFalsely : Prop := pinsGoesRow.holds Tryz.pinned (OpenSpec.ofChange pinsGoesWrong)

/-- 'herbariumlaw16.CommitsRaces': WHATEVER THE INPUT: true; the input reads as it did. -/
def commitsRacesSpec : ChangeSpec := { name := "commitsRaces", fn := fun _ => fun
  | [d] => { results := [.lit (.bool true)], args := [d] }
  | _ => none }
def commitsRacesRow : OpenClaim := { program := "ytgdmnlibcdajjaagreat", sum := "972b63d4f50c881f11c0bc868d1f262ba40406ec663ead7dd2110fef92edc2cf", func := "herbarium/herbariumlaw16.CommitsRaces", spec := "commitsRaces", inPlace := ["slices.overlaps[int]"], unfollowed := true, recurses := true, apart := false }
def CommitsRacesSaid : Prop := commitsRacesRow.holds Tryz.pinned (OpenSpec.ofChange commitsRacesSpec)

/-- ITS FALSE NEIGHBOUR: 'it returns false'. Refute it at one input. -/
def commitsRacesWrong : ChangeSpec := { name := "commitsRaces", fn := fun _ => fun
  | [d] => { results := [.lit (.bool false)], args := [d] }
  | _ => none }
def CommitsRacesWrongFalsely : Prop := commitsRacesRow.holds Tryz.pinned (OpenSpec.ofChange commitsRacesWrong)

/-- 'herbariumlaw16.ModelDoes': WHATEVER THE INPUT: true; the input reads as it did. -/
def modelDoesSpec : ChangeSpec := { name := "modelDoes", fn := fun _ => fun
  | [d] => { results := [.lit (.bool true)], args := [d] }
  | _ => none }
def modelDoesRow : OpenClaim := { program := "ytgdmnlibcdajjaagreat", sum := "972b63d4f50c881f11c0bc868d1f262ba40406ec663ead7dd2110fef92edc2cf", func := "herbarium/herbariumlaw16.ModelDoes", spec := "modelDoes", inPlace := ["slices.overlaps[int]"], unfollowed := true, recurses := true, apart := false }
def ModelDoesSaid : Prop := modelDoesRow.holds Tryz.pinned (OpenSpec.ofChange modelDoesSpec)

/-- ITS FALSE NEIGHBOUR: 'it returns false'. Refute it at one input. -/
def modelDoesWrong : ChangeSpec := { name := "modelDoes", fn := fun _ => fun
  | [d] => { results := [.lit (.bool false)], args := [d] }
  | _ => none }
def ModelDoesWrongFalsely : Prop := modelDoesRow.holds Tryz.pinned (OpenSpec.ofChange modelDoesWrong)

/-- 'herbariumlaw16.ModelOpen': WHATEVER THE INPUT: true; the input reads as it did. -/
def modelOpenSpec : ChangeSpec := { name := "modelOpen", fn := fun _ => fun
  | [d] => { results := [.lit (.bool true)], args := [d] }
  | _ => none }
def modelOpenRow : OpenClaim := { program := "ytgdmnlibcdajjaagreat", sum := "972b63d4f50c881f11c0bc868d1f262ba40406ec663ead7dd2110fef92edc2cf", func := "herbarium/herbariumlaw16.ModelOpen", spec := "modelOpen", inPlace := ["slices.overlaps[int]"], unfollowed := true, recurses := true, apart := false }
def ModelOpenSaid : Prop := modelOpenRow.holds Tryz.pinned (OpenSpec.ofChange modelOpenSpec)

/-- ITS FALSE NEIGHBOUR: 'it returns false'. Refute it at one input. -/
def modelOpenWrong : ChangeSpec := { name := "modelOpen", fn := fun _ => fun
  | [d] => { results := [.lit (.bool false)], args := [d] }
  | _ => none }
def ModelOpenWrongFalsely : Prop := modelOpenRow.holds Tryz.pinned (OpenSpec.ofChange modelOpenWrong)

/-- 'herbariumlaw16.ModelClose': WHATEVER THE INPUT: true; the input reads as it did. -/
def modelCloseSpec : ChangeSpec := { name := "modelClose", fn := fun _ => fun
  | [d] => { results := [.lit (.bool true)], args := [d] }
  | _ => none }
def modelCloseRow : OpenClaim := { program := "ytgdmnlibcdajjaagreat", sum := "972b63d4f50c881f11c0bc868d1f262ba40406ec663ead7dd2110fef92edc2cf", func := "herbarium/herbariumlaw16.ModelClose", spec := "modelClose", inPlace := ["slices.overlaps[int]"], unfollowed := true, recurses := true, apart := false }
def ModelCloseSaid : Prop := modelCloseRow.holds Tryz.pinned (OpenSpec.ofChange modelCloseSpec)

/-- ITS FALSE NEIGHBOUR: 'it returns false'. Refute it at one input. -/
def modelCloseWrong : ChangeSpec := { name := "modelClose", fn := fun _ => fun
  | [d] => { results := [.lit (.bool false)], args := [d] }
  | _ => none }
def ModelCloseWrongFalsely : Prop := modelCloseRow.holds Tryz.pinned (OpenSpec.ofChange modelCloseWrong)

/-- 'herbariumlaw16.ModelPin': WHATEVER THE INPUT: true; the input reads as it did. -/
def modelPinSpec : ChangeSpec := { name := "modelPin", fn := fun _ => fun
  | [d] => { results := [.lit (.bool true)], args := [d] }
  | _ => none }
def modelPinRow : OpenClaim := { program := "ytgdmnlibcdajjaagreat", sum := "972b63d4f50c881f11c0bc868d1f262ba40406ec663ead7dd2110fef92edc2cf", func := "herbarium/herbariumlaw16.ModelPin", spec := "modelPin", inPlace := ["slices.overlaps[int]"], unfollowed := true, recurses := true, apart := false }
def ModelPinSaid : Prop := modelPinRow.holds Tryz.pinned (OpenSpec.ofChange modelPinSpec)

/-- ITS FALSE NEIGHBOUR: 'it returns false'. Refute it at one input. -/
def modelPinWrong : ChangeSpec := { name := "modelPin", fn := fun _ => fun
  | [d] => { results := [.lit (.bool false)], args := [d] }
  | _ => none }
def ModelPinWrongFalsely : Prop := modelPinRow.holds Tryz.pinned (OpenSpec.ofChange modelPinWrong)

/-- 'herbariumlaw16.ModelUnpin': WHATEVER THE INPUT: true; the input reads as it did. -/
def modelUnpinSpec : ChangeSpec := { name := "modelUnpin", fn := fun _ => fun
  | [d] => { results := [.lit (.bool true)], args := [d] }
  | _ => none }
def modelUnpinRow : OpenClaim := { program := "ytgdmnlibcdajjaagreat", sum := "972b63d4f50c881f11c0bc868d1f262ba40406ec663ead7dd2110fef92edc2cf", func := "herbarium/herbariumlaw16.ModelUnpin", spec := "modelUnpin", inPlace := ["slices.overlaps[int]"], unfollowed := true, recurses := true, apart := false }
def ModelUnpinSaid : Prop := modelUnpinRow.holds Tryz.pinned (OpenSpec.ofChange modelUnpinSpec)

/-- ITS FALSE NEIGHBOUR: 'it returns false'. Refute it at one input. -/
def modelUnpinWrong : ChangeSpec := { name := "modelUnpin", fn := fun _ => fun
  | [d] => { results := [.lit (.bool false)], args := [d] }
  | _ => none }
def ModelUnpinWrongFalsely : Prop := modelUnpinRow.holds Tryz.pinned (OpenSpec.ofChange modelUnpinWrong)

/-- 'herbariumlaw16.ModelMany': WHATEVER THE INPUT: true; the input reads as it did. -/
def modelManySpec : ChangeSpec := { name := "modelMany", fn := fun _ => fun
  | [d] => { results := [.lit (.bool true)], args := [d] }
  | _ => none }
def modelManyRow : OpenClaim := { program := "ytgdmnlibcdajjaagreat", sum := "972b63d4f50c881f11c0bc868d1f262ba40406ec663ead7dd2110fef92edc2cf", func := "herbarium/herbariumlaw16.ModelMany", spec := "modelMany", inPlace := ["slices.overlaps[int]"], unfollowed := true, recurses := true, apart := false }
def ModelManySaid : Prop := modelManyRow.holds Tryz.pinned (OpenSpec.ofChange modelManySpec)

/-- ITS FALSE NEIGHBOUR: 'it returns false'. Refute it at one input. -/
def modelManyWrong : ChangeSpec := { name := "modelMany", fn := fun _ => fun
  | [d] => { results := [.lit (.bool false)], args := [d] }
  | _ => none }
def ModelManyWrongFalsely : Prop := modelManyRow.holds Tryz.pinned (OpenSpec.ofChange modelManyWrong)

/- THE SECOND FORM. 'bulk': how many values and letters a reading holds, each counted each time it is reached (what is shared counts as often as it is met; a slice's spare places count too). A statement '..UptoSaid' is the law's where the arguments, and the package variables that the reading takes, are together of bulk at most 1048576: NARROWER than '..Said'. Prove '..Said' where nothing that the law and all that it calls make is longer than what came in: it says more and counts as full. Else prove '..UptoSaid'. A law counts once. -/
mutual
def uptoBulk {H : Type} : DataW H → Nat
  | .lit (.string bytes) => bytes.length + 1
  | .lit _ => 1
  | .nil => 1
  | .ptr d => uptoBulk d + 1
  | .slice elems spare => uptoBulkAll elems + uptoBulkAll spare + 1
  | .agg parts => uptoBulkAll parts + 1
  | .iface _ d => uptoBulk d + 1
  | .map entries => uptoBulkEntries entries + 1
  | .held _ => 1
def uptoBulkAll {H : Type} : List (DataW H) → Nat
  | [] => 0
  | d :: r => uptoBulk d + uptoBulkAll r
def uptoBulkEntries {H : Type} : List (Lit × DataW H) → Nat
  | [] => 0
  | x :: r => uptoBulkEntry x + uptoBulkEntries r
def uptoBulkEntry {H : Type} : Lit × DataW H → Nat
  | (.string bytes, d) => bytes.length + uptoBulk d + 1
  | (_, d) => uptoBulk d + 1
 end
def uptoSmall : (H : Type) → List (DataW H) → Bool := fun _ ds => decide (uptoBulkAll ds ≤ 1048576)
def OpenSpec.upto (s : _root_.Go.ChangeSpec) : _root_.Go.OpenSpec := { _root_.Go.OpenSpec.ofChange s with cond := some uptoSmall }

/-- 'herbariumlaw16.ModelPins', WHERE WHAT IT READS IS OF BULK AT MOST 1048576: true; the input reads as it did. -/
def modelPinsUptoRow : OpenClaim := { program := "ytgdmnlibcdajjaagreat", sum := "972b63d4f50c881f11c0bc868d1f262ba40406ec663ead7dd2110fef92edc2cf", func := "herbarium/herbariumlaw16.ModelPins", spec := "modelPins", inPlace := ["slices.overlaps[int]"], unfollowed := true, recurses := true, apart := false, narrowed := true }
def ModelPinsUptoSaid : Prop := modelPinsUptoRow.holds Tryz.pinned (OpenSpec.upto modelPinsSpec)

/-- 'herbariumlaw16.ModelCommits', WHERE WHAT IT READS IS OF BULK AT MOST 1048576: true; the input reads as it did. -/
def modelCommitsUptoRow : OpenClaim := { program := "ytgdmnlibcdajjaagreat", sum := "972b63d4f50c881f11c0bc868d1f262ba40406ec663ead7dd2110fef92edc2cf", func := "herbarium/herbariumlaw16.ModelCommits", spec := "modelCommits", inPlace := ["slices.overlaps[int]"], unfollowed := true, recurses := true, apart := false, narrowed := true }
def ModelCommitsUptoSaid : Prop := modelCommitsUptoRow.holds Tryz.pinned (OpenSpec.upto modelCommitsSpec)

/-- 'herbariumlaw16.PinsGoes', WHERE WHAT IT READS IS OF BULK AT MOST 1048576: true; the input reads as it did. -/
def pinsGoesUptoRow : OpenClaim := { program := "ytgdmnlibcdajjaagreat", sum := "972b63d4f50c881f11c0bc868d1f262ba40406ec663ead7dd2110fef92edc2cf", func := "herbarium/herbariumlaw16.PinsGoes", spec := "pinsGoes", inPlace := ["slices.overlaps[int]"], unfollowed := true, recurses := true, apart := false, narrowed := true }
def PinsGoesUptoSaid : Prop := pinsGoesUptoRow.holds Tryz.pinned (OpenSpec.upto pinsGoesSpec)

/-- 'herbariumlaw16.CommitsRaces', WHERE WHAT IT READS IS OF BULK AT MOST 1048576: true; the input reads as it did. -/
def commitsRacesUptoRow : OpenClaim := { program := "ytgdmnlibcdajjaagreat", sum := "972b63d4f50c881f11c0bc868d1f262ba40406ec663ead7dd2110fef92edc2cf", func := "herbarium/herbariumlaw16.CommitsRaces", spec := "commitsRaces", inPlace := ["slices.overlaps[int]"], unfollowed := true, recurses := true, apart := false, narrowed := true }
def CommitsRacesUptoSaid : Prop := commitsRacesUptoRow.holds Tryz.pinned (OpenSpec.upto commitsRacesSpec)

/-- 'herbariumlaw16.ModelDoes', WHERE WHAT IT READS IS OF BULK AT MOST 1048576: true; the input reads as it did. -/
def modelDoesUptoRow : OpenClaim := { program := "ytgdmnlibcdajjaagreat", sum := "972b63d4f50c881f11c0bc868d1f262ba40406ec663ead7dd2110fef92edc2cf", func := "herbarium/herbariumlaw16.ModelDoes", spec := "modelDoes", inPlace := ["slices.overlaps[int]"], unfollowed := true, recurses := true, apart := false, narrowed := true }
def ModelDoesUptoSaid : Prop := modelDoesUptoRow.holds Tryz.pinned (OpenSpec.upto modelDoesSpec)

/-- 'herbariumlaw16.ModelOpen', WHERE WHAT IT READS IS OF BULK AT MOST 1048576: true; the input reads as it did. -/
def modelOpenUptoRow : OpenClaim := { program := "ytgdmnlibcdajjaagreat", sum := "972b63d4f50c881f11c0bc868d1f262ba40406ec663ead7dd2110fef92edc2cf", func := "herbarium/herbariumlaw16.ModelOpen", spec := "modelOpen", inPlace := ["slices.overlaps[int]"], unfollowed := true, recurses := true, apart := false, narrowed := true }
def ModelOpenUptoSaid : Prop := modelOpenUptoRow.holds Tryz.pinned (OpenSpec.upto modelOpenSpec)

/-- 'herbariumlaw16.ModelClose', WHERE WHAT IT READS IS OF BULK AT MOST 1048576: true; the input reads as it did. -/
def modelCloseUptoRow : OpenClaim := { program := "ytgdmnlibcdajjaagreat", sum := "972b63d4f50c881f11c0bc868d1f262ba40406ec663ead7dd2110fef92edc2cf", func := "herbarium/herbariumlaw16.ModelClose", spec := "modelClose", inPlace := ["slices.overlaps[int]"], unfollowed := true, recurses := true, apart := false, narrowed := true }
def ModelCloseUptoSaid : Prop := modelCloseUptoRow.holds Tryz.pinned (OpenSpec.upto modelCloseSpec)

/-- 'herbariumlaw16.ModelPin', WHERE WHAT IT READS IS OF BULK AT MOST 1048576: true; the input reads as it did. -/
def modelPinUptoRow : OpenClaim := { program := "ytgdmnlibcdajjaagreat", sum := "972b63d4f50c881f11c0bc868d1f262ba40406ec663ead7dd2110fef92edc2cf", func := "herbarium/herbariumlaw16.ModelPin", spec := "modelPin", inPlace := ["slices.overlaps[int]"], unfollowed := true, recurses := true, apart := false, narrowed := true }
def ModelPinUptoSaid : Prop := modelPinUptoRow.holds Tryz.pinned (OpenSpec.upto modelPinSpec)

/-- 'herbariumlaw16.ModelUnpin', WHERE WHAT IT READS IS OF BULK AT MOST 1048576: true; the input reads as it did. -/
def modelUnpinUptoRow : OpenClaim := { program := "ytgdmnlibcdajjaagreat", sum := "972b63d4f50c881f11c0bc868d1f262ba40406ec663ead7dd2110fef92edc2cf", func := "herbarium/herbariumlaw16.ModelUnpin", spec := "modelUnpin", inPlace := ["slices.overlaps[int]"], unfollowed := true, recurses := true, apart := false, narrowed := true }
def ModelUnpinUptoSaid : Prop := modelUnpinUptoRow.holds Tryz.pinned (OpenSpec.upto modelUnpinSpec)

/-- 'herbariumlaw16.ModelMany', WHERE WHAT IT READS IS OF BULK AT MOST 1048576: true; the input reads as it did. -/
def modelManyUptoRow : OpenClaim := { program := "ytgdmnlibcdajjaagreat", sum := "972b63d4f50c881f11c0bc868d1f262ba40406ec663ead7dd2110fef92edc2cf", func := "herbarium/herbariumlaw16.ModelMany", spec := "modelMany", inPlace := ["slices.overlaps[int]"], unfollowed := true, recurses := true, apart := false, narrowed := true }
def ModelManyUptoSaid : Prop := modelManyUptoRow.holds Tryz.pinned (OpenSpec.upto modelManySpec)

end Rows
end Go.Proofs.YtgdmnlibcdajjaaGreat
