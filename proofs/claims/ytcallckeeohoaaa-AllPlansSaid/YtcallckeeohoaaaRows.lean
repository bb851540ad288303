/-
  No cell of these rows narrows 'for every input' (looked for: loops, veiled, ifaces, maps, wideKeys, modest, calm, conditions, laid).
  DERIVED. THE GIVEN ROWS OF THIS SEAT. 8 by the template 'for every input the law returns true; each argument reads behind the call as it read before'; 0 by the template 'total and deterministic' (their statements: YtcallckeeohoaaaTotals.lean).
  GIVEN WITH THE SEED: the statements are not yours to turn. If you find one false, say at which input.
  Laid BY PROGRAM, IN A SANDBOX (cutbox-rows.mjs): the forced cells as the released guide's own fill.sh prints them over the translation 5977cd0bcfcd9a8e… (all of the seat's roots in one cut). By AI agents, Wed Nov 11 2026. No macro, syntax, notation, axiom, sorry.
-/
import Derived.Test.YtcallckeeohoaaaChecked
import GoSem.Claim
import GoSem.ClaimJoined
import GoSem.ClaimMapViews
import Derived.JoinedTies
import Derived.KernelRfl
namespace Go.Proofs.Ytcallckeeohoaaa
/- THE CELL 'sum', in the pinned program and in every row, IS THE sha256 OF THE DUMP (.gsa) THAT YtcallckeeohoaaaProg.lean LOADS. Nothing in Lean hashes anything: it is a label: what it is worth is what the hold of that sum in a sandbox is worth. -/
noncomputable def Try.pinned : Pinned := { name := "ytcallckeeohoaaa", sum := "5977cd0bcfcd9a8eda92a0489d16c18d4b07ea3a8df8fa334a8de82c280784a2", checked := Try.checked }
namespace Rows
def none {H : Type} : Left H := { results := [], args := [] }

/-- 'tapeworkslaw.NameBuilds': WHATEVER THE INPUT: true; the input reads as it did. -/
def nameBuildsSpec : ChangeSpec := { name := "nameBuilds", fn := fun _ => fun
  | [d1, d2] => { results := [.lit (.bool true)], args := [d1, d2] }
  | _ => none }
def nameBuildsRow : OpenClaim := { program := "ytcallckeeohoaaa", sum := "5977cd0bcfcd9a8eda92a0489d16c18d4b07ea3a8df8fa334a8de82c280784a2", func := "tapeworks/tapeworkslaw.NameBuilds", spec := "nameBuilds", unfollowed := true, recurses := true, apart := false }
def NameBuildsSaid : Prop := nameBuildsRow.holds Try.pinned (OpenSpec.ofChange nameBuildsSpec)

/-- ITS FALSE NEIGHBOUR: 'it returns false'. Refute it at one input. -/
def nameBuildsWrong : ChangeSpec := { name := "nameBuilds", fn := fun _ => fun
  | [d1, d2] => { results := [.lit (.bool false)], args := [d1, d2] }
  | _ => none }
def NameBuildsWrongFalsely : Prop := nameBuildsRow.holds Try.pinned (OpenSpec.ofChange nameBuildsWrong)

/-- 'tapeworkslaw.AllTrues': WHATEVER THE INPUT: true; the input reads as it did. -/
def allTruesSpec : ChangeSpec := { name := "allTrues", fn := fun _ => fun
  | [d1, d2] => { results := [.lit (.bool true)], args := [d1, d2] }
  | _ => none }
def allTruesRow : OpenClaim := { program := "ytcallckeeohoaaa", sum := "5977cd0bcfcd9a8eda92a0489d16c18d4b07ea3a8df8fa334a8de82c280784a2", func := "tapeworks/tapeworkslaw.AllTrues", spec := "allTrues", unfollowed := true, recurses := true, apart := false }
def AllTruesSaid : Prop := allTruesRow.holds Try.pinned (OpenSpec.ofChange allTruesSpec)

/-- ITS FALSE NEIGHBOUR: 'it returns false'. Refute it at one input. -/
def allTruesWrong : ChangeSpec := { name := "allTrues", fn := fun _ => fun
  | [d1, d2] => { results := [.lit (.bool false)], args := [d1, d2] }
  | _ => none }
def AllTruesWrongFalsely : Prop := allTruesRow.holds Try.pinned (OpenSpec.ofChange allTruesWrong)

/-- 'tapeworkslaw.AllPlays': WHATEVER THE INPUT: true; the input reads as it did. -/
def allPlaysSpec : ChangeSpec := { name := "allPlays", fn := fun _ => fun
  | [d1, d2, d3, d4] => { results := [.lit (.bool true)], args := [d1, d2, d3, d4] }
  | _ => none }
def allPlaysRow : OpenClaim := { program := "ytcallckeeohoaaa", sum := "5977cd0bcfcd9a8eda92a0489d16c18d4b07ea3a8df8fa334a8de82c280784a2", func := "tapeworks/tapeworkslaw.AllPlays", spec := "allPlays", unfollowed := true, recurses := true, apart := false }
def AllPlaysSaid : Prop := allPlaysRow.holds Try.pinned (OpenSpec.ofChange allPlaysSpec)

/-- ITS FALSE NEIGHBOUR: 'it returns false'. Refute it at one input. -/
def allPlaysWrong : ChangeSpec := { name := "allPlays", fn := fun _ => fun
  | [d1, d2, d3, d4] => { results := [.lit (.bool false)], args := [d1, d2, d3, d4] }
  | _ => none }
def AllPlaysWrongFalsely : Prop := allPlaysRow.holds Try.pinned (OpenSpec.ofChange allPlaysWrong)

/-- 'tapeworkslaw.AllPlans': WHATEVER THE INPUT: true; the input reads as it did. -/
def allPlansSpec : ChangeSpec := { name := "allPlans", fn := fun _ => fun
  | [d1, d2] => { results := [.lit (.bool true)], args := [d1, d2] }
  | _ => none }
def allPlansRow : OpenClaim := { program := "ytcallckeeohoaaa", sum := "5977cd0bcfcd9a8eda92a0489d16c18d4b07ea3a8df8fa334a8de82c280784a2", func := "tapeworks/tapeworkslaw.AllPlans", spec := "allPlans", unfollowed := true, recurses := true, apart := false }
def AllPlansSaid : Prop := allPlansRow.holds Try.pinned (OpenSpec.ofChange allPlansSpec)

/-- ITS FALSE NEIGHBOUR: 'it returns false'. Refute it at one input. -/
def allPlansWrong : ChangeSpec := { name := "allPlans", fn := fun _ => fun
  | [d1, d2] => { results := [.lit (.bool false)], args := [d1, d2] }
  | _ => none }
def AllPlansWrongFalsely : Prop := allPlansRow.holds Try.pinned (OpenSpec.ofChange allPlansWrong)

/-- 'tapeworkslaw.HardSums': WHATEVER THE INPUT: true; the input reads as it did. -/
def hardSumsSpec : ChangeSpec := { name := "hardSums", fn := fun _ => fun
  | [d1, d2] => { results := [.lit (.bool true)], args := [d1, d2] }
  | _ => none }
def hardSumsRow : OpenClaim := { program := "ytcallckeeohoaaa", sum := "5977cd0bcfcd9a8eda92a0489d16c18d4b07ea3a8df8fa334a8de82c280784a2", func := "tapeworks/tapeworkslaw.HardSums", spec := "hardSums", unfollowed := true, recurses := true, apart := false }
def HardSumsSaid : Prop := hardSumsRow.holds Try.pinned (OpenSpec.ofChange hardSumsSpec)

/-- ITS FALSE NEIGHBOUR: 'it returns false'. Refute it at one input. -/
def hardSumsWrong : ChangeSpec := { name := "hardSums", fn := fun _ => fun
  | [d1, d2] => { results := [.lit (.bool false)], args := [d1, d2] }
  | _ => none }
def HardSumsWrongFalsely : Prop := hardSumsRow.holds Try.pinned (OpenSpec.ofChange hardSumsWrong)

/-- 'tapeworkslaw.HardFrees': WHATEVER THE INPUT: true; the input reads as it did. -/
def hardFreesSpec : ChangeSpec := { name := "hardFrees", fn := fun _ => fun
  | [d1, d2, d3] => { results := [.lit (.bool true)], args := [d1, d2, d3] }
  | _ => none }
def hardFreesRow : OpenClaim := { program := "ytcallckeeohoaaa", sum := "5977cd0bcfcd9a8eda92a0489d16c18d4b07ea3a8df8fa334a8de82c280784a2", func := "tapeworks/tapeworkslaw.HardFrees", spec := "hardFrees", unfollowed := true, recurses := true, apart := false }
def HardFreesSaid : Prop := hardFreesRow.holds Try.pinned (OpenSpec.ofChange hardFreesSpec)

/-- ITS FALSE NEIGHBOUR: 'it returns false'. Refute it at one input. -/
def hardFreesWrong : ChangeSpec := { name := "hardFrees", fn := fun _ => fun
  | [d1, d2, d3] => { results := [.lit (.bool false)], args := [d1, d2, d3] }
  | _ => none }
def HardFreesWrongFalsely : Prop := hardFreesRow.holds Try.pinned (OpenSpec.ofChange hardFreesWrong)

/-- 'tapeworkslaw.HardCovers': WHATEVER THE INPUT: true; the input reads as it did. -/
def hardCoversSpec : ChangeSpec := { name := "hardCovers", fn := fun _ => fun
  | [d1, d2, d3] => { results := [.lit (.bool true)], args := [d1, d2, d3] }
  | _ => none }
def hardCoversRow : OpenClaim := { program := "ytcallckeeohoaaa", sum := "5977cd0bcfcd9a8eda92a0489d16c18d4b07ea3a8df8fa334a8de82c280784a2", func := "tapeworks/tapeworkslaw.HardCovers", spec := "hardCovers", unfollowed := true, recurses := true, apart := false }
def HardCoversSaid : Prop := hardCoversRow.holds Try.pinned (OpenSpec.ofChange hardCoversSpec)

/-- ITS FALSE NEIGHBOUR: 'it returns false'. Refute it at one input. -/
def hardCoversWrong : ChangeSpec := { name := "hardCovers", fn := fun _ => fun
  | [d1, d2, d3] => { results := [.lit (.bool false)], args := [d1, d2, d3] }
  | _ => none }
def HardCoversWrongFalsely : Prop := hardCoversRow.holds Try.pinned (OpenSpec.ofChange hardCoversWrong)

/-- 'tapeworkslaw.HardWeights': WHATEVER THE INPUT: true; the input reads as it did. -/
def hardWeightsSpec : ChangeSpec := { name := "hardWeights", fn := fun _ => fun
  | [d1, d2] => { results := [.lit (.bool true)], args := [d1, d2] }
  | _ => none }
def hardWeightsRow : OpenClaim := { program := "ytcallckeeohoaaa", sum := "5977cd0bcfcd9a8eda92a0489d16c18d4b07ea3a8df8fa334a8de82c280784a2", func := "tapeworks/tapeworkslaw.HardWeights", spec := "hardWeights", unfollowed := true, recurses := true, apart := false }
def HardWeightsSaid : Prop := hardWeightsRow.holds Try.pinned (OpenSpec.ofChange hardWeightsSpec)

/-- ITS FALSE NEIGHBOUR: 'it returns false'. Refute it at one input. -/
def hardWeightsWrong : ChangeSpec := { name := "hardWeights", fn := fun _ => fun
  | [d1, d2] => { results := [.lit (.bool false)], args := [d1, d2] }
  | _ => none }
def HardWeightsWrongFalsely : Prop := hardWeightsRow.holds Try.pinned (OpenSpec.ofChange hardWeightsWrong)

/- THE SECOND FORM. 'bulk': how many values and letters a reading holds, each counted each time it is reached (what is shared counts as often as it is met; a slice's spare places count too). A statement '..UptoSaid' is the law's where the arguments, and the package variables that the reading takes, are together of bulk at most 1048576: NARROWER than '..Said'. Prove '..Said' where nothing that the law and all that it calls make is longer than what came in: it says more and counts as full. Else prove '..UptoSaid'. A law counts once. -/
mutual
def uptoBulk {H : Type} : DataW H → Nat
  | .lit (.string bytes) => bytes.length + 1
  | .lit _ => 1
  | .nil => 1
  | .ptr d => uptoBulk d + 1
  | .slice elems spare => uptoBulkAll elems + uptoBulkAll spare + 1
  | .agg parts => uptoBulkAll parts + 1
  | .iface _ d => uptoBulk d + 1
  | .map entries => uptoBulkEntries entries + 1
  | .held _ => 1
def uptoBulkAll {H : Type} : List (DataW H) → Nat
  | [] => 0
  | d :: r => uptoBulk d + uptoBulkAll r
def uptoBulkEntries {H : Type} : List (Lit × DataW H) → Nat
  | [] => 0
  | x :: r => uptoBulkEntry x + uptoBulkEntries r
def uptoBulkEntry {H : Type} : Lit × DataW H → Nat
  | (.string bytes, d) => bytes.length + uptoBulk d + 1
  | (_, d) => uptoBulk d + 1
 end
def uptoSmall : (H : Type) → List (DataW H) → Bool := fun _ ds => decide (uptoBulkAll ds ≤ 1048576)
def OpenSpec.upto (s : _root_.Go.ChangeSpec) : _root_.Go.OpenSpec := { _root_.Go.OpenSpec.ofChange s with cond := some uptoSmall }

/-- 'tapeworkslaw.NameBuilds', WHERE WHAT IT READS IS OF BULK AT MOST 1048576: true; the input reads as it did. -/
def nameBuildsUptoRow : OpenClaim := { program := "ytcallckeeohoaaa", sum := "5977cd0bcfcd9a8eda92a0489d16c18d4b07ea3a8df8fa334a8de82c280784a2", func := "tapeworks/tapeworkslaw.NameBuilds", spec := "nameBuilds", unfollowed := true, recurses := true, apart := false, narrowed := true }
def NameBuildsUptoSaid : Prop := nameBuildsUptoRow.holds Try.pinned (OpenSpec.upto nameBuildsSpec)

/-- 'tapeworkslaw.AllTrues', WHERE WHAT IT READS IS OF BULK AT MOST 1048576: true; the input reads as it did. -/
def allTruesUptoRow : OpenClaim := { program := "ytcallckeeohoaaa", sum := "5977cd0bcfcd9a8eda92a0489d16c18d4b07ea3a8df8fa334a8de82c280784a2", func := "tapeworks/tapeworkslaw.AllTrues", spec := "allTrues", unfollowed := true, recurses := true, apart := false, narrowed := true }
def AllTruesUptoSaid : Prop := allTruesUptoRow.holds Try.pinned (OpenSpec.upto allTruesSpec)

/-- 'tapeworkslaw.AllPlays', WHERE WHAT IT READS IS OF BULK AT MOST 1048576: true; the input reads as it did. -/
def allPlaysUptoRow : OpenClaim := { program := "ytcallckeeohoaaa", sum := "5977cd0bcfcd9a8eda92a0489d16c18d4b07ea3a8df8fa334a8de82c280784a2", func := "tapeworks/tapeworkslaw.AllPlays", spec := "allPlays", unfollowed := true, recurses := true, apart := false, narrowed := true }
def AllPlaysUptoSaid : Prop := allPlaysUptoRow.holds Try.pinned (OpenSpec.upto allPlaysSpec)

/-- 'tapeworkslaw.AllPlans', WHERE WHAT IT READS IS OF BULK AT MOST 1048576: true; the input reads as it did. -/
def allPlansUptoRow : OpenClaim := { program := "ytcallckeeohoaaa", sum := "5977cd0bcfcd9a8eda92a0489d16c18d4b07ea3a8df8fa334a8de82c280784a2", func := "tapeworks/tapeworkslaw.AllPlans", spec := "allPlans", unfollowed := true, recurses := true, apart := false, narrowed := true }
def AllPlansUptoSaid : Prop := allPlansUptoRow.holds Try.pinned (OpenSpec.upto allPlansSpec)

/-- 'tapeworkslaw.HardSums', WHERE WHAT IT READS IS OF BULK AT MOST 1048576: true; the input reads as it did. -/
def hardSumsUptoRow : OpenClaim := { program := "ytcallckeeohoaaa", sum := "5977cd0bcfcd9a8eda92a0489d16c18d4b07ea3a8df8fa334a8de82c280784a2", func := "tapeworks/tapeworkslaw.HardSums", spec := "hardSums", unfollowed := true, recurses := true, apart := false, narrowed := true }
def HardSumsUptoSaid : Prop := hardSumsUptoRow.holds Try.pinned (OpenSpec.upto hardSumsSpec)

/-- 'tapeworkslaw.HardFrees', WHERE WHAT IT READS IS OF BULK AT MOST 1048576: true; the input reads as it did. -/
def hardFreesUptoRow : OpenClaim := { program := "ytcallckeeohoaaa", sum := "5977cd0bcfcd9a8eda92a0489d16c18d4b07ea3a8df8fa334a8de82c280784a2", func := "tapeworks/tapeworkslaw.HardFrees", spec := "hardFrees", unfollowed := true, recurses := true, apart := false, narrowed := true }
def HardFreesUptoSaid : Prop := hardFreesUptoRow.holds Try.pinned (OpenSpec.upto hardFreesSpec)

/-- 'tapeworkslaw.HardCovers', WHERE WHAT IT READS IS OF BULK AT MOST 1048576: true; the input reads as it did. -/
def hardCoversUptoRow : OpenClaim := { program := "ytcallckeeohoaaa", sum := "5977cd0bcfcd9a8eda92a0489d16c18d4b07ea3a8df8fa334a8de82c280784a2", func := "tapeworks/tapeworkslaw.HardCovers", spec := "hardCovers", unfollowed := true, recurses := true, apart := false, narrowed := true }
def HardCoversUptoSaid : Prop := hardCoversUptoRow.holds Try.pinned (OpenSpec.upto hardCoversSpec)

/-- 'tapeworkslaw.HardWeights', WHERE WHAT IT READS IS OF BULK AT MOST 1048576: true; the input reads as it did. -/
def hardWeightsUptoRow : OpenClaim := { program := "ytcallckeeohoaaa", sum := "5977cd0bcfcd9a8eda92a0489d16c18d4b07ea3a8df8fa334a8de82c280784a2", func := "tapeworks/tapeworkslaw.HardWeights", spec := "hardWeights", unfollowed := true, recurses := true, apart := false, narrowed := true }
def HardWeightsUptoSaid : Prop := hardWeightsUptoRow.holds Try.pinned (OpenSpec.upto hardWeightsSpec)

end Rows
end Go.Proofs.Ytcallckeeohoaaa
