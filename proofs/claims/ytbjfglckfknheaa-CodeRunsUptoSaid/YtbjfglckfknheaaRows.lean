/-
  No cell of these rows narrows 'for every input' (looked for: loops, veiled, ifaces, maps, wideKeys, modest, calm, conditions, laid).
  DERIVED. THE GIVEN ROWS OF THIS SEAT. 9 by the template 'for every input the law returns true; each argument reads behind the call as it read before'; 0 by the template 'total and deterministic' (their statements: YtbjfglckfknheaaTotals.lean).
  GIVEN WITH THE SEED: the statements are not yours to turn. If you find one false, say at which input.
  Laid BY PROGRAM, IN A SANDBOX (cutbox-rows.mjs): the forced cells as the released guide's own fill.sh prints them over the translation 3ced44cbbd263594… (all of the seat's roots in one cut). By AI agents, Wed Nov 11 2026. No macro, syntax, notation, axiom, sorry.
-/
import Derived.Test.YtbjfglckfknheaaChecked
import GoSem.Claim
import GoSem.ClaimJoined
import GoSem.ClaimMapViews
import Derived.JoinedTies
import Derived.KernelRfl
namespace Go.Proofs.Ytbjfglckfknheaa
/- THE CELL 'sum', in the pinned program and in every row, IS THE sha256 OF THE DUMP (.gsa) THAT YtbjfglckfknheaaProg.lean LOADS. Nothing in Lean hashes anything: it is a label: what it is worth is what the hold of that sum in a sandbox is worth. -/
noncomputable def Try.pinned : Pinned := { name := "ytbjfglckfknheaa", sum := "3ced44cbbd26359423c70dcc3d8c83777f89c340c2a0304bbf667d44f2eb8ef8", checked := Try.checked }
namespace Rows
def none {H : Type} : Left H := { results := [], args := [] }

/-- 'tapeworkslaw.CodeOrders': WHATEVER THE INPUT: true; the input reads as it did. -/
def codeOrdersSpec : ChangeSpec := { name := "codeOrders", fn := fun _ => fun
  | [d1, d2] => { results := [.lit (.bool true)], args := [d1, d2] }
  | _ => none }
def codeOrdersRow : OpenClaim := { program := "ytbjfglckfknheaa", sum := "3ced44cbbd26359423c70dcc3d8c83777f89c340c2a0304bbf667d44f2eb8ef8", func := "tapeworks/tapeworkslaw.CodeOrders", spec := "codeOrders", unfollowed := true, recurses := true, apart := false }
def CodeOrdersSaid : Prop := codeOrdersRow.holds Try.pinned (OpenSpec.ofChange codeOrdersSpec)

/-- ITS FALSE NEIGHBOUR: 'it returns false'. Refute it at one input. -/
def codeOrdersWrong : ChangeSpec := { name := "codeOrders", fn := fun _ => fun
  | [d1, d2] => { results := [.lit (.bool false)], args := [d1, d2] }
  | _ => none }
def CodeOrdersWrongFalsely : Prop := codeOrdersRow.holds Try.pinned (OpenSpec.ofChange codeOrdersWrong)

/-- 'tapeworkslaw.CodeRuns': WHATEVER THE INPUT: true; the input reads as it did. -/
def codeRunsSpec : ChangeSpec := { name := "codeRuns", fn := fun _ => fun
  | [d1, d2, d3, d4] => { results := [.lit (.bool true)], args := [d1, d2, d3, d4] }
  | _ => none }
def codeRunsRow : OpenClaim := { program := "ytbjfglckfknheaa", sum := "3ced44cbbd26359423c70dcc3d8c83777f89c340c2a0304bbf667d44f2eb8ef8", func := "tapeworks/tapeworkslaw.CodeRuns", spec := "codeRuns", unfollowed := true, recurses := true, apart := false }
def CodeRunsSaid : Prop := codeRunsRow.holds Try.pinned (OpenSpec.ofChange codeRunsSpec)

/-- ITS FALSE NEIGHBOUR: 'it returns false'. Refute it at one input. -/
def codeRunsWrong : ChangeSpec := { name := "codeRuns", fn := fun _ => fun
  | [d1, d2, d3, d4] => { results := [.lit (.bool false)], args := [d1, d2, d3, d4] }
  | _ => none }
def CodeRunsWrongFalsely : Prop := codeRunsRow.holds Try.pinned (OpenSpec.ofChange codeRunsWrong)

/-- 'tapeworkslaw.CodeGivens': WHATEVER THE INPUT: true; the input reads as it did. -/
def codeGivensSpec : ChangeSpec := { name := "codeGivens", fn := fun _ => fun
  | [d1, d2, d3, d4] => { results := [.lit (.bool true)], args := [d1, d2, d3, d4] }
  | _ => none }
def codeGivensRow : OpenClaim := { program := "ytbjfglckfknheaa", sum := "3ced44cbbd26359423c70dcc3d8c83777f89c340c2a0304bbf667d44f2eb8ef8", func := "tapeworks/tapeworkslaw.CodeGivens", spec := "codeGivens", unfollowed := true, recurses := true, apart := false }
def CodeGivensSaid : Prop := codeGivensRow.holds Try.pinned (OpenSpec.ofChange codeGivensSpec)

/-- ITS FALSE NEIGHBOUR: 'it returns false'. Refute it at one input. -/
def codeGivensWrong : ChangeSpec := { name := "codeGivens", fn := fun _ => fun
  | [d1, d2, d3, d4] => { results := [.lit (.bool false)], args := [d1, d2, d3, d4] }
  | _ => none }
def CodeGivensWrongFalsely : Prop := codeGivensRow.holds Try.pinned (OpenSpec.ofChange codeGivensWrong)

/-- 'tapeworkslaw.CodeBoths': WHATEVER THE INPUT: true; the input reads as it did. -/
def codeBothsSpec : ChangeSpec := { name := "codeBoths", fn := fun _ => fun
  | [d1, d2, d3, d4] => { results := [.lit (.bool true)], args := [d1, d2, d3, d4] }
  | _ => none }
def codeBothsRow : OpenClaim := { program := "ytbjfglckfknheaa", sum := "3ced44cbbd26359423c70dcc3d8c83777f89c340c2a0304bbf667d44f2eb8ef8", func := "tapeworks/tapeworkslaw.CodeBoths", spec := "codeBoths", unfollowed := true, recurses := true, apart := false }
def CodeBothsSaid : Prop := codeBothsRow.holds Try.pinned (OpenSpec.ofChange codeBothsSpec)

/-- ITS FALSE NEIGHBOUR: 'it returns false'. Refute it at one input. -/
def codeBothsWrong : ChangeSpec := { name := "codeBoths", fn := fun _ => fun
  | [d1, d2, d3, d4] => { results := [.lit (.bool false)], args := [d1, d2, d3, d4] }
  | _ => none }
def CodeBothsWrongFalsely : Prop := codeBothsRow.holds Try.pinned (OpenSpec.ofChange codeBothsWrong)

/-- 'tapeworkslaw.TwoBuilds': WHATEVER THE INPUT: true; the input reads as it did. -/
def twoBuildsSpec : ChangeSpec := { name := "twoBuilds", fn := fun _ => fun
  | [d1, d2, d3, d4] => { results := [.lit (.bool true)], args := [d1, d2, d3, d4] }
  | _ => none }
def twoBuildsRow : OpenClaim := { program := "ytbjfglckfknheaa", sum := "3ced44cbbd26359423c70dcc3d8c83777f89c340c2a0304bbf667d44f2eb8ef8", func := "tapeworks/tapeworkslaw.TwoBuilds", spec := "twoBuilds", unfollowed := true, recurses := true, apart := false }
def TwoBuildsSaid : Prop := twoBuildsRow.holds Try.pinned (OpenSpec.ofChange twoBuildsSpec)

/-- ITS FALSE NEIGHBOUR: 'it returns false'. Refute it at one input. -/
def twoBuildsWrong : ChangeSpec := { name := "twoBuilds", fn := fun _ => fun
  | [d1, d2, d3, d4] => { results := [.lit (.bool false)], args := [d1, d2, d3, d4] }
  | _ => none }
def TwoBuildsWrongFalsely : Prop := twoBuildsRow.holds Try.pinned (OpenSpec.ofChange twoBuildsWrong)

/-- 'tapeworkstop.TopTwo': WHATEVER THE INPUT: true; the input reads as it did. -/
def topTwoSpec : ChangeSpec := { name := "topTwo", fn := fun _ => fun
  | [d1, d2] => { results := [.lit (.bool true)], args := [d1, d2] }
  | _ => none }
def topTwoRow : OpenClaim := { program := "ytbjfglckfknheaa", sum := "3ced44cbbd26359423c70dcc3d8c83777f89c340c2a0304bbf667d44f2eb8ef8", func := "tapeworks/tapeworkstop.TopTwo", spec := "topTwo", unfollowed := true, recurses := true, apart := false }
def TopTwoSaid : Prop := topTwoRow.holds Try.pinned (OpenSpec.ofChange topTwoSpec)

/-- ITS FALSE NEIGHBOUR: 'it returns false'. Refute it at one input. -/
def topTwoWrong : ChangeSpec := { name := "topTwo", fn := fun _ => fun
  | [d1, d2] => { results := [.lit (.bool false)], args := [d1, d2] }
  | _ => none }
def TopTwoWrongFalsely : Prop := topTwoRow.holds Try.pinned (OpenSpec.ofChange topTwoWrong)

/-- 'tapeworkslaw.FuncsChecks': WHATEVER THE INPUT: true; the input reads as it did. -/
def funcsChecksSpec : ChangeSpec := { name := "funcsChecks", fn := fun _ => fun
  | [d] => { results := [.lit (.bool true)], args := [d] }
  | _ => none }
def funcsChecksRow : OpenClaim := { program := "ytbjfglckfknheaa", sum := "3ced44cbbd26359423c70dcc3d8c83777f89c340c2a0304bbf667d44f2eb8ef8", func := "tapeworks/tapeworkslaw.FuncsChecks", spec := "funcsChecks", unfollowed := true, recurses := true, apart := false }
def FuncsChecksSaid : Prop := funcsChecksRow.holds Try.pinned (OpenSpec.ofChange funcsChecksSpec)

/-- ITS FALSE NEIGHBOUR: 'it returns false'. Refute it at one input. -/
def funcsChecksWrong : ChangeSpec := { name := "funcsChecks", fn := fun _ => fun
  | [d] => { results := [.lit (.bool false)], args := [d] }
  | _ => none }
def FuncsChecksWrongFalsely : Prop := funcsChecksRow.holds Try.pinned (OpenSpec.ofChange funcsChecksWrong)

/-- 'tapeworkslaw.FuncsRanks': WHATEVER THE INPUT: true; the input reads as it did. -/
def funcsRanksSpec : ChangeSpec := { name := "funcsRanks", fn := fun _ => fun
  | [d] => { results := [.lit (.bool true)], args := [d] }
  | _ => none }
def funcsRanksRow : OpenClaim := { program := "ytbjfglckfknheaa", sum := "3ced44cbbd26359423c70dcc3d8c83777f89c340c2a0304bbf667d44f2eb8ef8", func := "tapeworks/tapeworkslaw.FuncsRanks", spec := "funcsRanks", unfollowed := true, recurses := true, apart := false }
def FuncsRanksSaid : Prop := funcsRanksRow.holds Try.pinned (OpenSpec.ofChange funcsRanksSpec)

/-- ITS FALSE NEIGHBOUR: 'it returns false'. Refute it at one input. -/
def funcsRanksWrong : ChangeSpec := { name := "funcsRanks", fn := fun _ => fun
  | [d] => { results := [.lit (.bool false)], args := [d] }
  | _ => none }
def FuncsRanksWrongFalsely : Prop := funcsRanksRow.holds Try.pinned (OpenSpec.ofChange funcsRanksWrong)

/-- 'tapeworkslaw.FuncsValues': WHATEVER THE INPUT: true; the input reads as it did. -/
def funcsValuesSpec : ChangeSpec := { name := "funcsValues", fn := fun _ => fun
  | [d1, d2] => { results := [.lit (.bool true)], args := [d1, d2] }
  | _ => none }
def funcsValuesRow : OpenClaim := { program := "ytbjfglckfknheaa", sum := "3ced44cbbd26359423c70dcc3d8c83777f89c340c2a0304bbf667d44f2eb8ef8", func := "tapeworks/tapeworkslaw.FuncsValues", spec := "funcsValues", unfollowed := true, recurses := true, apart := false }
def FuncsValuesSaid : Prop := funcsValuesRow.holds Try.pinned (OpenSpec.ofChange funcsValuesSpec)

/-- ITS FALSE NEIGHBOUR: 'it returns false'. Refute it at one input. -/
def funcsValuesWrong : ChangeSpec := { name := "funcsValues", fn := fun _ => fun
  | [d1, d2] => { results := [.lit (.bool false)], args := [d1, d2] }
  | _ => none }
def FuncsValuesWrongFalsely : Prop := funcsValuesRow.holds Try.pinned (OpenSpec.ofChange funcsValuesWrong)

/- THE SECOND FORM. 'bulk': how many values and letters a reading holds, each counted each time it is reached (what is shared counts as often as it is met; a slice's spare places count too). A statement '..UptoSaid' is the law's where the arguments, and the package variables that the reading takes, are together of bulk at most 1048576: NARROWER than '..Said'. Prove '..Said' where nothing that the law and all that it calls make is longer than what came in: it says more and counts as full. Else prove '..UptoSaid'. A law counts once. -/
mutual
def uptoBulk {H : Type} : DataW H → Nat
  | .lit (.string bytes) => bytes.length + 1
  | .lit _ => 1
  | .nil => 1
  | .ptr d => uptoBulk d + 1
  | .slice elems spare => uptoBulkAll elems + uptoBulkAll spare + 1
  | .agg parts => uptoBulkAll parts + 1
  | .iface _ d => uptoBulk d + 1
  | .map entries => uptoBulkEntries entries + 1
  | .held _ => 1
def uptoBulkAll {H : Type} : List (DataW H) → Nat
  | [] => 0
  | d :: r => uptoBulk d + uptoBulkAll r
def uptoBulkEntries {H : Type} : List (Lit × DataW H) → Nat
  | [] => 0
  | x :: r => uptoBulkEntry x + uptoBulkEntries r
def uptoBulkEntry {H : Type} : Lit × DataW H → Nat
  | (.string bytes, d) => bytes.length + uptoBulk d + 1
  | (_, d) => uptoBulk d + 1
 end
def uptoSmall : (H : Type) → List (DataW H) → Bool := fun _ ds => decide (uptoBulkAll ds ≤ 1048576)
def OpenSpec.upto (s : _root_.Go.ChangeSpec) : _root_.Go.OpenSpec := { _root_.Go.OpenSpec.ofChange s with cond := some uptoSmall }

/-- 'tapeworkslaw.CodeOrders', WHERE WHAT IT READS IS OF BULK AT MOST 1048576: true; the input reads as it did. -/
def codeOrdersUptoRow : OpenClaim := { program := "ytbjfglckfknheaa", sum := "3ced44cbbd26359423c70dcc3d8c83777f89c340c2a0304bbf667d44f2eb8ef8", func := "tapeworks/tapeworkslaw.CodeOrders", spec := "codeOrders", unfollowed := true, recurses := true, apart := false, narrowed := true }
def CodeOrdersUptoSaid : Prop := codeOrdersUptoRow.holds Try.pinned (OpenSpec.upto codeOrdersSpec)

/-- 'tapeworkslaw.CodeRuns', WHERE WHAT IT READS IS OF BULK AT MOST 1048576: true; the input reads as it did. -/
def codeRunsUptoRow : OpenClaim := { program := "ytbjfglckfknheaa", sum := "3ced44cbbd26359423c70dcc3d8c83777f89c340c2a0304bbf667d44f2eb8ef8", func := "tapeworks/tapeworkslaw.CodeRuns", spec := "codeRuns", unfollowed := true, recurses := true, apart := false, narrowed := true }
def CodeRunsUptoSaid : Prop := codeRunsUptoRow.holds Try.pinned (OpenSpec.upto codeRunsSpec)

/-- 'tapeworkslaw.CodeGivens', WHERE WHAT IT READS IS OF BULK AT MOST 1048576: true; the input reads as it did. -/
def codeGivensUptoRow : OpenClaim := { program := "ytbjfglckfknheaa", sum := "3ced44cbbd26359423c70dcc3d8c83777f89c340c2a0304bbf667d44f2eb8ef8", func := "tapeworks/tapeworkslaw.CodeGivens", spec := "codeGivens", unfollowed := true, recurses := true, apart := false, narrowed := true }
def CodeGivensUptoSaid : Prop := codeGivensUptoRow.holds Try.pinned (OpenSpec.upto codeGivensSpec)

/-- 'tapeworkslaw.CodeBoths', WHERE WHAT IT READS IS OF BULK AT MOST 1048576: true; the input reads as it did. -/
def codeBothsUptoRow : OpenClaim := { program := "ytbjfglckfknheaa", sum := "3ced44cbbd26359423c70dcc3d8c83777f89c340c2a0304bbf667d44f2eb8ef8", func := "tapeworks/tapeworkslaw.CodeBoths", spec := "codeBoths", unfollowed := true, recurses := true, apart := false, narrowed := true }
def CodeBothsUptoSaid : Prop := codeBothsUptoRow.holds Try.pinned (OpenSpec.upto codeBothsSpec)

/-- 'tapeworkslaw.TwoBuilds', WHERE WHAT IT READS IS OF BULK AT MOST 1048576: true; the input reads as it did. -/
def twoBuildsUptoRow : OpenClaim := { program := "ytbjfglckfknheaa", sum := "3ced44cbbd26359423c70dcc3d8c83777f89c340c2a0304bbf667d44f2eb8ef8", func := "tapeworks/tapeworkslaw.TwoBuilds", spec := "twoBuilds", unfollowed := true, recurses := true, apart := false, narrowed := true }
def TwoBuildsUptoSaid : Prop := twoBuildsUptoRow.holds Try.pinned (OpenSpec.upto twoBuildsSpec)

/-- 'tapeworkstop.TopTwo', WHERE WHAT IT READS IS OF BULK AT MOST 1048576: true; the input reads as it did. -/
def topTwoUptoRow : OpenClaim := { program := "ytbjfglckfknheaa", sum := "3ced44cbbd26359423c70dcc3d8c83777f89c340c2a0304bbf667d44f2eb8ef8", func := "tapeworks/tapeworkstop.TopTwo", spec := "topTwo", unfollowed := true, recurses := true, apart := false, narrowed := true }
def TopTwoUptoSaid : Prop := topTwoUptoRow.holds Try.pinned (OpenSpec.upto topTwoSpec)

/-- 'tapeworkslaw.FuncsChecks', WHERE WHAT IT READS IS OF BULK AT MOST 1048576: true; the input reads as it did. -/
def funcsChecksUptoRow : OpenClaim := { program := "ytbjfglckfknheaa", sum := "3ced44cbbd26359423c70dcc3d8c83777f89c340c2a0304bbf667d44f2eb8ef8", func := "tapeworks/tapeworkslaw.FuncsChecks", spec := "funcsChecks", unfollowed := true, recurses := true, apart := false, narrowed := true }
def FuncsChecksUptoSaid : Prop := funcsChecksUptoRow.holds Try.pinned (OpenSpec.upto funcsChecksSpec)

/-- 'tapeworkslaw.FuncsRanks', WHERE WHAT IT READS IS OF BULK AT MOST 1048576: true; the input reads as it did. -/
def funcsRanksUptoRow : OpenClaim := { program := "ytbjfglckfknheaa", sum := "3ced44cbbd26359423c70dcc3d8c83777f89c340c2a0304bbf667d44f2eb8ef8", func := "tapeworks/tapeworkslaw.FuncsRanks", spec := "funcsRanks", unfollowed := true, recurses := true, apart := false, narrowed := true }
def FuncsRanksUptoSaid : Prop := funcsRanksUptoRow.holds Try.pinned (OpenSpec.upto funcsRanksSpec)

/-- 'tapeworkslaw.FuncsValues', WHERE WHAT IT READS IS OF BULK AT MOST 1048576: true; the input reads as it did. -/
def funcsValuesUptoRow : OpenClaim := { program := "ytbjfglckfknheaa", sum := "3ced44cbbd26359423c70dcc3d8c83777f89c340c2a0304bbf667d44f2eb8ef8", func := "tapeworks/tapeworkslaw.FuncsValues", spec := "funcsValues", unfollowed := true, recurses := true, apart := false, narrowed := true }
def FuncsValuesUptoSaid : Prop := funcsValuesUptoRow.holds Try.pinned (OpenSpec.upto funcsValuesSpec)

end Rows
end Go.Proofs.Ytbjfglckfknheaa
