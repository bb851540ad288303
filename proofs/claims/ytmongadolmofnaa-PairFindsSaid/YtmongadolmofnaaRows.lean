/-
  No cell of these rows narrows 'for every input' (looked for: loops, veiled, ifaces, maps, wideKeys, modest, calm, conditions, laid).
  DERIVED. THE GIVEN ROWS OF THIS SEAT. 11 by the template 'for every input the law returns true; each argument reads behind the call as it read before'; 0 by the template 'total and deterministic' (their statements: YtmongadolmofnaaTotals.lean).
  GIVEN WITH THE SEED: the statements are not yours to turn. If you find one false, say at which input.
  Laid BY PROGRAM, IN A SANDBOX (cutbox-rows.mjs): the forced cells as the released guide's own fill.sh prints them over the translation 8b05d17b87c905e7… (all of the seat's roots in one cut). By AI agents, Wed Nov 11 2026. No macro, syntax, notation, axiom, sorry.
-/
import Derived.Test.YtmongadolmofnaaChecked
import GoSem.Claim
import GoSem.ClaimJoined
import GoSem.ClaimMapViews
import Derived.JoinedTies
import Derived.KernelRfl
namespace Go.Proofs.Ytmongadolmofnaa
/- THE CELL 'sum', in the pinned program and in every row, IS THE sha256 OF THE DUMP (.gsa) THAT YtmongadolmofnaaProg.lean LOADS. Nothing in Lean hashes anything: it is a label: what it is worth is what the hold of that sum in a sandbox is worth. -/
noncomputable def Try.pinned : Pinned := { name := "ytmongadolmofnaa", sum := "8b05d17b87c905e778b75d97cbafe7f30e5599b241d4ea31ec7970dfa3bb0fb6", checked := Try.checked }
namespace Rows
def none {H : Type} : Left H := { results := [], args := [] }

/-- 'tapeworkslaw.PairBetas': WHATEVER THE INPUT: true; the input reads as it did. -/
def pairBetasSpec : ChangeSpec := { name := "pairBetas", fn := fun _ => fun
  | [d1, d2, d3] => { results := [.lit (.bool true)], args := [d1, d2, d3] }
  | _ => none }
def pairBetasRow : OpenClaim := { program := "ytmongadolmofnaa", sum := "8b05d17b87c905e778b75d97cbafe7f30e5599b241d4ea31ec7970dfa3bb0fb6", func := "tapeworks/tapeworkslaw.PairBetas", spec := "pairBetas", apart := false }
def PairBetasSaid : Prop := pairBetasRow.holds Try.pinned (OpenSpec.ofChange pairBetasSpec)

/-- ITS FALSE NEIGHBOUR: 'it returns false'. Refute it at one input. -/
def pairBetasWrong : ChangeSpec := { name := "pairBetas", fn := fun _ => fun
  | [d1, d2, d3] => { results := [.lit (.bool false)], args := [d1, d2, d3] }
  | _ => none }
def PairBetasWrongFalsely : Prop := pairBetasRow.holds Try.pinned (OpenSpec.ofChange pairBetasWrong)

/-- 'tapeworkslaw.PairTells': WHATEVER THE INPUT: true; the input reads as it did. -/
def pairTellsSpec : ChangeSpec := { name := "pairTells", fn := fun _ => fun
  | [d1, d2] => { results := [.lit (.bool true)], args := [d1, d2] }
  | _ => none }
def pairTellsRow : OpenClaim := { program := "ytmongadolmofnaa", sum := "8b05d17b87c905e778b75d97cbafe7f30e5599b241d4ea31ec7970dfa3bb0fb6", func := "tapeworks/tapeworkslaw.PairTells", spec := "pairTells", apart := false }
def PairTellsSaid : Prop := pairTellsRow.holds Try.pinned (OpenSpec.ofChange pairTellsSpec)

/-- ITS FALSE NEIGHBOUR: 'it returns false'. Refute it at one input. -/
def pairTellsWrong : ChangeSpec := { name := "pairTells", fn := fun _ => fun
  | [d1, d2] => { results := [.lit (.bool false)], args := [d1, d2] }
  | _ => none }
def PairTellsWrongFalsely : Prop := pairTellsRow.holds Try.pinned (OpenSpec.ofChange pairTellsWrong)

/-- 'tapeworkslaw.PairOpens': WHATEVER THE INPUT: true; the input reads as it did. -/
def pairOpensSpec : ChangeSpec := { name := "pairOpens", fn := fun _ => fun
  | [d] => { results := [.lit (.bool true)], args := [d] }
  | _ => none }
def pairOpensRow : OpenClaim := { program := "ytmongadolmofnaa", sum := "8b05d17b87c905e778b75d97cbafe7f30e5599b241d4ea31ec7970dfa3bb0fb6", func := "tapeworks/tapeworkslaw.PairOpens", spec := "pairOpens", apart := false }
def PairOpensSaid : Prop := pairOpensRow.holds Try.pinned (OpenSpec.ofChange pairOpensSpec)

/-- ITS FALSE NEIGHBOUR: 'it returns false'. Refute it at one input. -/
def pairOpensWrong : ChangeSpec := { name := "pairOpens", fn := fun _ => fun
  | [d] => { results := [.lit (.bool false)], args := [d] }
  | _ => none }
def PairOpensWrongFalsely : Prop := pairOpensRow.holds Try.pinned (OpenSpec.ofChange pairOpensWrong)

/-- 'tapeworkslaw.PairFinds': WHATEVER THE INPUT: true; the input reads as it did. -/
def pairFindsSpec : ChangeSpec := { name := "pairFinds", fn := fun _ => fun
  | [d] => { results := [.lit (.bool true)], args := [d] }
  | _ => none }
def pairFindsRow : OpenClaim := { program := "ytmongadolmofnaa", sum := "8b05d17b87c905e778b75d97cbafe7f30e5599b241d4ea31ec7970dfa3bb0fb6", func := "tapeworks/tapeworkslaw.PairFinds", spec := "pairFinds", apart := false }
def PairFindsSaid : Prop := pairFindsRow.holds Try.pinned (OpenSpec.ofChange pairFindsSpec)

/-- ITS FALSE NEIGHBOUR: 'it returns false'. Refute it at one input. -/
def pairFindsWrong : ChangeSpec := { name := "pairFinds", fn := fun _ => fun
  | [d] => { results := [.lit (.bool false)], args := [d] }
  | _ => none }
def PairFindsWrongFalsely : Prop := pairFindsRow.holds Try.pinned (OpenSpec.ofChange pairFindsWrong)

/-- 'tapeworkslaw.TwoPacks': WHATEVER THE INPUT: true; the input reads as it did. -/
def twoPacksSpec : ChangeSpec := { name := "twoPacks", fn := fun _ => fun
  | [d] => { results := [.lit (.bool true)], args := [d] }
  | _ => none }
def twoPacksRow : OpenClaim := { program := "ytmongadolmofnaa", sum := "8b05d17b87c905e778b75d97cbafe7f30e5599b241d4ea31ec7970dfa3bb0fb6", func := "tapeworks/tapeworkslaw.TwoPacks", spec := "twoPacks", apart := false }
def TwoPacksSaid : Prop := twoPacksRow.holds Try.pinned (OpenSpec.ofChange twoPacksSpec)

/-- ITS FALSE NEIGHBOUR: 'it returns false'. Refute it at one input. -/
def twoPacksWrong : ChangeSpec := { name := "twoPacks", fn := fun _ => fun
  | [d] => { results := [.lit (.bool false)], args := [d] }
  | _ => none }
def TwoPacksWrongFalsely : Prop := twoPacksRow.holds Try.pinned (OpenSpec.ofChange twoPacksWrong)

/-- 'tapeworkslaw.TwoOpens': WHATEVER THE INPUT: true; the input reads as it did. -/
def twoOpensSpec : ChangeSpec := { name := "twoOpens", fn := fun _ => fun
  | [d1, d2] => { results := [.lit (.bool true)], args := [d1, d2] }
  | _ => none }
def twoOpensRow : OpenClaim := { program := "ytmongadolmofnaa", sum := "8b05d17b87c905e778b75d97cbafe7f30e5599b241d4ea31ec7970dfa3bb0fb6", func := "tapeworks/tapeworkslaw.TwoOpens", spec := "twoOpens", apart := false }
def TwoOpensSaid : Prop := twoOpensRow.holds Try.pinned (OpenSpec.ofChange twoOpensSpec)

/-- ITS FALSE NEIGHBOUR: 'it returns false'. Refute it at one input. -/
def twoOpensWrong : ChangeSpec := { name := "twoOpens", fn := fun _ => fun
  | [d1, d2] => { results := [.lit (.bool false)], args := [d1, d2] }
  | _ => none }
def TwoOpensWrongFalsely : Prop := twoOpensRow.holds Try.pinned (OpenSpec.ofChange twoOpensWrong)

/-- 'tapeworkslaw.CountChecks': WHATEVER THE INPUT: true; the input reads as it did. -/
def countChecksSpec : ChangeSpec := { name := "countChecks", fn := fun _ => fun
  | [d1, d2] => { results := [.lit (.bool true)], args := [d1, d2] }
  | _ => none }
def countChecksRow : OpenClaim := { program := "ytmongadolmofnaa", sum := "8b05d17b87c905e778b75d97cbafe7f30e5599b241d4ea31ec7970dfa3bb0fb6", func := "tapeworks/tapeworkslaw.CountChecks", spec := "countChecks", unfollowed := true, recurses := true, apart := false }
def CountChecksSaid : Prop := countChecksRow.holds Try.pinned (OpenSpec.ofChange countChecksSpec)

/-- ITS FALSE NEIGHBOUR: 'it returns false'. Refute it at one input. -/
def countChecksWrong : ChangeSpec := { name := "countChecks", fn := fun _ => fun
  | [d1, d2] => { results := [.lit (.bool false)], args := [d1, d2] }
  | _ => none }
def CountChecksWrongFalsely : Prop := countChecksRow.holds Try.pinned (OpenSpec.ofChange countChecksWrong)

/-- 'tapeworkslaw.CountRuns': WHATEVER THE INPUT: true; the input reads as it did. -/
def countRunsSpec : ChangeSpec := { name := "countRuns", fn := fun _ => fun
  | [d1, d2, d3, d4] => { results := [.lit (.bool true)], args := [d1, d2, d3, d4] }
  | _ => none }
def countRunsRow : OpenClaim := { program := "ytmongadolmofnaa", sum := "8b05d17b87c905e778b75d97cbafe7f30e5599b241d4ea31ec7970dfa3bb0fb6", func := "tapeworks/tapeworkslaw.CountRuns", spec := "countRuns", unfollowed := true, recurses := true, apart := false }
def CountRunsSaid : Prop := countRunsRow.holds Try.pinned (OpenSpec.ofChange countRunsSpec)

/-- ITS FALSE NEIGHBOUR: 'it returns false'. Refute it at one input. -/
def countRunsWrong : ChangeSpec := { name := "countRuns", fn := fun _ => fun
  | [d1, d2, d3, d4] => { results := [.lit (.bool false)], args := [d1, d2, d3, d4] }
  | _ => none }
def CountRunsWrongFalsely : Prop := countRunsRow.holds Try.pinned (OpenSpec.ofChange countRunsWrong)

/-- 'tapeworkslaw.FuncsAcks': WHATEVER THE INPUT: true; the input reads as it did. -/
def funcsAcksSpec : ChangeSpec := { name := "funcsAcks", fn := fun _ => fun
  | [d1, d2] => { results := [.lit (.bool true)], args := [d1, d2] }
  | _ => none }
def funcsAcksRow : OpenClaim := { program := "ytmongadolmofnaa", sum := "8b05d17b87c905e778b75d97cbafe7f30e5599b241d4ea31ec7970dfa3bb0fb6", func := "tapeworks/tapeworkslaw.FuncsAcks", spec := "funcsAcks", recurses := true, apart := false }
def FuncsAcksSaid : Prop := funcsAcksRow.holds Try.pinned (OpenSpec.ofChange funcsAcksSpec)

/-- ITS FALSE NEIGHBOUR: 'it returns false'. Refute it at one input. -/
def funcsAcksWrong : ChangeSpec := { name := "funcsAcks", fn := fun _ => fun
  | [d1, d2] => { results := [.lit (.bool false)], args := [d1, d2] }
  | _ => none }
def FuncsAcksWrongFalsely : Prop := funcsAcksRow.holds Try.pinned (OpenSpec.ofChange funcsAcksWrong)

/-- 'tapeworkslaw.CellSteps': WHATEVER THE INPUT: true; the input reads as it did. -/
def cellStepsSpec : ChangeSpec := { name := "cellSteps", fn := fun _ => fun
  | [d1, d2] => { results := [.lit (.bool true)], args := [d1, d2] }
  | _ => none }
def cellStepsRow : OpenClaim := { program := "ytmongadolmofnaa", sum := "8b05d17b87c905e778b75d97cbafe7f30e5599b241d4ea31ec7970dfa3bb0fb6", func := "tapeworks/tapeworkslaw.CellSteps", spec := "cellSteps", apart := false }
def CellStepsSaid : Prop := cellStepsRow.holds Try.pinned (OpenSpec.ofChange cellStepsSpec)

/-- ITS FALSE NEIGHBOUR: 'it returns false'. Refute it at one input. -/
def cellStepsWrong : ChangeSpec := { name := "cellSteps", fn := fun _ => fun
  | [d1, d2] => { results := [.lit (.bool false)], args := [d1, d2] }
  | _ => none }
def CellStepsWrongFalsely : Prop := cellStepsRow.holds Try.pinned (OpenSpec.ofChange cellStepsWrong)

/-- 'tapeworkslaw.BusyBuilds': WHATEVER THE INPUT: true; the input reads as it did. -/
def busyBuildsSpec : ChangeSpec := { name := "busyBuilds", fn := fun _ => fun
  | [d1, d2] => { results := [.lit (.bool true)], args := [d1, d2] }
  | _ => none }
def busyBuildsRow : OpenClaim := { program := "ytmongadolmofnaa", sum := "8b05d17b87c905e778b75d97cbafe7f30e5599b241d4ea31ec7970dfa3bb0fb6", func := "tapeworks/tapeworkslaw.BusyBuilds", spec := "busyBuilds", apart := false }
def BusyBuildsSaid : Prop := busyBuildsRow.holds Try.pinned (OpenSpec.ofChange busyBuildsSpec)

/-- ITS FALSE NEIGHBOUR: 'it returns false'. Refute it at one input. -/
def busyBuildsWrong : ChangeSpec := { name := "busyBuilds", fn := fun _ => fun
  | [d1, d2] => { results := [.lit (.bool false)], args := [d1, d2] }
  | _ => none }
def BusyBuildsWrongFalsely : Prop := busyBuildsRow.holds Try.pinned (OpenSpec.ofChange busyBuildsWrong)

/- THE SECOND FORM. 'bulk': how many values and letters a reading holds, each counted each time it is reached (what is shared counts as often as it is met; a slice's spare places count too). A statement '..UptoSaid' is the law's where the arguments, and the package variables that the reading takes, are together of bulk at most 1048576: NARROWER than '..Said'. Prove '..Said' where nothing that the law and all that it calls make is longer than what came in: it says more and counts as full. Else prove '..UptoSaid'. A law counts once. -/
mutual
def uptoBulk {H : Type} : DataW H → Nat
  | .lit (.string bytes) => bytes.length + 1
  | .lit _ => 1
  | .nil => 1
  | .ptr d => uptoBulk d + 1
  | .slice elems spare => uptoBulkAll elems + uptoBulkAll spare + 1
  | .agg parts => uptoBulkAll parts + 1
  | .iface _ d => uptoBulk d + 1
  | .map entries => uptoBulkEntries entries + 1
  | .held _ => 1
def uptoBulkAll {H : Type} : List (DataW H) → Nat
  | [] => 0
  | d :: r => uptoBulk d + uptoBulkAll r
def uptoBulkEntries {H : Type} : List (Lit × DataW H) → Nat
  | [] => 0
  | x :: r => uptoBulkEntry x + uptoBulkEntries r
def uptoBulkEntry {H : Type} : Lit × DataW H → Nat
  | (.string bytes, d) => bytes.length + uptoBulk d + 1
  | (_, d) => uptoBulk d + 1
 end
def uptoSmall : (H : Type) → List (DataW H) → Bool := fun _ ds => decide (uptoBulkAll ds ≤ 1048576)
def OpenSpec.upto (s : _root_.Go.ChangeSpec) : _root_.Go.OpenSpec := { _root_.Go.OpenSpec.ofChange s with cond := some uptoSmall }

/-- 'tapeworkslaw.PairBetas', WHERE WHAT IT READS IS OF BULK AT MOST 1048576: true; the input reads as it did. -/
def pairBetasUptoRow : OpenClaim := { program := "ytmongadolmofnaa", sum := "8b05d17b87c905e778b75d97cbafe7f30e5599b241d4ea31ec7970dfa3bb0fb6", func := "tapeworks/tapeworkslaw.PairBetas", spec := "pairBetas", apart := false, narrowed := true }
def PairBetasUptoSaid : Prop := pairBetasUptoRow.holds Try.pinned (OpenSpec.upto pairBetasSpec)

/-- 'tapeworkslaw.PairTells', WHERE WHAT IT READS IS OF BULK AT MOST 1048576: true; the input reads as it did. -/
def pairTellsUptoRow : OpenClaim := { program := "ytmongadolmofnaa", sum := "8b05d17b87c905e778b75d97cbafe7f30e5599b241d4ea31ec7970dfa3bb0fb6", func := "tapeworks/tapeworkslaw.PairTells", spec := "pairTells", apart := false, narrowed := true }
def PairTellsUptoSaid : Prop := pairTellsUptoRow.holds Try.pinned (OpenSpec.upto pairTellsSpec)

/-- 'tapeworkslaw.PairOpens', WHERE WHAT IT READS IS OF BULK AT MOST 1048576: true; the input reads as it did. -/
def pairOpensUptoRow : OpenClaim := { program := "ytmongadolmofnaa", sum := "8b05d17b87c905e778b75d97cbafe7f30e5599b241d4ea31ec7970dfa3bb0fb6", func := "tapeworks/tapeworkslaw.PairOpens", spec := "pairOpens", apart := false, narrowed := true }
def PairOpensUptoSaid : Prop := pairOpensUptoRow.holds Try.pinned (OpenSpec.upto pairOpensSpec)

/-- 'tapeworkslaw.PairFinds', WHERE WHAT IT READS IS OF BULK AT MOST 1048576: true; the input reads as it did. -/
def pairFindsUptoRow : OpenClaim := { program := "ytmongadolmofnaa", sum := "8b05d17b87c905e778b75d97cbafe7f30e5599b241d4ea31ec7970dfa3bb0fb6", func := "tapeworks/tapeworkslaw.PairFinds", spec := "pairFinds", apart := false, narrowed := true }
def PairFindsUptoSaid : Prop := pairFindsUptoRow.holds Try.pinned (OpenSpec.upto pairFindsSpec)

/-- 'tapeworkslaw.TwoPacks', WHERE WHAT IT READS IS OF BULK AT MOST 1048576: true; the input reads as it did. -/
def twoPacksUptoRow : OpenClaim := { program := "ytmongadolmofnaa", sum := "8b05d17b87c905e778b75d97cbafe7f30e5599b241d4ea31ec7970dfa3bb0fb6", func := "tapeworks/tapeworkslaw.TwoPacks", spec := "twoPacks", apart := false, narrowed := true }
def TwoPacksUptoSaid : Prop := twoPacksUptoRow.holds Try.pinned (OpenSpec.upto twoPacksSpec)

/-- 'tapeworkslaw.TwoOpens', WHERE WHAT IT READS IS OF BULK AT MOST 1048576: true; the input reads as it did. -/
def twoOpensUptoRow : OpenClaim := { program := "ytmongadolmofnaa", sum := "8b05d17b87c905e778b75d97cbafe7f30e5599b241d4ea31ec7970dfa3bb0fb6", func := "tapeworks/tapeworkslaw.TwoOpens", spec := "twoOpens", apart := false, narrowed := true }
def TwoOpensUptoSaid : Prop := twoOpensUptoRow.holds Try.pinned (OpenSpec.upto twoOpensSpec)

/-- 'tapeworkslaw.CountChecks', WHERE WHAT IT READS IS OF BULK AT MOST 1048576: true; the input reads as it did. -/
def countChecksUptoRow : OpenClaim := { program := "ytmongadolmofnaa", sum := "8b05d17b87c905e778b75d97cbafe7f30e5599b241d4ea31ec7970dfa3bb0fb6", func := "tapeworks/tapeworkslaw.CountChecks", spec := "countChecks", unfollowed := true, recurses := true, apart := false, narrowed := true }
def CountChecksUptoSaid : Prop := countChecksUptoRow.holds Try.pinned (OpenSpec.upto countChecksSpec)

/-- 'tapeworkslaw.CountRuns', WHERE WHAT IT READS IS OF BULK AT MOST 1048576: true; the input reads as it did. -/
def countRunsUptoRow : OpenClaim := { program := "ytmongadolmofnaa", sum := "8b05d17b87c905e778b75d97cbafe7f30e5599b241d4ea31ec7970dfa3bb0fb6", func := "tapeworks/tapeworkslaw.CountRuns", spec := "countRuns", unfollowed := true, recurses := true, apart := false, narrowed := true }
def CountRunsUptoSaid : Prop := countRunsUptoRow.holds Try.pinned (OpenSpec.upto countRunsSpec)

/-- 'tapeworkslaw.FuncsAcks', WHERE WHAT IT READS IS OF BULK AT MOST 1048576: true; the input reads as it did. -/
def funcsAcksUptoRow : OpenClaim := { program := "ytmongadolmofnaa", sum := "8b05d17b87c905e778b75d97cbafe7f30e5599b241d4ea31ec7970dfa3bb0fb6", func := "tapeworks/tapeworkslaw.FuncsAcks", spec := "funcsAcks", recurses := true, apart := false, narrowed := true }
def FuncsAcksUptoSaid : Prop := funcsAcksUptoRow.holds Try.pinned (OpenSpec.upto funcsAcksSpec)

/-- 'tapeworkslaw.CellSteps', WHERE WHAT IT READS IS OF BULK AT MOST 1048576: true; the input reads as it did. -/
def cellStepsUptoRow : OpenClaim := { program := "ytmongadolmofnaa", sum := "8b05d17b87c905e778b75d97cbafe7f30e5599b241d4ea31ec7970dfa3bb0fb6", func := "tapeworks/tapeworkslaw.CellSteps", spec := "cellSteps", apart := false, narrowed := true }
def CellStepsUptoSaid : Prop := cellStepsUptoRow.holds Try.pinned (OpenSpec.upto cellStepsSpec)

/-- 'tapeworkslaw.BusyBuilds', WHERE WHAT IT READS IS OF BULK AT MOST 1048576: true; the input reads as it did. -/
def busyBuildsUptoRow : OpenClaim := { program := "ytmongadolmofnaa", sum := "8b05d17b87c905e778b75d97cbafe7f30e5599b241d4ea31ec7970dfa3bb0fb6", func := "tapeworks/tapeworkslaw.BusyBuilds", spec := "busyBuilds", apart := false, narrowed := true }
def BusyBuildsUptoSaid : Prop := busyBuildsUptoRow.holds Try.pinned (OpenSpec.upto busyBuildsSpec)

end Rows
end Go.Proofs.Ytmongadolmofnaa
