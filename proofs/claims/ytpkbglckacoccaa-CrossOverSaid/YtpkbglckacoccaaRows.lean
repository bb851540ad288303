/-
  No cell of these rows narrows 'for every input' (looked for: loops, veiled, ifaces, maps, wideKeys, modest, calm, conditions, laid).
  DERIVED. THE GIVEN ROWS OF THIS SEAT. 12 by the template 'for every input the law returns true; each argument reads behind the call as it read before'; 0 by the template 'total and deterministic' (their statements: YtpkbglckacoccaaTotals.lean).
  GIVEN WITH THE SEED: the statements are not yours to turn. If you find one false, say at which input.
  Laid BY PROGRAM, IN A SANDBOX (cutbox-rows.mjs): the forced cells as the released guide's own fill.sh prints them over the translation 75046b5f27ba1763… (all of the seat's roots in one cut). By AI agents, Wed Nov 11 2026. No macro, syntax, notation, axiom, sorry.
-/
import Derived.Test.YtpkbglckacoccaaChecked
import GoSem.Claim
import GoSem.ClaimJoined
import GoSem.ClaimMapViews
import Derived.JoinedTies
import Derived.KernelRfl
namespace Go.Proofs.Ytpkbglckacoccaa
/- THE CELL 'sum', in the pinned program and in every row, IS THE sha256 OF THE DUMP (.gsa) THAT YtpkbglckacoccaaProg.lean LOADS. Nothing in Lean hashes anything: it is a label: what it is worth is what the hold of that sum in a sandbox is worth. -/
noncomputable def Try.pinned : Pinned := { name := "ytpkbglckacoccaa", sum := "75046b5f27ba1763b1d9c814c6be611f2e916c50d303766e4f3cd8247167ca92", checked := Try.checked }
namespace Rows
def none {H : Type} : Left H := { results := [], args := [] }

/-- 'tapeworkslaw.CellManies': WHATEVER THE INPUT: true; the input reads as it did. -/
def cellManiesSpec : ChangeSpec := { name := "cellManies", fn := fun _ => fun
  | [d1, d2] => { results := [.lit (.bool true)], args := [d1, d2] }
  | _ => none }
def cellManiesRow : OpenClaim := { program := "ytpkbglckacoccaa", sum := "75046b5f27ba1763b1d9c814c6be611f2e916c50d303766e4f3cd8247167ca92", func := "tapeworks/tapeworkslaw.CellManies", spec := "cellManies", apart := false }
def CellManiesSaid : Prop := cellManiesRow.holds Try.pinned (OpenSpec.ofChange cellManiesSpec)

/-- ITS FALSE NEIGHBOUR: 'it returns false'. Refute it at one input. -/
def cellManiesWrong : ChangeSpec := { name := "cellManies", fn := fun _ => fun
  | [d1, d2] => { results := [.lit (.bool false)], args := [d1, d2] }
  | _ => none }
def CellManiesWrongFalsely : Prop := cellManiesRow.holds Try.pinned (OpenSpec.ofChange cellManiesWrong)

/-- 'tapeworkslaw.CellSingles': WHATEVER THE INPUT: true; the input reads as it did. -/
def cellSinglesSpec : ChangeSpec := { name := "cellSingles", fn := fun _ => fun
  | [d] => { results := [.lit (.bool true)], args := [d] }
  | _ => none }
def cellSinglesRow : OpenClaim := { program := "ytpkbglckacoccaa", sum := "75046b5f27ba1763b1d9c814c6be611f2e916c50d303766e4f3cd8247167ca92", func := "tapeworks/tapeworkslaw.CellSingles", spec := "cellSingles", unfollowed := true, recurses := true, apart := false }
def CellSinglesSaid : Prop := cellSinglesRow.holds Try.pinned (OpenSpec.ofChange cellSinglesSpec)

/-- ITS FALSE NEIGHBOUR: 'it returns false'. Refute it at one input. -/
def cellSinglesWrong : ChangeSpec := { name := "cellSingles", fn := fun _ => fun
  | [d] => { results := [.lit (.bool false)], args := [d] }
  | _ => none }
def CellSinglesWrongFalsely : Prop := cellSinglesRow.holds Try.pinned (OpenSpec.ofChange cellSinglesWrong)

/-- 'tapeworkslaw.CellOntos': WHATEVER THE INPUT: true; the input reads as it did. -/
def cellOntosSpec : ChangeSpec := { name := "cellOntos", fn := fun _ => fun
  | [d] => { results := [.lit (.bool true)], args := [d] }
  | _ => none }
def cellOntosRow : OpenClaim := { program := "ytpkbglckacoccaa", sum := "75046b5f27ba1763b1d9c814c6be611f2e916c50d303766e4f3cd8247167ca92", func := "tapeworks/tapeworkslaw.CellOntos", spec := "cellOntos", apart := false }
def CellOntosSaid : Prop := cellOntosRow.holds Try.pinned (OpenSpec.ofChange cellOntosSpec)

/-- ITS FALSE NEIGHBOUR: 'it returns false'. Refute it at one input. -/
def cellOntosWrong : ChangeSpec := { name := "cellOntos", fn := fun _ => fun
  | [d] => { results := [.lit (.bool false)], args := [d] }
  | _ => none }
def CellOntosWrongFalsely : Prop := cellOntosRow.holds Try.pinned (OpenSpec.ofChange cellOntosWrong)

/-- 'tapeworkslaw.TapeChecks': WHATEVER THE INPUT: true; the input reads as it did. -/
def tapeChecksSpec : ChangeSpec := { name := "tapeChecks", fn := fun _ => fun
  | [d] => { results := [.lit (.bool true)], args := [d] }
  | _ => none }
def tapeChecksRow : OpenClaim := { program := "ytpkbglckacoccaa", sum := "75046b5f27ba1763b1d9c814c6be611f2e916c50d303766e4f3cd8247167ca92", func := "tapeworks/tapeworkslaw.TapeChecks", spec := "tapeChecks", unfollowed := true, recurses := true, apart := false }
def TapeChecksSaid : Prop := tapeChecksRow.holds Try.pinned (OpenSpec.ofChange tapeChecksSpec)

/-- ITS FALSE NEIGHBOUR: 'it returns false'. Refute it at one input. -/
def tapeChecksWrong : ChangeSpec := { name := "tapeChecks", fn := fun _ => fun
  | [d] => { results := [.lit (.bool false)], args := [d] }
  | _ => none }
def TapeChecksWrongFalsely : Prop := tapeChecksRow.holds Try.pinned (OpenSpec.ofChange tapeChecksWrong)

/-- 'tapeworkslaw.TapeRuns': WHATEVER THE INPUT: true; the input reads as it did. -/
def tapeRunsSpec : ChangeSpec := { name := "tapeRuns", fn := fun _ => fun
  | [d1, d2, d3] => { results := [.lit (.bool true)], args := [d1, d2, d3] }
  | _ => none }
def tapeRunsRow : OpenClaim := { program := "ytpkbglckacoccaa", sum := "75046b5f27ba1763b1d9c814c6be611f2e916c50d303766e4f3cd8247167ca92", func := "tapeworks/tapeworkslaw.TapeRuns", spec := "tapeRuns", unfollowed := true, recurses := true, apart := false }
def TapeRunsSaid : Prop := tapeRunsRow.holds Try.pinned (OpenSpec.ofChange tapeRunsSpec)

/-- ITS FALSE NEIGHBOUR: 'it returns false'. Refute it at one input. -/
def tapeRunsWrong : ChangeSpec := { name := "tapeRuns", fn := fun _ => fun
  | [d1, d2, d3] => { results := [.lit (.bool false)], args := [d1, d2, d3] }
  | _ => none }
def TapeRunsWrongFalsely : Prop := tapeRunsRow.holds Try.pinned (OpenSpec.ofChange tapeRunsWrong)

/-- 'tapeworkslaw.TapeGoes': WHATEVER THE INPUT: true; the input reads as it did. -/
def tapeGoesSpec : ChangeSpec := { name := "tapeGoes", fn := fun _ => fun
  | [d1, d2, d3] => { results := [.lit (.bool true)], args := [d1, d2, d3] }
  | _ => none }
def tapeGoesRow : OpenClaim := { program := "ytpkbglckacoccaa", sum := "75046b5f27ba1763b1d9c814c6be611f2e916c50d303766e4f3cd8247167ca92", func := "tapeworks/tapeworkslaw.TapeGoes", spec := "tapeGoes", unfollowed := true, recurses := true, apart := false }
def TapeGoesSaid : Prop := tapeGoesRow.holds Try.pinned (OpenSpec.ofChange tapeGoesSpec)

/-- ITS FALSE NEIGHBOUR: 'it returns false'. Refute it at one input. -/
def tapeGoesWrong : ChangeSpec := { name := "tapeGoes", fn := fun _ => fun
  | [d1, d2, d3] => { results := [.lit (.bool false)], args := [d1, d2, d3] }
  | _ => none }
def TapeGoesWrongFalsely : Prop := tapeGoesRow.holds Try.pinned (OpenSpec.ofChange tapeGoesWrong)

/-- 'tapeworkslaw.BusyNumbers': WHATEVER THE INPUT: true; the input reads as it did. -/
def busyNumbersSpec : ChangeSpec := { name := "busyNumbers", fn := fun _ => fun
  | [d] => { results := [.lit (.bool true)], args := [d] }
  | _ => none }
def busyNumbersRow : OpenClaim := { program := "ytpkbglckacoccaa", sum := "75046b5f27ba1763b1d9c814c6be611f2e916c50d303766e4f3cd8247167ca92", func := "tapeworks/tapeworkslaw.BusyNumbers", spec := "busyNumbers", unfollowed := true, recurses := true, apart := false }
def BusyNumbersSaid : Prop := busyNumbersRow.holds Try.pinned (OpenSpec.ofChange busyNumbersSpec)

/-- ITS FALSE NEIGHBOUR: 'it returns false'. Refute it at one input. -/
def busyNumbersWrong : ChangeSpec := { name := "busyNumbers", fn := fun _ => fun
  | [d] => { results := [.lit (.bool false)], args := [d] }
  | _ => none }
def BusyNumbersWrongFalsely : Prop := busyNumbersRow.holds Try.pinned (OpenSpec.ofChange busyNumbersWrong)

/-- 'tapeworkslaw.BusyMost': WHATEVER THE INPUT: true; the input reads as it did. -/
def busyMostSpec : ChangeSpec := { name := "busyMost", fn := fun _ => fun
  | [d1, d2] => { results := [.lit (.bool true)], args := [d1, d2] }
  | _ => none }
def busyMostRow : OpenClaim := { program := "ytpkbglckacoccaa", sum := "75046b5f27ba1763b1d9c814c6be611f2e916c50d303766e4f3cd8247167ca92", func := "tapeworks/tapeworkslaw.BusyMost", spec := "busyMost", unfollowed := true, recurses := true, apart := false }
def BusyMostSaid : Prop := busyMostRow.holds Try.pinned (OpenSpec.ofChange busyMostSpec)

/-- ITS FALSE NEIGHBOUR: 'it returns false'. Refute it at one input. -/
def busyMostWrong : ChangeSpec := { name := "busyMost", fn := fun _ => fun
  | [d1, d2] => { results := [.lit (.bool false)], args := [d1, d2] }
  | _ => none }
def BusyMostWrongFalsely : Prop := busyMostRow.holds Try.pinned (OpenSpec.ofChange busyMostWrong)

/-- 'tapeworkslaw.CrossAlls': WHATEVER THE INPUT: true; the input reads as it did. -/
def crossAllsSpec : ChangeSpec := { name := "crossAlls", fn := fun _ => fun
  | [d1, d2, d3] => { results := [.lit (.bool true)], args := [d1, d2, d3] }
  | _ => none }
def crossAllsRow : OpenClaim := { program := "ytpkbglckacoccaa", sum := "75046b5f27ba1763b1d9c814c6be611f2e916c50d303766e4f3cd8247167ca92", func := "tapeworks/tapeworkslaw.CrossAlls", spec := "crossAlls", unfollowed := true, recurses := true, apart := false }
def CrossAllsSaid : Prop := crossAllsRow.holds Try.pinned (OpenSpec.ofChange crossAllsSpec)

/-- ITS FALSE NEIGHBOUR: 'it returns false'. Refute it at one input. -/
def crossAllsWrong : ChangeSpec := { name := "crossAlls", fn := fun _ => fun
  | [d1, d2, d3] => { results := [.lit (.bool false)], args := [d1, d2, d3] }
  | _ => none }
def CrossAllsWrongFalsely : Prop := crossAllsRow.holds Try.pinned (OpenSpec.ofChange crossAllsWrong)

/-- 'tapeworkslaw.CrossOver': WHATEVER THE INPUT: true; the input reads as it did. -/
def crossOverSpec : ChangeSpec := { name := "crossOver", fn := fun _ => fun
  | [d1, d2, d3, d4] => { results := [.lit (.bool true)], args := [d1, d2, d3, d4] }
  | _ => none }
def crossOverRow : OpenClaim := { program := "ytpkbglckacoccaa", sum := "75046b5f27ba1763b1d9c814c6be611f2e916c50d303766e4f3cd8247167ca92", func := "tapeworks/tapeworkslaw.CrossOver", spec := "crossOver", unfollowed := true, recurses := true, apart := false }
def CrossOverSaid : Prop := crossOverRow.holds Try.pinned (OpenSpec.ofChange crossOverSpec)

/-- ITS FALSE NEIGHBOUR: 'it returns false'. Refute it at one input. -/
def crossOverWrong : ChangeSpec := { name := "crossOver", fn := fun _ => fun
  | [d1, d2, d3, d4] => { results := [.lit (.bool false)], args := [d1, d2, d3, d4] }
  | _ => none }
def CrossOverWrongFalsely : Prop := crossOverRow.holds Try.pinned (OpenSpec.ofChange crossOverWrong)

/-- 'tapeworkslaw.TagRuns': WHATEVER THE INPUT: true; the input reads as it did. -/
def tagRunsSpec : ChangeSpec := { name := "tagRuns", fn := fun _ => fun
  | [d1, d2, d3, d4] => { results := [.lit (.bool true)], args := [d1, d2, d3, d4] }
  | _ => none }
def tagRunsRow : OpenClaim := { program := "ytpkbglckacoccaa", sum := "75046b5f27ba1763b1d9c814c6be611f2e916c50d303766e4f3cd8247167ca92", func := "tapeworks/tapeworkslaw.TagRuns", spec := "tagRuns", unfollowed := true, recurses := true, apart := false }
def TagRunsSaid : Prop := tagRunsRow.holds Try.pinned (OpenSpec.ofChange tagRunsSpec)

/-- ITS FALSE NEIGHBOUR: 'it returns false'. Refute it at one input. -/
def tagRunsWrong : ChangeSpec := { name := "tagRuns", fn := fun _ => fun
  | [d1, d2, d3, d4] => { results := [.lit (.bool false)], args := [d1, d2, d3, d4] }
  | _ => none }
def TagRunsWrongFalsely : Prop := tagRunsRow.holds Try.pinned (OpenSpec.ofChange tagRunsWrong)

/-- 'tapeworkslaw.TagRounds': WHATEVER THE INPUT: true; the input reads as it did. -/
def tagRoundsSpec : ChangeSpec := { name := "tagRounds", fn := fun _ => fun
  | [d1, d2, d3] => { results := [.lit (.bool true)], args := [d1, d2, d3] }
  | _ => none }
def tagRoundsRow : OpenClaim := { program := "ytpkbglckacoccaa", sum := "75046b5f27ba1763b1d9c814c6be611f2e916c50d303766e4f3cd8247167ca92", func := "tapeworks/tapeworkslaw.TagRounds", spec := "tagRounds", unfollowed := true, recurses := true, apart := false }
def TagRoundsSaid : Prop := tagRoundsRow.holds Try.pinned (OpenSpec.ofChange tagRoundsSpec)

/-- ITS FALSE NEIGHBOUR: 'it returns false'. Refute it at one input. -/
def tagRoundsWrong : ChangeSpec := { name := "tagRounds", fn := fun _ => fun
  | [d1, d2, d3] => { results := [.lit (.bool false)], args := [d1, d2, d3] }
  | _ => none }
def TagRoundsWrongFalsely : Prop := tagRoundsRow.holds Try.pinned (OpenSpec.ofChange tagRoundsWrong)

/- THE SECOND FORM. 'bulk': how many values and letters a reading holds, each counted each time it is reached (what is shared counts as often as it is met; a slice's spare places count too). A statement '..UptoSaid' is the law's where the arguments, and the package variables that the reading takes, are together of bulk at most 1048576: NARROWER than '..Said'. Prove '..Said' where nothing that the law and all that it calls make is longer than what came in: it says more and counts as full. Else prove '..UptoSaid'. A law counts once. -/
mutual
def uptoBulk {H : Type} : DataW H → Nat
  | .lit (.string bytes) => bytes.length + 1
  | .lit _ => 1
  | .nil => 1
  | .ptr d => uptoBulk d + 1
  | .slice elems spare => uptoBulkAll elems + uptoBulkAll spare + 1
  | .agg parts => uptoBulkAll parts + 1
  | .iface _ d => uptoBulk d + 1
  | .map entries => uptoBulkEntries entries + 1
  | .held _ => 1
def uptoBulkAll {H : Type} : List (DataW H) → Nat
  | [] => 0
  | d :: r => uptoBulk d + uptoBulkAll r
def uptoBulkEntries {H : Type} : List (Lit × DataW H) → Nat
  | [] => 0
  | x :: r => uptoBulkEntry x + uptoBulkEntries r
def uptoBulkEntry {H : Type} : Lit × DataW H → Nat
  | (.string bytes, d) => bytes.length + uptoBulk d + 1
  | (_, d) => uptoBulk d + 1
 end
def uptoSmall : (H : Type) → List (DataW H) → Bool := fun _ ds => decide (uptoBulkAll ds ≤ 1048576)
def OpenSpec.upto (s : _root_.Go.ChangeSpec) : _root_.Go.OpenSpec := { _root_.Go.OpenSpec.ofChange s with cond := some uptoSmall }

/-- 'tapeworkslaw.CellManies', WHERE WHAT IT READS IS OF BULK AT MOST 1048576: true; the input reads as it did. -/
def cellManiesUptoRow : OpenClaim := { program := "ytpkbglckacoccaa", sum := "75046b5f27ba1763b1d9c814c6be611f2e916c50d303766e4f3cd8247167ca92", func := "tapeworks/tapeworkslaw.CellManies", spec := "cellManies", apart := false, narrowed := true }
def CellManiesUptoSaid : Prop := cellManiesUptoRow.holds Try.pinned (OpenSpec.upto cellManiesSpec)

/-- 'tapeworkslaw.CellSingles', WHERE WHAT IT READS IS OF BULK AT MOST 1048576: true; the input reads as it did. -/
def cellSinglesUptoRow : OpenClaim := { program := "ytpkbglckacoccaa", sum := "75046b5f27ba1763b1d9c814c6be611f2e916c50d303766e4f3cd8247167ca92", func := "tapeworks/tapeworkslaw.CellSingles", spec := "cellSingles", unfollowed := true, recurses := true, apart := false, narrowed := true }
def CellSinglesUptoSaid : Prop := cellSinglesUptoRow.holds Try.pinned (OpenSpec.upto cellSinglesSpec)

/-- 'tapeworkslaw.CellOntos', WHERE WHAT IT READS IS OF BULK AT MOST 1048576: true; the input reads as it did. -/
def cellOntosUptoRow : OpenClaim := { program := "ytpkbglckacoccaa", sum := "75046b5f27ba1763b1d9c814c6be611f2e916c50d303766e4f3cd8247167ca92", func := "tapeworks/tapeworkslaw.CellOntos", spec := "cellOntos", apart := false, narrowed := true }
def CellOntosUptoSaid : Prop := cellOntosUptoRow.holds Try.pinned (OpenSpec.upto cellOntosSpec)

/-- 'tapeworkslaw.TapeChecks', WHERE WHAT IT READS IS OF BULK AT MOST 1048576: true; the input reads as it did. -/
def tapeChecksUptoRow : OpenClaim := { program := "ytpkbglckacoccaa", sum := "75046b5f27ba1763b1d9c814c6be611f2e916c50d303766e4f3cd8247167ca92", func := "tapeworks/tapeworkslaw.TapeChecks", spec := "tapeChecks", unfollowed := true, recurses := true, apart := false, narrowed := true }
def TapeChecksUptoSaid : Prop := tapeChecksUptoRow.holds Try.pinned (OpenSpec.upto tapeChecksSpec)

/-- 'tapeworkslaw.TapeRuns', WHERE WHAT IT READS IS OF BULK AT MOST 1048576: true; the input reads as it did. -/
def tapeRunsUptoRow : OpenClaim := { program := "ytpkbglckacoccaa", sum := "75046b5f27ba1763b1d9c814c6be611f2e916c50d303766e4f3cd8247167ca92", func := "tapeworks/tapeworkslaw.TapeRuns", spec := "tapeRuns", unfollowed := true, recurses := true, apart := false, narrowed := true }
def TapeRunsUptoSaid : Prop := tapeRunsUptoRow.holds Try.pinned (OpenSpec.upto tapeRunsSpec)

/-- 'tapeworkslaw.TapeGoes', WHERE WHAT IT READS IS OF BULK AT MOST 1048576: true; the input reads as it did. -/
def tapeGoesUptoRow : OpenClaim := { program := "ytpkbglckacoccaa", sum := "75046b5f27ba1763b1d9c814c6be611f2e916c50d303766e4f3cd8247167ca92", func := "tapeworks/tapeworkslaw.TapeGoes", spec := "tapeGoes", unfollowed := true, recurses := true, apart := false, narrowed := true }
def TapeGoesUptoSaid : Prop := tapeGoesUptoRow.holds Try.pinned (OpenSpec.upto tapeGoesSpec)

/-- 'tapeworkslaw.BusyNumbers', WHERE WHAT IT READS IS OF BULK AT MOST 1048576: true; the input reads as it did. -/
def busyNumbersUptoRow : OpenClaim := { program := "ytpkbglckacoccaa", sum := "75046b5f27ba1763b1d9c814c6be611f2e916c50d303766e4f3cd8247167ca92", func := "tapeworks/tapeworkslaw.BusyNumbers", spec := "busyNumbers", unfollowed := true, recurses := true, apart := false, narrowed := true }
def BusyNumbersUptoSaid : Prop := busyNumbersUptoRow.holds Try.pinned (OpenSpec.upto busyNumbersSpec)

/-- 'tapeworkslaw.BusyMost', WHERE WHAT IT READS IS OF BULK AT MOST 1048576: true; the input reads as it did. -/
def busyMostUptoRow : OpenClaim := { program := "ytpkbglckacoccaa", sum := "75046b5f27ba1763b1d9c814c6be611f2e916c50d303766e4f3cd8247167ca92", func := "tapeworks/tapeworkslaw.BusyMost", spec := "busyMost", unfollowed := true, recurses := true, apart := false, narrowed := true }
def BusyMostUptoSaid : Prop := busyMostUptoRow.holds Try.pinned (OpenSpec.upto busyMostSpec)

/-- 'tapeworkslaw.CrossAlls', WHERE WHAT IT READS IS OF BULK AT MOST 1048576: true; the input reads as it did. -/
def crossAllsUptoRow : OpenClaim := { program := "ytpkbglckacoccaa", sum := "75046b5f27ba1763b1d9c814c6be611f2e916c50d303766e4f3cd8247167ca92", func := "tapeworks/tapeworkslaw.CrossAlls", spec := "crossAlls", unfollowed := true, recurses := true, apart := false, narrowed := true }
def CrossAllsUptoSaid : Prop := crossAllsUptoRow.holds Try.pinned (OpenSpec.upto crossAllsSpec)

/-- 'tapeworkslaw.CrossOver', WHERE WHAT IT READS IS OF BULK AT MOST 1048576: true; the input reads as it did. -/
def crossOverUptoRow : OpenClaim := { program := "ytpkbglckacoccaa", sum := "75046b5f27ba1763b1d9c814c6be611f2e916c50d303766e4f3cd8247167ca92", func := "tapeworks/tapeworkslaw.CrossOver", spec := "crossOver", unfollowed := true, recurses := true, apart := false, narrowed := true }
def CrossOverUptoSaid : Prop := crossOverUptoRow.holds Try.pinned (OpenSpec.upto crossOverSpec)

/-- 'tapeworkslaw.TagRuns', WHERE WHAT IT READS IS OF BULK AT MOST 1048576: true; the input reads as it did. -/
def tagRunsUptoRow : OpenClaim := { program := "ytpkbglckacoccaa", sum := "75046b5f27ba1763b1d9c814c6be611f2e916c50d303766e4f3cd8247167ca92", func := "tapeworks/tapeworkslaw.TagRuns", spec := "tagRuns", unfollowed := true, recurses := true, apart := false, narrowed := true }
def TagRunsUptoSaid : Prop := tagRunsUptoRow.holds Try.pinned (OpenSpec.upto tagRunsSpec)

/-- 'tapeworkslaw.TagRounds', WHERE WHAT IT READS IS OF BULK AT MOST 1048576: true; the input reads as it did. -/
def tagRoundsUptoRow : OpenClaim := { program := "ytpkbglckacoccaa", sum := "75046b5f27ba1763b1d9c814c6be611f2e916c50d303766e4f3cd8247167ca92", func := "tapeworks/tapeworkslaw.TagRounds", spec := "tagRounds", unfollowed := true, recurses := true, apart := false, narrowed := true }
def TagRoundsUptoSaid : Prop := tagRoundsUptoRow.holds Try.pinned (OpenSpec.upto tagRoundsSpec)

end Rows
end Go.Proofs.Ytpkbglckacoccaa
