/-
  No cell of these rows narrows 'for every input' (looked for: loops, veiled, ifaces, maps, wideKeys, modest, calm, conditions, laid).
  DERIVED. THE GIVEN ROWS OF THIS SEAT. 6 by the template 'for every input the law returns true; each argument reads behind the call as it read before'; 0 by the template 'total and deterministic' (their statements: YthjdegeajfhakaaTotals.lean).
  GIVEN WITH THE SEED: the statements are not yours to turn. If you find one false, say at which input.
  Laid BY PROGRAM, IN A SANDBOX (cutbox-rows.mjs): the forced cells as the released guide's own fill.sh prints them over the translation 9bfb3da2c85683f9… (all of the seat's roots in one cut). By AI agents, Wed Nov 11 2026. No macro, syntax, notation, axiom, sorry.
-/
import Derived.Test.YthjdegeajfhakaaChecked
import GoSem.Claim
import GoSem.ClaimJoined
import GoSem.ClaimMapViews
import Derived.JoinedTies
import Derived.KernelRfl
namespace Go.Proofs.Ythjdegeajfhakaa
/- THE CELL 'sum', in the pinned program and in every row, IS THE sha256 OF THE DUMP (.gsa) THAT YthjdegeajfhakaaProg.lean LOADS. Nothing in Lean hashes anything: it is a label: what it is worth is what the hold of that sum in a sandbox is worth. -/
noncomputable def Try.pinned : Pinned := { name := "ythjdegeajfhakaa", sum := "9bfb3da2c85683f945483301cc2692fc46ee661045bdf25428c09f37ca5fdf2b", checked := Try.checked }
namespace Rows
def none {H : Type} : Left H := { results := [], args := [] }

/-- 'tapeworkslaw.BusyBuilds': WHATEVER THE INPUT: true; the input reads as it did. -/
def busyBuildsSpec : ChangeSpec := { name := "busyBuilds", fn := fun _ => fun
  | [d1, d2] => { results := [.lit (.bool true)], args := [d1, d2] }
  | _ => none }
def busyBuildsRow : OpenClaim := { program := "ythjdegeajfhakaa", sum := "9bfb3da2c85683f945483301cc2692fc46ee661045bdf25428c09f37ca5fdf2b", func := "tapeworks/tapeworkslaw.BusyBuilds", spec := "busyBuilds", plainKeys := false, apart := false }
def BusyBuildsSaid : Prop := busyBuildsRow.holds Try.pinned (OpenSpec.ofChange busyBuildsSpec)

/-- ITS FALSE NEIGHBOUR: 'it returns false'. Refute it at one input. -/
def busyBuildsWrong : ChangeSpec := { name := "busyBuilds", fn := fun _ => fun
  | [d1, d2] => { results := [.lit (.bool false)], args := [d1, d2] }
  | _ => none }
def BusyBuildsWrongFalsely : Prop := busyBuildsRow.holds Try.pinned (OpenSpec.ofChange busyBuildsWrong)

/-- 'tapeworkslaw.GateTurns': WHATEVER THE INPUT: true; the input reads as it did. -/
def gateTurnsSpec : ChangeSpec := { name := "gateTurns", fn := fun _ => fun
  | [d1, d2] => { results := [.lit (.bool true)], args := [d1, d2] }
  | _ => none }
def gateTurnsRow : OpenClaim := { program := "ythjdegeajfhakaa", sum := "9bfb3da2c85683f945483301cc2692fc46ee661045bdf25428c09f37ca5fdf2b", func := "tapeworks/tapeworkslaw.GateTurns", spec := "gateTurns", unfollowed := true, recurses := true, plainKeys := false, apart := false }
def GateTurnsSaid : Prop := gateTurnsRow.holds Try.pinned (OpenSpec.ofChange gateTurnsSpec)

/-- ITS FALSE NEIGHBOUR: 'it returns false'. Refute it at one input. -/
def gateTurnsWrong : ChangeSpec := { name := "gateTurns", fn := fun _ => fun
  | [d1, d2] => { results := [.lit (.bool false)], args := [d1, d2] }
  | _ => none }
def GateTurnsWrongFalsely : Prop := gateTurnsRow.holds Try.pinned (OpenSpec.ofChange gateTurnsWrong)

/-- 'tapeworkslaw.GateBuilds': WHATEVER THE INPUT: true; the input reads as it did. -/
def gateBuildsSpec : ChangeSpec := { name := "gateBuilds", fn := fun _ => fun
  | [d1, d2] => { results := [.lit (.bool true)], args := [d1, d2] }
  | _ => none }
def gateBuildsRow : OpenClaim := { program := "ythjdegeajfhakaa", sum := "9bfb3da2c85683f945483301cc2692fc46ee661045bdf25428c09f37ca5fdf2b", func := "tapeworks/tapeworkslaw.GateBuilds", spec := "gateBuilds", recurses := true, plainKeys := false, apart := false }
def GateBuildsSaid : Prop := gateBuildsRow.holds Try.pinned (OpenSpec.ofChange gateBuildsSpec)

/-- ITS FALSE NEIGHBOUR: 'it returns false'. Refute it at one input. -/
def gateBuildsWrong : ChangeSpec := { name := "gateBuilds", fn := fun _ => fun
  | [d1, d2] => { results := [.lit (.bool false)], args := [d1, d2] }
  | _ => none }
def GateBuildsWrongFalsely : Prop := gateBuildsRow.holds Try.pinned (OpenSpec.ofChange gateBuildsWrong)

/-- 'tapeworkslaw.WideRuns': WHATEVER THE INPUT: true; the input reads as it did. -/
def wideRunsSpec : ChangeSpec := { name := "wideRuns", fn := fun _ => fun
  | [d1, d2, d3] => { results := [.lit (.bool true)], args := [d1, d2, d3] }
  | _ => none }
def wideRunsRow : OpenClaim := { program := "ythjdegeajfhakaa", sum := "9bfb3da2c85683f945483301cc2692fc46ee661045bdf25428c09f37ca5fdf2b", func := "tapeworks/tapeworkslaw.WideRuns", spec := "wideRuns", plainKeys := false, apart := false }
def WideRunsSaid : Prop := wideRunsRow.holds Try.pinned (OpenSpec.ofChange wideRunsSpec)

/-- ITS FALSE NEIGHBOUR: 'it returns false'. Refute it at one input. -/
def wideRunsWrong : ChangeSpec := { name := "wideRuns", fn := fun _ => fun
  | [d1, d2, d3] => { results := [.lit (.bool false)], args := [d1, d2, d3] }
  | _ => none }
def WideRunsWrongFalsely : Prop := wideRunsRow.holds Try.pinned (OpenSpec.ofChange wideRunsWrong)

/-- 'tapeworkslaw.WideBuilds': WHATEVER THE INPUT: true; the input reads as it did. -/
def wideBuildsSpec : ChangeSpec := { name := "wideBuilds", fn := fun _ => fun
  | [d1, d2] => { results := [.lit (.bool true)], args := [d1, d2] }
  | _ => none }
def wideBuildsRow : OpenClaim := { program := "ythjdegeajfhakaa", sum := "9bfb3da2c85683f945483301cc2692fc46ee661045bdf25428c09f37ca5fdf2b", func := "tapeworks/tapeworkslaw.WideBuilds", spec := "wideBuilds", unfollowed := true, recurses := true, plainKeys := false, apart := false }
def WideBuildsSaid : Prop := wideBuildsRow.holds Try.pinned (OpenSpec.ofChange wideBuildsSpec)

/-- ITS FALSE NEIGHBOUR: 'it returns false'. Refute it at one input. -/
def wideBuildsWrong : ChangeSpec := { name := "wideBuilds", fn := fun _ => fun
  | [d1, d2] => { results := [.lit (.bool false)], args := [d1, d2] }
  | _ => none }
def WideBuildsWrongFalsely : Prop := wideBuildsRow.holds Try.pinned (OpenSpec.ofChange wideBuildsWrong)

/-- 'tapeworkstop.TopFive': WHATEVER THE INPUT: true; the input reads as it did. -/
def topFiveSpec : ChangeSpec := { name := "topFive", fn := fun _ => fun
  | [d1, d2] => { results := [.lit (.bool true)], args := [d1, d2] }
  | _ => none }
def topFiveRow : OpenClaim := { program := "ythjdegeajfhakaa", sum := "9bfb3da2c85683f945483301cc2692fc46ee661045bdf25428c09f37ca5fdf2b", func := "tapeworks/tapeworkstop.TopFive", spec := "topFive", unfollowed := true, recurses := true, plainKeys := false, apart := false }
def TopFiveSaid : Prop := topFiveRow.holds Try.pinned (OpenSpec.ofChange topFiveSpec)

/-- ITS FALSE NEIGHBOUR: 'it returns false'. Refute it at one input. -/
def topFiveWrong : ChangeSpec := { name := "topFive", fn := fun _ => fun
  | [d1, d2] => { results := [.lit (.bool false)], args := [d1, d2] }
  | _ => none }
def TopFiveWrongFalsely : Prop := topFiveRow.holds Try.pinned (OpenSpec.ofChange topFiveWrong)

/- THE SECOND FORM. 'bulk': how many values and letters a reading holds, each counted each time it is reached (what is shared counts as often as it is met; a slice's spare places count too). A statement '..UptoSaid' is the law's where the arguments, and the package variables that the reading takes, are together of bulk at most 1048576: NARROWER than '..Said'. Prove '..Said' where nothing that the law and all that it calls make is longer than what came in: it says more and counts as full. Else prove '..UptoSaid'. A law counts once. -/
mutual
def uptoBulk {H : Type} : DataW H → Nat
  | .lit (.string bytes) => bytes.length + 1
  | .lit _ => 1
  | .nil => 1
  | .ptr d => uptoBulk d + 1
  | .slice elems spare => uptoBulkAll elems + uptoBulkAll spare + 1
  | .agg parts => uptoBulkAll parts + 1
  | .iface _ d => uptoBulk d + 1
  | .map entries => uptoBulkEntries entries + 1
  | .held _ => 1
def uptoBulkAll {H : Type} : List (DataW H) → Nat
  | [] => 0
  | d :: r => uptoBulk d + uptoBulkAll r
def uptoBulkEntries {H : Type} : List (Lit × DataW H) → Nat
  | [] => 0
  | x :: r => uptoBulkEntry x + uptoBulkEntries r
def uptoBulkEntry {H : Type} : Lit × DataW H → Nat
  | (.string bytes, d) => bytes.length + uptoBulk d + 1
  | (_, d) => uptoBulk d + 1
 end
def uptoSmall : (H : Type) → List (DataW H) → Bool := fun _ ds => decide (uptoBulkAll ds ≤ 1048576)
def OpenSpec.upto (s : _root_.Go.ChangeSpec) : _root_.Go.OpenSpec := { _root_.Go.OpenSpec.ofChange s with cond := some uptoSmall }

/-- 'tapeworkslaw.BusyBuilds', WHERE WHAT IT READS IS OF BULK AT MOST 1048576: true; the input reads as it did. -/
def busyBuildsUptoRow : OpenClaim := { program := "ythjdegeajfhakaa", sum := "9bfb3da2c85683f945483301cc2692fc46ee661045bdf25428c09f37ca5fdf2b", func := "tapeworks/tapeworkslaw.BusyBuilds", spec := "busyBuilds", plainKeys := false, apart := false, narrowed := true }
def BusyBuildsUptoSaid : Prop := busyBuildsUptoRow.holds Try.pinned (OpenSpec.upto busyBuildsSpec)

/-- 'tapeworkslaw.GateTurns', WHERE WHAT IT READS IS OF BULK AT MOST 1048576: true; the input reads as it did. -/
def gateTurnsUptoRow : OpenClaim := { program := "ythjdegeajfhakaa", sum := "9bfb3da2c85683f945483301cc2692fc46ee661045bdf25428c09f37ca5fdf2b", func := "tapeworks/tapeworkslaw.GateTurns", spec := "gateTurns", unfollowed := true, recurses := true, plainKeys := false, apart := false, narrowed := true }
def GateTurnsUptoSaid : Prop := gateTurnsUptoRow.holds Try.pinned (OpenSpec.upto gateTurnsSpec)

/-- 'tapeworkslaw.GateBuilds', WHERE WHAT IT READS IS OF BULK AT MOST 1048576: true; the input reads as it did. -/
def gateBuildsUptoRow : OpenClaim := { program := "ythjdegeajfhakaa", sum := "9bfb3da2c85683f945483301cc2692fc46ee661045bdf25428c09f37ca5fdf2b", func := "tapeworks/tapeworkslaw.GateBuilds", spec := "gateBuilds", recurses := true, plainKeys := false, apart := false, narrowed := true }
def GateBuildsUptoSaid : Prop := gateBuildsUptoRow.holds Try.pinned (OpenSpec.upto gateBuildsSpec)

/-- 'tapeworkslaw.WideRuns', WHERE WHAT IT READS IS OF BULK AT MOST 1048576: true; the input reads as it did. -/
def wideRunsUptoRow : OpenClaim := { program := "ythjdegeajfhakaa", sum := "9bfb3da2c85683f945483301cc2692fc46ee661045bdf25428c09f37ca5fdf2b", func := "tapeworks/tapeworkslaw.WideRuns", spec := "wideRuns", plainKeys := false, apart := false, narrowed := true }
def WideRunsUptoSaid : Prop := wideRunsUptoRow.holds Try.pinned (OpenSpec.upto wideRunsSpec)

/-- 'tapeworkslaw.WideBuilds', WHERE WHAT IT READS IS OF BULK AT MOST 1048576: true; the input reads as it did. -/
def wideBuildsUptoRow : OpenClaim := { program := "ythjdegeajfhakaa", sum := "9bfb3da2c85683f945483301cc2692fc46ee661045bdf25428c09f37ca5fdf2b", func := "tapeworks/tapeworkslaw.WideBuilds", spec := "wideBuilds", unfollowed := true, recurses := true, plainKeys := false, apart := false, narrowed := true }
def WideBuildsUptoSaid : Prop := wideBuildsUptoRow.holds Try.pinned (OpenSpec.upto wideBuildsSpec)

/-- 'tapeworkstop.TopFive', WHERE WHAT IT READS IS OF BULK AT MOST 1048576: true; the input reads as it did. -/
def topFiveUptoRow : OpenClaim := { program := "ythjdegeajfhakaa", sum := "9bfb3da2c85683f945483301cc2692fc46ee661045bdf25428c09f37ca5fdf2b", func := "tapeworks/tapeworkstop.TopFive", spec := "topFive", unfollowed := true, recurses := true, plainKeys := false, apart := false, narrowed := true }
def TopFiveUptoSaid : Prop := topFiveUptoRow.holds Try.pinned (OpenSpec.upto topFiveSpec)

end Rows
end Go.Proofs.Ythjdegeajfhakaa
