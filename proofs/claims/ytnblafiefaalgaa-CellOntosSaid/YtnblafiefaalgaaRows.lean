/-
  No cell of these rows narrows 'for every input' (looked for: loops, veiled, ifaces, maps, wideKeys, modest, calm, conditions, laid).
  DERIVED. THE GIVEN ROWS OF THIS SEAT. 12 by the template 'for every input the law returns true; each argument reads behind the call as it read before'; 0 by the template 'total and deterministic' (their statements: YtnblafiefaalgaaTotals.lean).
  GIVEN WITH THE SEED: the statements are not yours to turn. If you find one false, say at which input.
  Laid BY PROGRAM, IN A SANDBOX (cutbox-rows.mjs): the forced cells as the released guide's own fill.sh prints them over the translation 681bc0569acd785b… (all of the seat's roots in one cut). By AI agents, Wed Nov 11 2026. No macro, syntax, notation, axiom, sorry.
-/
import Derived.Test.YtnblafiefaalgaaChecked
import GoSem.Claim
import GoSem.ClaimJoined
import GoSem.ClaimMapViews
import Derived.JoinedTies
import Derived.KernelRfl
namespace Go.Proofs.Ytnblafiefaalgaa
/- THE CELL 'sum', in the pinned program and in every row, IS THE sha256 OF THE DUMP (.gsa) THAT YtnblafiefaalgaaProg.lean LOADS. Nothing in Lean hashes anything: it is a label: what it is worth is what the hold of that sum in a sandbox is worth. -/
noncomputable def Try.pinned : Pinned := { name := "ytnblafiefaalgaa", sum := "681bc0569acd785ba242538f040673e7c39e918bd88929a7a58013eb05975aa4", checked := Try.checked }
namespace Rows
def none {H : Type} : Left H := { results := [], args := [] }

/-- 'tapeworkslaw.BusyBuilds': WHATEVER THE INPUT: true; the input reads as it did. -/
def busyBuildsSpec : ChangeSpec := { name := "busyBuilds", fn := fun _ => fun
  | [d1, d2] => { results := [.lit (.bool true)], args := [d1, d2] }
  | _ => none }
def busyBuildsRow : OpenClaim := { program := "ytnblafiefaalgaa", sum := "681bc0569acd785ba242538f040673e7c39e918bd88929a7a58013eb05975aa4", func := "tapeworks/tapeworkslaw.BusyBuilds", spec := "busyBuilds", plainKeys := false, apart := false }
def BusyBuildsSaid : Prop := busyBuildsRow.holds Try.pinned (OpenSpec.ofChange busyBuildsSpec)

/-- ITS FALSE NEIGHBOUR: 'it returns false'. Refute it at one input. -/
def busyBuildsWrong : ChangeSpec := { name := "busyBuilds", fn := fun _ => fun
  | [d1, d2] => { results := [.lit (.bool false)], args := [d1, d2] }
  | _ => none }
def BusyBuildsWrongFalsely : Prop := busyBuildsRow.holds Try.pinned (OpenSpec.ofChange busyBuildsWrong)

/-- 'tapeworkslaw.TalkRanks': WHATEVER THE INPUT: true; the input reads as it did. -/
def talkRanksSpec : ChangeSpec := { name := "talkRanks", fn := fun _ => fun
  | [d] => { results := [.lit (.bool true)], args := [d] }
  | _ => none }
def talkRanksRow : OpenClaim := { program := "ytnblafiefaalgaa", sum := "681bc0569acd785ba242538f040673e7c39e918bd88929a7a58013eb05975aa4", func := "tapeworks/tapeworkslaw.TalkRanks", spec := "talkRanks", unfollowed := true, recurses := true, plainKeys := false, apart := false }
def TalkRanksSaid : Prop := talkRanksRow.holds Try.pinned (OpenSpec.ofChange talkRanksSpec)

/-- ITS FALSE NEIGHBOUR: 'it returns false'. Refute it at one input. -/
def talkRanksWrong : ChangeSpec := { name := "talkRanks", fn := fun _ => fun
  | [d] => { results := [.lit (.bool false)], args := [d] }
  | _ => none }
def TalkRanksWrongFalsely : Prop := talkRanksRow.holds Try.pinned (OpenSpec.ofChange talkRanksWrong)

/-- 'tapeworkslaw.CellOntos': WHATEVER THE INPUT: true; the input reads as it did. -/
def cellOntosSpec : ChangeSpec := { name := "cellOntos", fn := fun _ => fun
  | [d] => { results := [.lit (.bool true)], args := [d] }
  | _ => none }
def cellOntosRow : OpenClaim := { program := "ytnblafiefaalgaa", sum := "681bc0569acd785ba242538f040673e7c39e918bd88929a7a58013eb05975aa4", func := "tapeworks/tapeworkslaw.CellOntos", spec := "cellOntos", plainKeys := false, apart := false }
def CellOntosSaid : Prop := cellOntosRow.holds Try.pinned (OpenSpec.ofChange cellOntosSpec)

/-- ITS FALSE NEIGHBOUR: 'it returns false'. Refute it at one input. -/
def cellOntosWrong : ChangeSpec := { name := "cellOntos", fn := fun _ => fun
  | [d] => { results := [.lit (.bool false)], args := [d] }
  | _ => none }
def CellOntosWrongFalsely : Prop := cellOntosRow.holds Try.pinned (OpenSpec.ofChange cellOntosWrong)

/-- 'tapeworkstop.TopFaces': WHATEVER THE INPUT: true; the input reads as it did. -/
def topFacesSpec : ChangeSpec := { name := "topFaces", fn := fun _ => fun
  | [d1, d2, d3] => { results := [.lit (.bool true)], args := [d1, d2, d3] }
  | _ => none }
def topFacesRow : OpenClaim := { program := "ytnblafiefaalgaa", sum := "681bc0569acd785ba242538f040673e7c39e918bd88929a7a58013eb05975aa4", func := "tapeworks/tapeworkstop.TopFaces", spec := "topFaces", unfollowed := true, recurses := true, plainKeys := false, apart := false }
def TopFacesSaid : Prop := topFacesRow.holds Try.pinned (OpenSpec.ofChange topFacesSpec)

/-- ITS FALSE NEIGHBOUR: 'it returns false'. Refute it at one input. -/
def topFacesWrong : ChangeSpec := { name := "topFaces", fn := fun _ => fun
  | [d1, d2, d3] => { results := [.lit (.bool false)], args := [d1, d2, d3] }
  | _ => none }
def TopFacesWrongFalsely : Prop := topFacesRow.holds Try.pinned (OpenSpec.ofChange topFacesWrong)

/-- 'tapeworkslaw.PairsSigneds': WHATEVER THE INPUT: true; the input reads as it did. -/
def pairsSignedsSpec : ChangeSpec := { name := "pairsSigneds", fn := fun _ => fun
  | [d] => { results := [.lit (.bool true)], args := [d] }
  | _ => none }
def pairsSignedsRow : OpenClaim := { program := "ytnblafiefaalgaa", sum := "681bc0569acd785ba242538f040673e7c39e918bd88929a7a58013eb05975aa4", func := "tapeworks/tapeworkslaw.PairsSigneds", spec := "pairsSigneds", unfollowed := true, recurses := true, plainKeys := false, apart := false }
def PairsSignedsSaid : Prop := pairsSignedsRow.holds Try.pinned (OpenSpec.ofChange pairsSignedsSpec)

/-- ITS FALSE NEIGHBOUR: 'it returns false'. Refute it at one input. -/
def pairsSignedsWrong : ChangeSpec := { name := "pairsSigneds", fn := fun _ => fun
  | [d] => { results := [.lit (.bool false)], args := [d] }
  | _ => none }
def PairsSignedsWrongFalsely : Prop := pairsSignedsRow.holds Try.pinned (OpenSpec.ofChange pairsSignedsWrong)

/-- 'tapeworkslaw.PairsParities': WHATEVER THE INPUT: true; the input reads as it did. -/
def pairsParitiesSpec : ChangeSpec := { name := "pairsParities", fn := fun _ => fun
  | [d] => { results := [.lit (.bool true)], args := [d] }
  | _ => none }
def pairsParitiesRow : OpenClaim := { program := "ytnblafiefaalgaa", sum := "681bc0569acd785ba242538f040673e7c39e918bd88929a7a58013eb05975aa4", func := "tapeworks/tapeworkslaw.PairsParities", spec := "pairsParities", unfollowed := true, recurses := true, plainKeys := false, apart := false }
def PairsParitiesSaid : Prop := pairsParitiesRow.holds Try.pinned (OpenSpec.ofChange pairsParitiesSpec)

/-- ITS FALSE NEIGHBOUR: 'it returns false'. Refute it at one input. -/
def pairsParitiesWrong : ChangeSpec := { name := "pairsParities", fn := fun _ => fun
  | [d] => { results := [.lit (.bool false)], args := [d] }
  | _ => none }
def PairsParitiesWrongFalsely : Prop := pairsParitiesRow.holds Try.pinned (OpenSpec.ofChange pairsParitiesWrong)

/-- 'tapeworkslaw.CrossAlls': WHATEVER THE INPUT: true; the input reads as it did. -/
def crossAllsSpec : ChangeSpec := { name := "crossAlls", fn := fun _ => fun
  | [d1, d2, d3] => { results := [.lit (.bool true)], args := [d1, d2, d3] }
  | _ => none }
def crossAllsRow : OpenClaim := { program := "ytnblafiefaalgaa", sum := "681bc0569acd785ba242538f040673e7c39e918bd88929a7a58013eb05975aa4", func := "tapeworks/tapeworkslaw.CrossAlls", spec := "crossAlls", unfollowed := true, recurses := true, plainKeys := false, apart := false }
def CrossAllsSaid : Prop := crossAllsRow.holds Try.pinned (OpenSpec.ofChange crossAllsSpec)

/-- ITS FALSE NEIGHBOUR: 'it returns false'. Refute it at one input. -/
def crossAllsWrong : ChangeSpec := { name := "crossAlls", fn := fun _ => fun
  | [d1, d2, d3] => { results := [.lit (.bool false)], args := [d1, d2, d3] }
  | _ => none }
def CrossAllsWrongFalsely : Prop := crossAllsRow.holds Try.pinned (OpenSpec.ofChange crossAllsWrong)

/-- 'tapeworkslaw.BusyMost': WHATEVER THE INPUT: true; the input reads as it did. -/
def busyMostSpec : ChangeSpec := { name := "busyMost", fn := fun _ => fun
  | [d1, d2] => { results := [.lit (.bool true)], args := [d1, d2] }
  | _ => none }
def busyMostRow : OpenClaim := { program := "ytnblafiefaalgaa", sum := "681bc0569acd785ba242538f040673e7c39e918bd88929a7a58013eb05975aa4", func := "tapeworks/tapeworkslaw.BusyMost", spec := "busyMost", unfollowed := true, recurses := true, plainKeys := false, apart := false }
def BusyMostSaid : Prop := busyMostRow.holds Try.pinned (OpenSpec.ofChange busyMostSpec)

/-- ITS FALSE NEIGHBOUR: 'it returns false'. Refute it at one input. -/
def busyMostWrong : ChangeSpec := { name := "busyMost", fn := fun _ => fun
  | [d1, d2] => { results := [.lit (.bool false)], args := [d1, d2] }
  | _ => none }
def BusyMostWrongFalsely : Prop := busyMostRow.holds Try.pinned (OpenSpec.ofChange busyMostWrong)

/-- 'tapeworkslaw.UnrollBuilds': WHATEVER THE INPUT: true; the input reads as it did. -/
def unrollBuildsSpec : ChangeSpec := { name := "unrollBuilds", fn := fun _ => fun
  | [d1, d2, d3] => { results := [.lit (.bool true)], args := [d1, d2, d3] }
  | _ => none }
def unrollBuildsRow : OpenClaim := { program := "ytnblafiefaalgaa", sum := "681bc0569acd785ba242538f040673e7c39e918bd88929a7a58013eb05975aa4", func := "tapeworks/tapeworkslaw.UnrollBuilds", spec := "unrollBuilds", unfollowed := true, recurses := true, plainKeys := false, apart := false }
def UnrollBuildsSaid : Prop := unrollBuildsRow.holds Try.pinned (OpenSpec.ofChange unrollBuildsSpec)

/-- ITS FALSE NEIGHBOUR: 'it returns false'. Refute it at one input. -/
def unrollBuildsWrong : ChangeSpec := { name := "unrollBuilds", fn := fun _ => fun
  | [d1, d2, d3] => { results := [.lit (.bool false)], args := [d1, d2, d3] }
  | _ => none }
def UnrollBuildsWrongFalsely : Prop := unrollBuildsRow.holds Try.pinned (OpenSpec.ofChange unrollBuildsWrong)

/-- 'tapeworkslaw.WholeClauses': WHATEVER THE INPUT: true; the input reads as it did. -/
def wholeClausesSpec : ChangeSpec := { name := "wholeClauses", fn := fun _ => fun
  | [d1, d2, d3] => { results := [.lit (.bool true)], args := [d1, d2, d3] }
  | _ => none }
def wholeClausesRow : OpenClaim := { program := "ytnblafiefaalgaa", sum := "681bc0569acd785ba242538f040673e7c39e918bd88929a7a58013eb05975aa4", func := "tapeworks/tapeworkslaw.WholeClauses", spec := "wholeClauses", unfollowed := true, recurses := true, plainKeys := false, apart := false }
def WholeClausesSaid : Prop := wholeClausesRow.holds Try.pinned (OpenSpec.ofChange wholeClausesSpec)

/-- ITS FALSE NEIGHBOUR: 'it returns false'. Refute it at one input. -/
def wholeClausesWrong : ChangeSpec := { name := "wholeClauses", fn := fun _ => fun
  | [d1, d2, d3] => { results := [.lit (.bool false)], args := [d1, d2, d3] }
  | _ => none }
def WholeClausesWrongFalsely : Prop := wholeClausesRow.holds Try.pinned (OpenSpec.ofChange wholeClausesWrong)

/-- 'tapeworkslaw.WholeAsks': WHATEVER THE INPUT: true; the input reads as it did. -/
def wholeAsksSpec : ChangeSpec := { name := "wholeAsks", fn := fun _ => fun
  | [d1, d2, d3] => { results := [.lit (.bool true)], args := [d1, d2, d3] }
  | _ => none }
def wholeAsksRow : OpenClaim := { program := "ytnblafiefaalgaa", sum := "681bc0569acd785ba242538f040673e7c39e918bd88929a7a58013eb05975aa4", func := "tapeworks/tapeworkslaw.WholeAsks", spec := "wholeAsks", unfollowed := true, recurses := true, plainKeys := false, apart := false }
def WholeAsksSaid : Prop := wholeAsksRow.holds Try.pinned (OpenSpec.ofChange wholeAsksSpec)

/-- ITS FALSE NEIGHBOUR: 'it returns false'. Refute it at one input. -/
def wholeAsksWrong : ChangeSpec := { name := "wholeAsks", fn := fun _ => fun
  | [d1, d2, d3] => { results := [.lit (.bool false)], args := [d1, d2, d3] }
  | _ => none }
def WholeAsksWrongFalsely : Prop := wholeAsksRow.holds Try.pinned (OpenSpec.ofChange wholeAsksWrong)

/-- 'tapeworkslaw.WholeSomes': WHATEVER THE INPUT: true; the input reads as it did. -/
def wholeSomesSpec : ChangeSpec := { name := "wholeSomes", fn := fun _ => fun
  | [d1, d2, d3] => { results := [.lit (.bool true)], args := [d1, d2, d3] }
  | _ => none }
def wholeSomesRow : OpenClaim := { program := "ytnblafiefaalgaa", sum := "681bc0569acd785ba242538f040673e7c39e918bd88929a7a58013eb05975aa4", func := "tapeworks/tapeworkslaw.WholeSomes", spec := "wholeSomes", unfollowed := true, recurses := true, plainKeys := false, apart := false }
def WholeSomesSaid : Prop := wholeSomesRow.holds Try.pinned (OpenSpec.ofChange wholeSomesSpec)

/-- ITS FALSE NEIGHBOUR: 'it returns false'. Refute it at one input. -/
def wholeSomesWrong : ChangeSpec := { name := "wholeSomes", fn := fun _ => fun
  | [d1, d2, d3] => { results := [.lit (.bool false)], args := [d1, d2, d3] }
  | _ => none }
def WholeSomesWrongFalsely : Prop := wholeSomesRow.holds Try.pinned (OpenSpec.ofChange wholeSomesWrong)

/- THE SECOND FORM. 'bulk': how many values and letters a reading holds, each counted each time it is reached (what is shared counts as often as it is met; a slice's spare places count too). A statement '..UptoSaid' is the law's where the arguments, and the package variables that the reading takes, are together of bulk at most 1048576: NARROWER than '..Said'. Prove '..Said' where nothing that the law and all that it calls make is longer than what came in: it says more and counts as full. Else prove '..UptoSaid'. A law counts once. -/
mutual
def uptoBulk {H : Type} : DataW H → Nat
  | .lit (.string bytes) => bytes.length + 1
  | .lit _ => 1
  | .nil => 1
  | .ptr d => uptoBulk d + 1
  | .slice elems spare => uptoBulkAll elems + uptoBulkAll spare + 1
  | .agg parts => uptoBulkAll parts + 1
  | .iface _ d => uptoBulk d + 1
  | .map entries => uptoBulkEntries entries + 1
  | .held _ => 1
def uptoBulkAll {H : Type} : List (DataW H) → Nat
  | [] => 0
  | d :: r => uptoBulk d + uptoBulkAll r
def uptoBulkEntries {H : Type} : List (Lit × DataW H) → Nat
  | [] => 0
  | x :: r => uptoBulkEntry x + uptoBulkEntries r
def uptoBulkEntry {H : Type} : Lit × DataW H → Nat
  | (.string bytes, d) => bytes.length + uptoBulk d + 1
  | (_, d) => uptoBulk d + 1
 end
def uptoSmall : (H : Type) → List (DataW H) → Bool := fun _ ds => decide (uptoBulkAll ds ≤ 1048576)
def OpenSpec.upto (s : _root_.Go.ChangeSpec) : _root_.Go.OpenSpec := { _root_.Go.OpenSpec.ofChange s with cond := some uptoSmall }

/-- 'tapeworkslaw.BusyBuilds', WHERE WHAT IT READS IS OF BULK AT MOST 1048576: true; the input reads as it did. -/
def busyBuildsUptoRow : OpenClaim := { program := "ytnblafiefaalgaa", sum := "681bc0569acd785ba242538f040673e7c39e918bd88929a7a58013eb05975aa4", func := "tapeworks/tapeworkslaw.BusyBuilds", spec := "busyBuilds", plainKeys := false, apart := false, narrowed := true }
def BusyBuildsUptoSaid : Prop := busyBuildsUptoRow.holds Try.pinned (OpenSpec.upto busyBuildsSpec)

/-- 'tapeworkslaw.TalkRanks', WHERE WHAT IT READS IS OF BULK AT MOST 1048576: true; the input reads as it did. -/
def talkRanksUptoRow : OpenClaim := { program := "ytnblafiefaalgaa", sum := "681bc0569acd785ba242538f040673e7c39e918bd88929a7a58013eb05975aa4", func := "tapeworks/tapeworkslaw.TalkRanks", spec := "talkRanks", unfollowed := true, recurses := true, plainKeys := false, apart := false, narrowed := true }
def TalkRanksUptoSaid : Prop := talkRanksUptoRow.holds Try.pinned (OpenSpec.upto talkRanksSpec)

/-- 'tapeworkslaw.CellOntos', WHERE WHAT IT READS IS OF BULK AT MOST 1048576: true; the input reads as it did. -/
def cellOntosUptoRow : OpenClaim := { program := "ytnblafiefaalgaa", sum := "681bc0569acd785ba242538f040673e7c39e918bd88929a7a58013eb05975aa4", func := "tapeworks/tapeworkslaw.CellOntos", spec := "cellOntos", plainKeys := false, apart := false, narrowed := true }
def CellOntosUptoSaid : Prop := cellOntosUptoRow.holds Try.pinned (OpenSpec.upto cellOntosSpec)

/-- 'tapeworkstop.TopFaces', WHERE WHAT IT READS IS OF BULK AT MOST 1048576: true; the input reads as it did. -/
def topFacesUptoRow : OpenClaim := { program := "ytnblafiefaalgaa", sum := "681bc0569acd785ba242538f040673e7c39e918bd88929a7a58013eb05975aa4", func := "tapeworks/tapeworkstop.TopFaces", spec := "topFaces", unfollowed := true, recurses := true, plainKeys := false, apart := false, narrowed := true }
def TopFacesUptoSaid : Prop := topFacesUptoRow.holds Try.pinned (OpenSpec.upto topFacesSpec)

/-- 'tapeworkslaw.PairsSigneds', WHERE WHAT IT READS IS OF BULK AT MOST 1048576: true; the input reads as it did. -/
def pairsSignedsUptoRow : OpenClaim := { program := "ytnblafiefaalgaa", sum := "681bc0569acd785ba242538f040673e7c39e918bd88929a7a58013eb05975aa4", func := "tapeworks/tapeworkslaw.PairsSigneds", spec := "pairsSigneds", unfollowed := true, recurses := true, plainKeys := false, apart := false, narrowed := true }
def PairsSignedsUptoSaid : Prop := pairsSignedsUptoRow.holds Try.pinned (OpenSpec.upto pairsSignedsSpec)

/-- 'tapeworkslaw.PairsParities', WHERE WHAT IT READS IS OF BULK AT MOST 1048576: true; the input reads as it did. -/
def pairsParitiesUptoRow : OpenClaim := { program := "ytnblafiefaalgaa", sum := "681bc0569acd785ba242538f040673e7c39e918bd88929a7a58013eb05975aa4", func := "tapeworks/tapeworkslaw.PairsParities", spec := "pairsParities", unfollowed := true, recurses := true, plainKeys := false, apart := false, narrowed := true }
def PairsParitiesUptoSaid : Prop := pairsParitiesUptoRow.holds Try.pinned (OpenSpec.upto pairsParitiesSpec)

/-- 'tapeworkslaw.CrossAlls', WHERE WHAT IT READS IS OF BULK AT MOST 1048576: true; the input reads as it did. -/
def crossAllsUptoRow : OpenClaim := { program := "ytnblafiefaalgaa", sum := "681bc0569acd785ba242538f040673e7c39e918bd88929a7a58013eb05975aa4", func := "tapeworks/tapeworkslaw.CrossAlls", spec := "crossAlls", unfollowed := true, recurses := true, plainKeys := false, apart := false, narrowed := true }
def CrossAllsUptoSaid : Prop := crossAllsUptoRow.holds Try.pinned (OpenSpec.upto crossAllsSpec)

/-- 'tapeworkslaw.BusyMost', WHERE WHAT IT READS IS OF BULK AT MOST 1048576: true; the input reads as it did. -/
def busyMostUptoRow : OpenClaim := { program := "ytnblafiefaalgaa", sum := "681bc0569acd785ba242538f040673e7c39e918bd88929a7a58013eb05975aa4", func := "tapeworks/tapeworkslaw.BusyMost", spec := "busyMost", unfollowed := true, recurses := true, plainKeys := false, apart := false, narrowed := true }
def BusyMostUptoSaid : Prop := busyMostUptoRow.holds Try.pinned (OpenSpec.upto busyMostSpec)

/-- 'tapeworkslaw.UnrollBuilds', WHERE WHAT IT READS IS OF BULK AT MOST 1048576: true; the input reads as it did. -/
def unrollBuildsUptoRow : OpenClaim := { program := "ytnblafiefaalgaa", sum := "681bc0569acd785ba242538f040673e7c39e918bd88929a7a58013eb05975aa4", func := "tapeworks/tapeworkslaw.UnrollBuilds", spec := "unrollBuilds", unfollowed := true, recurses := true, plainKeys := false, apart := false, narrowed := true }
def UnrollBuildsUptoSaid : Prop := unrollBuildsUptoRow.holds Try.pinned (OpenSpec.upto unrollBuildsSpec)

/-- 'tapeworkslaw.WholeClauses', WHERE WHAT IT READS IS OF BULK AT MOST 1048576: true; the input reads as it did. -/
def wholeClausesUptoRow : OpenClaim := { program := "ytnblafiefaalgaa", sum := "681bc0569acd785ba242538f040673e7c39e918bd88929a7a58013eb05975aa4", func := "tapeworks/tapeworkslaw.WholeClauses", spec := "wholeClauses", unfollowed := true, recurses := true, plainKeys := false, apart := false, narrowed := true }
def WholeClausesUptoSaid : Prop := wholeClausesUptoRow.holds Try.pinned (OpenSpec.upto wholeClausesSpec)

/-- 'tapeworkslaw.WholeAsks', WHERE WHAT IT READS IS OF BULK AT MOST 1048576: true; the input reads as it did. -/
def wholeAsksUptoRow : OpenClaim := { program := "ytnblafiefaalgaa", sum := "681bc0569acd785ba242538f040673e7c39e918bd88929a7a58013eb05975aa4", func := "tapeworks/tapeworkslaw.WholeAsks", spec := "wholeAsks", unfollowed := true, recurses := true, plainKeys := false, apart := false, narrowed := true }
def WholeAsksUptoSaid : Prop := wholeAsksUptoRow.holds Try.pinned (OpenSpec.upto wholeAsksSpec)

/-- 'tapeworkslaw.WholeSomes', WHERE WHAT IT READS IS OF BULK AT MOST 1048576: true; the input reads as it did. -/
def wholeSomesUptoRow : OpenClaim := { program := "ytnblafiefaalgaa", sum := "681bc0569acd785ba242538f040673e7c39e918bd88929a7a58013eb05975aa4", func := "tapeworks/tapeworkslaw.WholeSomes", spec := "wholeSomes", unfollowed := true, recurses := true, plainKeys := false, apart := false, narrowed := true }
def WholeSomesUptoSaid : Prop := wholeSomesUptoRow.holds Try.pinned (OpenSpec.upto wholeSomesSpec)

end Rows
end Go.Proofs.Ytnblafiefaalgaa
