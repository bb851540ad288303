/-
  No cell of these rows narrows 'for every input' (looked for: loops, veiled, ifaces, maps, wideKeys, modest, calm, conditions, laid).
  DERIVED. THE GIVEN ROWS OF THIS SEAT. 9 by the template 'for every input the law returns true; each argument reads behind the call as it read before'; 0 by the template 'total and deterministic' (their statements: YtjghcbdfpcpahaaTotals.lean).
  GIVEN WITH THE SEED: the statements are not yours to turn. If you find one false, say at which input.
  Laid BY PROGRAM, IN A SANDBOX (cutbox-rows.mjs): the forced cells as the released guide's own fill.sh prints them over the translation c49d677a16cf9564… (all of the seat's roots in one cut). By AI agents, Wed Nov 11 2026. No macro, syntax, notation, axiom, sorry.
-/
import Derived.Test.YtjghcbdfpcpahaaChecked
import GoSem.Claim
import GoSem.ClaimJoined
import GoSem.ClaimMapViews
import Derived.JoinedTies
import Derived.KernelRfl
namespace Go.Proofs.Ytjghcbdfpcpahaa
/- THE CELL 'sum', in the pinned program and in every row, IS THE sha256 OF THE DUMP (.gsa) THAT YtjghcbdfpcpahaaProg.lean LOADS. Nothing in Lean hashes anything: it is a label: what it is worth is what the hold of that sum in a sandbox is worth. -/
noncomputable def Try.pinned : Pinned := { name := "ytjghcbdfpcpahaa", sum := "c49d677a16cf9564c336eff9b9a3a94e8cbc51f6f03990357b5fe15db52132ae", checked := Try.checked }
namespace Rows
def none {H : Type} : Left H := { results := [], args := [] }

/-- 'tapeworkslaw.TalkRows': WHATEVER THE INPUT: true; the input reads as it did. -/
def talkRowsSpec : ChangeSpec := { name := "talkRows", fn := fun _ => fun
  | [d] => { results := [.lit (.bool true)], args := [d] }
  | _ => none }
def talkRowsRow : OpenClaim := { program := "ytjghcbdfpcpahaa", sum := "c49d677a16cf9564c336eff9b9a3a94e8cbc51f6f03990357b5fe15db52132ae", func := "tapeworks/tapeworkslaw.TalkRows", spec := "talkRows", unfollowed := true, recurses := true, plainKeys := false, apart := false }
def TalkRowsSaid : Prop := talkRowsRow.holds Try.pinned (OpenSpec.ofChange talkRowsSpec)

/-- ITS FALSE NEIGHBOUR: 'it returns false'. Refute it at one input. -/
def talkRowsWrong : ChangeSpec := { name := "talkRows", fn := fun _ => fun
  | [d] => { results := [.lit (.bool false)], args := [d] }
  | _ => none }
def TalkRowsWrongFalsely : Prop := talkRowsRow.holds Try.pinned (OpenSpec.ofChange talkRowsWrong)

/-- 'tapeworkslaw.TalkRanks': WHATEVER THE INPUT: true; the input reads as it did. -/
def talkRanksSpec : ChangeSpec := { name := "talkRanks", fn := fun _ => fun
  | [d] => { results := [.lit (.bool true)], args := [d] }
  | _ => none }
def talkRanksRow : OpenClaim := { program := "ytjghcbdfpcpahaa", sum := "c49d677a16cf9564c336eff9b9a3a94e8cbc51f6f03990357b5fe15db52132ae", func := "tapeworks/tapeworkslaw.TalkRanks", spec := "talkRanks", unfollowed := true, recurses := true, plainKeys := false, apart := false }
def TalkRanksSaid : Prop := talkRanksRow.holds Try.pinned (OpenSpec.ofChange talkRanksSpec)

/-- ITS FALSE NEIGHBOUR: 'it returns false'. Refute it at one input. -/
def talkRanksWrong : ChangeSpec := { name := "talkRanks", fn := fun _ => fun
  | [d] => { results := [.lit (.bool false)], args := [d] }
  | _ => none }
def TalkRanksWrongFalsely : Prop := talkRanksRow.holds Try.pinned (OpenSpec.ofChange talkRanksWrong)

/-- 'tapeworkslaw.TalkLeasts': WHATEVER THE INPUT: true; the input reads as it did. -/
def talkLeastsSpec : ChangeSpec := { name := "talkLeasts", fn := fun _ => fun
  | [d] => { results := [.lit (.bool true)], args := [d] }
  | _ => none }
def talkLeastsRow : OpenClaim := { program := "ytjghcbdfpcpahaa", sum := "c49d677a16cf9564c336eff9b9a3a94e8cbc51f6f03990357b5fe15db52132ae", func := "tapeworks/tapeworkslaw.TalkLeasts", spec := "talkLeasts", unfollowed := true, recurses := true, plainKeys := false, apart := false }
def TalkLeastsSaid : Prop := talkLeastsRow.holds Try.pinned (OpenSpec.ofChange talkLeastsSpec)

/-- ITS FALSE NEIGHBOUR: 'it returns false'. Refute it at one input. -/
def talkLeastsWrong : ChangeSpec := { name := "talkLeasts", fn := fun _ => fun
  | [d] => { results := [.lit (.bool false)], args := [d] }
  | _ => none }
def TalkLeastsWrongFalsely : Prop := talkLeastsRow.holds Try.pinned (OpenSpec.ofChange talkLeastsWrong)

/-- 'tapeworkslaw.TalkFools': WHATEVER THE INPUT: true; the input reads as it did. -/
def talkFoolsSpec : ChangeSpec := { name := "talkFools", fn := fun _ => fun
  | [d] => { results := [.lit (.bool true)], args := [d] }
  | _ => none }
def talkFoolsRow : OpenClaim := { program := "ytjghcbdfpcpahaa", sum := "c49d677a16cf9564c336eff9b9a3a94e8cbc51f6f03990357b5fe15db52132ae", func := "tapeworks/tapeworkslaw.TalkFools", spec := "talkFools", unfollowed := true, recurses := true, plainKeys := false, apart := false }
def TalkFoolsSaid : Prop := talkFoolsRow.holds Try.pinned (OpenSpec.ofChange talkFoolsSpec)

/-- ITS FALSE NEIGHBOUR: 'it returns false'. Refute it at one input. -/
def talkFoolsWrong : ChangeSpec := { name := "talkFools", fn := fun _ => fun
  | [d] => { results := [.lit (.bool false)], args := [d] }
  | _ => none }
def TalkFoolsWrongFalsely : Prop := talkFoolsRow.holds Try.pinned (OpenSpec.ofChange talkFoolsWrong)

/-- 'tapeworkslaw.TalkRects': WHATEVER THE INPUT: true; the input reads as it did. -/
def talkRectsSpec : ChangeSpec := { name := "talkRects", fn := fun _ => fun
  | [d1, d2] => { results := [.lit (.bool true)], args := [d1, d2] }
  | _ => none }
def talkRectsRow : OpenClaim := { program := "ytjghcbdfpcpahaa", sum := "c49d677a16cf9564c336eff9b9a3a94e8cbc51f6f03990357b5fe15db52132ae", func := "tapeworks/tapeworkslaw.TalkRects", spec := "talkRects", unfollowed := true, recurses := true, plainKeys := false, apart := false }
def TalkRectsSaid : Prop := talkRectsRow.holds Try.pinned (OpenSpec.ofChange talkRectsSpec)

/-- ITS FALSE NEIGHBOUR: 'it returns false'. Refute it at one input. -/
def talkRectsWrong : ChangeSpec := { name := "talkRects", fn := fun _ => fun
  | [d1, d2] => { results := [.lit (.bool false)], args := [d1, d2] }
  | _ => none }
def TalkRectsWrongFalsely : Prop := talkRectsRow.holds Try.pinned (OpenSpec.ofChange talkRectsWrong)

/-- 'tapeworkslaw.PairsSigneds': WHATEVER THE INPUT: true; the input reads as it did. -/
def pairsSignedsSpec : ChangeSpec := { name := "pairsSigneds", fn := fun _ => fun
  | [d] => { results := [.lit (.bool true)], args := [d] }
  | _ => none }
def pairsSignedsRow : OpenClaim := { program := "ytjghcbdfpcpahaa", sum := "c49d677a16cf9564c336eff9b9a3a94e8cbc51f6f03990357b5fe15db52132ae", func := "tapeworks/tapeworkslaw.PairsSigneds", spec := "pairsSigneds", unfollowed := true, recurses := true, plainKeys := false, apart := false }
def PairsSignedsSaid : Prop := pairsSignedsRow.holds Try.pinned (OpenSpec.ofChange pairsSignedsSpec)

/-- ITS FALSE NEIGHBOUR: 'it returns false'. Refute it at one input. -/
def pairsSignedsWrong : ChangeSpec := { name := "pairsSigneds", fn := fun _ => fun
  | [d] => { results := [.lit (.bool false)], args := [d] }
  | _ => none }
def PairsSignedsWrongFalsely : Prop := pairsSignedsRow.holds Try.pinned (OpenSpec.ofChange pairsSignedsWrong)

/-- 'tapeworkslaw.PairsParities': WHATEVER THE INPUT: true; the input reads as it did. -/
def pairsParitiesSpec : ChangeSpec := { name := "pairsParities", fn := fun _ => fun
  | [d] => { results := [.lit (.bool true)], args := [d] }
  | _ => none }
def pairsParitiesRow : OpenClaim := { program := "ytjghcbdfpcpahaa", sum := "c49d677a16cf9564c336eff9b9a3a94e8cbc51f6f03990357b5fe15db52132ae", func := "tapeworks/tapeworkslaw.PairsParities", spec := "pairsParities", unfollowed := true, recurses := true, plainKeys := false, apart := false }
def PairsParitiesSaid : Prop := pairsParitiesRow.holds Try.pinned (OpenSpec.ofChange pairsParitiesSpec)

/-- ITS FALSE NEIGHBOUR: 'it returns false'. Refute it at one input. -/
def pairsParitiesWrong : ChangeSpec := { name := "pairsParities", fn := fun _ => fun
  | [d] => { results := [.lit (.bool false)], args := [d] }
  | _ => none }
def PairsParitiesWrongFalsely : Prop := pairsParitiesRow.holds Try.pinned (OpenSpec.ofChange pairsParitiesWrong)

/-- 'tapeworkslaw.PairsWays': WHATEVER THE INPUT: true; the input reads as it did. -/
def pairsWaysSpec : ChangeSpec := { name := "pairsWays", fn := fun _ => fun
  | [d] => { results := [.lit (.bool true)], args := [d] }
  | _ => none }
def pairsWaysRow : OpenClaim := { program := "ytjghcbdfpcpahaa", sum := "c49d677a16cf9564c336eff9b9a3a94e8cbc51f6f03990357b5fe15db52132ae", func := "tapeworks/tapeworkslaw.PairsWays", spec := "pairsWays", unfollowed := true, recurses := true, plainKeys := false, apart := false }
def PairsWaysSaid : Prop := pairsWaysRow.holds Try.pinned (OpenSpec.ofChange pairsWaysSpec)

/-- ITS FALSE NEIGHBOUR: 'it returns false'. Refute it at one input. -/
def pairsWaysWrong : ChangeSpec := { name := "pairsWays", fn := fun _ => fun
  | [d] => { results := [.lit (.bool false)], args := [d] }
  | _ => none }
def PairsWaysWrongFalsely : Prop := pairsWaysRow.holds Try.pinned (OpenSpec.ofChange pairsWaysWrong)

/-- 'tapeworkslaw.PairsMosts': WHATEVER THE INPUT: true; the input reads as it did. -/
def pairsMostsSpec : ChangeSpec := { name := "pairsMosts", fn := fun _ => fun
  | [d] => { results := [.lit (.bool true)], args := [d] }
  | _ => none }
def pairsMostsRow : OpenClaim := { program := "ytjghcbdfpcpahaa", sum := "c49d677a16cf9564c336eff9b9a3a94e8cbc51f6f03990357b5fe15db52132ae", func := "tapeworks/tapeworkslaw.PairsMosts", spec := "pairsMosts", unfollowed := true, recurses := true, plainKeys := false, apart := false }
def PairsMostsSaid : Prop := pairsMostsRow.holds Try.pinned (OpenSpec.ofChange pairsMostsSpec)

/-- ITS FALSE NEIGHBOUR: 'it returns false'. Refute it at one input. -/
def pairsMostsWrong : ChangeSpec := { name := "pairsMosts", fn := fun _ => fun
  | [d] => { results := [.lit (.bool false)], args := [d] }
  | _ => none }
def PairsMostsWrongFalsely : Prop := pairsMostsRow.holds Try.pinned (OpenSpec.ofChange pairsMostsWrong)

/- THE SECOND FORM. 'bulk': how many values and letters a reading holds, each counted each time it is reached (what is shared counts as often as it is met; a slice's spare places count too). A statement '..UptoSaid' is the law's where the arguments, and the package variables that the reading takes, are together of bulk at most 1048576: NARROWER than '..Said'. Prove '..Said' where nothing that the law and all that it calls make is longer than what came in: it says more and counts as full. Else prove '..UptoSaid'. A law counts once. -/
mutual
def uptoBulk {H : Type} : DataW H → Nat
  | .lit (.string bytes) => bytes.length + 1
  | .lit _ => 1
  | .nil => 1
  | .ptr d => uptoBulk d + 1
  | .slice elems spare => uptoBulkAll elems + uptoBulkAll spare + 1
  | .agg parts => uptoBulkAll parts + 1
  | .iface _ d => uptoBulk d + 1
  | .map entries => uptoBulkEntries entries + 1
  | .held _ => 1
def uptoBulkAll {H : Type} : List (DataW H) → Nat
  | [] => 0
  | d :: r => uptoBulk d + uptoBulkAll r
def uptoBulkEntries {H : Type} : List (Lit × DataW H) → Nat
  | [] => 0
  | x :: r => uptoBulkEntry x + uptoBulkEntries r
def uptoBulkEntry {H : Type} : Lit × DataW H → Nat
  | (.string bytes, d) => bytes.length + uptoBulk d + 1
  | (_, d) => uptoBulk d + 1
 end
def uptoSmall : (H : Type) → List (DataW H) → Bool := fun _ ds => decide (uptoBulkAll ds ≤ 1048576)
def OpenSpec.upto (s : _root_.Go.ChangeSpec) : _root_.Go.OpenSpec := { _root_.Go.OpenSpec.ofChange s with cond := some uptoSmall }

/-- 'tapeworkslaw.TalkRows', WHERE WHAT IT READS IS OF BULK AT MOST 1048576: true; the input reads as it did. -/
def talkRowsUptoRow : OpenClaim := { program := "ytjghcbdfpcpahaa", sum := "c49d677a16cf9564c336eff9b9a3a94e8cbc51f6f03990357b5fe15db52132ae", func := "tapeworks/tapeworkslaw.TalkRows", spec := "talkRows", unfollowed := true, recurses := true, plainKeys := false, apart := false, narrowed := true }
def TalkRowsUptoSaid : Prop := talkRowsUptoRow.holds Try.pinned (OpenSpec.upto talkRowsSpec)

/-- 'tapeworkslaw.TalkRanks', WHERE WHAT IT READS IS OF BULK AT MOST 1048576: true; the input reads as it did. -/
def talkRanksUptoRow : OpenClaim := { program := "ytjghcbdfpcpahaa", sum := "c49d677a16cf9564c336eff9b9a3a94e8cbc51f6f03990357b5fe15db52132ae", func := "tapeworks/tapeworkslaw.TalkRanks", spec := "talkRanks", unfollowed := true, recurses := true, plainKeys := false, apart := false, narrowed := true }
def TalkRanksUptoSaid : Prop := talkRanksUptoRow.holds Try.pinned (OpenSpec.upto talkRanksSpec)

/-- 'tapeworkslaw.TalkLeasts', WHERE WHAT IT READS IS OF BULK AT MOST 1048576: true; the input reads as it did. -/
def talkLeastsUptoRow : OpenClaim := { program := "ytjghcbdfpcpahaa", sum := "c49d677a16cf9564c336eff9b9a3a94e8cbc51f6f03990357b5fe15db52132ae", func := "tapeworks/tapeworkslaw.TalkLeasts", spec := "talkLeasts", unfollowed := true, recurses := true, plainKeys := false, apart := false, narrowed := true }
def TalkLeastsUptoSaid : Prop := talkLeastsUptoRow.holds Try.pinned (OpenSpec.upto talkLeastsSpec)

/-- 'tapeworkslaw.TalkFools', WHERE WHAT IT READS IS OF BULK AT MOST 1048576: true; the input reads as it did. -/
def talkFoolsUptoRow : OpenClaim := { program := "ytjghcbdfpcpahaa", sum := "c49d677a16cf9564c336eff9b9a3a94e8cbc51f6f03990357b5fe15db52132ae", func := "tapeworks/tapeworkslaw.TalkFools", spec := "talkFools", unfollowed := true, recurses := true, plainKeys := false, apart := false, narrowed := true }
def TalkFoolsUptoSaid : Prop := talkFoolsUptoRow.holds Try.pinned (OpenSpec.upto talkFoolsSpec)

/-- 'tapeworkslaw.TalkRects', WHERE WHAT IT READS IS OF BULK AT MOST 1048576: true; the input reads as it did. -/
def talkRectsUptoRow : OpenClaim := { program := "ytjghcbdfpcpahaa", sum := "c49d677a16cf9564c336eff9b9a3a94e8cbc51f6f03990357b5fe15db52132ae", func := "tapeworks/tapeworkslaw.TalkRects", spec := "talkRects", unfollowed := true, recurses := true, plainKeys := false, apart := false, narrowed := true }
def TalkRectsUptoSaid : Prop := talkRectsUptoRow.holds Try.pinned (OpenSpec.upto talkRectsSpec)

/-- 'tapeworkslaw.PairsSigneds', WHERE WHAT IT READS IS OF BULK AT MOST 1048576: true; the input reads as it did. -/
def pairsSignedsUptoRow : OpenClaim := { program := "ytjghcbdfpcpahaa", sum := "c49d677a16cf9564c336eff9b9a3a94e8cbc51f6f03990357b5fe15db52132ae", func := "tapeworks/tapeworkslaw.PairsSigneds", spec := "pairsSigneds", unfollowed := true, recurses := true, plainKeys := false, apart := false, narrowed := true }
def PairsSignedsUptoSaid : Prop := pairsSignedsUptoRow.holds Try.pinned (OpenSpec.upto pairsSignedsSpec)

/-- 'tapeworkslaw.PairsParities', WHERE WHAT IT READS IS OF BULK AT MOST 1048576: true; the input reads as it did. -/
def pairsParitiesUptoRow : OpenClaim := { program := "ytjghcbdfpcpahaa", sum := "c49d677a16cf9564c336eff9b9a3a94e8cbc51f6f03990357b5fe15db52132ae", func := "tapeworks/tapeworkslaw.PairsParities", spec := "pairsParities", unfollowed := true, recurses := true, plainKeys := false, apart := false, narrowed := true }
def PairsParitiesUptoSaid : Prop := pairsParitiesUptoRow.holds Try.pinned (OpenSpec.upto pairsParitiesSpec)

/-- 'tapeworkslaw.PairsWays', WHERE WHAT IT READS IS OF BULK AT MOST 1048576: true; the input reads as it did. -/
def pairsWaysUptoRow : OpenClaim := { program := "ytjghcbdfpcpahaa", sum := "c49d677a16cf9564c336eff9b9a3a94e8cbc51f6f03990357b5fe15db52132ae", func := "tapeworks/tapeworkslaw.PairsWays", spec := "pairsWays", unfollowed := true, recurses := true, plainKeys := false, apart := false, narrowed := true }
def PairsWaysUptoSaid : Prop := pairsWaysUptoRow.holds Try.pinned (OpenSpec.upto pairsWaysSpec)

/-- 'tapeworkslaw.PairsMosts', WHERE WHAT IT READS IS OF BULK AT MOST 1048576: true; the input reads as it did. -/
def pairsMostsUptoRow : OpenClaim := { program := "ytjghcbdfpcpahaa", sum := "c49d677a16cf9564c336eff9b9a3a94e8cbc51f6f03990357b5fe15db52132ae", func := "tapeworks/tapeworkslaw.PairsMosts", spec := "pairsMosts", unfollowed := true, recurses := true, plainKeys := false, apart := false, narrowed := true }
def PairsMostsUptoSaid : Prop := pairsMostsUptoRow.holds Try.pinned (OpenSpec.upto pairsMostsSpec)

end Rows
end Go.Proofs.Ytjghcbdfpcpahaa
