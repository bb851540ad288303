/-
  No cell of these rows narrows 'for every input' (looked for: loops, veiled, ifaces, maps, wideKeys, modest, calm, conditions, laid).
  DERIVED. THE GIVEN ROWS OF THIS SEAT. 12 by the template 'for every input the law returns true; each argument reads behind the call as it read before'; 0 by the template 'total and deterministic' (their statements: YtkkmiclmbhbmjaaTotals.lean).
  GIVEN WITH THE SEED: the statements are not yours to turn. If you find one false, say at which input.
  Laid BY PROGRAM, IN A SANDBOX (cutbox-rows.mjs): the forced cells as the released guide's own fill.sh prints them over the translation 8ec310a7757a92e7… (all of the seat's roots in one cut). By AI agents, Wed Nov 11 2026. No macro, syntax, notation, axiom, sorry.
-/
import Derived.Test.YtkkmiclmbhbmjaaChecked
import GoSem.Claim
import GoSem.ClaimJoined
import GoSem.ClaimMapViews
import Derived.JoinedTies
import Derived.KernelRfl
namespace Go.Proofs.Ytkkmiclmbhbmjaa
/- THE CELL 'sum', in the pinned program and in every row, IS THE sha256 OF THE DUMP (.gsa) THAT YtkkmiclmbhbmjaaProg.lean LOADS. Nothing in Lean hashes anything: it is a label: what it is worth is what the hold of that sum in a sandbox is worth. -/
noncomputable def Try.pinned : Pinned := { name := "ytkkmiclmbhbmjaa", sum := "8ec310a7757a92e7b40d86669fc31f9fbeeb91070ef3ca87ffb9f76ef945c1c6", checked := Try.checked }
namespace Rows
def none {H : Type} : Left H := { results := [], args := [] }

/-- 'tapeworkslaw.LoneSieves': WHATEVER THE INPUT: true; the input reads as it did. -/
def loneSievesSpec : ChangeSpec := { name := "loneSieves", fn := fun _ => fun
  | [d1, d2, d3] => { results := [.lit (.bool true)], args := [d1, d2, d3] }
  | _ => none }
def loneSievesRow : OpenClaim := { program := "ytkkmiclmbhbmjaa", sum := "8ec310a7757a92e7b40d86669fc31f9fbeeb91070ef3ca87ffb9f76ef945c1c6", func := "tapeworks/tapeworkslaw.LoneSieves", spec := "loneSieves", unfollowed := true, recurses := true, apart := false }
def LoneSievesSaid : Prop := loneSievesRow.holds Try.pinned (OpenSpec.ofChange loneSievesSpec)

/-- ITS FALSE NEIGHBOUR: 'it returns false'. Refute it at one input. -/
def loneSievesWrong : ChangeSpec := { name := "loneSieves", fn := fun _ => fun
  | [d1, d2, d3] => { results := [.lit (.bool false)], args := [d1, d2, d3] }
  | _ => none }
def LoneSievesWrongFalsely : Prop := loneSievesRow.holds Try.pinned (OpenSpec.ofChange loneSievesWrong)

/-- 'tapeworkslaw.LoneLeasts': WHATEVER THE INPUT: true; the input reads as it did. -/
def loneLeastsSpec : ChangeSpec := { name := "loneLeasts", fn := fun _ => fun
  | [d1, d2, d3] => { results := [.lit (.bool true)], args := [d1, d2, d3] }
  | _ => none }
def loneLeastsRow : OpenClaim := { program := "ytkkmiclmbhbmjaa", sum := "8ec310a7757a92e7b40d86669fc31f9fbeeb91070ef3ca87ffb9f76ef945c1c6", func := "tapeworks/tapeworkslaw.LoneLeasts", spec := "loneLeasts", unfollowed := true, recurses := true, apart := false }
def LoneLeastsSaid : Prop := loneLeastsRow.holds Try.pinned (OpenSpec.ofChange loneLeastsSpec)

/-- ITS FALSE NEIGHBOUR: 'it returns false'. Refute it at one input. -/
def loneLeastsWrong : ChangeSpec := { name := "loneLeasts", fn := fun _ => fun
  | [d1, d2, d3] => { results := [.lit (.bool false)], args := [d1, d2, d3] }
  | _ => none }
def LoneLeastsWrongFalsely : Prop := loneLeastsRow.holds Try.pinned (OpenSpec.ofChange loneLeastsWrong)

/-- 'tapeworkslaw.LoneSingles': WHATEVER THE INPUT: true; the input reads as it did. -/
def loneSinglesSpec : ChangeSpec := { name := "loneSingles", fn := fun _ => fun
  | [d1, d2, d3] => { results := [.lit (.bool true)], args := [d1, d2, d3] }
  | _ => none }
def loneSinglesRow : OpenClaim := { program := "ytkkmiclmbhbmjaa", sum := "8ec310a7757a92e7b40d86669fc31f9fbeeb91070ef3ca87ffb9f76ef945c1c6", func := "tapeworks/tapeworkslaw.LoneSingles", spec := "loneSingles", unfollowed := true, recurses := true, apart := false }
def LoneSinglesSaid : Prop := loneSinglesRow.holds Try.pinned (OpenSpec.ofChange loneSinglesSpec)

/-- ITS FALSE NEIGHBOUR: 'it returns false'. Refute it at one input. -/
def loneSinglesWrong : ChangeSpec := { name := "loneSingles", fn := fun _ => fun
  | [d1, d2, d3] => { results := [.lit (.bool false)], args := [d1, d2, d3] }
  | _ => none }
def LoneSinglesWrongFalsely : Prop := loneSinglesRow.holds Try.pinned (OpenSpec.ofChange loneSinglesWrong)

/-- 'tapeworkslaw.LoneLuckies': WHATEVER THE INPUT: true; the input reads as it did. -/
def loneLuckiesSpec : ChangeSpec := { name := "loneLuckies", fn := fun _ => fun
  | [d1, d2, d3] => { results := [.lit (.bool true)], args := [d1, d2, d3] }
  | _ => none }
def loneLuckiesRow : OpenClaim := { program := "ytkkmiclmbhbmjaa", sum := "8ec310a7757a92e7b40d86669fc31f9fbeeb91070ef3ca87ffb9f76ef945c1c6", func := "tapeworks/tapeworkslaw.LoneLuckies", spec := "loneLuckies", unfollowed := true, recurses := true, apart := false }
def LoneLuckiesSaid : Prop := loneLuckiesRow.holds Try.pinned (OpenSpec.ofChange loneLuckiesSpec)

/-- ITS FALSE NEIGHBOUR: 'it returns false'. Refute it at one input. -/
def loneLuckiesWrong : ChangeSpec := { name := "loneLuckies", fn := fun _ => fun
  | [d1, d2, d3] => { results := [.lit (.bool false)], args := [d1, d2, d3] }
  | _ => none }
def LoneLuckiesWrongFalsely : Prop := loneLuckiesRow.holds Try.pinned (OpenSpec.ofChange loneLuckiesWrong)

/-- 'tapeworkslaw.CombChecks': WHATEVER THE INPUT: true; the input reads as it did. -/
def combChecksSpec : ChangeSpec := { name := "combChecks", fn := fun _ => fun
  | [d] => { results := [.lit (.bool true)], args := [d] }
  | _ => none }
def combChecksRow : OpenClaim := { program := "ytkkmiclmbhbmjaa", sum := "8ec310a7757a92e7b40d86669fc31f9fbeeb91070ef3ca87ffb9f76ef945c1c6", func := "tapeworks/tapeworkslaw.CombChecks", spec := "combChecks", apart := false }
def CombChecksSaid : Prop := combChecksRow.holds Try.pinned (OpenSpec.ofChange combChecksSpec)

/-- ITS FALSE NEIGHBOUR: 'it returns false'. Refute it at one input. -/
def combChecksWrong : ChangeSpec := { name := "combChecks", fn := fun _ => fun
  | [d] => { results := [.lit (.bool false)], args := [d] }
  | _ => none }
def CombChecksWrongFalsely : Prop := combChecksRow.holds Try.pinned (OpenSpec.ofChange combChecksWrong)

/-- 'tapeworkslaw.CombSteps': WHATEVER THE INPUT: true; the input reads as it did. -/
def combStepsSpec : ChangeSpec := { name := "combSteps", fn := fun _ => fun
  | [d] => { results := [.lit (.bool true)], args := [d] }
  | _ => none }
def combStepsRow : OpenClaim := { program := "ytkkmiclmbhbmjaa", sum := "8ec310a7757a92e7b40d86669fc31f9fbeeb91070ef3ca87ffb9f76ef945c1c6", func := "tapeworks/tapeworkslaw.CombSteps", spec := "combSteps", recurses := true, apart := false }
def CombStepsSaid : Prop := combStepsRow.holds Try.pinned (OpenSpec.ofChange combStepsSpec)

/-- ITS FALSE NEIGHBOUR: 'it returns false'. Refute it at one input. -/
def combStepsWrong : ChangeSpec := { name := "combSteps", fn := fun _ => fun
  | [d] => { results := [.lit (.bool false)], args := [d] }
  | _ => none }
def CombStepsWrongFalsely : Prop := combStepsRow.holds Try.pinned (OpenSpec.ofChange combStepsWrong)

/-- 'tapeworkslaw.CombNorms': WHATEVER THE INPUT: true; the input reads as it did. -/
def combNormsSpec : ChangeSpec := { name := "combNorms", fn := fun _ => fun
  | [d1, d2] => { results := [.lit (.bool true)], args := [d1, d2] }
  | _ => none }
def combNormsRow : OpenClaim := { program := "ytkkmiclmbhbmjaa", sum := "8ec310a7757a92e7b40d86669fc31f9fbeeb91070ef3ca87ffb9f76ef945c1c6", func := "tapeworks/tapeworkslaw.CombNorms", spec := "combNorms", recurses := true, apart := false }
def CombNormsSaid : Prop := combNormsRow.holds Try.pinned (OpenSpec.ofChange combNormsSpec)

/-- ITS FALSE NEIGHBOUR: 'it returns false'. Refute it at one input. -/
def combNormsWrong : ChangeSpec := { name := "combNorms", fn := fun _ => fun
  | [d1, d2] => { results := [.lit (.bool false)], args := [d1, d2] }
  | _ => none }
def CombNormsWrongFalsely : Prop := combNormsRow.holds Try.pinned (OpenSpec.ofChange combNormsWrong)

/-- 'tapeworkslaw.CombOuts': WHATEVER THE INPUT: true; the input reads as it did. -/
def combOutsSpec : ChangeSpec := { name := "combOuts", fn := fun _ => fun
  | [d1, d2] => { results := [.lit (.bool true)], args := [d1, d2] }
  | _ => none }
def combOutsRow : OpenClaim := { program := "ytkkmiclmbhbmjaa", sum := "8ec310a7757a92e7b40d86669fc31f9fbeeb91070ef3ca87ffb9f76ef945c1c6", func := "tapeworks/tapeworkslaw.CombOuts", spec := "combOuts", recurses := true, apart := false }
def CombOutsSaid : Prop := combOutsRow.holds Try.pinned (OpenSpec.ofChange combOutsSpec)

/-- ITS FALSE NEIGHBOUR: 'it returns false'. Refute it at one input. -/
def combOutsWrong : ChangeSpec := { name := "combOuts", fn := fun _ => fun
  | [d1, d2] => { results := [.lit (.bool false)], args := [d1, d2] }
  | _ => none }
def CombOutsWrongFalsely : Prop := combOutsRow.holds Try.pinned (OpenSpec.ofChange combOutsWrong)

/-- 'tapeworkslaw.HalfCounts': WHATEVER THE INPUT: true; the input reads as it did. -/
def halfCountsSpec : ChangeSpec := { name := "halfCounts", fn := fun _ => fun
  | [d1, d2] => { results := [.lit (.bool true)], args := [d1, d2] }
  | _ => none }
def halfCountsRow : OpenClaim := { program := "ytkkmiclmbhbmjaa", sum := "8ec310a7757a92e7b40d86669fc31f9fbeeb91070ef3ca87ffb9f76ef945c1c6", func := "tapeworks/tapeworkslaw.HalfCounts", spec := "halfCounts", unfollowed := true, recurses := true, apart := false }
def HalfCountsSaid : Prop := halfCountsRow.holds Try.pinned (OpenSpec.ofChange halfCountsSpec)

/-- ITS FALSE NEIGHBOUR: 'it returns false'. Refute it at one input. -/
def halfCountsWrong : ChangeSpec := { name := "halfCounts", fn := fun _ => fun
  | [d1, d2] => { results := [.lit (.bool false)], args := [d1, d2] }
  | _ => none }
def HalfCountsWrongFalsely : Prop := halfCountsRow.holds Try.pinned (OpenSpec.ofChange halfCountsWrong)

/-- 'tapeworkslaw.HalfCans': WHATEVER THE INPUT: true; the input reads as it did. -/
def halfCansSpec : ChangeSpec := { name := "halfCans", fn := fun _ => fun
  | [d1, d2, d3, d4] => { results := [.lit (.bool true)], args := [d1, d2, d3, d4] }
  | _ => none }
def halfCansRow : OpenClaim := { program := "ytkkmiclmbhbmjaa", sum := "8ec310a7757a92e7b40d86669fc31f9fbeeb91070ef3ca87ffb9f76ef945c1c6", func := "tapeworks/tapeworkslaw.HalfCans", spec := "halfCans", unfollowed := true, recurses := true, apart := false }
def HalfCansSaid : Prop := halfCansRow.holds Try.pinned (OpenSpec.ofChange halfCansSpec)

/-- ITS FALSE NEIGHBOUR: 'it returns false'. Refute it at one input. -/
def halfCansWrong : ChangeSpec := { name := "halfCans", fn := fun _ => fun
  | [d1, d2, d3, d4] => { results := [.lit (.bool false)], args := [d1, d2, d3, d4] }
  | _ => none }
def HalfCansWrongFalsely : Prop := halfCansRow.holds Try.pinned (OpenSpec.ofChange halfCansWrong)

/-- 'tapeworkslaw.HalfWays': WHATEVER THE INPUT: true; the input reads as it did. -/
def halfWaysSpec : ChangeSpec := { name := "halfWays", fn := fun _ => fun
  | [d1, d2, d3] => { results := [.lit (.bool true)], args := [d1, d2, d3] }
  | _ => none }
def halfWaysRow : OpenClaim := { program := "ytkkmiclmbhbmjaa", sum := "8ec310a7757a92e7b40d86669fc31f9fbeeb91070ef3ca87ffb9f76ef945c1c6", func := "tapeworks/tapeworkslaw.HalfWays", spec := "halfWays", unfollowed := true, recurses := true, apart := false }
def HalfWaysSaid : Prop := halfWaysRow.holds Try.pinned (OpenSpec.ofChange halfWaysSpec)

/-- ITS FALSE NEIGHBOUR: 'it returns false'. Refute it at one input. -/
def halfWaysWrong : ChangeSpec := { name := "halfWays", fn := fun _ => fun
  | [d1, d2, d3] => { results := [.lit (.bool false)], args := [d1, d2, d3] }
  | _ => none }
def HalfWaysWrongFalsely : Prop := halfWaysRow.holds Try.pinned (OpenSpec.ofChange halfWaysWrong)

/-- 'tapeworkslaw.HalfNevers': WHATEVER THE INPUT: true; the input reads as it did. -/
def halfNeversSpec : ChangeSpec := { name := "halfNevers", fn := fun _ => fun
  | [d1, d2, d3] => { results := [.lit (.bool true)], args := [d1, d2, d3] }
  | _ => none }
def halfNeversRow : OpenClaim := { program := "ytkkmiclmbhbmjaa", sum := "8ec310a7757a92e7b40d86669fc31f9fbeeb91070ef3ca87ffb9f76ef945c1c6", func := "tapeworks/tapeworkslaw.HalfNevers", spec := "halfNevers", unfollowed := true, recurses := true, apart := false }
def HalfNeversSaid : Prop := halfNeversRow.holds Try.pinned (OpenSpec.ofChange halfNeversSpec)

/-- ITS FALSE NEIGHBOUR: 'it returns false'. Refute it at one input. -/
def halfNeversWrong : ChangeSpec := { name := "halfNevers", fn := fun _ => fun
  | [d1, d2, d3] => { results := [.lit (.bool false)], args := [d1, d2, d3] }
  | _ => none }
def HalfNeversWrongFalsely : Prop := halfNeversRow.holds Try.pinned (OpenSpec.ofChange halfNeversWrong)

/- THE SECOND FORM. 'bulk': how many values and letters a reading holds, each counted each time it is reached (what is shared counts as often as it is met; a slice's spare places count too). A statement '..UptoSaid' is the law's where the arguments, and the package variables that the reading takes, are together of bulk at most 1048576: NARROWER than '..Said'. Prove '..Said' where nothing that the law and all that it calls make is longer than what came in: it says more and counts as full. Else prove '..UptoSaid'. A law counts once. -/
mutual
def uptoBulk {H : Type} : DataW H → Nat
  | .lit (.string bytes) => bytes.length + 1
  | .lit _ => 1
  | .nil => 1
  | .ptr d => uptoBulk d + 1
  | .slice elems spare => uptoBulkAll elems + uptoBulkAll spare + 1
  | .agg parts => uptoBulkAll parts + 1
  | .iface _ d => uptoBulk d + 1
  | .map entries => uptoBulkEntries entries + 1
  | .held _ => 1
def uptoBulkAll {H : Type} : List (DataW H) → Nat
  | [] => 0
  | d :: r => uptoBulk d + uptoBulkAll r
def uptoBulkEntries {H : Type} : List (Lit × DataW H) → Nat
  | [] => 0
  | x :: r => uptoBulkEntry x + uptoBulkEntries r
def uptoBulkEntry {H : Type} : Lit × DataW H → Nat
  | (.string bytes, d) => bytes.length + uptoBulk d + 1
  | (_, d) => uptoBulk d + 1
 end
def uptoSmall : (H : Type) → List (DataW H) → Bool := fun _ ds => decide (uptoBulkAll ds ≤ 1048576)
def OpenSpec.upto (s : _root_.Go.ChangeSpec) : _root_.Go.OpenSpec := { _root_.Go.OpenSpec.ofChange s with cond := some uptoSmall }

/-- 'tapeworkslaw.LoneSieves', WHERE WHAT IT READS IS OF BULK AT MOST 1048576: true; the input reads as it did. -/
def loneSievesUptoRow : OpenClaim := { program := "ytkkmiclmbhbmjaa", sum := "8ec310a7757a92e7b40d86669fc31f9fbeeb91070ef3ca87ffb9f76ef945c1c6", func := "tapeworks/tapeworkslaw.LoneSieves", spec := "loneSieves", unfollowed := true, recurses := true, apart := false, narrowed := true }
def LoneSievesUptoSaid : Prop := loneSievesUptoRow.holds Try.pinned (OpenSpec.upto loneSievesSpec)

/-- 'tapeworkslaw.LoneLeasts', WHERE WHAT IT READS IS OF BULK AT MOST 1048576: true; the input reads as it did. -/
def loneLeastsUptoRow : OpenClaim := { program := "ytkkmiclmbhbmjaa", sum := "8ec310a7757a92e7b40d86669fc31f9fbeeb91070ef3ca87ffb9f76ef945c1c6", func := "tapeworks/tapeworkslaw.LoneLeasts", spec := "loneLeasts", unfollowed := true, recurses := true, apart := false, narrowed := true }
def LoneLeastsUptoSaid : Prop := loneLeastsUptoRow.holds Try.pinned (OpenSpec.upto loneLeastsSpec)

/-- 'tapeworkslaw.LoneSingles', WHERE WHAT IT READS IS OF BULK AT MOST 1048576: true; the input reads as it did. -/
def loneSinglesUptoRow : OpenClaim := { program := "ytkkmiclmbhbmjaa", sum := "8ec310a7757a92e7b40d86669fc31f9fbeeb91070ef3ca87ffb9f76ef945c1c6", func := "tapeworks/tapeworkslaw.LoneSingles", spec := "loneSingles", unfollowed := true, recurses := true, apart := false, narrowed := true }
def LoneSinglesUptoSaid : Prop := loneSinglesUptoRow.holds Try.pinned (OpenSpec.upto loneSinglesSpec)

/-- 'tapeworkslaw.LoneLuckies', WHERE WHAT IT READS IS OF BULK AT MOST 1048576: true; the input reads as it did. -/
def loneLuckiesUptoRow : OpenClaim := { program := "ytkkmiclmbhbmjaa", sum := "8ec310a7757a92e7b40d86669fc31f9fbeeb91070ef3ca87ffb9f76ef945c1c6", func := "tapeworks/tapeworkslaw.LoneLuckies", spec := "loneLuckies", unfollowed := true, recurses := true, apart := false, narrowed := true }
def LoneLuckiesUptoSaid : Prop := loneLuckiesUptoRow.holds Try.pinned (OpenSpec.upto loneLuckiesSpec)

/-- 'tapeworkslaw.CombChecks', WHERE WHAT IT READS IS OF BULK AT MOST 1048576: true; the input reads as it did. -/
def combChecksUptoRow : OpenClaim := { program := "ytkkmiclmbhbmjaa", sum := "8ec310a7757a92e7b40d86669fc31f9fbeeb91070ef3ca87ffb9f76ef945c1c6", func := "tapeworks/tapeworkslaw.CombChecks", spec := "combChecks", apart := false, narrowed := true }
def CombChecksUptoSaid : Prop := combChecksUptoRow.holds Try.pinned (OpenSpec.upto combChecksSpec)

/-- 'tapeworkslaw.CombSteps', WHERE WHAT IT READS IS OF BULK AT MOST 1048576: true; the input reads as it did. -/
def combStepsUptoRow : OpenClaim := { program := "ytkkmiclmbhbmjaa", sum := "8ec310a7757a92e7b40d86669fc31f9fbeeb91070ef3ca87ffb9f76ef945c1c6", func := "tapeworks/tapeworkslaw.CombSteps", spec := "combSteps", recurses := true, apart := false, narrowed := true }
def CombStepsUptoSaid : Prop := combStepsUptoRow.holds Try.pinned (OpenSpec.upto combStepsSpec)

/-- 'tapeworkslaw.CombNorms', WHERE WHAT IT READS IS OF BULK AT MOST 1048576: true; the input reads as it did. -/
def combNormsUptoRow : OpenClaim := { program := "ytkkmiclmbhbmjaa", sum := "8ec310a7757a92e7b40d86669fc31f9fbeeb91070ef3ca87ffb9f76ef945c1c6", func := "tapeworks/tapeworkslaw.CombNorms", spec := "combNorms", recurses := true, apart := false, narrowed := true }
def CombNormsUptoSaid : Prop := combNormsUptoRow.holds Try.pinned (OpenSpec.upto combNormsSpec)

/-- 'tapeworkslaw.CombOuts', WHERE WHAT IT READS IS OF BULK AT MOST 1048576: true; the input reads as it did. -/
def combOutsUptoRow : OpenClaim := { program := "ytkkmiclmbhbmjaa", sum := "8ec310a7757a92e7b40d86669fc31f9fbeeb91070ef3ca87ffb9f76ef945c1c6", func := "tapeworks/tapeworkslaw.CombOuts", spec := "combOuts", recurses := true, apart := false, narrowed := true }
def CombOutsUptoSaid : Prop := combOutsUptoRow.holds Try.pinned (OpenSpec.upto combOutsSpec)

/-- 'tapeworkslaw.HalfCounts', WHERE WHAT IT READS IS OF BULK AT MOST 1048576: true; the input reads as it did. -/
def halfCountsUptoRow : OpenClaim := { program := "ytkkmiclmbhbmjaa", sum := "8ec310a7757a92e7b40d86669fc31f9fbeeb91070ef3ca87ffb9f76ef945c1c6", func := "tapeworks/tapeworkslaw.HalfCounts", spec := "halfCounts", unfollowed := true, recurses := true, apart := false, narrowed := true }
def HalfCountsUptoSaid : Prop := halfCountsUptoRow.holds Try.pinned (OpenSpec.upto halfCountsSpec)

/-- 'tapeworkslaw.HalfCans', WHERE WHAT IT READS IS OF BULK AT MOST 1048576: true; the input reads as it did. -/
def halfCansUptoRow : OpenClaim := { program := "ytkkmiclmbhbmjaa", sum := "8ec310a7757a92e7b40d86669fc31f9fbeeb91070ef3ca87ffb9f76ef945c1c6", func := "tapeworks/tapeworkslaw.HalfCans", spec := "halfCans", unfollowed := true, recurses := true, apart := false, narrowed := true }
def HalfCansUptoSaid : Prop := halfCansUptoRow.holds Try.pinned (OpenSpec.upto halfCansSpec)

/-- 'tapeworkslaw.HalfWays', WHERE WHAT IT READS IS OF BULK AT MOST 1048576: true; the input reads as it did. -/
def halfWaysUptoRow : OpenClaim := { program := "ytkkmiclmbhbmjaa", sum := "8ec310a7757a92e7b40d86669fc31f9fbeeb91070ef3ca87ffb9f76ef945c1c6", func := "tapeworks/tapeworkslaw.HalfWays", spec := "halfWays", unfollowed := true, recurses := true, apart := false, narrowed := true }
def HalfWaysUptoSaid : Prop := halfWaysUptoRow.holds Try.pinned (OpenSpec.upto halfWaysSpec)

/-- 'tapeworkslaw.HalfNevers', WHERE WHAT IT READS IS OF BULK AT MOST 1048576: true; the input reads as it did. -/
def halfNeversUptoRow : OpenClaim := { program := "ytkkmiclmbhbmjaa", sum := "8ec310a7757a92e7b40d86669fc31f9fbeeb91070ef3ca87ffb9f76ef945c1c6", func := "tapeworks/tapeworkslaw.HalfNevers", spec := "halfNevers", unfollowed := true, recurses := true, apart := false, narrowed := true }
def HalfNeversUptoSaid : Prop := halfNeversUptoRow.holds Try.pinned (OpenSpec.upto halfNeversSpec)

end Rows
end Go.Proofs.Ytkkmiclmbhbmjaa
