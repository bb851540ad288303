/-
  No cell of these rows narrows 'for every input' (looked for: loops, veiled, ifaces, maps, wideKeys, modest, calm, conditions, laid).
  DERIVED. THE GIVEN ROWS OF THIS SEAT. 6 by the template 'for every input the law returns true; each argument reads behind the call as it read before'; 0 by the template 'total and deterministic' (their statements: YtbicjcdenfcojaaTotals.lean).
  GIVEN WITH THE SEED: the statements are not yours to turn. If you find one false, say at which input.
  Laid BY PROGRAM, IN A SANDBOX (cutbox-rows.mjs): the forced cells as the released guide's own fill.sh prints them over the translation 079f3331e4ce4820… (all of the seat's roots in one cut). By AI agents, Wed Nov 11 2026. No macro, syntax, notation, axiom, sorry.
-/
import Derived.Test.YtbicjcdenfcojaaChecked
import GoSem.Claim
import GoSem.ClaimJoined
import GoSem.ClaimMapViews
import Derived.JoinedTies
import Derived.KernelRfl
namespace Go.Proofs.Ytbicjcdenfcojaa
/- THE CELL 'sum', in the pinned program and in every row, IS THE sha256 OF THE DUMP (.gsa) THAT YtbicjcdenfcojaaProg.lean LOADS. Nothing in Lean hashes anything: it is a label: what it is worth is what the hold of that sum in a sandbox is worth. -/
noncomputable def Try.pinned : Pinned := { name := "ytbicjcdenfcojaa", sum := "079f3331e4ce482091a57c55d15b8b40cec5615b614f41de8cf07bf8ac7d4707", checked := Try.checked }
namespace Rows
def none {H : Type} : Left H := { results := [], args := [] }

/-- 'tapeworkslaw.ProofChecks': WHATEVER THE INPUT: true; the input reads as it did. -/
def proofChecksSpec : ChangeSpec := { name := "proofChecks", fn := fun _ => fun
  | [d1, d2, d3, d4, d5] => { results := [.lit (.bool true)], args := [d1, d2, d3, d4, d5] }
  | _ => none }
def proofChecksRow : OpenClaim := { program := "ytbicjcdenfcojaa", sum := "079f3331e4ce482091a57c55d15b8b40cec5615b614f41de8cf07bf8ac7d4707", func := "tapeworks/tapeworkslaw.ProofChecks", spec := "proofChecks", unfollowed := true, recurses := true, plainKeys := false, apart := false }
def ProofChecksSaid : Prop := proofChecksRow.holds Try.pinned (OpenSpec.ofChange proofChecksSpec)

/-- ITS FALSE NEIGHBOUR: 'it returns false'. Refute it at one input. -/
def proofChecksWrong : ChangeSpec := { name := "proofChecks", fn := fun _ => fun
  | [d1, d2, d3, d4, d5] => { results := [.lit (.bool false)], args := [d1, d2, d3, d4, d5] }
  | _ => none }
def ProofChecksWrongFalsely : Prop := proofChecksRow.holds Try.pinned (OpenSpec.ofChange proofChecksWrong)

/-- 'tapeworkslaw.ProofFools': WHATEVER THE INPUT: true; the input reads as it did. -/
def proofFoolsSpec : ChangeSpec := { name := "proofFools", fn := fun _ => fun
  | [d1, d2, d3, d4] => { results := [.lit (.bool true)], args := [d1, d2, d3, d4] }
  | _ => none }
def proofFoolsRow : OpenClaim := { program := "ytbicjcdenfcojaa", sum := "079f3331e4ce482091a57c55d15b8b40cec5615b614f41de8cf07bf8ac7d4707", func := "tapeworks/tapeworkslaw.ProofFools", spec := "proofFools", unfollowed := true, recurses := true, plainKeys := false, apart := false }
def ProofFoolsSaid : Prop := proofFoolsRow.holds Try.pinned (OpenSpec.ofChange proofFoolsSpec)

/-- ITS FALSE NEIGHBOUR: 'it returns false'. Refute it at one input. -/
def proofFoolsWrong : ChangeSpec := { name := "proofFools", fn := fun _ => fun
  | [d1, d2, d3, d4] => { results := [.lit (.bool false)], args := [d1, d2, d3, d4] }
  | _ => none }
def ProofFoolsWrongFalsely : Prop := proofFoolsRow.holds Try.pinned (OpenSpec.ofChange proofFoolsWrong)

/-- 'tapeworkslaw.WaveBlurs': WHATEVER THE INPUT: true; the input reads as it did. -/
def waveBlursSpec : ChangeSpec := { name := "waveBlurs", fn := fun _ => fun
  | [d1, d2, d3] => { results := [.lit (.bool true)], args := [d1, d2, d3] }
  | _ => none }
def waveBlursRow : OpenClaim := { program := "ytbicjcdenfcojaa", sum := "079f3331e4ce482091a57c55d15b8b40cec5615b614f41de8cf07bf8ac7d4707", func := "tapeworks/tapeworkslaw.WaveBlurs", spec := "waveBlurs", unfollowed := true, recurses := true, plainKeys := false, apart := false }
def WaveBlursSaid : Prop := waveBlursRow.holds Try.pinned (OpenSpec.ofChange waveBlursSpec)

/-- ITS FALSE NEIGHBOUR: 'it returns false'. Refute it at one input. -/
def waveBlursWrong : ChangeSpec := { name := "waveBlurs", fn := fun _ => fun
  | [d1, d2, d3] => { results := [.lit (.bool false)], args := [d1, d2, d3] }
  | _ => none }
def WaveBlursWrongFalsely : Prop := waveBlursRow.holds Try.pinned (OpenSpec.ofChange waveBlursWrong)

/-- 'tapeworkslaw.GuessZeros': WHATEVER THE INPUT: true; the input reads as it did. -/
def guessZerosSpec : ChangeSpec := { name := "guessZeros", fn := fun _ => fun
  | [d1, d2] => { results := [.lit (.bool true)], args := [d1, d2] }
  | _ => none }
def guessZerosRow : OpenClaim := { program := "ytbicjcdenfcojaa", sum := "079f3331e4ce482091a57c55d15b8b40cec5615b614f41de8cf07bf8ac7d4707", func := "tapeworks/tapeworkslaw.GuessZeros", spec := "guessZeros", unfollowed := true, recurses := true, plainKeys := false, apart := false }
def GuessZerosSaid : Prop := guessZerosRow.holds Try.pinned (OpenSpec.ofChange guessZerosSpec)

/-- ITS FALSE NEIGHBOUR: 'it returns false'. Refute it at one input. -/
def guessZerosWrong : ChangeSpec := { name := "guessZeros", fn := fun _ => fun
  | [d1, d2] => { results := [.lit (.bool false)], args := [d1, d2] }
  | _ => none }
def GuessZerosWrongFalsely : Prop := guessZerosRow.holds Try.pinned (OpenSpec.ofChange guessZerosWrong)

/-- 'tapeworkslaw.GuessProducts': WHATEVER THE INPUT: true; the input reads as it did. -/
def guessProductsSpec : ChangeSpec := { name := "guessProducts", fn := fun _ => fun
  | [d1, d2, d3, d4] => { results := [.lit (.bool true)], args := [d1, d2, d3, d4] }
  | _ => none }
def guessProductsRow : OpenClaim := { program := "ytbicjcdenfcojaa", sum := "079f3331e4ce482091a57c55d15b8b40cec5615b614f41de8cf07bf8ac7d4707", func := "tapeworks/tapeworkslaw.GuessProducts", spec := "guessProducts", unfollowed := true, recurses := true, plainKeys := false, apart := false }
def GuessProductsSaid : Prop := guessProductsRow.holds Try.pinned (OpenSpec.ofChange guessProductsSpec)

/-- ITS FALSE NEIGHBOUR: 'it returns false'. Refute it at one input. -/
def guessProductsWrong : ChangeSpec := { name := "guessProducts", fn := fun _ => fun
  | [d1, d2, d3, d4] => { results := [.lit (.bool false)], args := [d1, d2, d3, d4] }
  | _ => none }
def GuessProductsWrongFalsely : Prop := guessProductsRow.holds Try.pinned (OpenSpec.ofChange guessProductsWrong)

/-- 'tapeworkslaw.GuessWrongs': WHATEVER THE INPUT: true; the input reads as it did. -/
def guessWrongsSpec : ChangeSpec := { name := "guessWrongs", fn := fun _ => fun
  | [d1, d2, d3] => { results := [.lit (.bool true)], args := [d1, d2, d3] }
  | _ => none }
def guessWrongsRow : OpenClaim := { program := "ytbicjcdenfcojaa", sum := "079f3331e4ce482091a57c55d15b8b40cec5615b614f41de8cf07bf8ac7d4707", func := "tapeworks/tapeworkslaw.GuessWrongs", spec := "guessWrongs", unfollowed := true, recurses := true, plainKeys := false, apart := false }
def GuessWrongsSaid : Prop := guessWrongsRow.holds Try.pinned (OpenSpec.ofChange guessWrongsSpec)

/-- ITS FALSE NEIGHBOUR: 'it returns false'. Refute it at one input. -/
def guessWrongsWrong : ChangeSpec := { name := "guessWrongs", fn := fun _ => fun
  | [d1, d2, d3] => { results := [.lit (.bool false)], args := [d1, d2, d3] }
  | _ => none }
def GuessWrongsWrongFalsely : Prop := guessWrongsRow.holds Try.pinned (OpenSpec.ofChange guessWrongsWrong)

/- THE SECOND FORM. 'bulk': how many values and letters a reading holds, each counted each time it is reached (what is shared counts as often as it is met; a slice's spare places count too). A statement '..UptoSaid' is the law's where the arguments, and the package variables that the reading takes, are together of bulk at most 1048576: NARROWER than '..Said'. Prove '..Said' where nothing that the law and all that it calls make is longer than what came in: it says more and counts as full. Else prove '..UptoSaid'. A law counts once. -/
mutual
def uptoBulk {H : Type} : DataW H → Nat
  | .lit (.string bytes) => bytes.length + 1
  | .lit _ => 1
  | .nil => 1
  | .ptr d => uptoBulk d + 1
  | .slice elems spare => uptoBulkAll elems + uptoBulkAll spare + 1
  | .agg parts => uptoBulkAll parts + 1
  | .iface _ d => uptoBulk d + 1
  | .map entries => uptoBulkEntries entries + 1
  | .held _ => 1
def uptoBulkAll {H : Type} : List (DataW H) → Nat
  | [] => 0
  | d :: r => uptoBulk d + uptoBulkAll r
def uptoBulkEntries {H : Type} : List (Lit × DataW H) → Nat
  | [] => 0
  | x :: r => uptoBulkEntry x + uptoBulkEntries r
def uptoBulkEntry {H : Type} : Lit × DataW H → Nat
  | (.string bytes, d) => bytes.length + uptoBulk d + 1
  | (_, d) => uptoBulk d + 1
 end
def uptoSmall : (H : Type) → List (DataW H) → Bool := fun _ ds => decide (uptoBulkAll ds ≤ 1048576)
def OpenSpec.upto (s : _root_.Go.ChangeSpec) : _root_.Go.OpenSpec := { _root_.Go.OpenSpec.ofChange s with cond := some uptoSmall }

/-- 'tapeworkslaw.ProofChecks', WHERE WHAT IT READS IS OF BULK AT MOST 1048576: true; the input reads as it did. -/
def proofChecksUptoRow : OpenClaim := { program := "ytbicjcdenfcojaa", sum := "079f3331e4ce482091a57c55d15b8b40cec5615b614f41de8cf07bf8ac7d4707", func := "tapeworks/tapeworkslaw.ProofChecks", spec := "proofChecks", unfollowed := true, recurses := true, plainKeys := false, apart := false, narrowed := true }
def ProofChecksUptoSaid : Prop := proofChecksUptoRow.holds Try.pinned (OpenSpec.upto proofChecksSpec)

/-- 'tapeworkslaw.ProofFools', WHERE WHAT IT READS IS OF BULK AT MOST 1048576: true; the input reads as it did. -/
def proofFoolsUptoRow : OpenClaim := { program := "ytbicjcdenfcojaa", sum := "079f3331e4ce482091a57c55d15b8b40cec5615b614f41de8cf07bf8ac7d4707", func := "tapeworks/tapeworkslaw.ProofFools", spec := "proofFools", unfollowed := true, recurses := true, plainKeys := false, apart := false, narrowed := true }
def ProofFoolsUptoSaid : Prop := proofFoolsUptoRow.holds Try.pinned (OpenSpec.upto proofFoolsSpec)

/-- 'tapeworkslaw.WaveBlurs', WHERE WHAT IT READS IS OF BULK AT MOST 1048576: true; the input reads as it did. -/
def waveBlursUptoRow : OpenClaim := { program := "ytbicjcdenfcojaa", sum := "079f3331e4ce482091a57c55d15b8b40cec5615b614f41de8cf07bf8ac7d4707", func := "tapeworks/tapeworkslaw.WaveBlurs", spec := "waveBlurs", unfollowed := true, recurses := true, plainKeys := false, apart := false, narrowed := true }
def WaveBlursUptoSaid : Prop := waveBlursUptoRow.holds Try.pinned (OpenSpec.upto waveBlursSpec)

/-- 'tapeworkslaw.GuessZeros', WHERE WHAT IT READS IS OF BULK AT MOST 1048576: true; the input reads as it did. -/
def guessZerosUptoRow : OpenClaim := { program := "ytbicjcdenfcojaa", sum := "079f3331e4ce482091a57c55d15b8b40cec5615b614f41de8cf07bf8ac7d4707", func := "tapeworks/tapeworkslaw.GuessZeros", spec := "guessZeros", unfollowed := true, recurses := true, plainKeys := false, apart := false, narrowed := true }
def GuessZerosUptoSaid : Prop := guessZerosUptoRow.holds Try.pinned (OpenSpec.upto guessZerosSpec)

/-- 'tapeworkslaw.GuessProducts', WHERE WHAT IT READS IS OF BULK AT MOST 1048576: true; the input reads as it did. -/
def guessProductsUptoRow : OpenClaim := { program := "ytbicjcdenfcojaa", sum := "079f3331e4ce482091a57c55d15b8b40cec5615b614f41de8cf07bf8ac7d4707", func := "tapeworks/tapeworkslaw.GuessProducts", spec := "guessProducts", unfollowed := true, recurses := true, plainKeys := false, apart := false, narrowed := true }
def GuessProductsUptoSaid : Prop := guessProductsUptoRow.holds Try.pinned (OpenSpec.upto guessProductsSpec)

/-- 'tapeworkslaw.GuessWrongs', WHERE WHAT IT READS IS OF BULK AT MOST 1048576: true; the input reads as it did. -/
def guessWrongsUptoRow : OpenClaim := { program := "ytbicjcdenfcojaa", sum := "079f3331e4ce482091a57c55d15b8b40cec5615b614f41de8cf07bf8ac7d4707", func := "tapeworks/tapeworkslaw.GuessWrongs", spec := "guessWrongs", unfollowed := true, recurses := true, plainKeys := false, apart := false, narrowed := true }
def GuessWrongsUptoSaid : Prop := guessWrongsUptoRow.holds Try.pinned (OpenSpec.upto guessWrongsSpec)

end Rows
end Go.Proofs.Ytbicjcdenfcojaa
