/-
  No cell of these rows narrows 'for every input' (looked for: loops, veiled, ifaces, maps, wideKeys, modest, calm, conditions, laid).
  DERIVED. THE GIVEN ROWS OF THIS SEAT. 11 by the template 'for every input the law returns true; each argument reads behind the call as it read before'; 0 by the template 'total and deterministic' (their statements: YtnlibkamomlccaaTotals.lean).
  GIVEN WITH THE SEED: the statements are not yours to turn. If you find one false, say at which input.
  Laid BY PROGRAM, IN A SANDBOX (cutbox-rows.mjs): the forced cells as the released guide's own fill.sh prints them over the translation 25047652a49243d7… (all of the seat's roots in one cut). By AI agents, Wed Nov 11 2026. No macro, syntax, notation, axiom, sorry.
-/
import Derived.Test.YtnlibkamomlccaaChecked
import GoSem.Claim
import GoSem.ClaimJoined
import GoSem.ClaimMapViews
import Derived.JoinedTies
import Derived.KernelRfl
namespace Go.Proofs.Ytnlibkamomlccaa
/- THE CELL 'sum', in the pinned program and in every row, IS THE sha256 OF THE DUMP (.gsa) THAT YtnlibkamomlccaaProg.lean LOADS. Nothing in Lean hashes anything: it is a label: what it is worth is what the hold of that sum in a sandbox is worth. -/
noncomputable def Try.pinned : Pinned := { name := "ytnlibkamomlccaa", sum := "25047652a49243d794624195a60020a18828b7cd3ee3d5fb606cfb527c5ab353", checked := Try.checked }
namespace Rows
def none {H : Type} : Left H := { results := [], args := [] }

/-- 'tapeworkslaw.AskWalks': WHATEVER THE INPUT: true; the input reads as it did. -/
def askWalksSpec : ChangeSpec := { name := "askWalks", fn := fun _ => fun
  | [d1, d2, d3] => { results := [.lit (.bool true)], args := [d1, d2, d3] }
  | _ => none }
def askWalksRow : OpenClaim := { program := "ytnlibkamomlccaa", sum := "25047652a49243d794624195a60020a18828b7cd3ee3d5fb606cfb527c5ab353", func := "tapeworks/tapeworkslaw.AskWalks", spec := "askWalks", recurses := true, apart := false }
def AskWalksSaid : Prop := askWalksRow.holds Try.pinned (OpenSpec.ofChange askWalksSpec)

/-- ITS FALSE NEIGHBOUR: 'it returns false'. Refute it at one input. -/
def askWalksWrong : ChangeSpec := { name := "askWalks", fn := fun _ => fun
  | [d1, d2, d3] => { results := [.lit (.bool false)], args := [d1, d2, d3] }
  | _ => none }
def AskWalksWrongFalsely : Prop := askWalksRow.holds Try.pinned (OpenSpec.ofChange askWalksWrong)

/-- 'tapeworkslaw.AskTurns': WHATEVER THE INPUT: true; the input reads as it did. -/
def askTurnsSpec : ChangeSpec := { name := "askTurns", fn := fun _ => fun
  | [d1, d2] => { results := [.lit (.bool true)], args := [d1, d2] }
  | _ => none }
def askTurnsRow : OpenClaim := { program := "ytnlibkamomlccaa", sum := "25047652a49243d794624195a60020a18828b7cd3ee3d5fb606cfb527c5ab353", func := "tapeworks/tapeworkslaw.AskTurns", spec := "askTurns", apart := false }
def AskTurnsSaid : Prop := askTurnsRow.holds Try.pinned (OpenSpec.ofChange askTurnsSpec)

/-- ITS FALSE NEIGHBOUR: 'it returns false'. Refute it at one input. -/
def askTurnsWrong : ChangeSpec := { name := "askTurns", fn := fun _ => fun
  | [d1, d2] => { results := [.lit (.bool false)], args := [d1, d2] }
  | _ => none }
def AskTurnsWrongFalsely : Prop := askTurnsRow.holds Try.pinned (OpenSpec.ofChange askTurnsWrong)

/-- 'tapeworkslaw.AskGroups': WHATEVER THE INPUT: true; the input reads as it did. -/
def askGroupsSpec : ChangeSpec := { name := "askGroups", fn := fun _ => fun
  | [d1, d2] => { results := [.lit (.bool true)], args := [d1, d2] }
  | _ => none }
def askGroupsRow : OpenClaim := { program := "ytnlibkamomlccaa", sum := "25047652a49243d794624195a60020a18828b7cd3ee3d5fb606cfb527c5ab353", func := "tapeworks/tapeworkslaw.AskGroups", spec := "askGroups", recurses := true, apart := false }
def AskGroupsSaid : Prop := askGroupsRow.holds Try.pinned (OpenSpec.ofChange askGroupsSpec)

/-- ITS FALSE NEIGHBOUR: 'it returns false'. Refute it at one input. -/
def askGroupsWrong : ChangeSpec := { name := "askGroups", fn := fun _ => fun
  | [d1, d2] => { results := [.lit (.bool false)], args := [d1, d2] }
  | _ => none }
def AskGroupsWrongFalsely : Prop := askGroupsRow.holds Try.pinned (OpenSpec.ofChange askGroupsWrong)

/-- 'tapeworkslaw.AskLeasts': WHATEVER THE INPUT: true; the input reads as it did. -/
def askLeastsSpec : ChangeSpec := { name := "askLeasts", fn := fun _ => fun
  | [d1, d2] => { results := [.lit (.bool true)], args := [d1, d2] }
  | _ => none }
def askLeastsRow : OpenClaim := { program := "ytnlibkamomlccaa", sum := "25047652a49243d794624195a60020a18828b7cd3ee3d5fb606cfb527c5ab353", func := "tapeworks/tapeworkslaw.AskLeasts", spec := "askLeasts", recurses := true, apart := false }
def AskLeastsSaid : Prop := askLeastsRow.holds Try.pinned (OpenSpec.ofChange askLeastsSpec)

/-- ITS FALSE NEIGHBOUR: 'it returns false'. Refute it at one input. -/
def askLeastsWrong : ChangeSpec := { name := "askLeasts", fn := fun _ => fun
  | [d1, d2] => { results := [.lit (.bool false)], args := [d1, d2] }
  | _ => none }
def AskLeastsWrongFalsely : Prop := askLeastsRow.holds Try.pinned (OpenSpec.ofChange askLeastsWrong)

/-- 'tapeworkslaw.AskTrees': WHATEVER THE INPUT: true; the input reads as it did. -/
def askTreesSpec : ChangeSpec := { name := "askTrees", fn := fun _ => fun
  | [d1, d2] => { results := [.lit (.bool true)], args := [d1, d2] }
  | _ => none }
def askTreesRow : OpenClaim := { program := "ytnlibkamomlccaa", sum := "25047652a49243d794624195a60020a18828b7cd3ee3d5fb606cfb527c5ab353", func := "tapeworks/tapeworkslaw.AskTrees", spec := "askTrees", recurses := true, apart := false }
def AskTreesSaid : Prop := askTreesRow.holds Try.pinned (OpenSpec.ofChange askTreesSpec)

/-- ITS FALSE NEIGHBOUR: 'it returns false'. Refute it at one input. -/
def askTreesWrong : ChangeSpec := { name := "askTrees", fn := fun _ => fun
  | [d1, d2] => { results := [.lit (.bool false)], args := [d1, d2] }
  | _ => none }
def AskTreesWrongFalsely : Prop := askTreesRow.holds Try.pinned (OpenSpec.ofChange askTreesWrong)

/-- 'tapeworkslaw.AskProofs': WHATEVER THE INPUT: true; the input reads as it did. -/
def askProofsSpec : ChangeSpec := { name := "askProofs", fn := fun _ => fun
  | [d1, d2, d3] => { results := [.lit (.bool true)], args := [d1, d2, d3] }
  | _ => none }
def askProofsRow : OpenClaim := { program := "ytnlibkamomlccaa", sum := "25047652a49243d794624195a60020a18828b7cd3ee3d5fb606cfb527c5ab353", func := "tapeworks/tapeworkslaw.AskProofs", spec := "askProofs", apart := false }
def AskProofsSaid : Prop := askProofsRow.holds Try.pinned (OpenSpec.ofChange askProofsSpec)

/-- ITS FALSE NEIGHBOUR: 'it returns false'. Refute it at one input. -/
def askProofsWrong : ChangeSpec := { name := "askProofs", fn := fun _ => fun
  | [d1, d2, d3] => { results := [.lit (.bool false)], args := [d1, d2, d3] }
  | _ => none }
def AskProofsWrongFalsely : Prop := askProofsRow.holds Try.pinned (OpenSpec.ofChange askProofsWrong)

/-- 'tapeworkslaw.AskBoths': WHATEVER THE INPUT: true; the input reads as it did. -/
def askBothsSpec : ChangeSpec := { name := "askBoths", fn := fun _ => fun
  | [d1, d2] => { results := [.lit (.bool true)], args := [d1, d2] }
  | _ => none }
def askBothsRow : OpenClaim := { program := "ytnlibkamomlccaa", sum := "25047652a49243d794624195a60020a18828b7cd3ee3d5fb606cfb527c5ab353", func := "tapeworks/tapeworkslaw.AskBoths", spec := "askBoths", apart := false }
def AskBothsSaid : Prop := askBothsRow.holds Try.pinned (OpenSpec.ofChange askBothsSpec)

/-- ITS FALSE NEIGHBOUR: 'it returns false'. Refute it at one input. -/
def askBothsWrong : ChangeSpec := { name := "askBoths", fn := fun _ => fun
  | [d1, d2] => { results := [.lit (.bool false)], args := [d1, d2] }
  | _ => none }
def AskBothsWrongFalsely : Prop := askBothsRow.holds Try.pinned (OpenSpec.ofChange askBothsWrong)

/-- 'tapeworkslaw.AskDegrees': WHATEVER THE INPUT: true; the input reads as it did. -/
def askDegreesSpec : ChangeSpec := { name := "askDegrees", fn := fun _ => fun
  | [d1, d2] => { results := [.lit (.bool true)], args := [d1, d2] }
  | _ => none }
def askDegreesRow : OpenClaim := { program := "ytnlibkamomlccaa", sum := "25047652a49243d794624195a60020a18828b7cd3ee3d5fb606cfb527c5ab353", func := "tapeworks/tapeworkslaw.AskDegrees", spec := "askDegrees", apart := false }
def AskDegreesSaid : Prop := askDegreesRow.holds Try.pinned (OpenSpec.ofChange askDegreesSpec)

/-- ITS FALSE NEIGHBOUR: 'it returns false'. Refute it at one input. -/
def askDegreesWrong : ChangeSpec := { name := "askDegrees", fn := fun _ => fun
  | [d1, d2] => { results := [.lit (.bool false)], args := [d1, d2] }
  | _ => none }
def AskDegreesWrongFalsely : Prop := askDegreesRow.holds Try.pinned (OpenSpec.ofChange askDegreesWrong)

/-- 'tapeworkslaw.GuessSums': WHATEVER THE INPUT: true; the input reads as it did. -/
def guessSumsSpec : ChangeSpec := { name := "guessSums", fn := fun _ => fun
  | [d1, d2] => { results := [.lit (.bool true)], args := [d1, d2] }
  | _ => none }
def guessSumsRow : OpenClaim := { program := "ytnlibkamomlccaa", sum := "25047652a49243d794624195a60020a18828b7cd3ee3d5fb606cfb527c5ab353", func := "tapeworks/tapeworkslaw.GuessSums", spec := "guessSums", apart := false }
def GuessSumsSaid : Prop := guessSumsRow.holds Try.pinned (OpenSpec.ofChange guessSumsSpec)

/-- ITS FALSE NEIGHBOUR: 'it returns false'. Refute it at one input. -/
def guessSumsWrong : ChangeSpec := { name := "guessSums", fn := fun _ => fun
  | [d1, d2] => { results := [.lit (.bool false)], args := [d1, d2] }
  | _ => none }
def GuessSumsWrongFalsely : Prop := guessSumsRow.holds Try.pinned (OpenSpec.ofChange guessSumsWrong)

/-- 'tapeworkslaw.GuessAparts': WHATEVER THE INPUT: true; the input reads as it did. -/
def guessApartsSpec : ChangeSpec := { name := "guessAparts", fn := fun _ => fun
  | [d1, d2] => { results := [.lit (.bool true)], args := [d1, d2] }
  | _ => none }
def guessApartsRow : OpenClaim := { program := "ytnlibkamomlccaa", sum := "25047652a49243d794624195a60020a18828b7cd3ee3d5fb606cfb527c5ab353", func := "tapeworks/tapeworkslaw.GuessAparts", spec := "guessAparts", apart := false }
def GuessApartsSaid : Prop := guessApartsRow.holds Try.pinned (OpenSpec.ofChange guessApartsSpec)

/-- ITS FALSE NEIGHBOUR: 'it returns false'. Refute it at one input. -/
def guessApartsWrong : ChangeSpec := { name := "guessAparts", fn := fun _ => fun
  | [d1, d2] => { results := [.lit (.bool false)], args := [d1, d2] }
  | _ => none }
def GuessApartsWrongFalsely : Prop := guessApartsRow.holds Try.pinned (OpenSpec.ofChange guessApartsWrong)

/-- 'tapeworkslaw.WaveSways': WHATEVER THE INPUT: true; the input reads as it did. -/
def waveSwaysSpec : ChangeSpec := { name := "waveSways", fn := fun _ => fun
  | [d1, d2] => { results := [.lit (.bool true)], args := [d1, d2] }
  | _ => none }
def waveSwaysRow : OpenClaim := { program := "ytnlibkamomlccaa", sum := "25047652a49243d794624195a60020a18828b7cd3ee3d5fb606cfb527c5ab353", func := "tapeworks/tapeworkslaw.WaveSways", spec := "waveSways", unfollowed := true, recurses := true, apart := false }
def WaveSwaysSaid : Prop := waveSwaysRow.holds Try.pinned (OpenSpec.ofChange waveSwaysSpec)

/-- ITS FALSE NEIGHBOUR: 'it returns false'. Refute it at one input. -/
def waveSwaysWrong : ChangeSpec := { name := "waveSways", fn := fun _ => fun
  | [d1, d2] => { results := [.lit (.bool false)], args := [d1, d2] }
  | _ => none }
def WaveSwaysWrongFalsely : Prop := waveSwaysRow.holds Try.pinned (OpenSpec.ofChange waveSwaysWrong)

/- THE SECOND FORM. 'bulk': how many values and letters a reading holds, each counted each time it is reached (what is shared counts as often as it is met; a slice's spare places count too). A statement '..UptoSaid' is the law's where the arguments, and the package variables that the reading takes, are together of bulk at most 1048576: NARROWER than '..Said'. Prove '..Said' where nothing that the law and all that it calls make is longer than what came in: it says more and counts as full. Else prove '..UptoSaid'. A law counts once. -/
mutual
def uptoBulk {H : Type} : DataW H → Nat
  | .lit (.string bytes) => bytes.length + 1
  | .lit _ => 1
  | .nil => 1
  | .ptr d => uptoBulk d + 1
  | .slice elems spare => uptoBulkAll elems + uptoBulkAll spare + 1
  | .agg parts => uptoBulkAll parts + 1
  | .iface _ d => uptoBulk d + 1
  | .map entries => uptoBulkEntries entries + 1
  | .held _ => 1
def uptoBulkAll {H : Type} : List (DataW H) → Nat
  | [] => 0
  | d :: r => uptoBulk d + uptoBulkAll r
def uptoBulkEntries {H : Type} : List (Lit × DataW H) → Nat
  | [] => 0
  | x :: r => uptoBulkEntry x + uptoBulkEntries r
def uptoBulkEntry {H : Type} : Lit × DataW H → Nat
  | (.string bytes, d) => bytes.length + uptoBulk d + 1
  | (_, d) => uptoBulk d + 1
 end
def uptoSmall : (H : Type) → List (DataW H) → Bool := fun _ ds => decide (uptoBulkAll ds ≤ 1048576)
def OpenSpec.upto (s : _root_.Go.ChangeSpec) : _root_.Go.OpenSpec := { _root_.Go.OpenSpec.ofChange s with cond := some uptoSmall }

/-- 'tapeworkslaw.AskWalks', WHERE WHAT IT READS IS OF BULK AT MOST 1048576: true; the input reads as it did. -/
def askWalksUptoRow : OpenClaim := { program := "ytnlibkamomlccaa", sum := "25047652a49243d794624195a60020a18828b7cd3ee3d5fb606cfb527c5ab353", func := "tapeworks/tapeworkslaw.AskWalks", spec := "askWalks", recurses := true, apart := false, narrowed := true }
def AskWalksUptoSaid : Prop := askWalksUptoRow.holds Try.pinned (OpenSpec.upto askWalksSpec)

/-- 'tapeworkslaw.AskTurns', WHERE WHAT IT READS IS OF BULK AT MOST 1048576: true; the input reads as it did. -/
def askTurnsUptoRow : OpenClaim := { program := "ytnlibkamomlccaa", sum := "25047652a49243d794624195a60020a18828b7cd3ee3d5fb606cfb527c5ab353", func := "tapeworks/tapeworkslaw.AskTurns", spec := "askTurns", apart := false, narrowed := true }
def AskTurnsUptoSaid : Prop := askTurnsUptoRow.holds Try.pinned (OpenSpec.upto askTurnsSpec)

/-- 'tapeworkslaw.AskGroups', WHERE WHAT IT READS IS OF BULK AT MOST 1048576: true; the input reads as it did. -/
def askGroupsUptoRow : OpenClaim := { program := "ytnlibkamomlccaa", sum := "25047652a49243d794624195a60020a18828b7cd3ee3d5fb606cfb527c5ab353", func := "tapeworks/tapeworkslaw.AskGroups", spec := "askGroups", recurses := true, apart := false, narrowed := true }
def AskGroupsUptoSaid : Prop := askGroupsUptoRow.holds Try.pinned (OpenSpec.upto askGroupsSpec)

/-- 'tapeworkslaw.AskLeasts', WHERE WHAT IT READS IS OF BULK AT MOST 1048576: true; the input reads as it did. -/
def askLeastsUptoRow : OpenClaim := { program := "ytnlibkamomlccaa", sum := "25047652a49243d794624195a60020a18828b7cd3ee3d5fb606cfb527c5ab353", func := "tapeworks/tapeworkslaw.AskLeasts", spec := "askLeasts", recurses := true, apart := false, narrowed := true }
def AskLeastsUptoSaid : Prop := askLeastsUptoRow.holds Try.pinned (OpenSpec.upto askLeastsSpec)

/-- 'tapeworkslaw.AskTrees', WHERE WHAT IT READS IS OF BULK AT MOST 1048576: true; the input reads as it did. -/
def askTreesUptoRow : OpenClaim := { program := "ytnlibkamomlccaa", sum := "25047652a49243d794624195a60020a18828b7cd3ee3d5fb606cfb527c5ab353", func := "tapeworks/tapeworkslaw.AskTrees", spec := "askTrees", recurses := true, apart := false, narrowed := true }
def AskTreesUptoSaid : Prop := askTreesUptoRow.holds Try.pinned (OpenSpec.upto askTreesSpec)

/-- 'tapeworkslaw.AskProofs', WHERE WHAT IT READS IS OF BULK AT MOST 1048576: true; the input reads as it did. -/
def askProofsUptoRow : OpenClaim := { program := "ytnlibkamomlccaa", sum := "25047652a49243d794624195a60020a18828b7cd3ee3d5fb606cfb527c5ab353", func := "tapeworks/tapeworkslaw.AskProofs", spec := "askProofs", apart := false, narrowed := true }
def AskProofsUptoSaid : Prop := askProofsUptoRow.holds Try.pinned (OpenSpec.upto askProofsSpec)

/-- 'tapeworkslaw.AskBoths', WHERE WHAT IT READS IS OF BULK AT MOST 1048576: true; the input reads as it did. -/
def askBothsUptoRow : OpenClaim := { program := "ytnlibkamomlccaa", sum := "25047652a49243d794624195a60020a18828b7cd3ee3d5fb606cfb527c5ab353", func := "tapeworks/tapeworkslaw.AskBoths", spec := "askBoths", apart := false, narrowed := true }
def AskBothsUptoSaid : Prop := askBothsUptoRow.holds Try.pinned (OpenSpec.upto askBothsSpec)

/-- 'tapeworkslaw.AskDegrees', WHERE WHAT IT READS IS OF BULK AT MOST 1048576: true; the input reads as it did. -/
def askDegreesUptoRow : OpenClaim := { program := "ytnlibkamomlccaa", sum := "25047652a49243d794624195a60020a18828b7cd3ee3d5fb606cfb527c5ab353", func := "tapeworks/tapeworkslaw.AskDegrees", spec := "askDegrees", apart := false, narrowed := true }
def AskDegreesUptoSaid : Prop := askDegreesUptoRow.holds Try.pinned (OpenSpec.upto askDegreesSpec)

/-- 'tapeworkslaw.GuessSums', WHERE WHAT IT READS IS OF BULK AT MOST 1048576: true; the input reads as it did. -/
def guessSumsUptoRow : OpenClaim := { program := "ytnlibkamomlccaa", sum := "25047652a49243d794624195a60020a18828b7cd3ee3d5fb606cfb527c5ab353", func := "tapeworks/tapeworkslaw.GuessSums", spec := "guessSums", apart := false, narrowed := true }
def GuessSumsUptoSaid : Prop := guessSumsUptoRow.holds Try.pinned (OpenSpec.upto guessSumsSpec)

/-- 'tapeworkslaw.GuessAparts', WHERE WHAT IT READS IS OF BULK AT MOST 1048576: true; the input reads as it did. -/
def guessApartsUptoRow : OpenClaim := { program := "ytnlibkamomlccaa", sum := "25047652a49243d794624195a60020a18828b7cd3ee3d5fb606cfb527c5ab353", func := "tapeworks/tapeworkslaw.GuessAparts", spec := "guessAparts", apart := false, narrowed := true }
def GuessApartsUptoSaid : Prop := guessApartsUptoRow.holds Try.pinned (OpenSpec.upto guessApartsSpec)

/-- 'tapeworkslaw.WaveSways', WHERE WHAT IT READS IS OF BULK AT MOST 1048576: true; the input reads as it did. -/
def waveSwaysUptoRow : OpenClaim := { program := "ytnlibkamomlccaa", sum := "25047652a49243d794624195a60020a18828b7cd3ee3d5fb606cfb527c5ab353", func := "tapeworks/tapeworkslaw.WaveSways", spec := "waveSways", unfollowed := true, recurses := true, apart := false, narrowed := true }
def WaveSwaysUptoSaid : Prop := waveSwaysUptoRow.holds Try.pinned (OpenSpec.upto waveSwaysSpec)

end Rows
end Go.Proofs.Ytnlibkamomlccaa
