/-
  No cell of these rows narrows 'for every input' (looked for: loops, veiled, ifaces, maps, wideKeys, modest, calm, conditions, laid).
  DERIVED. THE GIVEN ROWS OF THIS SEAT. 3 by the template 'for every input the law returns true; each argument reads behind the call as it read before'; 0 by the template 'total and deterministic' (their statements: YtbbinddkhlmlcaaTotals.lean).
  GIVEN WITH THE SEED: the statements are not yours to turn. If you find one false, say at which input.
  Laid BY PROGRAM, IN A SANDBOX (cutbox-rows.mjs): the forced cells as the released guide's own fill.sh prints them over the translation 9c3a19f6652eebdc… (all of the seat's roots in one cut). By AI agents, Wed Nov 11 2026. No macro, syntax, notation, axiom, sorry.
-/
import Derived.Test.YtbbinddkhlmlcaaChecked
import GoSem.Claim
import GoSem.ClaimJoined
import GoSem.ClaimMapViews
import Derived.JoinedTies
import Derived.KernelRfl
namespace Go.Proofs.Ytbbinddkhlmlcaa
/- THE CELL 'sum', in the pinned program and in every row, IS THE sha256 OF THE DUMP (.gsa) THAT YtbbinddkhlmlcaaProg.lean LOADS. Nothing in Lean hashes anything: it is a label: what it is worth is what the hold of that sum in a sandbox is worth. -/
noncomputable def Try.pinned : Pinned := { name := "ytbbinddkhlmlcaa", sum := "9c3a19f6652eebdc069fa432093550c1449aadbdcc0ce4d9267a2c9ebb39efc9", checked := Try.checked }
namespace Rows
def none {H : Type} : Left H := { results := [], args := [] }

/-- 'towncrierlaw09.DecreeOne': WHATEVER THE INPUT: true; the input reads as it did. -/
def decreeOneSpec : ChangeSpec := { name := "decreeOne", fn := fun _ => fun
  | [d1, d2] => { results := [.lit (.bool true)], args := [d1, d2] }
  | _ => none }
def decreeOneRow : OpenClaim := { program := "ytbbinddkhlmlcaa", sum := "9c3a19f6652eebdc069fa432093550c1449aadbdcc0ce4d9267a2c9ebb39efc9", func := "towncrier/towncrierlaw09.DecreeOne", spec := "decreeOne", inPlace := ["slices.overlaps[towncrier/api.Promise]", "slices.overlaps[int]"], unfollowed := true, recurses := true, apart := false }
def DecreeOneSaid : Prop := decreeOneRow.holds Try.pinned (OpenSpec.ofChange decreeOneSpec)

/-- ITS FALSE NEIGHBOUR: 'it returns false'. Refute it at one input. -/
def decreeOneWrong : ChangeSpec := { name := "decreeOne", fn := fun _ => fun
  | [d1, d2] => { results := [.lit (.bool false)], args := [d1, d2] }
  | _ => none }
def DecreeOneWrongFalsely : Prop := decreeOneRow.holds Try.pinned (OpenSpec.ofChange decreeOneWrong)

/-- 'towncrierlaw09.DecreeLater': WHATEVER THE INPUT: true; the input reads as it did. -/
def decreeLaterSpec : ChangeSpec := { name := "decreeLater", fn := fun _ => fun
  | [d1, d2, d3, d4] => { results := [.lit (.bool true)], args := [d1, d2, d3, d4] }
  | _ => none }
def decreeLaterRow : OpenClaim := { program := "ytbbinddkhlmlcaa", sum := "9c3a19f6652eebdc069fa432093550c1449aadbdcc0ce4d9267a2c9ebb39efc9", func := "towncrier/towncrierlaw09.DecreeLater", spec := "decreeLater", inPlace := ["slices.overlaps[towncrier/api.Promise]", "slices.overlaps[int]"], unfollowed := true, recurses := true, apart := false }
def DecreeLaterSaid : Prop := decreeLaterRow.holds Try.pinned (OpenSpec.ofChange decreeLaterSpec)

/-- ITS FALSE NEIGHBOUR: 'it returns false'. Refute it at one input. -/
def decreeLaterWrong : ChangeSpec := { name := "decreeLater", fn := fun _ => fun
  | [d1, d2, d3, d4] => { results := [.lit (.bool false)], args := [d1, d2, d3, d4] }
  | _ => none }
def DecreeLaterWrongFalsely : Prop := decreeLaterRow.holds Try.pinned (OpenSpec.ofChange decreeLaterWrong)

/-- 'towncrierlaw09.DecreeVotes': WHATEVER THE INPUT: true; the input reads as it did. -/
def decreeVotesSpec : ChangeSpec := { name := "decreeVotes", fn := fun _ => fun
  | [d1, d2] => { results := [.lit (.bool true)], args := [d1, d2] }
  | _ => none }
def decreeVotesRow : OpenClaim := { program := "ytbbinddkhlmlcaa", sum := "9c3a19f6652eebdc069fa432093550c1449aadbdcc0ce4d9267a2c9ebb39efc9", func := "towncrier/towncrierlaw09.DecreeVotes", spec := "decreeVotes", inPlace := ["slices.overlaps[towncrier/api.Promise]", "slices.overlaps[int]"], unfollowed := true, recurses := true, apart := false }
def DecreeVotesSaid : Prop := decreeVotesRow.holds Try.pinned (OpenSpec.ofChange decreeVotesSpec)

/-- ITS FALSE NEIGHBOUR: 'it returns false'. Refute it at one input. -/
def decreeVotesWrong : ChangeSpec := { name := "decreeVotes", fn := fun _ => fun
  | [d1, d2] => { results := [.lit (.bool false)], args := [d1, d2] }
  | _ => none }
def DecreeVotesWrongFalsely : Prop := decreeVotesRow.holds Try.pinned (OpenSpec.ofChange decreeVotesWrong)

/- THE SECOND FORM. 'bulk': how many values and letters a reading holds, each counted each time it is reached (what is shared counts as often as it is met; a slice's spare places count too). A statement '..UptoSaid' is the law's where the arguments, and the package variables that the reading takes, are together of bulk at most 1048576: NARROWER than '..Said'. Prove '..Said' where nothing that the law and all that it calls make is longer than what came in: it says more and counts as full. Else prove '..UptoSaid'. A law counts once. -/
mutual
def uptoBulk {H : Type} : DataW H → Nat
  | .lit (.string bytes) => bytes.length + 1
  | .lit _ => 1
  | .nil => 1
  | .ptr d => uptoBulk d + 1
  | .slice elems spare => uptoBulkAll elems + uptoBulkAll spare + 1
  | .agg parts => uptoBulkAll parts + 1
  | .iface _ d => uptoBulk d + 1
  | .map entries => uptoBulkEntries entries + 1
  | .held _ => 1
def uptoBulkAll {H : Type} : List (DataW H) → Nat
  | [] => 0
  | d :: r => uptoBulk d + uptoBulkAll r
def uptoBulkEntries {H : Type} : List (Lit × DataW H) → Nat
  | [] => 0
  | x :: r => uptoBulkEntry x + uptoBulkEntries r
def uptoBulkEntry {H : Type} : Lit × DataW H → Nat
  | (.string bytes, d) => bytes.length + uptoBulk d + 1
  | (_, d) => uptoBulk d + 1
 end
def uptoSmall : (H : Type) → List (DataW H) → Bool := fun _ ds => decide (uptoBulkAll ds ≤ 1048576)
def OpenSpec.upto (s : _root_.Go.ChangeSpec) : _root_.Go.OpenSpec := { _root_.Go.OpenSpec.ofChange s with cond := some uptoSmall }

/-- 'towncrierlaw09.DecreeOne', WHERE WHAT IT READS IS OF BULK AT MOST 1048576: true; the input reads as it did. -/
def decreeOneUptoRow : OpenClaim := { program := "ytbbinddkhlmlcaa", sum := "9c3a19f6652eebdc069fa432093550c1449aadbdcc0ce4d9267a2c9ebb39efc9", func := "towncrier/towncrierlaw09.DecreeOne", spec := "decreeOne", inPlace := ["slices.overlaps[towncrier/api.Promise]", "slices.overlaps[int]"], unfollowed := true, recurses := true, apart := false, narrowed := true }
def DecreeOneUptoSaid : Prop := decreeOneUptoRow.holds Try.pinned (OpenSpec.upto decreeOneSpec)

/-- 'towncrierlaw09.DecreeLater', WHERE WHAT IT READS IS OF BULK AT MOST 1048576: true; the input reads as it did. -/
def decreeLaterUptoRow : OpenClaim := { program := "ytbbinddkhlmlcaa", sum := "9c3a19f6652eebdc069fa432093550c1449aadbdcc0ce4d9267a2c9ebb39efc9", func := "towncrier/towncrierlaw09.DecreeLater", spec := "decreeLater", inPlace := ["slices.overlaps[towncrier/api.Promise]", "slices.overlaps[int]"], unfollowed := true, recurses := true, apart := false, narrowed := true }
def DecreeLaterUptoSaid : Prop := decreeLaterUptoRow.holds Try.pinned (OpenSpec.upto decreeLaterSpec)

/-- 'towncrierlaw09.DecreeVotes', WHERE WHAT IT READS IS OF BULK AT MOST 1048576: true; the input reads as it did. -/
def decreeVotesUptoRow : OpenClaim := { program := "ytbbinddkhlmlcaa", sum := "9c3a19f6652eebdc069fa432093550c1449aadbdcc0ce4d9267a2c9ebb39efc9", func := "towncrier/towncrierlaw09.DecreeVotes", spec := "decreeVotes", inPlace := ["slices.overlaps[towncrier/api.Promise]", "slices.overlaps[int]"], unfollowed := true, recurses := true, apart := false, narrowed := true }
def DecreeVotesUptoSaid : Prop := decreeVotesUptoRow.holds Try.pinned (OpenSpec.upto decreeVotesSpec)

end Rows
end Go.Proofs.Ytbbinddkhlmlcaa
