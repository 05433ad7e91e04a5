/-
  No cell of these rows narrows 'for every input' (looked for: loops, veiled, ifaces, maps, wideKeys, modest, calm, conditions, laid).
  DERIVED. THE GIVEN ROWS OF THIS SEAT. 3 by the template 'for every input the law returns true; each argument reads behind the call as it read before'; 0 by the template 'total and deterministic' (their statements: YtggdmadjpakkbaaGreatTotals.lean).
  GIVEN WITH THE SEED: the statements are not yours to turn. If you find one false, say at which input.
  Laid BY PROGRAM, IN A SANDBOX (cutbox-rows.mjs): the forced cells as the released guide's own fill.sh prints them over the translation dd4d2d048fb8610f… (all of the seat's roots in one cut). By AI agents, Wed Nov 11 2026. No macro, syntax, notation, axiom, sorry.
-/
import Derived.Test.YtggdmadjpakkbaaGreatChecked
import GoSem.Claim
import GoSem.ClaimJoined
import GoSem.ClaimMapViews
import Derived.JoinedTies
import Derived.KernelRfl
namespace Go.Proofs.YtggdmadjpakkbaaGreat
/- THE CELL 'sum', in the pinned program and in every row, IS THE sha256 OF THE DUMP (.gsa) THAT YtggdmadjpakkbaaGreatProg.lean LOADS. Nothing in Lean hashes anything: it is a label: what it is worth is what the hold of that sum in a sandbox is worth. -/
noncomputable def Tryz.pinned : Pinned := { name := "ytggdmadjpakkbaagreat", sum := "dd4d2d048fb8610fc85864978e4b1d4d7271e2e24c24b348ddfc9136c19a2bb9", checked := Tryz.checked }
namespace Rows
def none {H : Type} : Left H := { results := [], args := [] }

/-- 'towncrierlaw26.BellNames': WHATEVER THE INPUT: true; the input reads as it did. -/
def bellNamesSpec : ChangeSpec := { name := "bellNames", fn := fun _ => fun
  | [] => { results := [.lit (.bool true)], args := [] }
  | _ => none }
def bellNamesRow : OpenClaim := { program := "ytggdmadjpakkbaagreat", sum := "dd4d2d048fb8610fc85864978e4b1d4d7271e2e24c24b348ddfc9136c19a2bb9", func := "towncrier/towncrierlaw26.BellNames", spec := "bellNames", inPlace := ["slices.overlaps[towncrier/api.Wait]", "slices.overlaps[towncrier/api.Seen]", "slices.overlaps[towncrier/api.Promise]", "slices.overlaps[int]"], unfollowed := true, recurses := true, plainKeys := false, apart := false }
def BellNamesSaid : Prop := bellNamesRow.holds Tryz.pinned (OpenSpec.ofChange bellNamesSpec)

/-- ITS FALSE NEIGHBOUR: 'it returns false'. Refute it at one input. -/
def bellNamesWrong : ChangeSpec := { name := "bellNames", fn := fun _ => fun
  | [] => { results := [.lit (.bool false)], args := [] }
  | _ => none }
def BellNamesWrongFalsely : Prop := bellNamesRow.holds Tryz.pinned (OpenSpec.ofChange bellNamesWrong)

/-- 'towncrierlaw31.FairNames': WHATEVER THE INPUT: true; the input reads as it did. -/
def fairNamesSpec : ChangeSpec := { name := "fairNames", fn := fun _ => fun
  | [] => { results := [.lit (.bool true)], args := [] }
  | _ => none }
def fairNamesRow : OpenClaim := { program := "ytggdmadjpakkbaagreat", sum := "dd4d2d048fb8610fc85864978e4b1d4d7271e2e24c24b348ddfc9136c19a2bb9", func := "towncrier/towncrierlaw31.FairNames", spec := "fairNames", inPlace := ["slices.overlaps[towncrier/api.Wait]", "slices.overlaps[towncrier/api.Seen]", "slices.overlaps[towncrier/api.Time]", "slices.overlaps[towncrier/api.Promise]", "slices.overlaps[int]"], unfollowed := true, recurses := true, plainKeys := false, apart := false }
def FairNamesSaid : Prop := fairNamesRow.holds Tryz.pinned (OpenSpec.ofChange fairNamesSpec)

/-- ITS FALSE NEIGHBOUR: 'it returns false'. Refute it at one input. -/
def fairNamesWrong : ChangeSpec := { name := "fairNames", fn := fun _ => fun
  | [] => { results := [.lit (.bool false)], args := [] }
  | _ => none }
def FairNamesWrongFalsely : Prop := fairNamesRow.holds Tryz.pinned (OpenSpec.ofChange fairNamesWrong)

/-- 'towncrierlaw29.ClientNames': WHATEVER THE INPUT: true; the input reads as it did. -/
def clientNamesSpec : ChangeSpec := { name := "clientNames", fn := fun _ => fun
  | [] => { results := [.lit (.bool true)], args := [] }
  | _ => none }
def clientNamesRow : OpenClaim := { program := "ytggdmadjpakkbaagreat", sum := "dd4d2d048fb8610fc85864978e4b1d4d7271e2e24c24b348ddfc9136c19a2bb9", func := "towncrier/towncrierlaw29.ClientNames", spec := "clientNames", inPlace := ["slices.overlaps[towncrier/api.Wait]", "slices.overlaps[towncrier/api.Seen]", "slices.overlaps[towncrier/api.Time]", "slices.overlaps[towncrier/api.Promise]", "slices.overlaps[int]"], unfollowed := true, recurses := true, plainKeys := false, apart := false }
def ClientNamesSaid : Prop := clientNamesRow.holds Tryz.pinned (OpenSpec.ofChange clientNamesSpec)

/-- ITS FALSE NEIGHBOUR: 'it returns false'. Refute it at one input. -/
def clientNamesWrong : ChangeSpec := { name := "clientNames", fn := fun _ => fun
  | [] => { results := [.lit (.bool false)], args := [] }
  | _ => none }
def ClientNamesWrongFalsely : Prop := clientNamesRow.holds Tryz.pinned (OpenSpec.ofChange clientNamesWrong)

/- THE SECOND FORM. 'bulk': how many values and letters a reading holds, each counted each time it is reached (what is shared counts as often as it is met; a slice's spare places count too). A statement '..UptoSaid' is the law's where the arguments, and the package variables that the reading takes, are together of bulk at most 1048576: NARROWER than '..Said'. Prove '..Said' where nothing that the law and all that it calls make is longer than what came in: it says more and counts as full. Else prove '..UptoSaid'. A law counts once. -/
mutual
def uptoBulk {H : Type} : DataW H → Nat
  | .lit (.string bytes) => bytes.length + 1
  | .lit _ => 1
  | .nil => 1
  | .ptr d => uptoBulk d + 1
  | .slice elems spare => uptoBulkAll elems + uptoBulkAll spare + 1
  | .agg parts => uptoBulkAll parts + 1
  | .iface _ d => uptoBulk d + 1
  | .map entries => uptoBulkEntries entries + 1
  | .held _ => 1
def uptoBulkAll {H : Type} : List (DataW H) → Nat
  | [] => 0
  | d :: r => uptoBulk d + uptoBulkAll r
def uptoBulkEntries {H : Type} : List (Lit × DataW H) → Nat
  | [] => 0
  | x :: r => uptoBulkEntry x + uptoBulkEntries r
def uptoBulkEntry {H : Type} : Lit × DataW H → Nat
  | (.string bytes, d) => bytes.length + uptoBulk d + 1
  | (_, d) => uptoBulk d + 1
 end
def uptoSmall : (H : Type) → List (DataW H) → Bool := fun _ ds => decide (uptoBulkAll ds ≤ 1048576)
def OpenSpec.upto (s : _root_.Go.ChangeSpec) : _root_.Go.OpenSpec := { _root_.Go.OpenSpec.ofChange s with cond := some uptoSmall }

/-- 'towncrierlaw26.BellNames', WHERE WHAT IT READS IS OF BULK AT MOST 1048576: true; the input reads as it did. -/
def bellNamesUptoRow : OpenClaim := { program := "ytggdmadjpakkbaagreat", sum := "dd4d2d048fb8610fc85864978e4b1d4d7271e2e24c24b348ddfc9136c19a2bb9", func := "towncrier/towncrierlaw26.BellNames", spec := "bellNames", inPlace := ["slices.overlaps[towncrier/api.Wait]", "slices.overlaps[towncrier/api.Seen]", "slices.overlaps[towncrier/api.Promise]", "slices.overlaps[int]"], unfollowed := true, recurses := true, plainKeys := false, apart := false, narrowed := true }
def BellNamesUptoSaid : Prop := bellNamesUptoRow.holds Tryz.pinned (OpenSpec.upto bellNamesSpec)

/-- 'towncrierlaw31.FairNames', WHERE WHAT IT READS IS OF BULK AT MOST 1048576: true; the input reads as it did. -/
def fairNamesUptoRow : OpenClaim := { program := "ytggdmadjpakkbaagreat", sum := "dd4d2d048fb8610fc85864978e4b1d4d7271e2e24c24b348ddfc9136c19a2bb9", func := "towncrier/towncrierlaw31.FairNames", spec := "fairNames", inPlace := ["slices.overlaps[towncrier/api.Wait]", "slices.overlaps[towncrier/api.Seen]", "slices.overlaps[towncrier/api.Time]", "slices.overlaps[towncrier/api.Promise]", "slices.overlaps[int]"], unfollowed := true, recurses := true, plainKeys := false, apart := false, narrowed := true }
def FairNamesUptoSaid : Prop := fairNamesUptoRow.holds Tryz.pinned (OpenSpec.upto fairNamesSpec)

/-- 'towncrierlaw29.ClientNames', WHERE WHAT IT READS IS OF BULK AT MOST 1048576: true; the input reads as it did. -/
def clientNamesUptoRow : OpenClaim := { program := "ytggdmadjpakkbaagreat", sum := "dd4d2d048fb8610fc85864978e4b1d4d7271e2e24c24b348ddfc9136c19a2bb9", func := "towncrier/towncrierlaw29.ClientNames", spec := "clientNames", inPlace := ["slices.overlaps[towncrier/api.Wait]", "slices.overlaps[towncrier/api.Seen]", "slices.overlaps[towncrier/api.Time]", "slices.overlaps[towncrier/api.Promise]", "slices.overlaps[int]"], unfollowed := true, recurses := true, plainKeys := false, apart := false, narrowed := true }
def ClientNamesUptoSaid : Prop := clientNamesUptoRow.holds Tryz.pinned (OpenSpec.upto clientNamesSpec)

end Rows
end Go.Proofs.YtggdmadjpakkbaaGreat
