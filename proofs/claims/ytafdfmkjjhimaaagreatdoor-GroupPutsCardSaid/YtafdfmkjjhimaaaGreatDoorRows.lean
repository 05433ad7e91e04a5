/-
  NARROWER THAN 'FOR EVERY INPUT', by the rows' own cells (each row's printed sentence says how): GroupApplies: laid · GroupOnce: laid · GroupPlays: laid · GroupGoesOn: laid · GroupPuts: laid.
  DERIVED. THE GIVEN ROWS OF THIS SEAT. 5 by the template 'for every input the law returns true; each argument reads behind the call as it read before'; 0 by the template 'total and deterministic' (their statements: YtafdfmkjjhimaaaGreatDoorTotals.lean).
  GIVEN WITH THE SEED: the statements are not yours to turn. If you find one false, say at which input.
  Laid BY PROGRAM, IN A SANDBOX (cutbox-rows.mjs): the forced cells as the released guide's own fill.sh prints them over the translation 62d174111356c217… (all of the seat's roots in one cut). By AI agents, Wed Nov 11 2026. No macro, syntax, notation, axiom, sorry.
-/
import Derived.Test.YtafdfmkjjhimaaaGreatDoorChecked
import GoSem.Claim
import GoSem.ClaimJoined
import GoSem.ClaimMapViews
import Derived.JoinedTies
import Derived.KernelRfl
namespace Go.Proofs.YtafdfmkjjhimaaaGreatDoor
/- THE CELL 'sum', in the pinned program and in every row, IS THE sha256 OF THE DUMP (.gsa) THAT YtafdfmkjjhimaaaGreatDoorProg.lean LOADS. Nothing in Lean hashes anything: it is a label: what it is worth is what the hold of that sum in a sandbox is worth. -/
noncomputable def Tryz.pinned : Pinned := { name := "ytafdfmkjjhimaaagreatdoor", sum := "62d174111356c2175c70c0fc2de47a50c984c281620882f9298310f7939e7ed6", checked := Tryz.checked }
namespace Rows
def none {H : Type} : Left H := { results := [], args := [] }

/- WHAT THE LISTED PACKAGE-LEVEL VARIABLES READ AS WHEN THE CALL BEGINS. Each datum BY PROGRAM (the guide's laid-datum.mjs) off the statement by which the dump's own 'gosem.cut.vars' lays the variable. In a bare row this is a premise. The card (YtafdfmkjjhimaaaGreatDoorCards.lean) ties it to the program's text. -/
def laid_errors_errorType {H : Type} : DataW H := .iface "internal/reflectlite.rtype" (.agg [.ptr (.lit (.string [101, 114, 114, 111, 114]))])

/-- 'towncrierlaw22.GroupApplies': WHATEVER THE INPUT: true; the input reads as it did. -/
def groupAppliesSpec : ChangeSpec := { name := "groupApplies", fn := fun _ => fun
  | [d1, d2, d3, d4] => { results := [.lit (.bool true)], args := [d1, d2, d3, d4] }
  | _ => none }
def groupAppliesRow : OpenClaim := { program := "ytafdfmkjjhimaaagreatdoor", sum := "62d174111356c2175c70c0fc2de47a50c984c281620882f9298310f7939e7ed6", func := "towncrier/towncrierlaw22.GroupApplies", spec := "groupApplies", inPlace := ["slices.overlaps[towncrier/api.Wait]", "internal/reflectlite.ValueOf", "(internal/reflectlite.Value).Type", "(internal/reflectlite.Value).IsNil", "internal/reflectlite.TypeOf", "(internal/reflectlite.Value).Elem", "(internal/reflectlite.Value).Set"], unfollowed := true, recurses := true, named := ["errors.errorType"], apart := false, laid := [("errors.errorType", laid_errors_errorType)] }
def GroupAppliesSaid : Prop := groupAppliesRow.holds Tryz.pinned (OpenSpec.ofChange groupAppliesSpec)

/-- ITS FALSE NEIGHBOUR: 'it returns false'. Refute it at one input. -/
def groupAppliesWrong : ChangeSpec := { name := "groupApplies", fn := fun _ => fun
  | [d1, d2, d3, d4] => { results := [.lit (.bool false)], args := [d1, d2, d3, d4] }
  | _ => none }
def GroupAppliesWrongFalsely : Prop := groupAppliesRow.holds Tryz.pinned (OpenSpec.ofChange groupAppliesWrong)

/-- 'towncrierlaw22.GroupOnce': WHATEVER THE INPUT: true; the input reads as it did. -/
def groupOnceSpec : ChangeSpec := { name := "groupOnce", fn := fun _ => fun
  | [d1, d2, d3, d4] => { results := [.lit (.bool true)], args := [d1, d2, d3, d4] }
  | _ => none }
def groupOnceRow : OpenClaim := { program := "ytafdfmkjjhimaaagreatdoor", sum := "62d174111356c2175c70c0fc2de47a50c984c281620882f9298310f7939e7ed6", func := "towncrier/towncrierlaw22.GroupOnce", spec := "groupOnce", inPlace := ["slices.overlaps[towncrier/api.Wait]", "internal/reflectlite.ValueOf", "(internal/reflectlite.Value).Type", "(internal/reflectlite.Value).IsNil", "internal/reflectlite.TypeOf", "(internal/reflectlite.Value).Elem", "(internal/reflectlite.Value).Set"], unfollowed := true, recurses := true, named := ["errors.errorType"], apart := false, laid := [("errors.errorType", laid_errors_errorType)] }
def GroupOnceSaid : Prop := groupOnceRow.holds Tryz.pinned (OpenSpec.ofChange groupOnceSpec)

/-- ITS FALSE NEIGHBOUR: 'it returns false'. Refute it at one input. -/
def groupOnceWrong : ChangeSpec := { name := "groupOnce", fn := fun _ => fun
  | [d1, d2, d3, d4] => { results := [.lit (.bool false)], args := [d1, d2, d3, d4] }
  | _ => none }
def GroupOnceWrongFalsely : Prop := groupOnceRow.holds Tryz.pinned (OpenSpec.ofChange groupOnceWrong)

/-- 'towncrierlaw22.GroupPlays': WHATEVER THE INPUT: true; the input reads as it did. -/
def groupPlaysSpec : ChangeSpec := { name := "groupPlays", fn := fun _ => fun
  | [d1, d2] => { results := [.lit (.bool true)], args := [d1, d2] }
  | _ => none }
def groupPlaysRow : OpenClaim := { program := "ytafdfmkjjhimaaagreatdoor", sum := "62d174111356c2175c70c0fc2de47a50c984c281620882f9298310f7939e7ed6", func := "towncrier/towncrierlaw22.GroupPlays", spec := "groupPlays", inPlace := ["internal/reflectlite.ValueOf", "(internal/reflectlite.Value).Type", "(internal/reflectlite.Value).IsNil", "internal/reflectlite.TypeOf", "(internal/reflectlite.Value).Elem", "(internal/reflectlite.Value).Set", "slices.overlaps[towncrier/api.Wait]"], unfollowed := true, recurses := true, named := ["errors.errorType"], apart := false, laid := [("errors.errorType", laid_errors_errorType)] }
def GroupPlaysSaid : Prop := groupPlaysRow.holds Tryz.pinned (OpenSpec.ofChange groupPlaysSpec)

/-- ITS FALSE NEIGHBOUR: 'it returns false'. Refute it at one input. -/
def groupPlaysWrong : ChangeSpec := { name := "groupPlays", fn := fun _ => fun
  | [d1, d2] => { results := [.lit (.bool false)], args := [d1, d2] }
  | _ => none }
def GroupPlaysWrongFalsely : Prop := groupPlaysRow.holds Tryz.pinned (OpenSpec.ofChange groupPlaysWrong)

/-- 'towncrierlaw22.GroupGoesOn': WHATEVER THE INPUT: true; the input reads as it did. -/
def groupGoesOnSpec : ChangeSpec := { name := "groupGoesOn", fn := fun _ => fun
  | [d1, d2] => { results := [.lit (.bool true)], args := [d1, d2] }
  | _ => none }
def groupGoesOnRow : OpenClaim := { program := "ytafdfmkjjhimaaagreatdoor", sum := "62d174111356c2175c70c0fc2de47a50c984c281620882f9298310f7939e7ed6", func := "towncrier/towncrierlaw22.GroupGoesOn", spec := "groupGoesOn", inPlace := ["slices.overlaps[towncrier/api.Wait]", "internal/reflectlite.ValueOf", "(internal/reflectlite.Value).Type", "(internal/reflectlite.Value).IsNil", "internal/reflectlite.TypeOf", "(internal/reflectlite.Value).Elem", "(internal/reflectlite.Value).Set"], unfollowed := true, recurses := true, named := ["errors.errorType"], apart := false, laid := [("errors.errorType", laid_errors_errorType)] }
def GroupGoesOnSaid : Prop := groupGoesOnRow.holds Tryz.pinned (OpenSpec.ofChange groupGoesOnSpec)

/-- ITS FALSE NEIGHBOUR: 'it returns false'. Refute it at one input. -/
def groupGoesOnWrong : ChangeSpec := { name := "groupGoesOn", fn := fun _ => fun
  | [d1, d2] => { results := [.lit (.bool false)], args := [d1, d2] }
  | _ => none }
def GroupGoesOnWrongFalsely : Prop := groupGoesOnRow.holds Tryz.pinned (OpenSpec.ofChange groupGoesOnWrong)

/-- 'towncrierlaw22.GroupPuts': WHATEVER THE INPUT: true; the input reads as it did. -/
def groupPutsSpec : ChangeSpec := { name := "groupPuts", fn := fun _ => fun
  | [d1, d2] => { results := [.lit (.bool true)], args := [d1, d2] }
  | _ => none }
def groupPutsRow : OpenClaim := { program := "ytafdfmkjjhimaaagreatdoor", sum := "62d174111356c2175c70c0fc2de47a50c984c281620882f9298310f7939e7ed6", func := "towncrier/towncrierlaw22.GroupPuts", spec := "groupPuts", inPlace := ["slices.overlaps[towncrier/api.Wait]", "internal/reflectlite.ValueOf", "(internal/reflectlite.Value).Type", "(internal/reflectlite.Value).IsNil", "internal/reflectlite.TypeOf", "(internal/reflectlite.Value).Elem", "(internal/reflectlite.Value).Set"], unfollowed := true, recurses := true, named := ["errors.errorType"], apart := false, laid := [("errors.errorType", laid_errors_errorType)] }
def GroupPutsSaid : Prop := groupPutsRow.holds Tryz.pinned (OpenSpec.ofChange groupPutsSpec)

/-- ITS FALSE NEIGHBOUR: 'it returns false'. Refute it at one input. -/
def groupPutsWrong : ChangeSpec := { name := "groupPuts", fn := fun _ => fun
  | [d1, d2] => { results := [.lit (.bool false)], args := [d1, d2] }
  | _ => none }
def GroupPutsWrongFalsely : Prop := groupPutsRow.holds Tryz.pinned (OpenSpec.ofChange groupPutsWrong)

/- THE SECOND FORM. 'bulk': how many values and letters a reading holds, each counted each time it is reached (what is shared counts as often as it is met; a slice's spare places count too). A statement '..UptoSaid' is the law's where the arguments, and the package variables that the reading takes, are together of bulk at most 1048576: NARROWER than '..Said'. Prove '..Said' where nothing that the law and all that it calls make is longer than what came in: it says more and counts as full. Else prove '..UptoSaid'. A law counts once. -/
mutual
def uptoBulk {H : Type} : DataW H → Nat
  | .lit (.string bytes) => bytes.length + 1
  | .lit _ => 1
  | .nil => 1
  | .ptr d => uptoBulk d + 1
  | .slice elems spare => uptoBulkAll elems + uptoBulkAll spare + 1
  | .agg parts => uptoBulkAll parts + 1
  | .iface _ d => uptoBulk d + 1
  | .map entries => uptoBulkEntries entries + 1
  | .held _ => 1
def uptoBulkAll {H : Type} : List (DataW H) → Nat
  | [] => 0
  | d :: r => uptoBulk d + uptoBulkAll r
def uptoBulkEntries {H : Type} : List (Lit × DataW H) → Nat
  | [] => 0
  | x :: r => uptoBulkEntry x + uptoBulkEntries r
def uptoBulkEntry {H : Type} : Lit × DataW H → Nat
  | (.string bytes, d) => bytes.length + uptoBulk d + 1
  | (_, d) => uptoBulk d + 1
 end
def uptoSmall : (H : Type) → List (DataW H) → Bool := fun _ ds => decide (uptoBulkAll ds ≤ 1048576)
def OpenSpec.upto (s : _root_.Go.ChangeSpec) : _root_.Go.OpenSpec := { _root_.Go.OpenSpec.ofChange s with cond := some uptoSmall }

/-- 'towncrierlaw22.GroupApplies', WHERE WHAT IT READS IS OF BULK AT MOST 1048576: true; the input reads as it did. -/
def groupAppliesUptoRow : OpenClaim := { program := "ytafdfmkjjhimaaagreatdoor", sum := "62d174111356c2175c70c0fc2de47a50c984c281620882f9298310f7939e7ed6", func := "towncrier/towncrierlaw22.GroupApplies", spec := "groupApplies", inPlace := ["slices.overlaps[towncrier/api.Wait]", "internal/reflectlite.ValueOf", "(internal/reflectlite.Value).Type", "(internal/reflectlite.Value).IsNil", "internal/reflectlite.TypeOf", "(internal/reflectlite.Value).Elem", "(internal/reflectlite.Value).Set"], unfollowed := true, recurses := true, named := ["errors.errorType"], apart := false, laid := [("errors.errorType", laid_errors_errorType)], narrowed := true }
def GroupAppliesUptoSaid : Prop := groupAppliesUptoRow.holds Tryz.pinned (OpenSpec.upto groupAppliesSpec)

/-- 'towncrierlaw22.GroupOnce', WHERE WHAT IT READS IS OF BULK AT MOST 1048576: true; the input reads as it did. -/
def groupOnceUptoRow : OpenClaim := { program := "ytafdfmkjjhimaaagreatdoor", sum := "62d174111356c2175c70c0fc2de47a50c984c281620882f9298310f7939e7ed6", func := "towncrier/towncrierlaw22.GroupOnce", spec := "groupOnce", inPlace := ["slices.overlaps[towncrier/api.Wait]", "internal/reflectlite.ValueOf", "(internal/reflectlite.Value).Type", "(internal/reflectlite.Value).IsNil", "internal/reflectlite.TypeOf", "(internal/reflectlite.Value).Elem", "(internal/reflectlite.Value).Set"], unfollowed := true, recurses := true, named := ["errors.errorType"], apart := false, laid := [("errors.errorType", laid_errors_errorType)], narrowed := true }
def GroupOnceUptoSaid : Prop := groupOnceUptoRow.holds Tryz.pinned (OpenSpec.upto groupOnceSpec)

/-- 'towncrierlaw22.GroupPlays', WHERE WHAT IT READS IS OF BULK AT MOST 1048576: true; the input reads as it did. -/
def groupPlaysUptoRow : OpenClaim := { program := "ytafdfmkjjhimaaagreatdoor", sum := "62d174111356c2175c70c0fc2de47a50c984c281620882f9298310f7939e7ed6", func := "towncrier/towncrierlaw22.GroupPlays", spec := "groupPlays", inPlace := ["internal/reflectlite.ValueOf", "(internal/reflectlite.Value).Type", "(internal/reflectlite.Value).IsNil", "internal/reflectlite.TypeOf", "(internal/reflectlite.Value).Elem", "(internal/reflectlite.Value).Set", "slices.overlaps[towncrier/api.Wait]"], unfollowed := true, recurses := true, named := ["errors.errorType"], apart := false, laid := [("errors.errorType", laid_errors_errorType)], narrowed := true }
def GroupPlaysUptoSaid : Prop := groupPlaysUptoRow.holds Tryz.pinned (OpenSpec.upto groupPlaysSpec)

/-- 'towncrierlaw22.GroupGoesOn', WHERE WHAT IT READS IS OF BULK AT MOST 1048576: true; the input reads as it did. -/
def groupGoesOnUptoRow : OpenClaim := { program := "ytafdfmkjjhimaaagreatdoor", sum := "62d174111356c2175c70c0fc2de47a50c984c281620882f9298310f7939e7ed6", func := "towncrier/towncrierlaw22.GroupGoesOn", spec := "groupGoesOn", inPlace := ["slices.overlaps[towncrier/api.Wait]", "internal/reflectlite.ValueOf", "(internal/reflectlite.Value).Type", "(internal/reflectlite.Value).IsNil", "internal/reflectlite.TypeOf", "(internal/reflectlite.Value).Elem", "(internal/reflectlite.Value).Set"], unfollowed := true, recurses := true, named := ["errors.errorType"], apart := false, laid := [("errors.errorType", laid_errors_errorType)], narrowed := true }
def GroupGoesOnUptoSaid : Prop := groupGoesOnUptoRow.holds Tryz.pinned (OpenSpec.upto groupGoesOnSpec)

/-- 'towncrierlaw22.GroupPuts', WHERE WHAT IT READS IS OF BULK AT MOST 1048576: true; the input reads as it did. -/
def groupPutsUptoRow : OpenClaim := { program := "ytafdfmkjjhimaaagreatdoor", sum := "62d174111356c2175c70c0fc2de47a50c984c281620882f9298310f7939e7ed6", func := "towncrier/towncrierlaw22.GroupPuts", spec := "groupPuts", inPlace := ["slices.overlaps[towncrier/api.Wait]", "internal/reflectlite.ValueOf", "(internal/reflectlite.Value).Type", "(internal/reflectlite.Value).IsNil", "internal/reflectlite.TypeOf", "(internal/reflectlite.Value).Elem", "(internal/reflectlite.Value).Set"], unfollowed := true, recurses := true, named := ["errors.errorType"], apart := false, laid := [("errors.errorType", laid_errors_errorType)], narrowed := true }
def GroupPutsUptoSaid : Prop := groupPutsUptoRow.holds Tryz.pinned (OpenSpec.upto groupPutsSpec)

end Rows
end Go.Proofs.YtafdfmkjjhimaaaGreatDoor
