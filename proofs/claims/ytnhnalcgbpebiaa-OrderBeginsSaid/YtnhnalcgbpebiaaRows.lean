/-
  No cell of these rows narrows 'for every input' (looked for: loops, veiled, ifaces, maps, wideKeys, modest, calm, conditions, laid).
  DERIVED. THE GIVEN ROWS OF THIS SEAT. 11 by the template 'for every input the law returns true; each argument reads behind the call as it read before'; 0 by the template 'total and deterministic' (their statements: YtnhnalcgbpebiaaTotals.lean).
  GIVEN WITH THE SEED: the statements are not yours to turn. If you find one false, say at which input.
  Laid BY PROGRAM, IN A SANDBOX (cutbox-rows.mjs): the forced cells as the released guide's own fill.sh prints them over the translation 917dec804764d7d5… (all of the seat's roots in one cut). By AI agents, Wed Nov 11 2026. No macro, syntax, notation, axiom, sorry.
-/
import Derived.Test.YtnhnalcgbpebiaaChecked
import GoSem.Claim
import GoSem.ClaimJoined
import GoSem.ClaimMapViews
import Derived.JoinedTies
import Derived.KernelRfl
namespace Go.Proofs.Ytnhnalcgbpebiaa
/- THE CELL 'sum', in the pinned program and in every row, IS THE sha256 OF THE DUMP (.gsa) THAT YtnhnalcgbpebiaaProg.lean LOADS. Nothing in Lean hashes anything: it is a label: what it is worth is what the hold of that sum in a sandbox is worth. -/
noncomputable def Try.pinned : Pinned := { name := "ytnhnalcgbpebiaa", sum := "917dec804764d7d5a3566a38781081b9358eb830d1ba8bd71ea676d2087185b6", checked := Try.checked }
namespace Rows
def none {H : Type} : Left H := { results := [], args := [] }

/-- 'towncrierlaw08.AttemptTakes': WHATEVER THE INPUT: true; the input reads as it did. -/
def attemptTakesSpec : ChangeSpec := { name := "attemptTakes", fn := fun _ => fun
  | [d1, d2, d3, d4, d5] => { results := [.lit (.bool true)], args := [d1, d2, d3, d4, d5] }
  | _ => none }
def attemptTakesRow : OpenClaim := { program := "ytnhnalcgbpebiaa", sum := "917dec804764d7d5a3566a38781081b9358eb830d1ba8bd71ea676d2087185b6", func := "towncrier/towncrierlaw08.AttemptTakes", spec := "attemptTakes", inPlace := ["slices.overlaps[towncrier/api.Promise]", "slices.overlaps[int]"], unfollowed := true, recurses := true, apart := false }
def AttemptTakesSaid : Prop := attemptTakesRow.holds Try.pinned (OpenSpec.ofChange attemptTakesSpec)

/-- ITS FALSE NEIGHBOUR: 'it returns false'. Refute it at one input. -/
def attemptTakesWrong : ChangeSpec := { name := "attemptTakes", fn := fun _ => fun
  | [d1, d2, d3, d4, d5] => { results := [.lit (.bool false)], args := [d1, d2, d3, d4, d5] }
  | _ => none }
def AttemptTakesWrongFalsely : Prop := attemptTakesRow.holds Try.pinned (OpenSpec.ofChange attemptTakesWrong)

/-- 'towncrierlaw11.StableGoes': WHATEVER THE INPUT: true; the input reads as it did. -/
def stableGoesSpec : ChangeSpec := { name := "stableGoes", fn := fun _ => fun
  | [d1, d2, d3, d4] => { results := [.lit (.bool true)], args := [d1, d2, d3, d4] }
  | _ => none }
def stableGoesRow : OpenClaim := { program := "ytnhnalcgbpebiaa", sum := "917dec804764d7d5a3566a38781081b9358eb830d1ba8bd71ea676d2087185b6", func := "towncrier/towncrierlaw11.StableGoes", spec := "stableGoes", inPlace := ["slices.overlaps[towncrier/api.Seen]"], unfollowed := true, recurses := true, apart := false }
def StableGoesSaid : Prop := stableGoesRow.holds Try.pinned (OpenSpec.ofChange stableGoesSpec)

/-- ITS FALSE NEIGHBOUR: 'it returns false'. Refute it at one input. -/
def stableGoesWrong : ChangeSpec := { name := "stableGoes", fn := fun _ => fun
  | [d1, d2, d3, d4] => { results := [.lit (.bool false)], args := [d1, d2, d3, d4] }
  | _ => none }
def StableGoesWrongFalsely : Prop := stableGoesRow.holds Try.pinned (OpenSpec.ofChange stableGoesWrong)

/-- 'towncrierlaw11.StableDoes': WHATEVER THE INPUT: true; the input reads as it did. -/
def stableDoesSpec : ChangeSpec := { name := "stableDoes", fn := fun _ => fun
  | [d1, d2, d3, d4, d5] => { results := [.lit (.bool true)], args := [d1, d2, d3, d4, d5] }
  | _ => none }
def stableDoesRow : OpenClaim := { program := "ytnhnalcgbpebiaa", sum := "917dec804764d7d5a3566a38781081b9358eb830d1ba8bd71ea676d2087185b6", func := "towncrier/towncrierlaw11.StableDoes", spec := "stableDoes", inPlace := ["slices.overlaps[towncrier/api.Seen]"], unfollowed := true, recurses := true, apart := false }
def StableDoesSaid : Prop := stableDoesRow.holds Try.pinned (OpenSpec.ofChange stableDoesSpec)

/-- ITS FALSE NEIGHBOUR: 'it returns false'. Refute it at one input. -/
def stableDoesWrong : ChangeSpec := { name := "stableDoes", fn := fun _ => fun
  | [d1, d2, d3, d4, d5] => { results := [.lit (.bool false)], args := [d1, d2, d3, d4, d5] }
  | _ => none }
def StableDoesWrongFalsely : Prop := stableDoesRow.holds Try.pinned (OpenSpec.ofChange stableDoesWrong)

/-- 'towncrierlaw11.StableReplays': WHATEVER THE INPUT: true; the input reads as it did. -/
def stableReplaysSpec : ChangeSpec := { name := "stableReplays", fn := fun _ => fun
  | [d1, d2, d3] => { results := [.lit (.bool true)], args := [d1, d2, d3] }
  | _ => none }
def stableReplaysRow : OpenClaim := { program := "ytnhnalcgbpebiaa", sum := "917dec804764d7d5a3566a38781081b9358eb830d1ba8bd71ea676d2087185b6", func := "towncrier/towncrierlaw11.StableReplays", spec := "stableReplays", inPlace := ["slices.overlaps[towncrier/api.Seen]"], unfollowed := true, recurses := true, apart := false }
def StableReplaysSaid : Prop := stableReplaysRow.holds Try.pinned (OpenSpec.ofChange stableReplaysSpec)

/-- ITS FALSE NEIGHBOUR: 'it returns false'. Refute it at one input. -/
def stableReplaysWrong : ChangeSpec := { name := "stableReplays", fn := fun _ => fun
  | [d1, d2, d3] => { results := [.lit (.bool false)], args := [d1, d2, d3] }
  | _ => none }
def StableReplaysWrongFalsely : Prop := stableReplaysRow.holds Try.pinned (OpenSpec.ofChange stableReplaysWrong)

/-- 'towncrierlaw11.StableOn': WHATEVER THE INPUT: true; the input reads as it did. -/
def stableOnSpec : ChangeSpec := { name := "stableOn", fn := fun _ => fun
  | [d1, d2, d3] => { results := [.lit (.bool true)], args := [d1, d2, d3] }
  | _ => none }
def stableOnRow : OpenClaim := { program := "ytnhnalcgbpebiaa", sum := "917dec804764d7d5a3566a38781081b9358eb830d1ba8bd71ea676d2087185b6", func := "towncrier/towncrierlaw11.StableOn", spec := "stableOn", inPlace := ["slices.overlaps[towncrier/api.Seen]"], unfollowed := true, recurses := true, apart := false }
def StableOnSaid : Prop := stableOnRow.holds Try.pinned (OpenSpec.ofChange stableOnSpec)

/-- ITS FALSE NEIGHBOUR: 'it returns false'. Refute it at one input. -/
def stableOnWrong : ChangeSpec := { name := "stableOn", fn := fun _ => fun
  | [d1, d2, d3] => { results := [.lit (.bool false)], args := [d1, d2, d3] }
  | _ => none }
def StableOnWrongFalsely : Prop := stableOnRow.holds Try.pinned (OpenSpec.ofChange stableOnWrong)

/-- 'towncrierlaw11.StableBack': WHATEVER THE INPUT: true; the input reads as it did. -/
def stableBackSpec : ChangeSpec := { name := "stableBack", fn := fun _ => fun
  | [d] => { results := [.lit (.bool true)], args := [d] }
  | _ => none }
def stableBackRow : OpenClaim := { program := "ytnhnalcgbpebiaa", sum := "917dec804764d7d5a3566a38781081b9358eb830d1ba8bd71ea676d2087185b6", func := "towncrier/towncrierlaw11.StableBack", spec := "stableBack", inPlace := ["slices.overlaps[towncrier/api.Seen]"], unfollowed := true, recurses := true, apart := false }
def StableBackSaid : Prop := stableBackRow.holds Try.pinned (OpenSpec.ofChange stableBackSpec)

/-- ITS FALSE NEIGHBOUR: 'it returns false'. Refute it at one input. -/
def stableBackWrong : ChangeSpec := { name := "stableBack", fn := fun _ => fun
  | [d] => { results := [.lit (.bool false)], args := [d] }
  | _ => none }
def StableBackWrongFalsely : Prop := stableBackRow.holds Try.pinned (OpenSpec.ofChange stableBackWrong)

/-- 'towncrierlaw15.SkeenAll': WHATEVER THE INPUT: true; the input reads as it did. -/
def skeenAllSpec : ChangeSpec := { name := "skeenAll", fn := fun _ => fun
  | [d1, d2] => { results := [.lit (.bool true)], args := [d1, d2] }
  | _ => none }
def skeenAllRow : OpenClaim := { program := "ytnhnalcgbpebiaa", sum := "917dec804764d7d5a3566a38781081b9358eb830d1ba8bd71ea676d2087185b6", func := "towncrier/towncrierlaw15.SkeenAll", spec := "skeenAll", inPlace := ["slices.overlaps[towncrier/api.Wait]"], unfollowed := true, recurses := true, apart := false }
def SkeenAllSaid : Prop := skeenAllRow.holds Try.pinned (OpenSpec.ofChange skeenAllSpec)

/-- ITS FALSE NEIGHBOUR: 'it returns false'. Refute it at one input. -/
def skeenAllWrong : ChangeSpec := { name := "skeenAll", fn := fun _ => fun
  | [d1, d2] => { results := [.lit (.bool false)], args := [d1, d2] }
  | _ => none }
def SkeenAllWrongFalsely : Prop := skeenAllRow.holds Try.pinned (OpenSpec.ofChange skeenAllWrong)

/-- 'towncrierlaw15.SkeenRises': WHATEVER THE INPUT: true; the input reads as it did. -/
def skeenRisesSpec : ChangeSpec := { name := "skeenRises", fn := fun _ => fun
  | [d1, d2, d3] => { results := [.lit (.bool true)], args := [d1, d2, d3] }
  | _ => none }
def skeenRisesRow : OpenClaim := { program := "ytnhnalcgbpebiaa", sum := "917dec804764d7d5a3566a38781081b9358eb830d1ba8bd71ea676d2087185b6", func := "towncrier/towncrierlaw15.SkeenRises", spec := "skeenRises", inPlace := ["slices.overlaps[towncrier/api.Wait]"], unfollowed := true, recurses := true, apart := false }
def SkeenRisesSaid : Prop := skeenRisesRow.holds Try.pinned (OpenSpec.ofChange skeenRisesSpec)

/-- ITS FALSE NEIGHBOUR: 'it returns false'. Refute it at one input. -/
def skeenRisesWrong : ChangeSpec := { name := "skeenRises", fn := fun _ => fun
  | [d1, d2, d3] => { results := [.lit (.bool false)], args := [d1, d2, d3] }
  | _ => none }
def SkeenRisesWrongFalsely : Prop := skeenRisesRow.holds Try.pinned (OpenSpec.ofChange skeenRisesWrong)

/-- 'towncrierlaw15.SkeenDoes': WHATEVER THE INPUT: true; the input reads as it did. -/
def skeenDoesSpec : ChangeSpec := { name := "skeenDoes", fn := fun _ => fun
  | [d1, d2, d3, d4, d5] => { results := [.lit (.bool true)], args := [d1, d2, d3, d4, d5] }
  | _ => none }
def skeenDoesRow : OpenClaim := { program := "ytnhnalcgbpebiaa", sum := "917dec804764d7d5a3566a38781081b9358eb830d1ba8bd71ea676d2087185b6", func := "towncrier/towncrierlaw15.SkeenDoes", spec := "skeenDoes", inPlace := ["slices.overlaps[towncrier/api.Wait]"], unfollowed := true, recurses := true, apart := false }
def SkeenDoesSaid : Prop := skeenDoesRow.holds Try.pinned (OpenSpec.ofChange skeenDoesSpec)

/-- ITS FALSE NEIGHBOUR: 'it returns false'. Refute it at one input. -/
def skeenDoesWrong : ChangeSpec := { name := "skeenDoes", fn := fun _ => fun
  | [d1, d2, d3, d4, d5] => { results := [.lit (.bool false)], args := [d1, d2, d3, d4, d5] }
  | _ => none }
def SkeenDoesWrongFalsely : Prop := skeenDoesRow.holds Try.pinned (OpenSpec.ofChange skeenDoesWrong)

/-- 'towncrierlaw16.OrderBegins': WHATEVER THE INPUT: true; the input reads as it did. -/
def orderBeginsSpec : ChangeSpec := { name := "orderBegins", fn := fun _ => fun
  | [d1, d2, d3] => { results := [.lit (.bool true)], args := [d1, d2, d3] }
  | _ => none }
def orderBeginsRow : OpenClaim := { program := "ytnhnalcgbpebiaa", sum := "917dec804764d7d5a3566a38781081b9358eb830d1ba8bd71ea676d2087185b6", func := "towncrier/towncrierlaw16.OrderBegins", spec := "orderBegins", inPlace := ["slices.overlaps[towncrier/api.Wait]"], unfollowed := true, recurses := true, apart := false }
def OrderBeginsSaid : Prop := orderBeginsRow.holds Try.pinned (OpenSpec.ofChange orderBeginsSpec)

/-- ITS FALSE NEIGHBOUR: 'it returns false'. Refute it at one input. -/
def orderBeginsWrong : ChangeSpec := { name := "orderBegins", fn := fun _ => fun
  | [d1, d2, d3] => { results := [.lit (.bool false)], args := [d1, d2, d3] }
  | _ => none }
def OrderBeginsWrongFalsely : Prop := orderBeginsRow.holds Try.pinned (OpenSpec.ofChange orderBeginsWrong)

/-- 'towncrierlaw16.OrderFinal': WHATEVER THE INPUT: true; the input reads as it did. -/
def orderFinalSpec : ChangeSpec := { name := "orderFinal", fn := fun _ => fun
  | [d1, d2, d3] => { results := [.lit (.bool true)], args := [d1, d2, d3] }
  | _ => none }
def orderFinalRow : OpenClaim := { program := "ytnhnalcgbpebiaa", sum := "917dec804764d7d5a3566a38781081b9358eb830d1ba8bd71ea676d2087185b6", func := "towncrier/towncrierlaw16.OrderFinal", spec := "orderFinal", inPlace := ["slices.overlaps[towncrier/api.Wait]"], unfollowed := true, recurses := true, apart := false }
def OrderFinalSaid : Prop := orderFinalRow.holds Try.pinned (OpenSpec.ofChange orderFinalSpec)

/-- ITS FALSE NEIGHBOUR: 'it returns false'. Refute it at one input. -/
def orderFinalWrong : ChangeSpec := { name := "orderFinal", fn := fun _ => fun
  | [d1, d2, d3] => { results := [.lit (.bool false)], args := [d1, d2, d3] }
  | _ => none }
def OrderFinalWrongFalsely : Prop := orderFinalRow.holds Try.pinned (OpenSpec.ofChange orderFinalWrong)

/- THE SECOND FORM. 'bulk': how many values and letters a reading holds, each counted each time it is reached (what is shared counts as often as it is met; a slice's spare places count too). A statement '..UptoSaid' is the law's where the arguments, and the package variables that the reading takes, are together of bulk at most 1048576: NARROWER than '..Said'. Prove '..Said' where nothing that the law and all that it calls make is longer than what came in: it says more and counts as full. Else prove '..UptoSaid'. A law counts once. -/
mutual
def uptoBulk {H : Type} : DataW H → Nat
  | .lit (.string bytes) => bytes.length + 1
  | .lit _ => 1
  | .nil => 1
  | .ptr d => uptoBulk d + 1
  | .slice elems spare => uptoBulkAll elems + uptoBulkAll spare + 1
  | .agg parts => uptoBulkAll parts + 1
  | .iface _ d => uptoBulk d + 1
  | .map entries => uptoBulkEntries entries + 1
  | .held _ => 1
def uptoBulkAll {H : Type} : List (DataW H) → Nat
  | [] => 0
  | d :: r => uptoBulk d + uptoBulkAll r
def uptoBulkEntries {H : Type} : List (Lit × DataW H) → Nat
  | [] => 0
  | x :: r => uptoBulkEntry x + uptoBulkEntries r
def uptoBulkEntry {H : Type} : Lit × DataW H → Nat
  | (.string bytes, d) => bytes.length + uptoBulk d + 1
  | (_, d) => uptoBulk d + 1
 end
def uptoSmall : (H : Type) → List (DataW H) → Bool := fun _ ds => decide (uptoBulkAll ds ≤ 1048576)
def OpenSpec.upto (s : _root_.Go.ChangeSpec) : _root_.Go.OpenSpec := { _root_.Go.OpenSpec.ofChange s with cond := some uptoSmall }

/-- 'towncrierlaw08.AttemptTakes', WHERE WHAT IT READS IS OF BULK AT MOST 1048576: true; the input reads as it did. -/
def attemptTakesUptoRow : OpenClaim := { program := "ytnhnalcgbpebiaa", sum := "917dec804764d7d5a3566a38781081b9358eb830d1ba8bd71ea676d2087185b6", func := "towncrier/towncrierlaw08.AttemptTakes", spec := "attemptTakes", inPlace := ["slices.overlaps[towncrier/api.Promise]", "slices.overlaps[int]"], unfollowed := true, recurses := true, apart := false, narrowed := true }
def AttemptTakesUptoSaid : Prop := attemptTakesUptoRow.holds Try.pinned (OpenSpec.upto attemptTakesSpec)

/-- 'towncrierlaw11.StableGoes', WHERE WHAT IT READS IS OF BULK AT MOST 1048576: true; the input reads as it did. -/
def stableGoesUptoRow : OpenClaim := { program := "ytnhnalcgbpebiaa", sum := "917dec804764d7d5a3566a38781081b9358eb830d1ba8bd71ea676d2087185b6", func := "towncrier/towncrierlaw11.StableGoes", spec := "stableGoes", inPlace := ["slices.overlaps[towncrier/api.Seen]"], unfollowed := true, recurses := true, apart := false, narrowed := true }
def StableGoesUptoSaid : Prop := stableGoesUptoRow.holds Try.pinned (OpenSpec.upto stableGoesSpec)

/-- 'towncrierlaw11.StableDoes', WHERE WHAT IT READS IS OF BULK AT MOST 1048576: true; the input reads as it did. -/
def stableDoesUptoRow : OpenClaim := { program := "ytnhnalcgbpebiaa", sum := "917dec804764d7d5a3566a38781081b9358eb830d1ba8bd71ea676d2087185b6", func := "towncrier/towncrierlaw11.StableDoes", spec := "stableDoes", inPlace := ["slices.overlaps[towncrier/api.Seen]"], unfollowed := true, recurses := true, apart := false, narrowed := true }
def StableDoesUptoSaid : Prop := stableDoesUptoRow.holds Try.pinned (OpenSpec.upto stableDoesSpec)

/-- 'towncrierlaw11.StableReplays', WHERE WHAT IT READS IS OF BULK AT MOST 1048576: true; the input reads as it did. -/
def stableReplaysUptoRow : OpenClaim := { program := "ytnhnalcgbpebiaa", sum := "917dec804764d7d5a3566a38781081b9358eb830d1ba8bd71ea676d2087185b6", func := "towncrier/towncrierlaw11.StableReplays", spec := "stableReplays", inPlace := ["slices.overlaps[towncrier/api.Seen]"], unfollowed := true, recurses := true, apart := false, narrowed := true }
def StableReplaysUptoSaid : Prop := stableReplaysUptoRow.holds Try.pinned (OpenSpec.upto stableReplaysSpec)

/-- 'towncrierlaw11.StableOn', WHERE WHAT IT READS IS OF BULK AT MOST 1048576: true; the input reads as it did. -/
def stableOnUptoRow : OpenClaim := { program := "ytnhnalcgbpebiaa", sum := "917dec804764d7d5a3566a38781081b9358eb830d1ba8bd71ea676d2087185b6", func := "towncrier/towncrierlaw11.StableOn", spec := "stableOn", inPlace := ["slices.overlaps[towncrier/api.Seen]"], unfollowed := true, recurses := true, apart := false, narrowed := true }
def StableOnUptoSaid : Prop := stableOnUptoRow.holds Try.pinned (OpenSpec.upto stableOnSpec)

/-- 'towncrierlaw11.StableBack', WHERE WHAT IT READS IS OF BULK AT MOST 1048576: true; the input reads as it did. -/
def stableBackUptoRow : OpenClaim := { program := "ytnhnalcgbpebiaa", sum := "917dec804764d7d5a3566a38781081b9358eb830d1ba8bd71ea676d2087185b6", func := "towncrier/towncrierlaw11.StableBack", spec := "stableBack", inPlace := ["slices.overlaps[towncrier/api.Seen]"], unfollowed := true, recurses := true, apart := false, narrowed := true }
def StableBackUptoSaid : Prop := stableBackUptoRow.holds Try.pinned (OpenSpec.upto stableBackSpec)

/-- 'towncrierlaw15.SkeenAll', WHERE WHAT IT READS IS OF BULK AT MOST 1048576: true; the input reads as it did. -/
def skeenAllUptoRow : OpenClaim := { program := "ytnhnalcgbpebiaa", sum := "917dec804764d7d5a3566a38781081b9358eb830d1ba8bd71ea676d2087185b6", func := "towncrier/towncrierlaw15.SkeenAll", spec := "skeenAll", inPlace := ["slices.overlaps[towncrier/api.Wait]"], unfollowed := true, recurses := true, apart := false, narrowed := true }
def SkeenAllUptoSaid : Prop := skeenAllUptoRow.holds Try.pinned (OpenSpec.upto skeenAllSpec)

/-- 'towncrierlaw15.SkeenRises', WHERE WHAT IT READS IS OF BULK AT MOST 1048576: true; the input reads as it did. -/
def skeenRisesUptoRow : OpenClaim := { program := "ytnhnalcgbpebiaa", sum := "917dec804764d7d5a3566a38781081b9358eb830d1ba8bd71ea676d2087185b6", func := "towncrier/towncrierlaw15.SkeenRises", spec := "skeenRises", inPlace := ["slices.overlaps[towncrier/api.Wait]"], unfollowed := true, recurses := true, apart := false, narrowed := true }
def SkeenRisesUptoSaid : Prop := skeenRisesUptoRow.holds Try.pinned (OpenSpec.upto skeenRisesSpec)

/-- 'towncrierlaw15.SkeenDoes', WHERE WHAT IT READS IS OF BULK AT MOST 1048576: true; the input reads as it did. -/
def skeenDoesUptoRow : OpenClaim := { program := "ytnhnalcgbpebiaa", sum := "917dec804764d7d5a3566a38781081b9358eb830d1ba8bd71ea676d2087185b6", func := "towncrier/towncrierlaw15.SkeenDoes", spec := "skeenDoes", inPlace := ["slices.overlaps[towncrier/api.Wait]"], unfollowed := true, recurses := true, apart := false, narrowed := true }
def SkeenDoesUptoSaid : Prop := skeenDoesUptoRow.holds Try.pinned (OpenSpec.upto skeenDoesSpec)

/-- 'towncrierlaw16.OrderBegins', WHERE WHAT IT READS IS OF BULK AT MOST 1048576: true; the input reads as it did. -/
def orderBeginsUptoRow : OpenClaim := { program := "ytnhnalcgbpebiaa", sum := "917dec804764d7d5a3566a38781081b9358eb830d1ba8bd71ea676d2087185b6", func := "towncrier/towncrierlaw16.OrderBegins", spec := "orderBegins", inPlace := ["slices.overlaps[towncrier/api.Wait]"], unfollowed := true, recurses := true, apart := false, narrowed := true }
def OrderBeginsUptoSaid : Prop := orderBeginsUptoRow.holds Try.pinned (OpenSpec.upto orderBeginsSpec)

/-- 'towncrierlaw16.OrderFinal', WHERE WHAT IT READS IS OF BULK AT MOST 1048576: true; the input reads as it did. -/
def orderFinalUptoRow : OpenClaim := { program := "ytnhnalcgbpebiaa", sum := "917dec804764d7d5a3566a38781081b9358eb830d1ba8bd71ea676d2087185b6", func := "towncrier/towncrierlaw16.OrderFinal", spec := "orderFinal", inPlace := ["slices.overlaps[towncrier/api.Wait]"], unfollowed := true, recurses := true, apart := false, narrowed := true }
def OrderFinalUptoSaid : Prop := orderFinalUptoRow.holds Try.pinned (OpenSpec.upto orderFinalSpec)

end Rows
end Go.Proofs.Ytnhnalcgbpebiaa
