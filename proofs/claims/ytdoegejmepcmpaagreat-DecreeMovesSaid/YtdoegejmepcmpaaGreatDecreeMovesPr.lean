/- Texts of the proof. -/
import Derived.Test.YtdoegejmepcmpaaGreatRows
import Derived.WalkKit
import Derived.ProofKit
import Derived.OpenShut
import Derived.Test.YtdoegejmepcmpaaGreatDecreeMovesPp
import Derived.Test.YtdoegejmepcmpaaGreatDecreeMovesPq
namespace Go.Proofs.YtdoegejmepcmpaaGreat.decreeMoves
open Go.ChangeShapes Go.WideShapes Go.RowKit Go.Tm
set_option maxRecDepth 100000
theorem own : ownKnob Tryz.prog.godebug = none := by kernel_rfl
theorem ya67 : aggT Tryz.prog 28 = true := by kernel_rfl
theorem ya5h : aggT Tryz.prog 22 = false := by kernel_rfl
theorem agg3 : aggT Tryz.prog 3 = false := by kernel_rfl
theorem ya59 : Tryz.prog.cellsOf 3 = 1 := by kernel_rfl
theorem tc22 {n : Nat} {l : List D} (h : zg2 Tryz.prog (n + 2) 22 l) : ∃ m : List Int, l = [.imm 1 (m.map (D.int .i64)) 4] := by
 obtain ⟨d, hd⟩ := zkf Tryz.underlying22 h
 obtain ⟨m, hm⟩ := zj3 (D.int .i64) Tryz.underlying22 ya5h ya59 (fun x hx => by
  obtain ⟨a, ha⟩ := zdi Tryz.underlying3 hx
  exact ⟨a, ha ▸ zm0 agg3⟩) h
 rw [hd, zm0 ya5h] at hm
 exact ⟨m, by rw [hd, hm]⟩
theorem ya5g : aggT Tryz.prog 23 = false := by kernel_rfl
theorem ya62 : aggT Tryz.prog 51 = true := by kernel_rfl
theorem tc51 {n : Nat} {l : List D} (h : zg2 Tryz.prog (n + 2) 51 l) : ∃ x : TVote, l = [.int .i64 x.Promised, .int .i64 x.Ballot, .str x.Value] := by
 replace h := zgh Tryz.underlying51 h
 obtain ⟨l0, r0, e0, h0, h⟩ := zak h
 obtain ⟨l1, r1, e1, h1, h⟩ := zak h
 obtain ⟨l2, r2, e2, h2, h⟩ := zak h
 have ez := zi3 h
 obtain ⟨a0, f0⟩ := zdi Tryz.underlying3 h0
 obtain ⟨a1, f1⟩ := zdi Tryz.underlying3 h1
 obtain ⟨a2, f2⟩ := zj9 Tryz.underlying9 h2
 refine ⟨⟨a0, a1, a2⟩, ?_⟩
 rw [e0, e1, e2, ez, f0, f1, f2]
 exact rfl
theorem ya2t : Tryz.prog.cellsOf 51 = 3 := by kernel_rfl
theorem tc23 {n : Nat} {l : List D} (h : zg2 Tryz.prog (n + 3) 23 l) : ∃ m : List TVote, l = [.imm 3 (m.map TVote.d) 4] := by
 obtain ⟨d, hd⟩ := zkf Tryz.underlying23 h
 obtain ⟨m, hm⟩ := zj3 TVote.d Tryz.underlying23 ya5g ya2t (fun x hx => by
  obtain ⟨a, ha⟩ := tc51 (n := n) hx
  exact ⟨a, (zn5 ya62).trans (by rw [ha]; rfl)⟩) h
 rw [hd, zm0 ya5g] at hm
 exact ⟨m, by rw [hd, hm]⟩
theorem ya5f : aggT Tryz.prog 24 = false := by kernel_rfl
theorem ya63 : aggT Tryz.prog 49 = true := by kernel_rfl
theorem ya5c : aggT Tryz.prog 47 = false := by kernel_rfl
theorem ya61 : aggT Tryz.prog 83 = true := by kernel_rfl
theorem tc83 {n : Nat} {l : List D} (h : zg2 Tryz.prog (n + 2) 83 l) : ∃ x : TPromise, l = [.int .i64 x.Node, .int .i64 x.Ballot, .str x.Value] := by
 replace h := zgh Tryz.underlying83 h
 obtain ⟨l0, r0, e0, h0, h⟩ := zak h
 obtain ⟨l1, r1, e1, h1, h⟩ := zak h
 obtain ⟨l2, r2, e2, h2, h⟩ := zak h
 have ez := zi3 h
 obtain ⟨a0, f0⟩ := zdi Tryz.underlying3 h0
 obtain ⟨a1, f1⟩ := zdi Tryz.underlying3 h1
 obtain ⟨a2, f2⟩ := zj9 Tryz.underlying9 h2
 refine ⟨⟨a0, a1, a2⟩, ?_⟩
 rw [e0, e1, e2, ez, f0, f1, f2]
 exact rfl
theorem ya2s : Tryz.prog.cellsOf 83 = 3 := by kernel_rfl
theorem tc47 {n : Nat} {l : List D} (h : zg2 Tryz.prog (n + 3) 47 l) : ∃ m : List TPromise, l = [.imm 3 (m.map TPromise.d) 4] := by
 obtain ⟨d, hd⟩ := zkf Tryz.underlying47 h
 obtain ⟨m, hm⟩ := zj3 TPromise.d Tryz.underlying47 ya5c ya2s (fun x hx => by
  obtain ⟨a, ha⟩ := tc83 (n := n) hx
  exact ⟨a, (zn5 ya61).trans (by rw [ha]; rfl)⟩) h
 rw [hd, zm0 ya5c] at hm
 exact ⟨m, by rw [hd, hm]⟩
theorem tc49 {n : Nat} {l : List D} (h : zg2 Tryz.prog (n + 4) 49 l) : ∃ x : TAttempt, l = [.int .u8 x.Phase, .int .i64 x.Ballot, .imm 1 (x.Members.map (D.int .i64)) 4, .str x.Wish, .str x.Value, .imm 3 (x.Promises.map TPromise.d) 4, .imm 1 (x.Accepted.map (D.int .i64)) 4] := by
 replace h := zgh Tryz.underlying49 h
 obtain ⟨l0, r0, e0, h0, h⟩ := zak h
 obtain ⟨l1, r1, e1, h1, h⟩ := zak h
 obtain ⟨l2, r2, e2, h2, h⟩ := zak h
 obtain ⟨l3, r3, e3, h3, h⟩ := zak h
 obtain ⟨l4, r4, e4, h4, h⟩ := zak h
 obtain ⟨l5, r5, e5, h5, h⟩ := zak h
 obtain ⟨l6, r6, e6, h6, h⟩ := zak h
 have ez := zi3 h
 obtain ⟨a0, f0⟩ := zdi Tryz.underlying5 h0
 obtain ⟨a1, f1⟩ := zdi Tryz.underlying3 h1
 obtain ⟨a2, f2⟩ := tc22 (n := n + 1) h2
 obtain ⟨a3, f3⟩ := zj9 Tryz.underlying9 h3
 obtain ⟨a4, f4⟩ := zj9 Tryz.underlying9 h4
 obtain ⟨a5, f5⟩ := tc47 (n := n + 0) h5
 obtain ⟨a6, f6⟩ := tc22 (n := n + 1) h6
 refine ⟨⟨a0, a1, a2, a3, a4, a5, a6⟩, ?_⟩
 rw [e0, e1, e2, e3, e4, e5, e6, ez, f0, f1, f2, f3, f4, f5, f6]
 exact rfl
theorem ya2u : Tryz.prog.cellsOf 49 = 7 := by kernel_rfl
theorem tc24 {n : Nat} {l : List D} (h : zg2 Tryz.prog (n + 5) 24 l) : ∃ m : List TAttempt, l = [.imm 7 (m.map TAttempt.d) 4] := by
 obtain ⟨d, hd⟩ := zkf Tryz.underlying24 h
 obtain ⟨m, hm⟩ := zj3 TAttempt.d Tryz.underlying24 ya5f ya2u (fun x hx => by
  obtain ⟨a, ha⟩ := tc49 (n := n) hx
  exact ⟨a, (zn5 ya63).trans (by rw [ha]; rfl)⟩) h
 rw [hd, zm0 ya5f] at hm
 exact ⟨m, by rw [hd, hm]⟩
theorem ya5e : aggT Tryz.prog 25 = false := by kernel_rfl
theorem ya65 : aggT Tryz.prog 43 = true := by kernel_rfl
theorem tc43 {n : Nat} {l : List D} (h : zg2 Tryz.prog (n + 2) 43 l) : ∃ x : TMail, l = [.int .i64 x.From, .int .i64 x.To, .int .u8 x.Kind, .int .i64 x.Group, .int .i64 x.Slot, .int .i64 x.Ballot, .int .i64 x.Prior, .str x.Value, .int .i64 x.Id, .int .i64 x.Time] := by
 replace h := zgh Tryz.underlying43 h
 obtain ⟨l0, r0, e0, h0, h⟩ := zak h
 obtain ⟨l1, r1, e1, h1, h⟩ := zak h
 obtain ⟨l2, r2, e2, h2, h⟩ := zak h
 obtain ⟨l3, r3, e3, h3, h⟩ := zak h
 obtain ⟨l4, r4, e4, h4, h⟩ := zak h
 obtain ⟨l5, r5, e5, h5, h⟩ := zak h
 obtain ⟨l6, r6, e6, h6, h⟩ := zak h
 obtain ⟨l7, r7, e7, h7, h⟩ := zak h
 obtain ⟨l8, r8, e8, h8, h⟩ := zak h
 obtain ⟨l9, r9, e9, h9, h⟩ := zak h
 have ez := zi3 h
 obtain ⟨a0, f0⟩ := zdi Tryz.underlying3 h0
 obtain ⟨a1, f1⟩ := zdi Tryz.underlying3 h1
 obtain ⟨a2, f2⟩ := zdi Tryz.underlying5 h2
 obtain ⟨a3, f3⟩ := zdi Tryz.underlying3 h3
 obtain ⟨a4, f4⟩ := zdi Tryz.underlying3 h4
 obtain ⟨a5, f5⟩ := zdi Tryz.underlying3 h5
 obtain ⟨a6, f6⟩ := zdi Tryz.underlying3 h6
 obtain ⟨a7, f7⟩ := zj9 Tryz.underlying9 h7
 obtain ⟨a8, f8⟩ := zdi Tryz.underlying3 h8
 obtain ⟨a9, f9⟩ := zdi Tryz.underlying3 h9
 refine ⟨⟨a0, a1, a2, a3, a4, a5, a6, a7, a8, a9⟩, ?_⟩
 rw [e0, e1, e2, e3, e4, e5, e6, e7, e8, e9, ez, f0, f1, f2, f3, f4, f5, f6, f7, f8, f9]
 exact rfl
theorem ya2w : Tryz.prog.cellsOf 43 = 10 := by kernel_rfl
theorem tc25 {n : Nat} {l : List D} (h : zg2 Tryz.prog (n + 3) 25 l) : ∃ m : List TMail, l = [.imm 10 (m.map TMail.d) 4] := by
 obtain ⟨d, hd⟩ := zkf Tryz.underlying25 h
 obtain ⟨m, hm⟩ := zj3 TMail.d Tryz.underlying25 ya5e ya2w (fun x hx => by
  obtain ⟨a, ha⟩ := tc43 (n := n) hx
  exact ⟨a, (zn5 ya65).trans (by rw [ha]; rfl)⟩) h
 rw [hd, zm0 ya5e] at hm
 exact ⟨m, by rw [hd, hm]⟩
theorem ya5d : aggT Tryz.prog 26 = false := by kernel_rfl
theorem ya64 : aggT Tryz.prog 45 = true := by kernel_rfl
theorem tc45 {n : Nat} {l : List D} (h : zg2 Tryz.prog (n + 2) 45 l) : ∃ x : TChoice, l = [.int .i64 x.Node, .str x.Value] := by
 replace h := zgh Tryz.underlying45 h
 obtain ⟨l0, r0, e0, h0, h⟩ := zak h
 obtain ⟨l1, r1, e1, h1, h⟩ := zak h
 have ez := zi3 h
 obtain ⟨a0, f0⟩ := zdi Tryz.underlying3 h0
 obtain ⟨a1, f1⟩ := zj9 Tryz.underlying9 h1
 refine ⟨⟨a0, a1⟩, ?_⟩
 rw [e0, e1, ez, f0, f1]
 exact rfl
theorem ya2v : Tryz.prog.cellsOf 45 = 2 := by kernel_rfl
theorem tc26 {n : Nat} {l : List D} (h : zg2 Tryz.prog (n + 3) 26 l) : ∃ m : List TChoice, l = [.imm 2 (m.map TChoice.d) 4] := by
 obtain ⟨d, hd⟩ := zkf Tryz.underlying26 h
 obtain ⟨m, hm⟩ := zj3 TChoice.d Tryz.underlying26 ya5d ya2v (fun x hx => by
  obtain ⟨a, ha⟩ := tc45 (n := n) hx
  exact ⟨a, (zn5 ya64).trans (by rw [ha]; rfl)⟩) h
 rw [hd, zm0 ya5d] at hm
 exact ⟨m, by rw [hd, hm]⟩
theorem tc28 {n : Nat} {l : List D} (h : zg2 Tryz.prog (n + 6) 28 l) : ∃ x : TWorld, l = [.imm 1 (x.Members.map (D.int .i64)) 4, .imm 3 (x.Votes.map TVote.d) 4, .imm 7 (x.Tries.map TAttempt.d) 4, .imm 10 (x.Mail.map TMail.d) 4, .imm 2 (x.Chosen.map TChoice.d) 4] := by
 replace h := zgh Tryz.underlying28 h
 obtain ⟨l0, r0, e0, h0, h⟩ := zak h
 obtain ⟨l1, r1, e1, h1, h⟩ := zak h
 obtain ⟨l2, r2, e2, h2, h⟩ := zak h
 obtain ⟨l3, r3, e3, h3, h⟩ := zak h
 obtain ⟨l4, r4, e4, h4, h⟩ := zak h
 have ez := zi3 h
 obtain ⟨a0, f0⟩ := tc22 (n := n + 3) h0
 obtain ⟨a1, f1⟩ := tc23 (n := n + 2) h1
 obtain ⟨a2, f2⟩ := tc24 (n := n + 0) h2
 obtain ⟨a3, f3⟩ := tc25 (n := n + 2) h3
 obtain ⟨a4, f4⟩ := tc26 (n := n + 2) h4
 refine ⟨⟨a0, a1, a2, a3, a4⟩, ?_⟩
 rw [e0, e1, e2, e3, e4, ez, f0, f1, f2, f3, f4]
 exact rfl
theorem ya66 : aggT Tryz.prog 30 = true := by kernel_rfl
theorem tc30 {n : Nat} {l : List D} (h : zg2 Tryz.prog (n + 2) 30 l) : ∃ x : TMove, l = [.int .u8 x.Kind, .int .i64 x.Node, .int .i64 x.At, .str x.Value] := by
 replace h := zgh Tryz.underlying30 h
 obtain ⟨l0, r0, e0, h0, h⟩ := zak h
 obtain ⟨l1, r1, e1, h1, h⟩ := zak h
 obtain ⟨l2, r2, e2, h2, h⟩ := zak h
 obtain ⟨l3, r3, e3, h3, h⟩ := zak h
 have ez := zi3 h
 obtain ⟨a0, f0⟩ := zdi Tryz.underlying5 h0
 obtain ⟨a1, f1⟩ := zdi Tryz.underlying3 h1
 obtain ⟨a2, f2⟩ := zdi Tryz.underlying3 h2
 obtain ⟨a3, f3⟩ := zj9 Tryz.underlying9 h3
 refine ⟨⟨a0, a1, a2, a3⟩, ?_⟩
 rw [e0, e1, e2, e3, ez, f0, f1, f2, f3]
 exact rfl
theorem ya29 : Tryz.f3.params.toList = [28, 28, 30] := by kernel_rfl
theorem hK (l : List D) (h : zky Tryz.prog 8 Tryz.f3.params.toList l) : zb7 Tryz.prog 3 l (.bool true) := by
 rw [ya29] at h
 obtain ⟨c0, r0, e0, h0, h⟩ := zkx h
 obtain ⟨c1, r1, e1, h1, h⟩ := zkx h
 obtain ⟨c2, r2, e2, h2, h⟩ := zkx h
 have ez := ztc h
 obtain ⟨a0, f0⟩ := tc28 (n := 2) h0
 obtain ⟨a1, f1⟩ := tc28 (n := 2) h1
 obtain ⟨a2, f2⟩ := tc30 (n := 6) h2
 rw [e0, e1, e2, ez, f0, f1, f2, zn5 ya67, zn5 ya66]
 exact ya14 ⟨Tryz.f3, Tryz.func3, by decide, rfl⟩ fun hw => zhx a0 a1 a2 _ (zpf a0 a1 a2 hw)
set_option maxRecDepth 100000 in
theorem lifted (os : Os) (started : os.Started) (H : Type) (enc : TypeId × Value -> H) :
  ReturnsInHanded {} Tryz.checked os 3 .any (Rows.decreeMovesSpec.pre6 enc Tryz.prog Tryz.f3 Rows.decreeMovesRow.domain false) (Rows.decreeMovesSpec.post enc Tryz.prog Tryz.f3 false true false false) := by
 refine returnsInHanded_of_change (C := Tryz.checked) own started (by kernel_rfl) Tryz.func3
  (ChangeSpec.witness6 (enc := enc) (C := Tryz.checked) false ⟨#[], #[.agg #[.slice none 0 0, .slice none 0 0, .slice none 0 0, .slice none 0 0, .slice none 0 0], .agg #[.slice none 0 0, .slice none 0 0, .slice none 0 0, .slice none 0 0, .slice none 0 0], .agg #[.int .u8 0, .int .i64 0, .int .i64 0, .string ⟨#[]⟩]], []⟩ 8 (by kernel_rfl) (by kernel_rfl) (by kernel_rfl) (by kernel_rfl)) ?_
 intro W base args ds gs before hval hW _ _
 exact zu0 (K := 3) (n := 8) (tb := 4) (by kernel_rfl) (by kernel_rfl) (by kernel_rfl) rfl rfl Tryz.underlying4 (fun ds h => by
  match ds, h with
  | [_, _, _], _ => rfl) hK hval hW
end Go.Proofs.YtdoegejmepcmpaaGreat.decreeMoves
