/- What the law's contract gives for its row. -/
import Derived.Test.YtnhnalcgbpebiaaRows
import Derived.WalkKit
import Derived.ProofKit
import Derived.OpenShut
import Derived.Test.YtnhnalcgbpebiaaSkeenRisesPk
import Derived.Test.YtnhnalcgbpebiaaSkeenRisesPl
namespace Go.Proofs.Ytnhnalcgbpebiaa.skeenRises
open Go.ChangeShapes Go.WideShapes Go.RowKit Go.Tm
set_option maxRecDepth 100000
theorem own : ownKnob Try.prog.godebug = none := by kernel_rfl

theorem agg83 : aggT Try.prog 83 = true := by kernel_rfl
def sz3 (_ : Int) : Prop := True
theorem agg80 : aggT Try.prog 80 = false := by kernel_rfl
theorem agg90 : aggT Try.prog 90 = true := by kernel_rfl
theorem agg22 : aggT Try.prog 22 = false := by kernel_rfl
theorem agg3 : aggT Try.prog 3 = false := by kernel_rfl
theorem cells3 : Try.prog.cellsOf 3 = 1 := by kernel_rfl
theorem bytes3 : Try.prog.bytesOf 3 = 8 := by kernel_rfl
def sz22 (m : List Int) : Prop := m.length * 8 ≤ 140737488355328 ∧ ∀ y ∈ m, sz3 y
theorem tc22 {n : Nat} {l : List D} (h : typedS Try.prog (n + 2) 22 l) : ∃ m : List Int, l = [.imm 1 (m.map (D.int .i64)) 4] ∧ sz22 m := by
  obtain ⟨d, hd⟩ := typedS_one Try.underlying22 h
  obtain ⟨m, hm, hs⟩ := typedS_list (D.int .i64) sz3 Try.underlying22 agg22 cells3 bytes3 (fun x hx => by
    obtain ⟨a, ha⟩ := typedS_int Try.underlying3 hx
    have hsa : sz3 a := trivial
    exact ⟨a, ha ▸ mkD_one agg3, hsa⟩) h
  rw [hd, mkD_one agg22] at hm
  exact ⟨m, by rw [hd, hm], hs⟩
def sz9 (_ : List UInt8) : Prop := True
def sz88 (x : TMessage) : Prop := sz3 x.Id ∧ sz22 x.Groups ∧ sz3 x.Topic ∧ sz9 x.Key ∧ sz9 x.Body
theorem tc88 {n : Nat} {l : List D} (h : typedS Try.prog (n + 3) 88 l) : ∃ x : TMessage, l = [.int .i64 x.Id, .imm 1 (x.Groups.map (D.int .i64)) 4, .int .i64 x.Topic, .str x.Key, .str x.Body] ∧ sz88 x := by
  replace h := typedS_struct Try.underlying88 h
  obtain ⟨l0, r0, e0, h0, h⟩ := typedL_cons h
  obtain ⟨l1, r1, e1, h1, h⟩ := typedL_cons h
  obtain ⟨l2, r2, e2, h2, h⟩ := typedL_cons h
  obtain ⟨l3, r3, e3, h3, h⟩ := typedL_cons h
  obtain ⟨l4, r4, e4, h4, h⟩ := typedL_cons h
  have ez := typedL_nil h
  obtain ⟨a0, f0⟩ := typedS_int Try.underlying3 h0
  have s0 : sz3 a0 := trivial
  obtain ⟨a1, f1, s1⟩ := tc22 (n := n + 0) h1
  obtain ⟨a2, f2⟩ := typedS_int Try.underlying3 h2
  have s2 : sz3 a2 := trivial
  obtain ⟨a3, f3⟩ := typedS_str Try.underlying9 h3
  have s3 : sz9 a3 := trivial
  obtain ⟨a4, f4⟩ := typedS_str Try.underlying9 h4
  have s4 : sz9 a4 := trivial
  refine ⟨⟨a0, a1, a2, a3, a4⟩, ?_, s0, s1, s2, s3, s4⟩
  rw [e0, e1, e2, e3, e4, ez, f0, f1, f2, f3, f4]
  exact rfl
def sz4 (_ : Bool) : Prop := True
def sz90 (x : TWait) : Prop := sz88 x.Message ∧ sz3 x.Time ∧ sz4 x.Final
theorem tc90 {n : Nat} {l : List D} (h : typedS Try.prog (n + 4) 90 l) : ∃ x : TWait, l = [.int .i64 x.Message.Id, .imm 1 (x.Message.Groups.map (D.int .i64)) 4, .int .i64 x.Message.Topic, .str x.Message.Key, .str x.Message.Body, .int .i64 x.Time, .bool x.Final] ∧ sz90 x := by
  replace h := typedS_struct Try.underlying90 h
  obtain ⟨l0, r0, e0, h0, h⟩ := typedL_cons h
  obtain ⟨l1, r1, e1, h1, h⟩ := typedL_cons h
  obtain ⟨l2, r2, e2, h2, h⟩ := typedL_cons h
  have ez := typedL_nil h
  obtain ⟨a0, f0, s0⟩ := tc88 (n := n + 0) h0
  obtain ⟨a1, f1⟩ := typedS_int Try.underlying3 h1
  have s1 : sz3 a1 := trivial
  obtain ⟨a2, f2⟩ := typedS_bool Try.underlying4 h2
  have s2 : sz4 a2 := trivial
  refine ⟨⟨a0, a1, a2⟩, ?_, s0, s1, s2⟩
  rw [e0, e1, e2, ez, f0, f1, f2]
  exact rfl
theorem cells90 : Try.prog.cellsOf 90 = 7 := by kernel_rfl
theorem bytes90 : Try.prog.bytesOf 90 = 88 := by kernel_rfl
def sz80 (m : List TWait) : Prop := m.length * 88 ≤ 140737488355328 ∧ ∀ y ∈ m, sz90 y
theorem tc80 {n : Nat} {l : List D} (h : typedS Try.prog (n + 5) 80 l) : ∃ m : List TWait, l = [.imm 7 (m.map TWait.d) 4] ∧ sz80 m := by
  obtain ⟨d, hd⟩ := typedS_one Try.underlying80 h
  obtain ⟨m, hm, hs⟩ := typedS_list TWait.d sz90 Try.underlying80 agg80 cells90 bytes90 (fun x hx => by
    obtain ⟨a, ha, hsa⟩ := tc90 (n := n) hx
    exact ⟨a, (mkD_agg agg90).trans (by rw [ha]; rfl), hsa⟩) h
  rw [hd, mkD_one agg80] at hm
  exact ⟨m, by rw [hd, hm], hs⟩
theorem agg81 : aggT Try.prog 81 = false := by kernel_rfl
theorem agg103 : aggT Try.prog 103 = true := by kernel_rfl
def sz103 (x : TStamp) : Prop := sz3 x.Time ∧ sz3 x.Id
theorem tc103 {n : Nat} {l : List D} (h : typedS Try.prog (n + 2) 103 l) : ∃ x : TStamp, l = [.int .i64 x.Time, .int .i64 x.Id] ∧ sz103 x := by
  replace h := typedS_struct Try.underlying103 h
  obtain ⟨l0, r0, e0, h0, h⟩ := typedL_cons h
  obtain ⟨l1, r1, e1, h1, h⟩ := typedL_cons h
  have ez := typedL_nil h
  obtain ⟨a0, f0⟩ := typedS_int Try.underlying3 h0
  have s0 : sz3 a0 := trivial
  obtain ⟨a1, f1⟩ := typedS_int Try.underlying3 h1
  have s1 : sz3 a1 := trivial
  refine ⟨⟨a0, a1⟩, ?_, s0, s1⟩
  rw [e0, e1, ez, f0, f1]
  exact rfl
theorem cells103 : Try.prog.cellsOf 103 = 2 := by kernel_rfl
theorem bytes103 : Try.prog.bytesOf 103 = 16 := by kernel_rfl
def sz81 (m : List TStamp) : Prop := m.length * 16 ≤ 140737488355328 ∧ ∀ y ∈ m, sz103 y
theorem tc81 {n : Nat} {l : List D} (h : typedS Try.prog (n + 3) 81 l) : ∃ m : List TStamp, l = [.imm 2 (m.map TStamp.d) 4] ∧ sz81 m := by
  obtain ⟨d, hd⟩ := typedS_one Try.underlying81 h
  obtain ⟨m, hm, hs⟩ := typedS_list TStamp.d sz103 Try.underlying81 agg81 cells103 bytes103 (fun x hx => by
    obtain ⟨a, ha, hsa⟩ := tc103 (n := n) hx
    exact ⟨a, (mkD_agg agg103).trans (by rw [ha]; rfl), hsa⟩) h
  rw [hd, mkD_one agg81] at hm
  exact ⟨m, by rw [hd, hm], hs⟩
def sz83 (x : TSkeen) : Prop := sz3 x.Clock ∧ sz80 x.Waits ∧ sz81 x.Done
theorem tc83 {n : Nat} {l : List D} (h : typedS Try.prog (n + 6) 83 l) : ∃ x : TSkeen, l = [.int .i64 x.Clock, .imm 7 (x.Waits.map TWait.d) 4, .imm 2 (x.Done.map TStamp.d) 4] ∧ sz83 x := by
  replace h := typedS_struct Try.underlying83 h
  obtain ⟨l0, r0, e0, h0, h⟩ := typedL_cons h
  obtain ⟨l1, r1, e1, h1, h⟩ := typedL_cons h
  obtain ⟨l2, r2, e2, h2, h⟩ := typedL_cons h
  have ez := typedL_nil h
  obtain ⟨a0, f0⟩ := typedS_int Try.underlying3 h0
  have s0 : sz3 a0 := trivial
  obtain ⟨a1, f1, s1⟩ := tc80 (n := n + 0) h1
  obtain ⟨a2, f2, s2⟩ := tc81 (n := n + 2) h2
  refine ⟨⟨a0, a1, a2⟩, ?_, s0, s1, s2⟩
  rw [e0, e1, e2, ez, f0, f1, f2]
  exact rfl
theorem agg98 : aggT Try.prog 98 = false := by kernel_rfl
theorem agg95 : aggT Try.prog 95 = true := by kernel_rfl
def sz5 (_ : Int) : Prop := True
def sz95 (x : TCommand) : Prop := sz5 x.Kind ∧ sz88 x.Message ∧ sz3 x.Id ∧ sz3 x.Time ∧ sz22 x.Members ∧ sz3 x.Topic ∧ sz3 x.Who ∧ sz3 x.N
theorem tc95 {n : Nat} {l : List D} (h : typedS Try.prog (n + 4) 95 l) : ∃ x : TCommand, l = [.int .u8 x.Kind, .int .i64 x.Message.Id, .imm 1 (x.Message.Groups.map (D.int .i64)) 4, .int .i64 x.Message.Topic, .str x.Message.Key, .str x.Message.Body, .int .i64 x.Id, .int .i64 x.Time, .imm 1 (x.Members.map (D.int .i64)) 4, .int .i64 x.Topic, .int .i64 x.Who, .int .i64 x.N] ∧ sz95 x := by
  replace h := typedS_struct Try.underlying95 h
  obtain ⟨l0, r0, e0, h0, h⟩ := typedL_cons h
  obtain ⟨l1, r1, e1, h1, h⟩ := typedL_cons h
  obtain ⟨l2, r2, e2, h2, h⟩ := typedL_cons h
  obtain ⟨l3, r3, e3, h3, h⟩ := typedL_cons h
  obtain ⟨l4, r4, e4, h4, h⟩ := typedL_cons h
  obtain ⟨l5, r5, e5, h5, h⟩ := typedL_cons h
  obtain ⟨l6, r6, e6, h6, h⟩ := typedL_cons h
  obtain ⟨l7, r7, e7, h7, h⟩ := typedL_cons h
  have ez := typedL_nil h
  obtain ⟨a0, f0⟩ := typedS_int Try.underlying5 h0
  have s0 : sz5 a0 := trivial
  obtain ⟨a1, f1, s1⟩ := tc88 (n := n + 0) h1
  obtain ⟨a2, f2⟩ := typedS_int Try.underlying3 h2
  have s2 : sz3 a2 := trivial
  obtain ⟨a3, f3⟩ := typedS_int Try.underlying3 h3
  have s3 : sz3 a3 := trivial
  obtain ⟨a4, f4, s4⟩ := tc22 (n := n + 1) h4
  obtain ⟨a5, f5⟩ := typedS_int Try.underlying3 h5
  have s5 : sz3 a5 := trivial
  obtain ⟨a6, f6⟩ := typedS_int Try.underlying3 h6
  have s6 : sz3 a6 := trivial
  obtain ⟨a7, f7⟩ := typedS_int Try.underlying3 h7
  have s7 : sz3 a7 := trivial
  refine ⟨⟨a0, a1, a2, a3, a4, a5, a6, a7⟩, ?_, s0, s1, s2, s3, s4, s5, s6, s7⟩
  rw [e0, e1, e2, e3, e4, e5, e6, e7, ez, f0, f1, f2, f3, f4, f5, f6, f7]
  exact rfl
theorem cells95 : Try.prog.cellsOf 95 = 12 := by kernel_rfl
theorem bytes95 : Try.prog.bytesOf 95 = 144 := by kernel_rfl
def sz98 (m : List TCommand) : Prop := m.length * 144 ≤ 140737488355328 ∧ ∀ y ∈ m, sz95 y
theorem tc98 {n : Nat} {l : List D} (h : typedS Try.prog (n + 5) 98 l) : ∃ m : List TCommand, l = [.imm 12 (m.map TCommand.d) 4] ∧ sz98 m := by
  obtain ⟨d, hd⟩ := typedS_one Try.underlying98 h
  obtain ⟨m, hm, hs⟩ := typedS_list TCommand.d sz95 Try.underlying98 agg98 cells95 bytes95 (fun x hx => by
    obtain ⟨a, ha, hsa⟩ := tc95 (n := n) hx
    exact ⟨a, (mkD_agg agg95).trans (by rw [ha]; rfl), hsa⟩) h
  rw [hd, mkD_one agg98] at hm
  exact ⟨m, by rw [hd, hm], hs⟩
theorem params10 : Try.f10.params.toList = [83, 3, 98] := by kernel_rfl
theorem hK (l : List D) (h : typedAllS Try.prog 8 Try.f10.params.toList l) : CallP Try.prog 10 l (.bool true) := by
  rw [params10] at h
  obtain ⟨c0, r0, e0, h0, h⟩ := typedAllS_cons h
  obtain ⟨c1, r1, e1, h1, h⟩ := typedAllS_cons h
  obtain ⟨c2, r2, e2, h2, h⟩ := typedAllS_cons h
  have ez := typedAllS_nil h
  obtain ⟨a0, f0, s0⟩ := tc83 (n := 2) h0
  obtain ⟨a1, f1⟩ := typedS_int Try.underlying3 h1
  have s1 : sz3 a1 := trivial
  obtain ⟨a2, f2, s2⟩ := tc98 (n := 3) h2
  rw [e0, e1, e2, ez, f0, f1, f2, mkD_agg agg83, mkD_one agg3, mkD_one agg98]
  exact callP_towncrierlaw15_SkeenRises a0 a1 a2 _ (skrises_law a0 a1 a2 (fun w hw => (s0.2.1.2 w hw).1.2.1.1))

set_option maxRecDepth 100000 in
theorem lifted (os : Os) (started : os.Started) (H : Type) (enc : TypeId × Value → H) :
    ReturnsInHanded {} Try.checked os 10 .any (Rows.skeenRisesSpec.pre6 enc Try.prog Try.f10 Rows.skeenRisesRow.domain false) (Rows.skeenRisesSpec.post enc Try.prog Try.f10 false true false false) := by
  refine returnsInHanded_of_change_sized (C := Try.checked) own started (by kernel_rfl) Try.func10
    (ChangeSpec.witness6 (enc := enc) (C := Try.checked) false ⟨#[], #[.agg #[.int .i64 0, .slice none 0 0, .slice none 0 0], .int .i64 0, .slice none 0 0], []⟩ 8 (by kernel_rfl) (by kernel_rfl) (by kernel_rfl) (by kernel_rfl)) ?_
  intro W base args ds gs before hval hW _ hsz _
  exact law_contractS (K := 10) (n := 8) (tb := 4) (by kernel_rfl) (by kernel_rfl) (by kernel_rfl) rfl rfl Try.underlying4 (fun ds h => by
    match ds, h with
    | [_, _, _], _ => rfl) hK hval hW hsz
end Go.Proofs.Ytnhnalcgbpebiaa.skeenRises
