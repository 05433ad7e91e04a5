/- Texts of the proof. -/
import Derived.Test.YtbbinddkhlmlcaaGreatDecreeRunsPg
import Derived.Test.YtbbinddkhlmlcaaGreatDecreeRunsPh
section
namespace Go.Proofs
open Go.Tm Go.RowKit Go.WideShapes
set_option maxRecDepth 100000
set_option maxHeartbeats 4000000
set_option linter.unusedSimpArgs false
set_option linter.unusedVariables false
@[go_sem] def Tryz.St_quorum_set_1 (n1 : Int) : St := ⟨[(2, .int .u64 n1)], [], 0⟩
@[go_sem] def Tryz.St_quorum_set_3 (a0 : List Int) (n3 : Nat) (n2 : Int) : St := ⟨[(2, .int .u64 n2), (5, .imm 1 (a0.map (D.int .i64)) 4), (6, .int .i64 (a0.length : Int)), (7, .int .i64 (n3 : Int))], [], 0⟩
@[go_sem] def Tryz.St_quorum_set_5 (a0 : List Int) (n3 : Nat) (n4 : Int) : St := ⟨[(2, .int .u64 n4), (5, .imm 1 (a0.map (D.int .i64)) 4), (6, .int .i64 (a0.length : Int)), (7, .int .i64 (n3 : Int))], [], 0⟩
theorem callP_quorum_set (a0 : List Int) (r : Int) (h : m_quorum_set a0 = some r) : CallP Tryz.prog 104 [.imm 1 (a0.map (D.int .i64)) 4] (.int .u64 r) := by
 refine za5 Tryz.tmOk 2 Tryz.func104 rfl (by decide) rfl rfl (lb rfl) ?_
 intro hwf
 unfold m_quorum_set at h
 refine .seq (.pl zS [0] ?_)
 obtain ⟨x1, hx1, h⟩ := bind_some h
 refine .seqM 0 (fun (j : Int) => Tryz.St_quorum_set_1 j) (fun j => x1 = j) (lb rfl) ?_ ?_
 ·refine .seq (.pl zS [0, 2] ?_)
  refine .block ?_
  refine .loopG 0 (fun (j : Nat × Int) => Tryz.St_quorum_set_3 a0 j.1 j.2) (fun j => j.1 <= a0.length /\ zc0 (a0.drop j.1) j.2 = some x1) (fun j => a0.length - j.1) (0, 0) (lb rfl) ?_ ⟨Nat.zero_le _, hx1⟩ ?_
  ·exact .m [2, 5, 6, 7] [] []
  rintro ⟨n3, n2⟩ ⟨hi1, hx1⟩
  simp only [Tryz.St_quorum_set_3]
  simp only at hi1 hx1
  refine .wf 6 (.int .i64 (a0.length : Int)) rfl ?_
  intro hln3
  replace hln3 : (a0.length : Int) <= 9223372036854775807 := by simp only [wf, wfL, IntKind.max, IntKind.min, IntKind.signed, IntKind.bits, List.length_map] at hln3; first | exact hln3.2 | exact hln3.1 | (simp at hln3; omega)
  refine .seq (.pl zS [2, 5, 6, 7] ?_)
  refine .seq ?_
  refine .cond rfl rfl (fun hc1 => ?_) (fun hc1 => ?_)
  ·have h1 : n3 < a0.length := by simpa using hc1
   have hwn3 : wr .i64 ((n3 : Int) + 1) = ((n3 + 1 : Nat) : Int) := zbr h1 hln3
   have hpn3 : wr .i64 ((n3 : Int) - 1) = (n3 : Int) - 1 := zbs h1 hln3
   rw [List.drop_eq_getElem_cons h1, zc0] at hx1
   refine .skip ?_
   obtain ⟨x2, hx2, hx1⟩ := bind_some hx1
   refine .seqM 0 (fun (j : Int) => Tryz.St_quorum_set_5 a0 n3 j) (fun j => x2 = j) (lb rfl) ?_ ?_
   ·refine .block ?_
    refine .seq ?_
    have e1 := zb6 (D.int .i64) a0 n3 h1
    refine .plx zS (And.intro e1 hwn3) [2, 5, 6, 7] ?_
    refine .seq (.plx zS hwn3 [2, 4, 5, 6, 7] ?_)
    refine .cond rfl rfl (fun hc2 => ?_) (fun hc2 => ?_)
    ·replace hx2 := za0 hx2 hc2
     obtain ⟨k1, hx2⟩ := zaa hx2
     refine .plx zS hwn3 [2, 4, 5, 6, 7] ?_
     refine ⟨_, ?_, (sj hx2).symm⟩
     exact .m [2, 5, 6, 7] [] []
    replace hx2 := za3 hx2 hc2
    refine .skip ?_
    refine ⟨_, ?_, (sj hx2).symm⟩
    exact .m [2, 5, 6, 7] [] []
   rintro n4 hj1
   subst x2
   try dsimp only at hx1
   simp only [Tryz.St_quorum_set_5]
   refine .plx zS hwn3 [2, 5, 6, 7] ?_
   refine ⟨(n3 + 1, _), ?_, ⟨by omega, hx1⟩, by dsimp only; omega⟩
   exact .m [2, 5, 6, 7] [] []
  have h2 : n3 = a0.length := by have h2b := of_decide_eq_false hc1; omega
  rw [List.drop_of_length_le (by omega), zc0] at hx1
  refine .exit ?_
  refine ⟨_, ?_, (sj hx1).symm⟩
  exact .m [2] [] []
 rintro n1 hj2
 subst x1
 try dsimp only at h
 simp only [Tryz.St_quorum_set_1]
 refine .seq (.pl zS [2] ?_)
 have hq := sj h
 subst r
 exact .ret ⟨.inr rfl, rsi⟩
theorem callP_quorum_Most (a0 : List Int) (a1 : List Int) (r : Bool × Int) (h : m_quorum_Most a0 a1 = some r) : CallP Tryz.prog 94 [.imm 1 (a0.map (D.int .i64)) 4, .imm 1 (a1.map (D.int .i64)) 4] (.tuple [.bool r.1, .int .i64 r.2]) := by
 refine za5 Tryz.tmOk 2 Tryz.func94 rfl (by decide) rfl rfl (lb rfl) ?_
 intro hwf
 unfold m_quorum_Most at h
 refine .seq (.pl zS [0, 1] ?_)
 refine .seq ?_
 obtain ⟨v1, hv1, h⟩ := bind_some h
 refine .rg zS [0, 1] ?_
 refine .rn 1 ?_
 refine .call (r := .tuple [.int .i64 v1.1, .int .i64 v1.2]) rfl rfl rfl rfl rfl rfl (callP_quorum_Need a0 v1 hv1) ?_
 refine .rn 5 ?_
 refine .nil ⟨nofun, ?_⟩
 refine .seq (.seq ?_)
 refine .pl zS [0, 1, 6, 7] ?_
 refine .cond rfl rfl (fun hc1 => ?_) (fun hc1 => ?_)
 ·replace h := za0 h hc1
  refine .seq (.pl zS [7] ?_)
  have hq := sj h
  subst r
  exact .ret ⟨.inr rfl, rsi⟩
 replace h := za3 h hc1
 refine .skip ?_
 refine .seq (.seq ?_)
 refine .pl zS [0, 1, 6] ?_
 refine .cond rfl rfl (fun hc2 => ?_) (fun hc2 => ?_)
 ·replace h := za0 h hc2
  refine .seq (.pl zS [] ?_)
  have hq := sj h
  subst r
  exact .ret ⟨.inr rfl, rsi⟩
 replace h := za3 h hc2
 refine .skip ?_
 refine .seq ?_
 obtain ⟨v2, hv2, h⟩ := bind_some h
 obtain ⟨v3, hv3, h⟩ := bind_some h
 obtain ⟨v4, hv4, h⟩ := bind_some h
 refine .rg zS [0, 1, 6] ?_
 refine .rn 1 ?_
 refine .call (r := .int .u64 v2) rfl rfl rfl rfl rfl rfl (callP_quorum_set a0 v2 hv2) ?_
 refine .rn 1 ?_
 refine .call (r := .int .u64 v3) rfl rfl rfl rfl rfl rfl (callP_quorum_set a1 v3 hv3) ?_
 refine .rn 1 ?_
 refine .call (r := .int .i64 v4) rfl rfl rfl rfl rfl rfl (callP_math_bits_OnesCount (bitw .and .u64 v2 v3) v4 hv4) ?_
 refine .rn 4 ?_
 refine .nil ⟨nofun, ?_⟩
 have hq := sj h
 subst r
 exact .ret ⟨.inr rfl, rsi⟩
theorem callP_attempt_most (a0 : List Int) (a1 : List Int) (r : Bool) (h : zbq a0 a1 = some r) : CallP Tryz.prog 75 [.imm 1 (a0.map (D.int .i64)) 4, .imm 1 (a1.map (D.int .i64)) 4] (.bool r) := by
 refine za5 Tryz.tmOk 2 Tryz.func75 rfl (by decide) rfl rfl (lb rfl) ?_
 intro hwf
 unfold zbq at h
 refine .seq (.pl zS [0, 1] ?_)
 refine .seq ?_
 obtain ⟨v1, hv1, h⟩ := bind_some h
 refine .rg zS [0, 1] ?_
 refine .rn 2 ?_
 refine .call (r := .tuple [.bool v1.1, .int .i64 v1.2]) rfl rfl rfl rfl rfl rfl (callP_quorum_Most a0 a1 v1 hv1) ?_
 refine .rn 5 ?_
 refine .nil ⟨nofun, ?_⟩
 refine .seq (.pl zS [5] ?_)
 have hq := sj h
 subst r
 exact .ret ⟨.inr rfl, rsi⟩
theorem callP_attempt_Same (a0 : TAttempt) (a1 : TAttempt) (r : Bool) (h : m_attempt_Same a0 a1 = some r) : CallP Tryz.prog 49 [.agg [.int .u8 a0.Phase, .int .i64 a0.Ballot, .imm 1 (a0.Members.map (D.int .i64)) 4, .str a0.Wish, .str a0.Value, .imm 3 (a0.Promises.map TPromise.d) 4, .imm 1 (a0.Accepted.map (D.int .i64)) 4], .agg [.int .u8 a1.Phase, .int .i64 a1.Ballot, .imm 1 (a1.Members.map (D.int .i64)) 4, .str a1.Wish, .str a1.Value, .imm 3 (a1.Promises.map TPromise.d) 4, .imm 1 (a1.Accepted.map (D.int .i64)) 4]] (.bool r) := by
 refine za5 Tryz.tmOk 4 Tryz.func49 rfl (by decide) rfl rfl (lb rfl) ?_
 intro hwf
 unfold m_attempt_Same at h
 refine .seq (.pl zS [0, 1] ?_)
 refine .seq ?_
 obtain ⟨v1, hv1, h⟩ := bind_some h
 obtain ⟨v2, hv2, h⟩ := bind_some h
 obtain ⟨v3, hv3, h⟩ := bind_some h
 refine .rg zS [2, 3] ?_
 refine .rn 6 ?_
 refine .rn 6 ?_
 refine .rn 5 ?_
 refine .gcall (r := .bool v1) rfl rfl rfl rfl rfl (fun hg => ⟨[], [.imm 1 (a0.Members.map (D.int .i64)) 4, .imm 1 (a1.Members.map (D.int .i64)) 4], _, rfl, gd hg, rfl, (callP_slices_Equal_int_int a0.Members a1.Members v1 (za0 hv1 hg))⟩) ?_
 refine .rn 6 ?_
 refine .rn 6 ?_
 refine .rn 8 ?_
 refine .gcall (r := .bool v2) rfl rfl rfl rfl rfl (fun hg => ⟨[], [.imm 3 (a0.Promises.map TPromise.d) 4, .imm 3 (a1.Promises.map TPromise.d) 4], _, rfl, gd hg, rfl, (callP_slices_Equal_Promise_Promise a0.Promises a1.Promises v2 (za0 hv2 hg))⟩) ?_
 refine .rn 6 ?_
 refine .gcall (r := .bool v3) rfl rfl rfl rfl rfl (fun hg => ⟨[], [.imm 1 (a0.Accepted.map (D.int .i64)) 4, .imm 1 (a1.Accepted.map (D.int .i64)) 4], _, rfl, gd hg, rfl, (callP_slices_Equal_int_int a0.Accepted a1.Accepted v3 (za0 hv3 hg))⟩) ?_
 refine .rn 2 ?_
 refine .nil ⟨nofun, ?_⟩
 have hq := sj h
 subst r
 exact .ret ⟨.inr rfl, rsi⟩
@[go_sem] def Tryz.St_r08_Same_1 : St := ⟨[], [], 2⟩
@[go_sem] def Tryz.St_r08_Same_3 (a0 : TAttempt) (a1 : TAttempt) (n1 : Nat) : St := ⟨[(2, .ptr 0 0), (3, .ptr 1 0), (5, .int .i64 (n1 : Int))], [(0, .box [.int .u8 a0.Phase, .int .i64 a0.Ballot, .imm 1 (a0.Members.map (D.int .i64)) 4, .str a0.Wish, .str a0.Value, .imm 3 (a0.Promises.map TPromise.d) 4, .imm 1 (a0.Accepted.map (D.int .i64)) 4]), (1, .box [.int .u8 a1.Phase, .int .i64 a1.Ballot, .imm 1 (a1.Members.map (D.int .i64)) 4, .str a1.Wish, .str a1.Value, .imm 3 (a1.Promises.map TPromise.d) 4, .imm 1 (a1.Accepted.map (D.int .i64)) 4])], 2⟩
theorem callP_r08_Same (a0 : TAttempt) (a1 : TAttempt) (r : Bool) (h : m_r08_Same a0 a1 = some r) : CallP Tryz.prog 36 [.agg [.int .u8 a0.Phase, .int .i64 a0.Ballot, .imm 1 (a0.Members.map (D.int .i64)) 4, .str a0.Wish, .str a0.Value, .imm 3 (a0.Promises.map TPromise.d) 4, .imm 1 (a0.Accepted.map (D.int .i64)) 4], .agg [.int .u8 a1.Phase, .int .i64 a1.Ballot, .imm 1 (a1.Members.map (D.int .i64)) 4, .str a1.Wish, .str a1.Value, .imm 3 (a1.Promises.map TPromise.d) 4, .imm 1 (a1.Accepted.map (D.int .i64)) 4]] (.bool r) := by
 refine za5 Tryz.tmOk 4 Tryz.func36 rfl (by decide) rfl rfl (lb rfl) ?_
 intro hwf
 unfold m_r08_Same at h
 refine .seq (.pl zS [0, 1] ?_)
 refine .seq (.seq ?_)
 obtain ⟨v1, hv1, h⟩ := bind_some h
 obtain ⟨v2, hv2, h⟩ := bind_some h
 refine .rg zS [2, 3] ?_
 refine .rn 6 ?_
 refine .rn 6 ?_
 refine .rn 5 ?_
 refine .gcall (r := .bool v1) rfl rfl rfl rfl rfl (fun hg => ⟨[], [.imm 1 (a0.Members.map (D.int .i64)) 4, .imm 1 (a1.Members.map (D.int .i64)) 4], _, rfl, gd hg, rfl, (callP_r01_SameInts a0.Members a1.Members v1 (za0 hv1 hg))⟩) ?_
 refine .rn 6 ?_
 refine .rn 6 ?_
 refine .rn 6 ?_
 refine .rn 6 ?_
 refine .rn 6 ?_
 refine .gcall (r := .bool v2) rfl rfl rfl rfl rfl (fun hg => ⟨[], [.imm 1 (a0.Accepted.map (D.int .i64)) 4, .imm 1 (a1.Accepted.map (D.int .i64)) 4], _, rfl, gd hg, rfl, (callP_r01_SameInts a0.Accepted a1.Accepted v2 (za0 hv2 hg))⟩) ?_
 refine .rn 2 ?_
 refine .nil ⟨nofun, ?_⟩
 refine .cond rfl rfl (fun hc1 => ?_) (fun hc1 => ?_)
 ·replace h := za0 h hc1
  refine .seq (.pl zS [] ?_)
  have hq := sj h
  subst r
  exact .ret ⟨.inr rfl, rsi⟩
 replace h := za3 h hc1
 refine .skip ?_
 obtain ⟨x1, hx1, h⟩ := bind_some h
 refine .seqM 2 (fun (j : Unit) => Tryz.St_r08_Same_1) (fun j => x1 = (.inr j)) (lb rfl) ?_ ?_
 ·refine .seq (.pl zS [2, 3] ?_)
  refine .block ?_
  refine .loopG 2 (fun (j : Nat) => Tryz.St_r08_Same_3 a0 a1 j) (fun j => j <= a0.Promises.length /\ m_r08_Same_loop1 a1 (a0.Promises.drop j) j  = some x1) (fun j => a0.Promises.length - j) (0) (lb rfl) ?_ ⟨Nat.zero_le _, hx1⟩ ?_
  ·exact .m [2, 3, 5] [0, 1] []
  rintro n1 ⟨hi1, hx1⟩
  simp only [Tryz.St_r08_Same_3]
  refine .wfb 0 [.int .u8 a0.Phase, .int .i64 a0.Ballot, .imm 1 (a0.Members.map (D.int .i64)) 4, .str a0.Wish, .str a0.Value, .imm 3 (a0.Promises.map TPromise.d) 4, .imm 1 (a0.Accepted.map (D.int .i64)) 4] rfl ?_
  intro hln1
  replace hln1 : (a0.Promises.length : Int) <= 9223372036854775807 := by simp only [wf, wfL, IntKind.max, IntKind.min, IntKind.signed, IntKind.bits, List.length_map] at hln1; first | exact hln1.2 | exact hln1.1 | (simp at hln1; omega)
  refine .seq (.seq ?_)
  refine .pl zS [2, 3, 5] ?_
  refine .cond rfl rfl (fun hc2 => ?_) (fun hc2 => ?_)
  ·have h1 : n1 < a0.Promises.length := by simpa using hc2
   have hwn1 : wr .i64 ((n1 : Int) + 1) = ((n1 + 1 : Nat) : Int) := zbr h1 hln1
   have hpn1 : wr .i64 ((n1 : Int) - 1) = (n1 : Int) - 1 := zbs h1 hln1
   rw [List.drop_eq_getElem_cons h1, m_r08_Same_loop1] at hx1
   refine .skip ?_
   refine .seq (.block ?_)
   refine .seq ?_
   obtain ⟨k1, hx1⟩ := zaa hx1
   have e1 := zb6 TPromise.d a0.Promises n1 h1
   have e2 := nth_mapD TPromise.d a1.Promises n1
   replace e2 := e2 k1
   refine .rg zS [2, 3, 5] ?_
   refine .rdx 6 (And.intro e1 (And.intro e2 hwn1)) ?_
   refine .rdx 5 (And.intro e1 (And.intro e2 hwn1)) ?_
   refine .nd ?_
   refine .cond rfl rfl (fun hc3 => ?_) (fun hc3 => ?_)
   ·replace hx1 := za0 hx1 hc3
    refine .seq (.plx zS hwn1 [] ?_)
    have hq := sj hx1
    subst x1
    try dsimp only at h
    have hq := sj h
    subst r
    exact .ret ⟨.inr rfl, rsi⟩
   replace hx1 := za3 hx1 hc3
   refine .skip ?_
   refine .plx zS hwn1 [2, 3, 5] ?_
   refine ⟨n1 + 1, ?_, ⟨by omega, hx1⟩, by dsimp only; omega⟩
   exact .m [2, 3, 5] [0, 1] []
  have h2 : n1 = a0.Promises.length := by have h2b := of_decide_eq_false hc2; omega
  rw [List.drop_of_length_le (by omega), m_r08_Same_loop1] at hx1
  refine .exit ?_
  refine ⟨_, ?_, (sj hx1).symm⟩
  exact .m [] [] []
 rintro ⟨⟩ hj1
 subst x1
 try dsimp only at h
 simp only [Tryz.St_r08_Same_1]
 refine .seq (.pl zS [] ?_)
 have hq := sj h
 subst r
 exact .ret ⟨.inr rfl, rsi⟩
@[go_sem] def Tryz.Re_r08_Twin (r : TAttempt) : St := ⟨[(2, .ptr 3 0)], [(0, .arr 3 1 true (r.Members.map (D.int .i64))), (1, .arr 91 3 true (r.Promises.map TPromise.d)), (2, .arr 3 1 true (r.Accepted.map (D.int .i64))), (3, .box [.int .u8 r.Phase, .int .i64 r.Ballot, .ref 0 1 0 r.Members.length (some uC), .str r.Wish, .str r.Value, .ref 1 3 0 r.Promises.length (some uC), .ref 2 1 0 r.Accepted.length (some uC)])], 4⟩
theorem callH_r08_Twin (a0 : TAttempt) (r : TAttempt) (h : m_r08_Twin a0 = some r) : CallH Tryz.prog 22 [.agg [.int .u8 a0.Phase, .int .i64 a0.Ballot, .imm 1 (a0.Members.map (D.int .i64)) 4, .str a0.Wish, .str a0.Value, .imm 3 (a0.Promises.map TPromise.d) 4, .imm 1 (a0.Accepted.map (D.int .i64)) 4]] [] (.agg [.int .u8 r.Phase, .int .i64 r.Ballot, .ref 0 1 0 r.Members.length (some uC), .str r.Wish, .str r.Value, .ref 1 3 0 r.Promises.length (some uC), .ref 2 1 0 r.Accepted.length (some uC)]) [(0, some (.arr 3 1 true (r.Members.map (D.int .i64)))), (1, some (.arr 91 3 true (r.Promises.map TPromise.d))), (2, some (.arr 3 1 true (r.Accepted.map (D.int .i64))))] (0, 8) := by
 refine za8 Tryz.tmOk Tryz.func22 rfl (by decide) (lb rfl) (by simp) ?_
 intro hwf
 unfold m_r08_Twin at h
 refine .ends 0 (Nat.le_refl _) ?_
 refine .seq (.pl zS [0] ?_)
 refine .seq (.pl zS [1, 2] ?_)
 obtain ⟨k1, h⟩ := zaa h
 refine .seqM 3 (fun (_ : Unit) => ⟨[(1, .ptr 0 0), (2, .ptr 1 0), (3, .ptr 2 0)], [(0, .box [.int .u8 a0.Phase, .int .i64 a0.Ballot, .imm 1 (a0.Members.map (D.int .i64)) 4, .str a0.Wish, .str a0.Value, .imm 3 (a0.Promises.map TPromise.d) 4, .imm 1 (a0.Accepted.map (D.int .i64)) 4]), (1, .box [.int .u8 0, .int .i64 0, .imm 0 [] 0, .str [], .str [], .imm 0 [] 0, .imm 0 [] 0]), (2, .box [.int .u8 a0.Phase, .int .i64 a0.Ballot, .ref 3 1 0 a0.Members.length (some uC), .str a0.Wish, .str a0.Value, .imm 3 (a0.Promises.map TPromise.d) 4, .imm 1 (a0.Accepted.map (D.int .i64)) 4]), (3, .arr 3 1 true (a0.Members.map (D.int .i64)))], 4⟩) (fun _ => True) (lb rfl) ?_ (fun _ _ => ?_)
 ·rcases zam a0.Members with hE1 | ⟨y, ys, hE1⟩
  ·have hM1 : a0.Members.map (D.int .i64) = [] := by rw [hE1]; simp
   refine .px zS (apn hM1) [1, 2, 3] ?_
   refine ⟨(), ?_, trivial⟩
   refine Goes.new0 1 3 (lb rfl) ?_
   refine Goes.boxs 2 _ [.int .u8 a0.Phase, .int .i64 a0.Ballot, .ref 3 1 0 0 (some uC), .str a0.Wish, .str a0.Value, .imm 3 (a0.Promises.map TPromise.d) 4, .imm 1 (a0.Accepted.map (D.int .i64)) 4] rfl (.keep (.keep (.cons (.own0 3 _ _ _ (by decide)) (.refl _)))) ?_
   exact .mx hE1 [1, 2, 3] [0, 1, 2, 3] []
  have hM1 : a0.Members.map (D.int .i64) ≠ [] := by rw [hE1]; simp
  refine .px zS (apc hM1) [1, 2, 3] ?_
  refine ⟨(), ?_, trivial⟩
  refine Goes.boxs 2 _ [.int .u8 a0.Phase, .int .i64 a0.Ballot, .ref 3 1 0 a0.Members.length (some uC), .str a0.Wish, .str a0.Value, .imm 3 (a0.Promises.map TPromise.d) 4, .imm 1 (a0.Accepted.map (D.int .i64)) 4] rfl (.keep (.keep (.cons (.unk _ _ _ _ _) (.refl _)))) ?_
  exact .mx hE1 [1, 2, 3] [0, 1, 2, 3] []
 obtain ⟨k2, h⟩ := zaa h
 refine .seqM 4 (fun (_ : Unit) => ⟨[(1, .ptr 0 0), (2, .ptr 1 0), (3, .ptr 2 0)], [(0, .box [.int .u8 a0.Phase, .int .i64 a0.Ballot, .imm 1 (a0.Members.map (D.int .i64)) 4, .str a0.Wish, .str a0.Value, .imm 3 (a0.Promises.map TPromise.d) 4, .imm 1 (a0.Accepted.map (D.int .i64)) 4]), (1, .box [.int .u8 0, .int .i64 0, .imm 0 [] 0, .str [], .str [], .imm 0 [] 0, .imm 0 [] 0]), (2, .box [.int .u8 a0.Phase, .int .i64 a0.Ballot, .ref 3 1 0 a0.Members.length (some uC), .str a0.Wish, .str a0.Value, .ref 4 3 0 a0.Promises.length (some uC), .imm 1 (a0.Accepted.map (D.int .i64)) 4]), (3, .arr 3 1 true (a0.Members.map (D.int .i64))), (4, .arr 91 3 true (a0.Promises.map TPromise.d))], 5⟩) (fun _ => True) (lb rfl) ?_ (fun _ _ => ?_)
 ·rcases zam a0.Promises with hE2 | ⟨y, ys, hE2⟩
  ·have hM2 : a0.Promises.map TPromise.d = [] := by rw [hE2]; simp
   refine .px zS (apn hM2) [1, 2, 3] ?_
   refine ⟨(), ?_, trivial⟩
   refine Goes.new0 3 91 (lb rfl) ?_
   refine Goes.boxs 2 _ [.int .u8 a0.Phase, .int .i64 a0.Ballot, .ref 3 1 0 a0.Members.length (some uC), .str a0.Wish, .str a0.Value, .ref 4 3 0 0 (some uC), .imm 1 (a0.Accepted.map (D.int .i64)) 4] rfl (.keep (.keep (.keep (.keep (.keep (.cons (.own0 4 _ _ _ (by decide)) (.refl _))))))) ?_
   exact .mx hE2 [1, 2, 3] [0, 1, 2, 3, 4] []
  have hM2 : a0.Promises.map TPromise.d ≠ [] := by rw [hE2]; simp
  refine .px zS (apc hM2) [1, 2, 3] ?_
  refine ⟨(), ?_, trivial⟩
  refine Goes.boxs 2 _ [.int .u8 a0.Phase, .int .i64 a0.Ballot, .ref 3 1 0 a0.Members.length (some uC), .str a0.Wish, .str a0.Value, .ref 4 3 0 a0.Promises.length (some uC), .imm 1 (a0.Accepted.map (D.int .i64)) 4] rfl (.keep (.keep (.keep (.keep (.keep (.cons (.unk _ _ _ _ _) (.refl _))))))) ?_
  exact .mx hE2 [1, 2, 3] [0, 1, 2, 3, 4] []
 obtain ⟨k3, h⟩ := zaa h
 refine .seqM 5 (fun (_ : Unit) => ⟨[(2, .ptr 1 0), (3, .ptr 2 0)], [(1, .box [.int .u8 0, .int .i64 0, .imm 0 [] 0, .str [], .str [], .imm 0 [] 0, .imm 0 [] 0]), (2, .box [.int .u8 a0.Phase, .int .i64 a0.Ballot, .ref 3 1 0 a0.Members.length (some uC), .str a0.Wish, .str a0.Value, .ref 4 3 0 a0.Promises.length (some uC), .ref 5 1 0 a0.Accepted.length (some uC)]), (3, .arr 3 1 true (a0.Members.map (D.int .i64))), (4, .arr 91 3 true (a0.Promises.map TPromise.d)), (5, .arr 3 1 true (a0.Accepted.map (D.int .i64)))], 6⟩) (fun _ => True) (lb rfl) ?_ (fun _ _ => ?_)
 ·rcases zam a0.Accepted with hE3 | ⟨y, ys, hE3⟩
  ·have hM3 : a0.Accepted.map (D.int .i64) = [] := by rw [hE3]; simp
   refine .px zS (apn hM3) [1, 2, 3] ?_
   refine ⟨(), ?_, trivial⟩
   refine Goes.new0 1 3 (lb rfl) ?_
   refine Goes.boxs 2 _ [.int .u8 a0.Phase, .int .i64 a0.Ballot, .ref 3 1 0 a0.Members.length (some uC), .str a0.Wish, .str a0.Value, .ref 4 3 0 a0.Promises.length (some uC), .ref 5 1 0 0 (some uC)] rfl (.keep (.keep (.keep (.keep (.keep (.keep (.cons (.own0 5 _ _ _ (by decide)) (.refl _)))))))) ?_
   exact .mx hE3 [2, 3] [1, 2, 3, 4, 5] []
  have hM3 : a0.Accepted.map (D.int .i64) ≠ [] := by rw [hE3]; simp
  refine .px zS (apc hM3) [1, 2, 3] ?_
  refine ⟨(), ?_, trivial⟩
  refine Goes.boxs 2 _ [.int .u8 a0.Phase, .int .i64 a0.Ballot, .ref 3 1 0 a0.Members.length (some uC), .str a0.Wish, .str a0.Value, .ref 4 3 0 a0.Promises.length (some uC), .ref 5 1 0 a0.Accepted.length (some uC)] rfl (.keep (.keep (.keep (.keep (.keep (.keep (.cons (.unk _ _ _ _ _) (.refl _)))))))) ?_
  exact .mx hE3 [2, 3] [1, 2, 3, 4, 5] []
 refine .seq (.pl zS [2, 3] ?_)
 have hq := sj h
 subst r
 refine .ret ⟨Tryz.Re_r08_Twin a0, ?_, .inr rfl, retH [2, 1, 0] ?_ ?_⟩
 ·exact .m [2] [3, 4, 5, 1] [(3, 0), (4, 1), (5, 2), (1, 3)]
 ·exact rsi0
 rfl
theorem callP_r08_Twin (a0 : TAttempt) (r : TAttempt) (h : m_r08_Twin a0 = some r) : CallP Tryz.prog 22 [.agg [.int .u8 a0.Phase, .int .i64 a0.Ballot, .imm 1 (a0.Members.map (D.int .i64)) 4, .str a0.Wish, .str a0.Value, .imm 3 (a0.Promises.map TPromise.d) 4, .imm 1 (a0.Accepted.map (D.int .i64)) 4]] (.agg [.int .u8 r.Phase, .int .i64 r.Ballot, .imm 1 (r.Members.map (D.int .i64)) 12, .str r.Wish, .str r.Value, .imm 3 (r.Promises.map TPromise.d) 12, .imm 1 (r.Accepted.map (D.int .i64)) 12]) :=
 callP_frz (frz_agg (za1 rfl (za1 rfl (za1 (zap zar rfl rfl) (za1 rfl (za1 rfl (za1 (zap zbu rfl rfl) (za1 (zap zar rfl rfl) zc9)))))))) (callH_r08_Twin a0 r h)
end Go.Proofs
end
section
namespace Go.Proofs
open Go.Tm
set_option linter.unusedVariables false
def m_r08_May_loop1 (a0 : TAttempt) : List TPromise -> Option (Bool ⊕ Unit)
 | [] =>
  some (.inr ())
 | y1 :: rest1 =>
  Option.bind (m_r08_MayPromise (y1) a0.Ballot) fun v6 =>
  if ¬ (v6 = true) then
  some (.inl false)
  else
  m_r08_May_loop1 a0 rest1 
def m_r08_May (a0 : TAttempt) : Option Bool :=
 if a0.Phase = 0 then
 some ((((((a0.Ballot == 0) && ((a0.Members.length : Int) == 0)) && (a0.Wish == [])) && (a0.Value == [])) && ((a0.Promises.length : Int) == 0)) && ((a0.Accepted.length : Int) == 0))
 else
 Option.bind (if ¬ (a0.Phase > 3) then m_r05_May a0.Ballot else some default) fun v1 =>
 Option.bind (if ¬ ((a0.Phase > 3) \/ (¬ (v1 = true))) then m_r06_May a0.Members else some default) fun v2 =>
 Option.bind (if ¬ ((((a0.Phase > 3) \/ (¬ (v1 = true))) \/ (¬ (v2 = true))) \/ ((a0.Wish.length : Int) > 1024)) then m_r08_nodes a0.Promises else some default) fun v3 =>
 Option.bind (if ¬ ((((a0.Phase > 3) \/ (¬ (v1 = true))) \/ (¬ (v2 = true))) \/ ((a0.Wish.length : Int) > 1024)) then m_r08_rising v3 a0.Members else some default) fun v4 =>
 Option.bind (if ¬ (((((a0.Phase > 3) \/ (¬ (v1 = true))) \/ (¬ (v2 = true))) \/ ((a0.Wish.length : Int) > 1024)) \/ (¬ (v4 = true))) then m_r08_rising a0.Accepted a0.Members else some default) fun v5 =>
 if (((((a0.Phase > 3) \/ (¬ (v1 = true))) \/ (¬ (v2 = true))) \/ ((a0.Wish.length : Int) > 1024)) \/ (¬ (v4 = true))) \/ (¬ (v5 = true)) then
 some false
 else
 Option.bind (α := Bool ⊕ Unit) (m_r08_May_loop1 a0 a0.Promises ) fun z => match z with
 | (.inl r) => some r
 | (.inr _) =>
 Option.bind (m_r08_nodes a0.Promises) fun v7 =>
 Option.bind (m_r06_Counts a0.Members v7) fun v8 =>
 if a0.Phase = 1 then
 some (((!v8) && (a0.Value == [])) && ((a0.Accepted.length : Int) == 0))
 else
 Option.bind (if v8 = true then m_r08_Best a0.Promises a0.Wish else some default) fun v9 =>
 Option.bind (if (v8 = true) /\ (a0.Value = v9) then m_r06_Counts a0.Members a0.Accepted else some default) fun v10 =>
 some ((v8 && (a0.Value == v9)) && (v10 == (a0.Phase == 3)))
def zcc (a0 : TPromise) (c0 : TAttempt) : Option Bool :=
 Option.bind (m_attempt_may a0 c0.Ballot) fun v1 =>
 some (!v1)
def m_attempt_Check (a0 : TAttempt) : Option Int :=
 Option.bind (α := Bool) (Option.bind (α := Bool ⊕ (Bool ⊕ Bool)) (if a0.Phase = 0 then
 Option.bind (m_attempt_Same a0 (⟨0, 0, [], [], [], [], []⟩ : TAttempt)) fun v1 =>
 some (.inl v1)
 else
 if a0.Phase = 1 then
 some (.inr (.inr ((a0.Value == []) && ((a0.Accepted.length : Int) == 0))))
 else
 Option.bind (α := Bool) (if a0.Phase = 2 then
 some (a0.Phase == 2)
 else
 some (a0.Phase == 3)) fun b5 =>
 if b5 = true then
 some (.inr (.inr true))
 else
 some (.inr (.inl b5))) fun z => match z with
 | (.inl b3) => some b3
 | (.inr (.inl b4)) => some false
 | (.inr (.inr b2)) =>
 Option.bind (if b2 = true then zbc a0.Ballot else some default) fun v2 =>
 Option.bind (if (b2 = true) /\ (v2 = 0) then zaz a0.Members else some default) fun v3 =>
 Option.bind (if (((b2 = true) /\ (v2 = 0)) /\ (v3 = 0)) /\ ((a0.Wish.length : Int) <= 1024) then zbp a0.Promises else some default) fun v4 =>
 Option.bind (if (((b2 = true) /\ (v2 = 0)) /\ (v3 = 0)) /\ ((a0.Wish.length : Int) <= 1024) then zc7 v4 a0.Members else some default) fun v5 =>
 Option.bind (if ((((b2 = true) /\ (v2 = 0)) /\ (v3 = 0)) /\ ((a0.Wish.length : Int) <= 1024)) /\ (v5 = true) then zc7 a0.Accepted a0.Members else some default) fun v6 =>
 Option.bind (if (((((b2 = true) /\ (v2 = 0)) /\ (v3 = 0)) /\ ((a0.Wish.length : Int) <= 1024)) /\ (v5 = true)) /\ (v6 = true) then zai a0.Promises (fun x0 => zcc x0 a0) else some default) fun v7 =>
 Option.bind (if ((((((b2 = true) /\ (v2 = 0)) /\ (v3 = 0)) /\ ((a0.Wish.length : Int) <= 1024)) /\ (v5 = true)) /\ (v6 = true)) /\ (¬ (v7 = true)) then zbp a0.Promises else some default) fun v8 =>
 Option.bind (if ((((((b2 = true) /\ (v2 = 0)) /\ (v3 = 0)) /\ ((a0.Wish.length : Int) <= 1024)) /\ (v5 = true)) /\ (v6 = true)) /\ (¬ (v7 = true)) then zbq a0.Members v8 else some default) fun v9 =>
 Option.bind (if (((((((b2 = true) /\ (v2 = 0)) /\ (v3 = 0)) /\ ((a0.Wish.length : Int) <= 1024)) /\ (v5 = true)) /\ (v6 = true)) /\ (¬ (v7 = true))) /\ ((v9 == (decide (a0.Phase > 1))) = true) then zbq a0.Members a0.Accepted else some default) fun v10 =>
 Option.bind (if (((((((((b2 = true) /\ (v2 = 0)) /\ (v3 = 0)) /\ ((a0.Wish.length : Int) <= 1024)) /\ (v5 = true)) /\ (v6 = true)) /\ (¬ (v7 = true))) /\ ((v9 == (decide (a0.Phase > 1))) = true)) /\ ((v10 == (a0.Phase == 3)) = true)) /\ (¬ (a0.Phase = 1)) then m_attempt_Best a0.Promises a0.Wish else some default) fun v11 =>
 some (((((((((b2 && (v2 == 0)) && (v3 == 0)) && (decide ((a0.Wish.length : Int) <= 1024))) && v5) && v6) && (!v7)) && (v9 == (decide (a0.Phase > 1)))) && (v10 == (a0.Phase == 3))) && ((a0.Phase == 1) || (a0.Value == v11)))) fun b1 =>
 if ¬ (b1 = true) then
 some 8
 else
 some 0
end Go.Proofs
end
section
namespace Go.Proofs
open Go.Tm Go.RowKit Go.WideShapes
set_option maxRecDepth 100000
set_option maxHeartbeats 4000000
set_option linter.unusedSimpArgs false
set_option linter.unusedVariables false
@[go_sem] def Tryz.St_r08_May_1 (a0 : TAttempt) : St := ⟨[(1, .ptr 0 0)], [(0, .box [.int .u8 a0.Phase, .int .i64 a0.Ballot, .imm 1 (a0.Members.map (D.int .i64)) 4, .str a0.Wish, .str a0.Value, .imm 3 (a0.Promises.map TPromise.d) 4, .imm 1 (a0.Accepted.map (D.int .i64)) 4])], 1⟩
@[go_sem] def Tryz.St_r08_May_3 (a0 : TAttempt) (n1 : Nat) : St := ⟨[(1, .ptr 0 0), (3, .int .i64 (n1 : Int))], [(0, .box [.int .u8 a0.Phase, .int .i64 a0.Ballot, .imm 1 (a0.Members.map (D.int .i64)) 4, .str a0.Wish, .str a0.Value, .imm 3 (a0.Promises.map TPromise.d) 4, .imm 1 (a0.Accepted.map (D.int .i64)) 4])], 1⟩
theorem callP_r08_May (a0 : TAttempt) (r : Bool) (h : m_r08_May a0 = some r) : CallP Tryz.prog 45 [.agg [.int .u8 a0.Phase, .int .i64 a0.Ballot, .imm 1 (a0.Members.map (D.int .i64)) 4, .str a0.Wish, .str a0.Value, .imm 3 (a0.Promises.map TPromise.d) 4, .imm 1 (a0.Accepted.map (D.int .i64)) 4]] (.bool r) := by
 refine za5 Tryz.tmOk 12 Tryz.func45 rfl (by decide) rfl rfl (lb rfl) ?_
 intro hwf
 unfold m_r08_May at h
 refine .seq (.pl zS [0] ?_)
 refine .seq (.seq ?_)
 refine .pl zS [1] ?_
 refine .cond rfl rfl (fun hc1 => ?_) (fun hc1 => ?_)
 ·replace h := za0 h hc1
  refine .seq ?_
  refine .rg zS [1] ?_
  refine .rn 6 ?_
  refine .rn 6 ?_
  refine .rn 6 ?_
  refine .rn 6 ?_
  refine .rn 8 ?_
  refine .nil ⟨nofun, ?_⟩
  have hq := sj h
  subst r
  exact .ret ⟨.inr rfl, rsi⟩
 replace h := za3 h hc1
 refine .skip ?_
 refine .seq (.seq ?_)
 obtain ⟨v1, hv1, h⟩ := bind_some h
 obtain ⟨v2, hv2, h⟩ := bind_some h
 obtain ⟨v3, hv3, h⟩ := bind_some h
 obtain ⟨v4, hv4, h⟩ := bind_some h
 obtain ⟨v5, hv5, h⟩ := bind_some h
 refine .rg zS [1] ?_
 refine .rd 6 ?_
 refine .gcall (r := .bool v1) rfl rfl rfl rfl rfl (fun hg => ⟨[], [.int .i64 a0.Ballot], _, rfl, gd hg, rfl, (callP_r05_May a0.Ballot v1 (za0 hv1 hg))⟩) ?_
 refine .rd 5 ?_
 refine .gcall (r := .bool v2) rfl rfl rfl rfl rfl (fun hg => ⟨[], [.imm 1 (a0.Members.map (D.int .i64)) 4], _, rfl, gd hg, rfl, (callP_r06_May a0.Members v2 (za0 hv2 hg))⟩) ?_
 refine .rd 6 ?_
 refine .rd 5 ?_
 refine .gcall (r := .imm 1 (v3.map (D.int .i64)) 12) rfl rfl rfl rfl rfl (fun hg => ⟨[], [.imm 3 (a0.Promises.map TPromise.d) 4], _, rfl, gd hg, rfl, (callP_r08_nodes a0.Promises v3 (za0 hv3 hg))⟩) ?_
 refine .rd 2 ?_
 refine .gcall (r := .bool v4) rfl rfl rfl rfl rfl (fun hg => ⟨[], [.imm 1 (v3.map (D.int .i64)) 12, .imm 1 (a0.Members.map (D.int .i64)) 4], _, rfl, gd hg, rfl, (callP_r08_rising v3 a0.Members v4 (za0 hv4 hg))⟩) ?_
 refine .rd 7 ?_
 refine .gcall (r := .bool v5) rfl rfl rfl rfl rfl (fun hg => ⟨[], [.imm 1 (a0.Accepted.map (D.int .i64)) 4, .imm 1 (a0.Members.map (D.int .i64)) 4], _, rfl, gd hg, rfl, (callP_r08_rising a0.Accepted a0.Members v5 (za0 hv5 hg))⟩) ?_
 refine .rd 2 ?_
 refine .nd ?_
 refine .cond rfl rfl (fun hc2 => ?_) (fun hc2 => ?_)
 ·replace h := za0 h hc2
  refine .seq (.pl zS [] ?_)
  have hq := sj h
  subst r
  exact .ret ⟨.inr rfl, rsi⟩
 replace h := za3 h hc2
 refine .skip ?_
 obtain ⟨x1, hx1, h⟩ := bind_some h
 refine .seqM 1 (fun (j : Unit) => Tryz.St_r08_May_1 a0) (fun j => x1 = (.inr j)) (lb rfl) ?_ ?_
 ·refine .seq (.pl zS [1] ?_)
  refine .block ?_
  refine .loopG 1 (fun (j : Nat) => Tryz.St_r08_May_3 a0 j) (fun j => j <= a0.Promises.length /\ m_r08_May_loop1 a0 (a0.Promises.drop j)  = some x1) (fun j => a0.Promises.length - j) (0) (lb rfl) ?_ ⟨Nat.zero_le _, hx1⟩ ?_
  ·exact .m [1, 3] [0] []
  rintro n1 ⟨hi1, hx1⟩
  simp only [Tryz.St_r08_May_3]
  refine .wfb 0 [.int .u8 a0.Phase, .int .i64 a0.Ballot, .imm 1 (a0.Members.map (D.int .i64)) 4, .str a0.Wish, .str a0.Value, .imm 3 (a0.Promises.map TPromise.d) 4, .imm 1 (a0.Accepted.map (D.int .i64)) 4] rfl ?_
  intro hln1
  replace hln1 : (a0.Promises.length : Int) <= 9223372036854775807 := by simp only [wf, wfL, IntKind.max, IntKind.min, IntKind.signed, IntKind.bits, List.length_map] at hln1; first | exact hln1.2 | exact hln1.1 | (simp at hln1; omega)
  refine .seq (.seq ?_)
  refine .pl zS [1, 3] ?_
  refine .cond rfl rfl (fun hc3 => ?_) (fun hc3 => ?_)
  ·have h1 : n1 < a0.Promises.length := by simpa using hc3
   have hwn1 : wr .i64 ((n1 : Int) + 1) = ((n1 + 1 : Nat) : Int) := zbr h1 hln1
   have hpn1 : wr .i64 ((n1 : Int) - 1) = (n1 : Int) - 1 := zbs h1 hln1
   rw [List.drop_eq_getElem_cons h1, m_r08_May_loop1] at hx1
   refine .skip ?_
   refine .seq (.block ?_)
   refine .seq ?_
   obtain ⟨v6, hv6, hx1⟩ := bind_some hx1
   have e1 := zb6 TPromise.d a0.Promises n1 h1
   refine .rg zS [1, 3] ?_
   refine .rdx 7 (And.intro e1 hwn1) ?_
   refine .call (r := .bool v6) rfl rfl rfl rfl rfl rfl (callP_r08_MayPromise (a0.Promises[n1]) a0.Ballot v6 hv6) ?_
   refine .rdx 1 (And.intro e1 hwn1) ?_
   refine .nd ?_
   refine .cond rfl rfl (fun hc4 => ?_) (fun hc4 => ?_)
   ·replace hx1 := za0 hx1 hc4
    refine .seq (.plx zS hwn1 [] ?_)
    have hq := sj hx1
    subst x1
    try dsimp only at h
    have hq := sj h
    subst r
    exact .ret ⟨.inr rfl, rsi⟩
   replace hx1 := za3 hx1 hc4
   refine .skip ?_
   refine .plx zS hwn1 [1, 3] ?_
   refine ⟨n1 + 1, ?_, ⟨by omega, hx1⟩, by dsimp only; omega⟩
   exact .m [1, 3] [0] []
  have h2 : n1 = a0.Promises.length := by have h2b := of_decide_eq_false hc3; omega
  rw [List.drop_of_length_le (by omega), m_r08_May_loop1] at hx1
  refine .exit ?_
  refine ⟨_, ?_, (sj hx1).symm⟩
  exact .m [1] [0] []
 rintro ⟨⟩ hj1
 subst x1
 try dsimp only at h
 simp only [Tryz.St_r08_May_1]
 refine .seq ?_
 obtain ⟨v7, hv7, h⟩ := bind_some h
 obtain ⟨v8, hv8, h⟩ := bind_some h
 refine .rg zS [1] ?_
 refine .rd 4 ?_
 refine .ncall (r := .ref 5 1 0 v7.length (some uC)) (eff := [(5, some (.arr 3 1 true (v7.map (D.int .i64))))]) (nw := (5, 10)) [] rfl rfl rfl rfl rfl (za2 rfl zad) rfl (zbw 5 (lb rfl) (callH_r08_nodes a0.Promises v7 hv7)) (zab rfl rfl (zag zar _ _ _) zbx) (by intro i hi; simp [D.ids, D.idsL] at hi <;> omega) rfl ⟨Nat.le_of_ble_eq_true rfl, Nat.le_of_ble_eq_true rfl⟩ ?_
 refine .rd 0 ?_
 refine .lcall (r := .bool v8) [] rfl rfl rfl rfl rfl (za2 rfl (za2 (zc8 (zax (pl_int .i64) (by first | rfl | (simp only [go_sem, Nat.reduceBEq]; rfl)) (by first | rfl | (simp; done) | (simp <;> omega))) trivial) zad)) rfl (callP_r06_Counts a0.Members v7 v8 hv8) ?_
 refine .rd 1 ?_
 refine .nd ?_
 refine .seq (.seq ?_)
 refine .pl zS [1, 4] ?_
 refine .cond rfl rfl (fun hc5 => ?_) (fun hc5 => ?_)
 ·replace h := za0 h hc5
  refine .seq ?_
  refine .rg zS [1, 4] ?_
  refine .rn 6 ?_
  refine .rn 8 ?_
  refine .nil ⟨nofun, ?_⟩
  have hq := sj h
  subst r
  exact .ret ⟨.inr rfl, rsi⟩
 replace h := za3 h hc5
 refine .skip ?_
 refine .seq ?_
 obtain ⟨v9, hv9, h⟩ := bind_some h
 obtain ⟨v10, hv10, h⟩ := bind_some h
 refine .rg zS [1, 4] ?_
 refine .rd 8 ?_
 refine .gcall (r := .str v9) rfl rfl rfl rfl rfl (fun hg => ⟨[], [.imm 3 (a0.Promises.map TPromise.d) 4, .str a0.Wish], _, rfl, gd hg, rfl, (callP_r08_Best a0.Promises a0.Wish v9 (za0 hv9 hg))⟩) ?_
 refine .rd 7 ?_
 refine .gcall (r := .bool v10) rfl rfl rfl rfl rfl (fun hg => ⟨[], [.imm 1 (a0.Members.map (D.int .i64)) 4, .imm 1 (a0.Accepted.map (D.int .i64)) 4], _, rfl, gd hg, rfl, (callP_r06_Counts a0.Members a0.Accepted v10 (za0 hv10 hg))⟩) ?_
 refine .rd 6 ?_
 refine .nd ?_
 have hq := sj h
 subst r
 exact .ret ⟨.inr rfl, rsi⟩
theorem callP_attempt_Check_1 (a0 : TPromise) (c0 : TAttempt) (r : Bool) (h : zcc a0 c0 = some r) : CallP Tryz.prog 73 [.agg [.int .i64 a0.Node, .int .i64 a0.Ballot, .str a0.Value], .iptr 0 [.int .u8 c0.Phase, .int .i64 c0.Ballot, .imm 1 (c0.Members.map (D.int .i64)) 4, .str c0.Wish, .str c0.Value, .imm 3 (c0.Promises.map TPromise.d) 4, .imm 1 (c0.Accepted.map (D.int .i64)) 4]] (.bool r) := by
 refine za5 Tryz.tmOk 3 Tryz.func73 rfl (by decide) rfl rfl (lb rfl) ?_
 intro hwf
 unfold zcc at h
 refine .seq (.pl zS [0, 1] ?_)
 refine .seq ?_
 obtain ⟨v1, hv1, h⟩ := bind_some h
 refine .rg zS [1, 2] ?_
 refine .rn 3 ?_
 refine .call (r := .bool v1) rfl rfl rfl rfl rfl rfl (callP_attempt_may a0 c0.Ballot v1 hv1) ?_
 refine .rn 2 ?_
 refine .nil ⟨nofun, ?_⟩
 have hq := sj h
 subst r
 exact .ret ⟨.inr rfl, rsi⟩
@[go_sem] def Tryz.St_attempt_Check_1 (b1 : Bool) : St := ⟨[(3, .bool b1)], [], 1⟩
@[go_sem] def Tryz.St_attempt_Check_3 (a0 : TAttempt) (b2 : Bool) : St := ⟨[(1, .ptr 0 0), (3, .bool b2)], [(0, .box [.int .u8 a0.Phase, .int .i64 a0.Ballot, .imm 1 (a0.Members.map (D.int .i64)) 4, .str a0.Wish, .str a0.Value, .imm 3 (a0.Promises.map TPromise.d) 4, .imm 1 (a0.Accepted.map (D.int .i64)) 4])], 1⟩
@[go_sem] def Tryz.St_attempt_Check_5 (a0 : TAttempt) (b5 : Bool) : St := ⟨[(1, .ptr 0 0), (3, .bool true), (10, .bool b5)], [(0, .box [.int .u8 a0.Phase, .int .i64 a0.Ballot, .imm 1 (a0.Members.map (D.int .i64)) 4, .str a0.Wish, .str a0.Value, .imm 3 (a0.Promises.map TPromise.d) 4, .imm 1 (a0.Accepted.map (D.int .i64)) 4])], 1⟩
theorem callP_attempt_Check (a0 : TAttempt) (r : Int) (h : m_attempt_Check a0 = some r) : CallP Tryz.prog 39 [.agg [.int .u8 a0.Phase, .int .i64 a0.Ballot, .imm 1 (a0.Members.map (D.int .i64)) 4, .str a0.Wish, .str a0.Value, .imm 3 (a0.Promises.map TPromise.d) 4, .imm 1 (a0.Accepted.map (D.int .i64)) 4]] (.int .i64 r) := by
 refine za5 Tryz.tmOk 3 Tryz.func39 rfl (by decide) rfl rfl (lb rfl) ?_
 intro hwf
 unfold m_attempt_Check at h
 refine .seq (.pl zS [0] ?_)
 refine .seq (.pl zS [1] ?_)
 obtain ⟨x1, hx1, h⟩ := bind_some h
 refine .seqM 1 (fun (j : Bool) => Tryz.St_attempt_Check_1 j) (fun j => x1 = j) (lb rfl) ?_ ?_
 ·refine .seq (.pl zS [1, 3] ?_)
  refine .block ?_
  refine .seq (.block ?_)
  obtain ⟨x2, hx2, hx1⟩ := bind_some hx1
  refine .seqM 1 (fun (j : Bool) => Tryz.St_attempt_Check_3 a0 j) (fun j => x2 = (.inr (.inr j))) (lb rfl) ?_ ?_
  ·refine .block ?_
   refine .seq (.block ?_)
   refine .seq (.block ?_)
   refine .seq (.seq ?_)
   refine .seq (.pl zS [1, 3, 5] ?_)
   refine .cond rfl rfl (fun hc1 => ?_) (fun hc1 => ?_)
   ·replace hx2 := za0 hx2 hc1
    refine .exit ?_
    refine .seq ?_
    obtain ⟨v1, hv1, hx2⟩ := bind_some hx2
    refine .rg zS [1] ?_
    refine .rn 2 ?_
    refine .call (r := .bool v1) rfl rfl rfl rfl rfl rfl (callP_wk (WkL.cons (Wk.refl _) (WkL.cons (Wk.agg (WkL.cons (Wk.refl _) (WkL.cons (Wk.refl _) (WkL.cons (Wk.nil4 0 1 0 rfl) (WkL.cons (Wk.refl _) (WkL.cons (Wk.refl _) (WkL.cons (Wk.nil4 0 3 0 rfl) (WkL.cons (Wk.nil4 0 1 0 rfl) (WkL.refl _))))))))) (WkL.refl _))) (callP_attempt_Same a0 (⟨0, 0, [], [], [], [], []⟩ : TAttempt) v1 hv1)) ?_
    refine .rn 1 ?_
    refine .nil ⟨nofun, ?_⟩
    refine .exit ?_
    have hq := sj hx2
    subst x2
    try dsimp only at hx1
    refine ⟨_, ?_, (sj hx1).symm⟩
    exact .m [3] [] []
   replace hx2 := za3 hx2 hc1
   refine .skip ?_
   refine .seq (.seq ?_)
   refine .pl zS [1, 3, 5] ?_
   refine .cond rfl rfl (fun hc2 => ?_) (fun hc2 => ?_)
   ·replace hx2 := za0 hx2 hc2
    refine .exit ?_
    refine .rg zS [1] ?_
    refine .rn 6 ?_
    refine .rn 4 ?_
    refine .nil ⟨nofun, ?_⟩
    refine ⟨_, ?_, (sj hx2).symm⟩
    exact .m [1, 3] [0] []
   replace hx2 := za3 hx2 hc2
   refine .skip ?_
   obtain ⟨x3, hx3, hx2⟩ := bind_some hx2
   refine .seqM 1 (fun (j : Bool) => Tryz.St_attempt_Check_5 a0 j) (fun j => x3 = j) (lb rfl) ?_ ?_
   ·refine .seq (.pl zS [1, 3, 5] ?_)
    refine .cond rfl rfl (fun hc3 => ?_) (fun hc3 => ?_)
    ·replace hx3 := za0 hx3 hc3
     refine .skip ?_
     refine ⟨_, ?_, (sj hx3).symm⟩
     exact .m [1, 3, 10] [0] []
    replace hx3 := za3 hx3 hc3
    refine .pl zS [1, 3, 5] ?_
    refine ⟨_, ?_, (sj hx3).symm⟩
    exact .m [1, 3, 10] [0] []
   rintro b5 hj1
   subst x3
   try dsimp only at hx2
   simp only [Tryz.St_attempt_Check_5]
   refine .cond rfl rfl (fun hc4 => ?_) (fun hc4 => ?_)
   ·replace hx2 := za0 hx2 hc4
    refine .exit ?_
    refine ⟨_, ?_, (sj hx2).symm⟩
    exact .m [1, 3] [0] []
   replace hx2 := za3 hx2 hc4
   refine .skip ?_
   refine .exit ?_
   have hq := sj hx2
   subst x2
   try dsimp only at hx1
   refine .seq (.pl zS [] ?_)
   refine .exit ?_
   refine ⟨_, ?_, (sj hx1).symm⟩
   exact .m [3] [] []
  rintro b2 hj2
  subst x2
  try dsimp only at hx1
  simp only [Tryz.St_attempt_Check_3]
  refine .seq (.seq ?_)
  obtain ⟨v2, hv2, hx1⟩ := bind_some hx1
  obtain ⟨v3, hv3, hx1⟩ := bind_some hx1
  refine .rg zS [1, 3] ?_
  refine .rn 4 ?_
  refine .gcall (r := .int .i64 v2) rfl rfl rfl rfl rfl (fun hg => ⟨[], [.int .i64 a0.Ballot], _, rfl, gd hg, rfl, (zc3 a0.Ballot v2 (za0 hv2 hg))⟩) ?_
  refine .rn 5 ?_
  refine .gcall (r := .int .i64 v3) rfl rfl rfl rfl rfl (fun hg => ⟨[], [.imm 1 (a0.Members.map (D.int .i64)) 4], _, rfl, gd hg, rfl, (callP_quorum_Check a0.Members v3 (za0 hv3 hg))⟩) ?_
  refine .rn 6 ?_
  refine .rn 3 ?_
  refine .nil ⟨nofun, ?_⟩
  refine .seq ?_
  obtain ⟨v4, hv4, hx1⟩ := bind_some hx1
  obtain ⟨v5, hv5, hx1⟩ := bind_some hx1
  obtain ⟨v6, hv6, hx1⟩ := bind_some hx1
  refine .rg zS [1, 3] ?_
  refine .rd 4 ?_
  refine .gcall (r := .imm 1 (v4.map (D.int .i64)) 12) rfl rfl rfl rfl rfl (fun hg => ⟨[], [.imm 3 (a0.Promises.map TPromise.d) 4], _, rfl, gd hg, rfl, (callP_attempt_nodes a0.Promises v4 (za0 hv4 hg))⟩) ?_
  refine .rd 2 ?_
  refine .gcall (r := .bool v5) rfl rfl rfl rfl rfl (fun hg => ⟨[], [.imm 1 (v4.map (D.int .i64)) 12, .imm 1 (a0.Members.map (D.int .i64)) 4], _, rfl, gd hg, rfl, (callP_attempt_rising v4 a0.Members v5 (za0 hv5 hg))⟩) ?_
  refine .rd 6 ?_
  refine .gcall (r := .bool v6) rfl rfl rfl rfl rfl (fun hg => ⟨[], [.imm 1 (a0.Accepted.map (D.int .i64)) 4, .imm 1 (a0.Members.map (D.int .i64)) 4], _, rfl, gd hg, rfl, (callP_attempt_rising a0.Accepted a0.Members v6 (za0 hv6 hg))⟩) ?_
  refine .rd 2 ?_
  refine .nd ?_
  refine .seq ?_
  obtain ⟨v7, hv7, hx1⟩ := bind_some hx1
  refine .rg zS [1, 3] ?_
  refine .rn 5 ?_
  refine .glcall (r := .bool v7) [] rfl rfl rfl rfl rfl (fun hg => ⟨[], [.imm 3 (a0.Promises.map TPromise.d) 4, .fn (.func 73) [.ptr 0 0]], _, rfl, gd hg, (za2 rfl (za2 (lend2_fn (za2 (lend2_ptr rfl (zan rfl (zan rfl (zan rfl (zan rfl (zan rfl (zan rfl (zan rfl lends_nil)))))))) zad)) zad)), rfl, (callP_slices_ContainsFunc_Promise_Promise a0.Promises 73 [.iptr 0 [.int .u8 a0.Phase, .int .i64 a0.Ballot, .imm 1 (a0.Members.map (D.int .i64)) 4, .str a0.Wish, .str a0.Value, .imm 3 (a0.Promises.map TPromise.d) 4, .imm 1 (a0.Accepted.map (D.int .i64)) 4]] (fun _ => rfl) (fun _ => rfl) (fun _ => rfl) (fun x0 => zcc x0 a0) (fun x0 y hy => callP_attempt_Check_1 x0 a0 y hy) v7 (za0 hv7 hg))⟩) ?_
  refine .rn 3 ?_
  refine .nil ⟨nofun, ?_⟩
  refine .seq ?_
  obtain ⟨v8, hv8, hx1⟩ := bind_some hx1
  obtain ⟨v9, hv9, hx1⟩ := bind_some hx1
  obtain ⟨v10, hv10, hx1⟩ := bind_some hx1
  refine .rg zS [1, 3] ?_
  refine .rd 6 ?_
  refine .gcall (r := .imm 1 (v8.map (D.int .i64)) 12) rfl rfl rfl rfl rfl (fun hg => ⟨[], [.imm 3 (a0.Promises.map TPromise.d) 4], _, rfl, gd hg, rfl, (callP_attempt_nodes a0.Promises v8 (za0 hv8 hg))⟩) ?_
  refine .rd 0 ?_
  refine .gcall (r := .bool v9) rfl rfl rfl rfl rfl (fun hg => ⟨[], [.imm 1 (a0.Members.map (D.int .i64)) 4, .imm 1 (v8.map (D.int .i64)) 12], _, rfl, gd hg, rfl, (callP_attempt_most a0.Members v8 v9 (za0 hv9 hg))⟩) ?_
  refine .rd 6 ?_
  refine .rd 4 ?_
  refine .gcall (r := .bool v10) rfl rfl rfl rfl rfl (fun hg => ⟨[], [.imm 1 (a0.Members.map (D.int .i64)) 4, .imm 1 (a0.Accepted.map (D.int .i64)) 4], _, rfl, gd hg, rfl, (callP_attempt_most a0.Members a0.Accepted v10 (za0 hv10 hg))⟩) ?_
  refine .rd 6 ?_
  refine .nd ?_
  obtain ⟨v11, hv11, hx1⟩ := bind_some hx1
  refine .rg zS [1, 3] ?_
  refine .rd 6 ?_
  refine .rd 6 ?_
  refine .gcall (r := .str v11) rfl rfl rfl rfl rfl (fun hg => ⟨[], [.imm 3 (a0.Promises.map TPromise.d) 4, .str a0.Wish], _, rfl, gd hg, rfl, (callP_attempt_Best a0.Promises a0.Wish v11 (za0 hv11 hg))⟩) ?_
  refine .rd 4 ?_
  refine .nd ?_
  refine .exit ?_
  refine ⟨_, ?_, (sj hx1).symm⟩
  exact .m [3] [] []
 rintro b1 hj3
 subst x1
 try dsimp only at h
 simp only [Tryz.St_attempt_Check_1]
 refine .seq (.seq ?_)
 refine .pl zS [3] ?_
 refine .cond rfl rfl (fun hc5 => ?_) (fun hc5 => ?_)
 ·replace h := za0 h hc5
  refine .seq (.pl zS [] ?_)
  have hq := sj h
  subst r
  exact .ret ⟨.inr rfl, rsi⟩
 replace h := za3 h hc5
 refine .skip ?_
 refine .seq (.pl zS [] ?_)
 have hq := sj h
 subst r
 exact .ret ⟨.inr rfl, rsi⟩
end Go.Proofs
end
section
namespace Go.Proofs
open Go.Tm
set_option linter.unusedVariables false
def zah (a0 : List Int) : Option ((List Int)) :=
 if a0.length * 8 <= 140737488355328 then
 some a0
 else none
def zbk (a0 : List TPromise) : Option ((List TPromise)) :=
 if a0.length * 32 <= 140737488355328 then
 some a0
 else none
def m_attempt_Twin (a0 : TAttempt) : Option TAttempt :=
 Option.bind (zah a0.Members) fun v1 =>
 Option.bind (zbk a0.Promises) fun v2 =>
 Option.bind (zah a0.Accepted) fun v3 =>
 some (⟨a0.Phase, a0.Ballot, v1, a0.Wish, a0.Value, v2, v3⟩ : TAttempt)
def m_attempt_Begin (a0 : List Int) (a1 : Int) (a2 : List UInt8) : Option (TAttempt × Int) :=
 Option.bind (zaz a0) fun v1 =>
 if ¬ (v1 = 0) then
 some ((⟨0, 0, [], [], [], [], []⟩ : TAttempt), v1)
 else
 Option.bind (zbc a1) fun v2 =>
 if ¬ (v2 = 0) then
 some ((⟨0, 0, [], [], [], [], []⟩ : TAttempt), v2)
 else
 if (a2.length : Int) > 1024 then
 some ((⟨0, 0, [], [], [], [], []⟩ : TAttempt), 3)
 else
 Option.bind (zah a0) fun v3 =>
 some ((⟨1, a1, v3, a2, [], [], []⟩ : TAttempt), 0)
end Go.Proofs
end
section
namespace Go.Proofs
open Go.Tm Go.RowKit Go.WideShapes
set_option maxRecDepth 100000
set_option maxHeartbeats 4000000
set_option linter.unusedSimpArgs false
set_option linter.unusedVariables false
@[go_sem] def Tryz.Re_slices_Clone_int_int (r : (List Int)) : St := ⟨[(2, .ref 0 1 0 r.length (some uC))], [(0, .arr 3 1 true (r.map (D.int .i64)))], 1⟩
theorem zbf (a0 : List Int) (r : (List Int)) (h : zah a0 = some r) : CallH Tryz.prog 30 [.imm 1 (a0.map (D.int .i64)) 4] [] (.ref 0 1 0 r.length (some uC)) [(0, some (.arr 3 1 true (r.map (D.int .i64))))] (0, 3) := by
 refine za8 Tryz.tmOk Tryz.func30 rfl (by decide) (lb rfl) (by simp) ?_
 intro hwf
 unfold zah at h
 refine .ends 0 (Nat.le_refl _) ?_
 refine .nil4 0 1 (a0.map (D.int .i64)) rfl ?_ (fun hl => ?_)
 ·refine .seq (.pl zS [0] ?_)
  refine .seq (.seq ?_)
  refine .pl zS [0] ?_
  refine .cond rfl rfl (fun hc => by cases hc) (fun hc => ?_)
  refine .skip ?_
  obtain ⟨k1, h⟩ := zaa h
  refine .seqM 0 (fun (_ : Unit) => ⟨[(2, .ref 0 1 0 a0.length (some uC))], [(0, .arr 3 1 true (a0.map (D.int .i64)))], 1⟩) (fun _ => True) (lb rfl) ?_ (fun _ _ => ?_)
  ·rcases zam a0 with hE1 | ⟨y, ys, hE1⟩
   ·have hM1 : a0.map (D.int .i64) = [] := by rw [hE1]; simp
    refine .px zS (apn hM1) [0] ?_
    refine ⟨(), ?_, trivial⟩
    refine Goes.new0 1 3 (lb rfl) ?_
    refine Goes.wk 2 _ (.ref 0 1 0 0 (some uC)) rfl (.own0 0 _ _ _ (by decide)) ?_
    exact .mx hE1 [2] [0] []
   have hM1 : a0.map (D.int .i64) ≠ [] := by rw [hE1]; simp
   refine .px zS (apc hM1) [0] ?_
   refine ⟨(), ?_, trivial⟩
   refine Goes.wk 2 _ (.ref 0 1 0 a0.length (some uC)) rfl (.unk _ _ _ _ _) ?_
   exact .mx hE1 [2] [0] []
  have hq := sj h
  subst r
  refine .ret ⟨Tryz.Re_slices_Clone_int_int a0, ?_, .inr rfl, retH [0] ?_ ?_⟩
  ·exact .m [2] [0] []
  ·exact rsi0
  rfl
 have hE0 : a0 = [] := by simpa using hl
 obtain ⟨k1, h⟩ := zaa h
 refine .seq (.pl zS [0] ?_)
 refine .seq (.seq ?_)
 refine .pl zS [0] ?_
 refine .cond rfl rfl (fun hc => ?_) (fun hc => by cases hc)
 refine .seq (.pl zS [] ?_)
 have hq := sj h
 subst r
 refine .ret ⟨Tryz.Re_slices_Clone_int_int a0, ?_, .inr rfl, retH [0] ?_ ?_⟩
 ·refine Goes.new0 1 3 (lb rfl) ?_
  refine Goes.wk 2 _ (.ref 0 1 0 0 (some uC)) rfl (.own0 0 _ _ _ (by decide)) ?_
  exact .mx hE0 [2] [0] []
 ·exact rsi0
 rfl
@[go_sem] def Tryz.Re_slices_Clone_Promise_Promise (r : (List TPromise)) : St := ⟨[(2, .ref 0 3 0 r.length (some uC))], [(0, .arr 91 3 true (r.map TPromise.d))], 1⟩
theorem callH_slices_Clone_Promise_Promise (a0 : List TPromise) (r : (List TPromise)) (h : zbk a0 = some r) : CallH Tryz.prog 68 [.imm 3 (a0.map TPromise.d) 4] [] (.ref 0 3 0 r.length (some uC)) [(0, some (.arr 91 3 true (r.map TPromise.d)))] (0, 3) := by
 refine za8 Tryz.tmOk Tryz.func68 rfl (by decide) (lb rfl) (by simp) ?_
 intro hwf
 unfold zbk at h
 refine .ends 0 (Nat.le_refl _) ?_
 refine .nil4 0 3 (a0.map TPromise.d) rfl ?_ (fun hl => ?_)
 ·refine .seq (.pl zS [0] ?_)
  refine .seq (.seq ?_)
  refine .pl zS [0] ?_
  refine .cond rfl rfl (fun hc => by cases hc) (fun hc => ?_)
  refine .skip ?_
  obtain ⟨k1, h⟩ := zaa h
  refine .seqM 0 (fun (_ : Unit) => ⟨[(2, .ref 0 3 0 a0.length (some uC))], [(0, .arr 91 3 true (a0.map TPromise.d))], 1⟩) (fun _ => True) (lb rfl) ?_ (fun _ _ => ?_)
  ·rcases zam a0 with hE1 | ⟨y, ys, hE1⟩
   ·have hM1 : a0.map TPromise.d = [] := by rw [hE1]; simp
    refine .px zS (apn hM1) [0] ?_
    refine ⟨(), ?_, trivial⟩
    refine Goes.new0 3 91 (lb rfl) ?_
    refine Goes.wk 2 _ (.ref 0 3 0 0 (some uC)) rfl (.own0 0 _ _ _ (by decide)) ?_
    exact .mx hE1 [2] [0] []
   have hM1 : a0.map TPromise.d ≠ [] := by rw [hE1]; simp
   refine .px zS (apc hM1) [0] ?_
   refine ⟨(), ?_, trivial⟩
   refine Goes.wk 2 _ (.ref 0 3 0 a0.length (some uC)) rfl (.unk _ _ _ _ _) ?_
   exact .mx hE1 [2] [0] []
  have hq := sj h
  subst r
  refine .ret ⟨Tryz.Re_slices_Clone_Promise_Promise a0, ?_, .inr rfl, retH [0] ?_ ?_⟩
  ·exact .m [2] [0] []
  ·exact rsi0
  rfl
 have hE0 : a0 = [] := by simpa using hl
 obtain ⟨k1, h⟩ := zaa h
 refine .seq (.pl zS [0] ?_)
 refine .seq (.seq ?_)
 refine .pl zS [0] ?_
 refine .cond rfl rfl (fun hc => ?_) (fun hc => by cases hc)
 refine .seq (.pl zS [] ?_)
 have hq := sj h
 subst r
 refine .ret ⟨Tryz.Re_slices_Clone_Promise_Promise a0, ?_, .inr rfl, retH [0] ?_ ?_⟩
 ·refine Goes.new0 3 91 (lb rfl) ?_
  refine Goes.wk 2 _ (.ref 0 3 0 0 (some uC)) rfl (.own0 0 _ _ _ (by decide)) ?_
  exact .mx hE0 [2] [0] []
 ·exact rsi0
 rfl
@[go_sem] def Tryz.Re_attempt_Twin (r : TAttempt) : St := ⟨[(2, .ptr 3 0)], [(0, .arr 3 1 true (r.Members.map (D.int .i64))), (1, .arr 91 3 true (r.Promises.map TPromise.d)), (2, .arr 3 1 true (r.Accepted.map (D.int .i64))), (3, .box [.int .u8 r.Phase, .int .i64 r.Ballot, .ref 0 1 0 r.Members.length (some uC), .str r.Wish, .str r.Value, .ref 1 3 0 r.Promises.length (some uC), .ref 2 1 0 r.Accepted.length (some uC)])], 4⟩
theorem callH_attempt_Twin (a0 : TAttempt) (r : TAttempt) (h : m_attempt_Twin a0 = some r) : CallH Tryz.prog 35 [.agg [.int .u8 a0.Phase, .int .i64 a0.Ballot, .imm 1 (a0.Members.map (D.int .i64)) 4, .str a0.Wish, .str a0.Value, .imm 3 (a0.Promises.map TPromise.d) 4, .imm 1 (a0.Accepted.map (D.int .i64)) 4]] [] (.agg [.int .u8 r.Phase, .int .i64 r.Ballot, .ref 0 1 0 r.Members.length (some uC), .str r.Wish, .str r.Value, .ref 1 3 0 r.Promises.length (some uC), .ref 2 1 0 r.Accepted.length (some uC)]) [(0, some (.arr 3 1 true (r.Members.map (D.int .i64)))), (1, some (.arr 91 3 true (r.Promises.map TPromise.d))), (2, some (.arr 3 1 true (r.Accepted.map (D.int .i64))))] (0, 14) := by
 refine za8 Tryz.tmOk Tryz.func35 rfl (by decide) (lb rfl) (by simp) ?_
 intro hwf
 unfold m_attempt_Twin at h
 refine .ends 0 (Nat.le_refl _) ?_
 refine .seq (.pl zS [0] ?_)
 refine .seq ?_
 obtain ⟨v1, hv1, h⟩ := bind_some h
 obtain ⟨v2, hv2, h⟩ := bind_some h
 obtain ⟨v3, hv3, h⟩ := bind_some h
 refine .rg zS [1, 2] ?_
 refine .rd 2 ?_
 refine .ncall (r := .ref 3 1 0 v1.length (some uC)) (eff := [(3, some (.arr 3 1 true (v1.map (D.int .i64))))]) (nw := (3, 6)) [] rfl rfl rfl rfl rfl (za2 rfl zad) rfl (zbw 3 (lb rfl) (zbf a0.Members v1 hv1)) (zab rfl rfl (zag zar _ _ _) zbx) (by intro i hi; simp [D.ids, D.idsL] at hi <;> omega) rfl ⟨Nat.le_of_ble_eq_true rfl, Nat.le_of_ble_eq_true rfl⟩ ?_
 refine .rd 2 ?_
 refine .ncall (r := .ref 6 3 0 v2.length (some uC)) (eff := [(6, some (.arr 91 3 true (v2.map TPromise.d)))]) (nw := (6, 9)) [] rfl rfl rfl rfl rfl (za2 rfl zad) rfl (zbw 6 (lb rfl) (callH_slices_Clone_Promise_Promise a0.Promises v2 hv2)) (zab rfl rfl (zag zbu _ _ _) zbx) (by intro i hi; simp [D.ids, D.idsL] at hi <;> omega) rfl ⟨Nat.le_of_ble_eq_true rfl, Nat.le_of_ble_eq_true rfl⟩ ?_
 refine .rd 2 ?_
 refine .ncall (r := .ref 9 1 0 v3.length (some uC)) (eff := [(9, some (.arr 3 1 true (v3.map (D.int .i64))))]) (nw := (9, 12)) [] rfl rfl rfl rfl rfl (za2 rfl zad) rfl (zbw 9 (lb rfl) (zbf a0.Accepted v3 hv3)) (zab rfl rfl (zag zar _ _ _) zbx) (by intro i hi; simp [D.ids, D.idsL] at hi <;> omega) rfl ⟨Nat.le_of_ble_eq_true rfl, Nat.le_of_ble_eq_true rfl⟩ ?_
 refine .rd 6 ?_
 refine .nd ?_
 refine .seq (.pl zS [1, 2] ?_)
 have hq := sj h
 subst r
 refine .ret ⟨Tryz.Re_attempt_Twin (⟨a0.Phase, a0.Ballot, v1, a0.Wish, a0.Value, v2, v3⟩ : TAttempt), ?_, .inr rfl, retH [2, 1, 0] ?_ ?_⟩
 ·exact .m [2] [3, 6, 9, 1] [(3, 0), (6, 1), (9, 2), (1, 3)]
 ·exact rsi0
 rfl
theorem callP_attempt_Twin (a0 : TAttempt) (r : TAttempt) (h : m_attempt_Twin a0 = some r) : CallP Tryz.prog 35 [.agg [.int .u8 a0.Phase, .int .i64 a0.Ballot, .imm 1 (a0.Members.map (D.int .i64)) 4, .str a0.Wish, .str a0.Value, .imm 3 (a0.Promises.map TPromise.d) 4, .imm 1 (a0.Accepted.map (D.int .i64)) 4]] (.agg [.int .u8 r.Phase, .int .i64 r.Ballot, .imm 1 (r.Members.map (D.int .i64)) 12, .str r.Wish, .str r.Value, .imm 3 (r.Promises.map TPromise.d) 12, .imm 1 (r.Accepted.map (D.int .i64)) 12]) :=
 callP_frz (frz_agg (za1 rfl (za1 rfl (za1 (zap zar rfl rfl) (za1 rfl (za1 rfl (za1 (zap zbu rfl rfl) (za1 (zap zar rfl rfl) zc9)))))))) (callH_attempt_Twin a0 r h)
@[go_sem] def Tryz.Re_attempt_Begin (r : TAttempt × Int) : St := ⟨[(6, .ptr 3 0), (7, .int .i64 r.2)], [(0, .arr 3 1 true (r.1.Members.map (D.int .i64))), (1, .arr 91 3 true (r.1.Promises.map TPromise.d)), (2, .arr 3 1 true (r.1.Accepted.map (D.int .i64))), (3, .box [.int .u8 r.1.Phase, .int .i64 r.1.Ballot, .ref 0 1 0 r.1.Members.length (some uC), .str r.1.Wish, .str r.1.Value, .ref 1 3 0 r.1.Promises.length (some uC), .ref 2 1 0 r.1.Accepted.length (some uC)])], 4⟩
theorem callH_attempt_Begin (a0 : List Int) (a1 : Int) (a2 : List UInt8) (r : TAttempt × Int) (h : m_attempt_Begin a0 a1 a2 = some r) : CallH Tryz.prog 55 [.imm 1 (a0.map (D.int .i64)) 4, .int .i64 a1, .str a2] [] (.tuple [.agg [.int .u8 r.1.Phase, .int .i64 r.1.Ballot, .ref 0 1 0 r.1.Members.length (some uC), .str r.1.Wish, .str r.1.Value, .ref 1 3 0 r.1.Promises.length (some uC), .ref 2 1 0 r.1.Accepted.length (some uC)], .int .i64 r.2]) [(0, some (.arr 3 1 true (r.1.Members.map (D.int .i64)))), (1, some (.arr 91 3 true (r.1.Promises.map TPromise.d))), (2, some (.arr 3 1 true (r.1.Accepted.map (D.int .i64))))] (0, 10) := by
 refine za8 Tryz.tmOk Tryz.func55 rfl (by decide) (lb rfl) (by simp) ?_
 intro hwf
 unfold m_attempt_Begin at h
 refine .ends 0 (Nat.le_refl _) ?_
 refine .seq (.pl zS [0, 1, 2] ?_)
 refine .seq (.seq ?_)
 obtain ⟨v1, hv1, h⟩ := bind_some h
 refine .rg zS [0, 1, 2, 6] ?_
 refine .rn 1 ?_
 refine .call (r := .int .i64 v1) rfl rfl rfl rfl rfl rfl (callP_quorum_Check a0 v1 hv1) ?_
 refine .rn 1 ?_
 refine .nil ⟨nofun, ?_⟩
 refine .seq (.pl zS [0, 1, 2, 6, 8] ?_)
 refine .cond rfl rfl (fun hc1 => ?_) (fun hc1 => ?_)
 ·replace h := za0 h hc1
  refine .seq (.pl zS [6, 8] ?_)
  have hq := sj h
  subst r
  refine .ret ⟨Tryz.Re_attempt_Begin ((⟨0, 0, [], [], [], [], []⟩ : TAttempt), v1), ?_, .inr rfl, retH [2, 1, 0] ?_ ?_⟩
  ·refine Goes.new0 1 3 (lb rfl) ?_
   refine Goes.new0 3 91 (lb rfl) ?_
   refine Goes.new0 1 3 (lb rfl) ?_
   refine Goes.boxs 0 _ [.int .u8 0, .int .i64 0, .ref 1 1 0 0 (some uC), .str [], .str [], .ref 2 3 0 0 (some uC), .ref 3 1 0 0 (some uC)] rfl (.keep (.keep (.cons (.own0 1 _ _ _ (by decide)) (.keep (.keep (.cons (.own0 2 _ _ _ (by decide)) (.cons (.own0 3 _ _ _ (by decide)) (.refl _)))))))) ?_
   exact .m [6, 7] [1, 2, 3, 0] [(1, 0), (2, 1), (3, 2), (0, 3)]
  ·exact rsi0
  rfl
 replace h := za3 h hc1
 refine .skip ?_
 refine .seq (.seq ?_)
 obtain ⟨v2, hv2, h⟩ := bind_some h
 refine .rg zS [0, 1, 2, 6] ?_
 refine .rn 1 ?_
 refine .call (r := .int .i64 v2) rfl rfl rfl rfl rfl rfl (zc3 a1 v2 hv2) ?_
 refine .rn 1 ?_
 refine .nil ⟨nofun, ?_⟩
 refine .seq (.pl zS [0, 1, 2, 6, 9] ?_)
 refine .cond rfl rfl (fun hc2 => ?_) (fun hc2 => ?_)
 ·replace h := za0 h hc2
  refine .seq (.pl zS [6, 9] ?_)
  have hq := sj h
  subst r
  refine .ret ⟨Tryz.Re_attempt_Begin ((⟨0, 0, [], [], [], [], []⟩ : TAttempt), v2), ?_, .inr rfl, retH [2, 1, 0] ?_ ?_⟩
  ·refine Goes.new0 1 3 (lb rfl) ?_
   refine Goes.new0 3 91 (lb rfl) ?_
   refine Goes.new0 1 3 (lb rfl) ?_
   refine Goes.boxs 0 _ [.int .u8 0, .int .i64 0, .ref 1 1 0 0 (some uC), .str [], .str [], .ref 2 3 0 0 (some uC), .ref 3 1 0 0 (some uC)] rfl (.keep (.keep (.cons (.own0 1 _ _ _ (by decide)) (.keep (.keep (.cons (.own0 2 _ _ _ (by decide)) (.cons (.own0 3 _ _ _ (by decide)) (.refl _)))))))) ?_
   exact .m [6, 7] [1, 2, 3, 0] [(1, 0), (2, 1), (3, 2), (0, 3)]
  ·exact rsi0
  rfl
 replace h := za3 h hc2
 refine .skip ?_
 refine .seq (.seq ?_)
 refine .pl zS [0, 1, 2, 6] ?_
 refine .cond rfl rfl (fun hc3 => ?_) (fun hc3 => ?_)
 ·replace h := za0 h hc3
  refine .seq (.pl zS [6] ?_)
  have hq := sj h
  subst r
  refine .ret ⟨Tryz.Re_attempt_Begin ((⟨0, 0, [], [], [], [], []⟩ : TAttempt), 3), ?_, .inr rfl, retH [2, 1, 0] ?_ ?_⟩
  ·refine Goes.new0 1 3 (lb rfl) ?_
   refine Goes.new0 3 91 (lb rfl) ?_
   refine Goes.new0 1 3 (lb rfl) ?_
   refine Goes.boxs 0 _ [.int .u8 0, .int .i64 0, .ref 1 1 0 0 (some uC), .str [], .str [], .ref 2 3 0 0 (some uC), .ref 3 1 0 0 (some uC)] rfl (.keep (.keep (.cons (.own0 1 _ _ _ (by decide)) (.keep (.keep (.cons (.own0 2 _ _ _ (by decide)) (.cons (.own0 3 _ _ _ (by decide)) (.refl _)))))))) ?_
   exact .m [6, 7] [1, 2, 3, 0] [(1, 0), (2, 1), (3, 2), (0, 3)]
  ·exact rsi0
  rfl
 replace h := za3 h hc3
 refine .skip ?_
 refine .seq ?_
 obtain ⟨v3, hv3, h⟩ := bind_some h
 refine .rg zS [0, 1, 2, 6] ?_
 refine .rn 2 ?_
 refine .ncall (r := .ref 3 1 0 v3.length (some uC)) (eff := [(3, some (.arr 3 1 true (v3.map (D.int .i64))))]) (nw := (3, 6)) [] rfl rfl rfl rfl rfl (za2 rfl zad) rfl (zbw 3 (lb rfl) (zbf a0 v3 hv3)) (zab rfl rfl (zag zar _ _ _) zbx) (by intro i hi; simp [D.ids, D.idsL] at hi <;> omega) rfl ⟨Nat.le_of_ble_eq_true rfl, Nat.le_of_ble_eq_true rfl⟩ ?_
 refine .rn 4 ?_
 refine .nil ⟨nofun, ?_⟩
 have hq := sj h
 subst r
 refine .ret ⟨Tryz.Re_attempt_Begin ((⟨1, a1, v3, a2, [], [], []⟩ : TAttempt), 0), ?_, .inr rfl, retH [2, 1, 0] ?_ ?_⟩
 ·refine Goes.new0 3 91 (lb rfl) ?_
  refine Goes.new0 1 3 (lb rfl) ?_
  refine Goes.boxs 0 _ [.int .u8 1, .int .i64 a1, .ref 3 1 0 v3.length (some uC), .str a2, .str [], .ref 6 3 0 0 (some uC), .ref 7 1 0 0 (some uC)] rfl (.keep (.keep (.keep (.keep (.keep (.cons (.own0 6 _ _ _ (by decide)) (.cons (.own0 7 _ _ _ (by decide)) (.refl _)))))))) ?_
  exact .m [6, 7] [3, 6, 7, 0] [(3, 0), (6, 1), (7, 2), (0, 3)]
 ·exact rsi0
 rfl
theorem callP_attempt_Begin (a0 : List Int) (a1 : Int) (a2 : List UInt8) (r : TAttempt × Int) (h : m_attempt_Begin a0 a1 a2 = some r) : CallP Tryz.prog 55 [.imm 1 (a0.map (D.int .i64)) 4, .int .i64 a1, .str a2] (.tuple [.agg [.int .u8 r.1.Phase, .int .i64 r.1.Ballot, .imm 1 (r.1.Members.map (D.int .i64)) 12, .str r.1.Wish, .str r.1.Value, .imm 3 (r.1.Promises.map TPromise.d) 12, .imm 1 (r.1.Accepted.map (D.int .i64)) 12], .int .i64 r.2]) :=
 callP_frz (frz_tup (za1 (frz_agg (za1 rfl (za1 rfl (za1 (zap zar rfl rfl) (za1 rfl (za1 rfl (za1 (zap zbu rfl rfl) (za1 (zap zar rfl rfl) zc9)))))))) (za1 rfl zc9))) (callH_attempt_Begin a0 a1 a2 r h)
end Go.Proofs
end
section
namespace Go.Proofs
open Go.Tm
set_option linter.unusedVariables false
def zb0 (a : TAttempt) (p : TPromise) : Nat -> Int -> Option (Int)
 | 0, _ => none
 | fu1 + 1, n2 =>
  if (n2 < (a.Promises.length : Int)) -> (0 <= n2 /\ n2 < (a.Promises.length : Int)) then
  if (n2 < (a.Promises.length : Int)) /\ ((a.Promises.getD n2.toNat default).Node < p.Node) then
  zb0 a p fu1 (wr .i64 (n2 + 1))
  else
  some n2
  else none
def m_r08_Promised (a : TAttempt) (ballot : Int) (p : TPromise) : Option (TAttempt × Int) :=
 Option.bind (m_r08_May a) fun v1 =>
 if ¬ (v1 = true) then
 some ((⟨0, 0, [], [], [], [], []⟩ : TAttempt), 8)
 else
 Option.bind (if ¬ ((¬ (a.Phase = 1)) \/ (¬ (ballot = a.Ballot))) then m_r06_Has a.Members p.Node else some default) fun v2 =>
 if ((¬ (a.Phase = 1)) \/ (¬ (ballot = a.Ballot))) \/ (¬ (v2 = true)) then
 some ((⟨0, 0, [], [], [], [], []⟩ : TAttempt), 6)
 else
 Option.bind (m_r08_MayPromise p ballot) fun v3 =>
 if ¬ (v3 = true) then
 some ((⟨0, 0, [], [], [], [], []⟩ : TAttempt), 8)
 else
 Option.bind (m_r08_Twin a) fun v4 =>
 Option.bind (m_r08_nodes a.Promises) fun v5 =>
 Option.bind (m_r06_Has v5 p.Node) fun v6 =>
 if v6 = true then
 some (v4, 0)
 else
 Option.bind (α := Int) (zb0 a p (a.Promises.length + 1) 0) fun n1 =>
 if (0 <= n1 /\ n1 <= (a.Promises.length : Int)) then
 if (a.Promises.take n1.toNat).length * 32 <= 140737488355328 then
 if (a.Promises.take n1.toNat).length + [p].length < 1000000 then
 if (0 <= n1 /\ n1 <= (a.Promises.length : Int)) then
 if ((a.Promises.take n1.toNat) ++ [p]).length + (a.Promises.drop n1.toNat).length < 1000000 then
 Option.bind (α := Int × (List UInt8)) (Option.bind (m_r08_nodes (((a.Promises.take n1.toNat) ++ [p]) ++ (a.Promises.drop n1.toNat))) fun v7 =>
 Option.bind (m_r06_Counts a.Members v7) fun v8 =>
 if v8 = true then
 Option.bind (m_r08_Best (((a.Promises.take n1.toNat) ++ [p]) ++ (a.Promises.drop n1.toNat)) v4.Wish) fun v9 =>
 some (2, v9)
 else
 some (v4.Phase, v4.Value)) fun (n3, s1) =>
 some ((⟨n3, v4.Ballot, v4.Members, v4.Wish, s1, (((a.Promises.take n1.toNat) ++ [p]) ++ (a.Promises.drop n1.toNat)), v4.Accepted⟩ : TAttempt), 0)
 else none
 else none
 else none
 else none
 else none
def zb1 (a : TAttempt) (node : Int) : Nat -> Int -> Option (Int)
 | 0, _ => none
 | fu1 + 1, n2 =>
  if (n2 < (a.Accepted.length : Int)) -> (0 <= n2 /\ n2 < (a.Accepted.length : Int)) then
  if (n2 < (a.Accepted.length : Int)) /\ ((a.Accepted.getD n2.toNat default) < node) then
  zb1 a node fu1 (wr .i64 (n2 + 1))
  else
  some n2
  else none
def m_r08_Accepted (a : TAttempt) (ballot : Int) (node : Int) : Option (TAttempt × Int) :=
 Option.bind (m_r08_May a) fun v1 =>
 if ¬ (v1 = true) then
 some ((⟨0, 0, [], [], [], [], []⟩ : TAttempt), 8)
 else
 Option.bind (if ¬ ((a.Phase < 2) \/ (¬ (ballot = a.Ballot))) then m_r06_Has a.Members node else some default) fun v2 =>
 if ((a.Phase < 2) \/ (¬ (ballot = a.Ballot))) \/ (¬ (v2 = true)) then
 some ((⟨0, 0, [], [], [], [], []⟩ : TAttempt), 6)
 else
 Option.bind (m_r08_Twin a) fun v3 =>
 Option.bind (m_r06_Has a.Accepted node) fun v4 =>
 if v4 = true then
 some (v3, 0)
 else
 Option.bind (α := Int) (zb1 a node (a.Accepted.length + 1) 0) fun n1 =>
 if (0 <= n1 /\ n1 <= (a.Accepted.length : Int)) then
 if (a.Accepted.take n1.toNat).length * 8 <= 140737488355328 then
 if (a.Accepted.take n1.toNat).length + [node].length < 1000000 then
 if (0 <= n1 /\ n1 <= (a.Accepted.length : Int)) then
 if ((a.Accepted.take n1.toNat) ++ [node]).length + (a.Accepted.drop n1.toNat).length < 1000000 then
 Option.bind (α := Int) (Option.bind (m_r06_Counts a.Members (((a.Accepted.take n1.toNat) ++ [node]) ++ (a.Accepted.drop n1.toNat))) fun v5 =>
 if v5 = true then
 some 3
 else
 some v3.Phase) fun n3 =>
 some ((⟨n3, v3.Ballot, v3.Members, v3.Wish, v3.Value, v3.Promises, (((a.Accepted.take n1.toNat) ++ [node]) ++ (a.Accepted.drop n1.toNat))⟩ : TAttempt), 0)
 else none
 else none
 else none
 else none
 else none
end Go.Proofs
end
section
namespace Go.Proofs
open Go.Tm Go.RowKit Go.WideShapes
set_option maxRecDepth 100000
set_option maxHeartbeats 4000000
set_option linter.unusedSimpArgs false
set_option linter.unusedVariables false
@[go_sem] def Tryz.St_r08_Promised_1 (a : TAttempt) (p : TPromise) (v4 : TAttempt) (n1 : Int) : St := ⟨[(3, .ptr 0 0), (5, .ptr 1 0), (6, .ptr 2 0), (8, .ptr 16 0), (9, .int .i64 n1)], [(0, .box [.int .u8 a.Phase, .int .i64 a.Ballot, .imm 1 (a.Members.map (D.int .i64)) 4, .str a.Wish, .str a.Value, .imm 3 (a.Promises.map TPromise.d) 4, .imm 1 (a.Accepted.map (D.int .i64)) 4]), (1, .box [.int .i64 p.Node, .int .i64 p.Ballot, .str p.Value]), (2, .box [.int .u8 0, .int .i64 0, .imm 0 [] 0, .str [], .str [], .imm 0 [] 0, .imm 0 [] 0]), (8, .arr 3 1 true (v4.Members.map (D.int .i64))), (9, .arr 91 3 true (v4.Promises.map TPromise.d)), (10, .arr 3 1 true (v4.Accepted.map (D.int .i64))), (16, .box [.int .u8 v4.Phase, .int .i64 v4.Ballot, .ref 8 1 0 v4.Members.length (some uC), .str v4.Wish, .str v4.Value, .ref 9 3 0 v4.Promises.length (some uC), .ref 10 1 0 v4.Accepted.length (some uC)])], 22⟩
@[go_sem] def Tryz.St_r08_Promised_3 (a : TAttempt) (p : TPromise) (v4 : TAttempt) (n2 : Int) : St := ⟨[(3, .ptr 0 0), (5, .ptr 1 0), (6, .ptr 2 0), (8, .ptr 16 0), (9, .int .i64 n2)], [(0, .box [.int .u8 a.Phase, .int .i64 a.Ballot, .imm 1 (a.Members.map (D.int .i64)) 4, .str a.Wish, .str a.Value, .imm 3 (a.Promises.map TPromise.d) 4, .imm 1 (a.Accepted.map (D.int .i64)) 4]), (1, .box [.int .i64 p.Node, .int .i64 p.Ballot, .str p.Value]), (2, .box [.int .u8 0, .int .i64 0, .imm 0 [] 0, .str [], .str [], .imm 0 [] 0, .imm 0 [] 0]), (8, .arr 3 1 true (v4.Members.map (D.int .i64))), (9, .arr 91 3 true (v4.Promises.map TPromise.d)), (10, .arr 3 1 true (v4.Accepted.map (D.int .i64))), (16, .box [.int .u8 v4.Phase, .int .i64 v4.Ballot, .ref 8 1 0 v4.Members.length (some uC), .str v4.Wish, .str v4.Value, .ref 9 3 0 v4.Promises.length (some uC), .ref 10 1 0 v4.Accepted.length (some uC)])], 22⟩
@[go_sem] def Tryz.St_r08_Promised_5 (a : TAttempt) (p : TPromise) (v4 : TAttempt) (n1 : Int) (n3 : Int) (s1 : List UInt8) : St := ⟨[(6, .ptr 2 0), (8, .ptr 16 0)], [(2, .box [.int .u8 0, .int .i64 0, .imm 0 [] 0, .str [], .str [], .imm 0 [] 0, .imm 0 [] 0]), (8, .arr 3 1 true (v4.Members.map (D.int .i64))), (10, .arr 3 1 true (v4.Accepted.map (D.int .i64))), (16, .box [.int .u8 n3, .int .i64 v4.Ballot, .ref 8 1 0 v4.Members.length (some uC), .str v4.Wish, .str s1, .ref 25 3 0 ((((a.Promises.take n1.toNat) ++ [p]) ++ (a.Promises.drop n1.toNat)).length) (some uC), .ref 10 1 0 v4.Accepted.length (some uC)]), (25, .arr 91 3 true ((((a.Promises.take n1.toNat) ++ [p]) ++ (a.Promises.drop n1.toNat)).map TPromise.d))], 26⟩
@[go_sem] def Tryz.Re_r08_Promised (r : TAttempt × Int) : St := ⟨[(6, .ptr 3 0), (7, .int .i64 r.2)], [(0, .arr 3 1 true (r.1.Members.map (D.int .i64))), (1, .arr 91 3 true (r.1.Promises.map TPromise.d)), (2, .arr 3 1 true (r.1.Accepted.map (D.int .i64))), (3, .box [.int .u8 r.1.Phase, .int .i64 r.1.Ballot, .ref 0 1 0 r.1.Members.length (some uC), .str r.1.Wish, .str r.1.Value, .ref 1 3 0 r.1.Promises.length (some uC), .ref 2 1 0 r.1.Accepted.length (some uC)])], 4⟩
theorem callH_r08_Promised (a : TAttempt) (ballot : Int) (p : TPromise) (r : TAttempt × Int) (h : m_r08_Promised a ballot p = some r) : CallH Tryz.prog 91 [.agg [.int .u8 a.Phase, .int .i64 a.Ballot, .imm 1 (a.Members.map (D.int .i64)) 4, .str a.Wish, .str a.Value, .imm 3 (a.Promises.map TPromise.d) 4, .imm 1 (a.Accepted.map (D.int .i64)) 4], .int .i64 ballot, .agg [.int .i64 p.Node, .int .i64 p.Ballot, .str p.Value]] [] (.tuple [.agg [.int .u8 r.1.Phase, .int .i64 r.1.Ballot, .ref 0 1 0 r.1.Members.length (some uC), .str r.1.Wish, .str r.1.Value, .ref 1 3 0 r.1.Promises.length (some uC), .ref 2 1 0 r.1.Accepted.length (some uC)], .int .i64 r.2]) [(0, some (.arr 3 1 true (r.1.Members.map (D.int .i64)))), (1, some (.arr 91 3 true (r.1.Promises.map TPromise.d))), (2, some (.arr 3 1 true (r.1.Accepted.map (D.int .i64))))] (0, 33) := by
 refine za8 Tryz.tmOk Tryz.func91 rfl (by decide) (lb rfl) (by simp) ?_
 intro hwf
 unfold m_r08_Promised at h
 refine .ends 0 (Nat.le_refl _) ?_
 refine .seq (.pl zS [0, 1, 2] ?_)
 refine .seq (.seq ?_)
 obtain ⟨v1, hv1, h⟩ := bind_some h
 refine .rg zS [1, 3, 5, 6] ?_
 refine .rn 1 ?_
 refine .call (r := .bool v1) rfl rfl rfl rfl rfl rfl (callP_r08_May a v1 hv1) ?_
 refine .rn 1 ?_
 refine .nil ⟨nofun, ?_⟩
 refine .cond rfl rfl (fun hc1 => ?_) (fun hc1 => ?_)
 ·replace h := za0 h hc1
  refine .seq (.pl zS [6] ?_)
  have hq := sj h
  subst r
  refine .ret ⟨Tryz.Re_r08_Promised ((⟨0, 0, [], [], [], [], []⟩ : TAttempt), 8), ?_, .inr rfl, retH [2, 1, 0] ?_ ?_⟩
  ·refine Goes.new0 1 3 (lb rfl) ?_
   refine Goes.new0 3 91 (lb rfl) ?_
   refine Goes.new0 1 3 (lb rfl) ?_
   refine Goes.boxs 2 _ [.int .u8 0, .int .i64 0, .ref 3 1 0 0 (some uC), .str [], .str [], .ref 4 3 0 0 (some uC), .ref 5 1 0 0 (some uC)] rfl (.keep (.keep (.cons (.own0 3 _ _ _ (by decide)) (.keep (.keep (.cons (.own0 4 _ _ _ (by decide)) (.cons (.own0 5 _ _ _ (by decide)) (.refl _)))))))) ?_
   exact .m [6, 7] [3, 4, 5, 2] [(3, 0), (4, 1), (5, 2), (2, 3)]
  ·exact rsi0
  rfl
 replace h := za3 h hc1
 refine .skip ?_
 refine .seq (.seq ?_)
 obtain ⟨v2, hv2, h⟩ := bind_some h
 refine .rg zS [1, 3, 5, 6] ?_
 refine .rn 6 ?_
 refine .rn 8 ?_
 refine .gcall (r := .bool v2) rfl rfl rfl rfl rfl (fun hg => ⟨[], [.imm 1 (a.Members.map (D.int .i64)) 4, .int .i64 p.Node], _, rfl, gd hg, rfl, (callP_r06_Has a.Members p.Node v2 (za0 hv2 hg))⟩) ?_
 refine .rn 2 ?_
 refine .nil ⟨nofun, ?_⟩
 refine .cond rfl rfl (fun hc2 => ?_) (fun hc2 => ?_)
 ·replace h := za0 h hc2
  refine .seq (.pl zS [6] ?_)
  have hq := sj h
  subst r
  refine .ret ⟨Tryz.Re_r08_Promised ((⟨0, 0, [], [], [], [], []⟩ : TAttempt), 6), ?_, .inr rfl, retH [2, 1, 0] ?_ ?_⟩
  ·refine Goes.new0 1 3 (lb rfl) ?_
   refine Goes.new0 3 91 (lb rfl) ?_
   refine Goes.new0 1 3 (lb rfl) ?_
   refine Goes.boxs 2 _ [.int .u8 0, .int .i64 0, .ref 3 1 0 0 (some uC), .str [], .str [], .ref 4 3 0 0 (some uC), .ref 5 1 0 0 (some uC)] rfl (.keep (.keep (.cons (.own0 3 _ _ _ (by decide)) (.keep (.keep (.cons (.own0 4 _ _ _ (by decide)) (.cons (.own0 5 _ _ _ (by decide)) (.refl _)))))))) ?_
   exact .m [6, 7] [3, 4, 5, 2] [(3, 0), (4, 1), (5, 2), (2, 3)]
  ·exact rsi0
  rfl
 replace h := za3 h hc2
 refine .skip ?_
 refine .seq (.seq ?_)
 obtain ⟨v3, hv3, h⟩ := bind_some h
 refine .rg zS [1, 3, 5, 6] ?_
 refine .rn 2 ?_
 refine .call (r := .bool v3) rfl rfl rfl rfl rfl rfl (callP_r08_MayPromise p ballot v3 hv3) ?_
 refine .rn 1 ?_
 refine .nil ⟨nofun, ?_⟩
 refine .cond rfl rfl (fun hc3 => ?_) (fun hc3 => ?_)
 ·replace h := za0 h hc3
  refine .seq (.pl zS [6] ?_)
  have hq := sj h
  subst r
  refine .ret ⟨Tryz.Re_r08_Promised ((⟨0, 0, [], [], [], [], []⟩ : TAttempt), 8), ?_, .inr rfl, retH [2, 1, 0] ?_ ?_⟩
  ·refine Goes.new0 1 3 (lb rfl) ?_
   refine Goes.new0 3 91 (lb rfl) ?_
   refine Goes.new0 1 3 (lb rfl) ?_
   refine Goes.boxs 2 _ [.int .u8 0, .int .i64 0, .ref 3 1 0 0 (some uC), .str [], .str [], .ref 4 3 0 0 (some uC), .ref 5 1 0 0 (some uC)] rfl (.keep (.keep (.cons (.own0 3 _ _ _ (by decide)) (.keep (.keep (.cons (.own0 4 _ _ _ (by decide)) (.cons (.own0 5 _ _ _ (by decide)) (.refl _)))))))) ?_
   exact .m [6, 7] [3, 4, 5, 2] [(3, 0), (4, 1), (5, 2), (2, 3)]
  ·exact rsi0
  rfl
 replace h := za3 h hc3
 refine .skip ?_
 refine .seq ?_
 obtain ⟨v4, hv4, h⟩ := bind_some h
 refine .rg zS [3, 5, 6] ?_
 refine .rn 1 ?_
 refine .ncall (r := .agg [.int .u8 v4.Phase, .int .i64 v4.Ballot, .ref 8 1 0 v4.Members.length (some uC), .str v4.Wish, .str v4.Value, .ref 9 3 0 v4.Promises.length (some uC), .ref 10 1 0 v4.Accepted.length (some uC)]) (eff := [(8, some (.arr 3 1 true (v4.Members.map (D.int .i64)))), (9, some (.arr 91 3 true (v4.Promises.map TPromise.d))), (10, some (.arr 3 1 true (v4.Accepted.map (D.int .i64))))]) (nw := (8, 16)) [] rfl rfl rfl rfl rfl (za2 rfl zad) rfl (zbw 8 (lb rfl) (callH_r08_Twin a v4 hv4)) (zab rfl rfl (zag zar _ _ _) (zab rfl rfl (zag zbu _ _ _) (zab rfl rfl (zag zar _ _ _) zbx))) (by intro i hi; simp [D.ids, D.idsL] at hi <;> omega) rfl ⟨Nat.le_of_ble_eq_true rfl, Nat.le_of_ble_eq_true rfl⟩ ?_
 refine .rn 2 ?_
 refine .nil ⟨nofun, ?_⟩
 refine .seq (.seq ?_)
 obtain ⟨v5, hv5, h⟩ := bind_some h
 obtain ⟨v6, hv6, h⟩ := bind_some h
 refine .rg zS [3, 5, 6, 8] ?_
 refine .rd 2 ?_
 refine .ncall (r := .ref 17 1 0 v5.length (some uC)) (eff := [(17, some (.arr 3 1 true (v5.map (D.int .i64))))]) (nw := (17, 22)) [] rfl rfl rfl rfl rfl (za2 rfl zad) rfl (zbw 17 (lb rfl) (callH_r08_nodes a.Promises v5 hv5)) (zab rfl rfl (zag zar _ _ _) zbx) (by intro i hi; simp [D.ids, D.idsL] at hi <;> omega) rfl ⟨Nat.le_of_ble_eq_true rfl, Nat.le_of_ble_eq_true rfl⟩ ?_
 refine .rd 2 ?_
 refine .lcall (r := .bool v6) [] rfl rfl rfl rfl rfl (za2 (zc8 (zax (pl_int .i64) (by first | rfl | (simp only [go_sem, Nat.reduceBEq]; rfl)) (by first | rfl | (simp; done) | (simp <;> omega))) trivial) (za2 rfl zad)) rfl (callP_r06_Has v5 p.Node v6 hv6) ?_
 refine .nd ?_
 refine .cond rfl rfl (fun hc4 => ?_) (fun hc4 => ?_)
 ·replace h := za0 h hc4
  refine .seq (.pl zS [6, 8] ?_)
  have hq := sj h
  subst r
  refine .ret ⟨Tryz.Re_r08_Promised (v4, 0), ?_, .inr rfl, retH [2, 1, 0] ?_ ?_⟩
  ·exact .m [6, 7] [8, 9, 10, 2] [(8, 0), (9, 1), (10, 2), (2, 3)]
  ·exact rsi0
  rfl
 replace h := za3 h hc4
 refine .skip ?_
 refine .seq (.pl zS [3, 5, 6, 8] ?_)
 obtain ⟨x1, hx1, h⟩ := bind_some h
 refine .seqM 22 (fun (j : Int) => Tryz.St_r08_Promised_1 a p v4 j) (fun j => x1 = j) (lb rfl) ?_ ?_
 ·refine .block ?_
  refine .loopG 22 (fun (j : Nat × Int) => Tryz.St_r08_Promised_3 a p v4 j.2) (fun j => zb0 a p j.1 j.2 = some x1) (fun j => j.1) (a.Promises.length + 1, 0) (lb rfl) ?_ hx1 ?_
  ·exact .m [3, 5, 6, 8, 9] [0, 1, 2, 8, 9, 10, 16] []
  rintro ⟨fu1, n2⟩ hx1
  simp only [Tryz.St_r08_Promised_3]
  try simp only at hx1
  obtain ⟨fu1, rfl⟩ : ∃ k, fu1 = k + 1 := by cases fu1 with | zero => (rw [zb0] at hx1; cases hx1) | succ k => exact ⟨k, rfl⟩
  rw [zb0] at hx1
  refine .seq ?_
  obtain ⟨k2, hx1⟩ := zaa hx1
  refine .seqM 22 (fun (_ : Unit) => ⟨[(3, .ptr 0 0), (5, .ptr 1 0), (6, .ptr 2 0), (8, .ptr 16 0), (9, .int .i64 n2), (61, .bool ((decide (n2 < (a.Promises.length : Int))) && (decide ((a.Promises.getD n2.toNat default).Node < p.Node))))], [(0, .box [.int .u8 a.Phase, .int .i64 a.Ballot, .imm 1 (a.Members.map (D.int .i64)) 4, .str a.Wish, .str a.Value, .imm 3 (a.Promises.map TPromise.d) 4, .imm 1 (a.Accepted.map (D.int .i64)) 4]), (1, .box [.int .i64 p.Node, .int .i64 p.Ballot, .str p.Value]), (2, .box [.int .u8 0, .int .i64 0, .imm 0 [] 0, .str [], .str [], .imm 0 [] 0, .imm 0 [] 0]), (8, .arr 3 1 true (v4.Members.map (D.int .i64))), (9, .arr 91 3 true (v4.Promises.map TPromise.d)), (10, .arr 3 1 true (v4.Accepted.map (D.int .i64))), (16, .box [.int .u8 v4.Phase, .int .i64 v4.Ballot, .ref 8 1 0 v4.Members.length (some uC), .str v4.Wish, .str v4.Value, .ref 9 3 0 v4.Promises.length (some uC), .ref 10 1 0 v4.Accepted.length (some uC)])], 22⟩) (fun _ => True) (lb rfl) ?_ (fun _ _ => ?_)
  ·by_cases hgd : n2 < (a.Promises.length : Int)
   ·have eg10 := zaj TPromise.d a.Promises n2 (k2 hgd)
    refine .rg zS [3, 5, 6, 8, 9] ?_
    refine .rdx 6 eg10 ?_
    refine .rdx 6 eg10 ?_
    refine .rdx 4 eg10 ?_
    refine .nd ?_
    refine ⟨(), ?_, trivial⟩
    exact .m [3, 5, 6, 8, 9, 61] [0, 1, 2, 8, 9, 10, 16] []
   have hgf1 : (decide (n2 < (a.Promises.length : Int))) = false := by first | simpa using hgd | (simp at hgd ⊢; omega) | grind
   rcases nth_or TPromise.d a.Promises n2.toNat with eg10 | eg10
   ·refine .rg zS [3, 5, 6, 8, 9] ?_
    refine .rdx 6 (And.intro eg10 hgf1) ?_
    refine .rdx 6 (And.intro eg10 hgf1) ?_
    refine .rdx 4 (And.intro eg10 hgf1) ?_
    refine .nd ?_
    refine ⟨(), ?_, trivial⟩
    exact .mx hgf1 [3, 5, 6, 8, 9, 61] [0, 1, 2, 8, 9, 10, 16] []
   refine .rg zS [3, 5, 6, 8, 9] ?_
   refine .rdx 6 (And.intro eg10 hgf1) ?_
   refine .rdx 6 (And.intro eg10 hgf1) ?_
   refine .rdx 4 (And.intro eg10 hgf1) ?_
   refine .nd ?_
   refine ⟨(), ?_, trivial⟩
   exact .mx hgf1 [3, 5, 6, 8, 9, 61] [0, 1, 2, 8, 9, 10, 16] []
  refine .cond rfl rfl (fun hc5 => ?_) (fun hc5 => ?_)
  ·replace hx1 := za0 hx1 hc5
   refine .skip ?_
   refine .block ?_
   refine .pl zS [3, 5, 6, 8, 9] ?_
   refine ⟨(fu1, _), ?_, hx1, by dsimp only; omega⟩
   exact .m [3, 5, 6, 8, 9] [0, 1, 2, 8, 9, 10, 16] []
  replace hx1 := za3 hx1 hc5
  refine .exit ?_
  refine ⟨_, ?_, (sj hx1).symm⟩
  exact .m [3, 5, 6, 8, 9] [0, 1, 2, 8, 9, 10, 16] []
 rintro n1 hj1
 subst x1
 try dsimp only at h
 simp only [Tryz.St_r08_Promised_1]
 obtain ⟨k3, h⟩ := zaa h
 obtain ⟨k4, h⟩ := zaa h
 refine .seqM 22 (fun (_ : Unit) => ⟨[(3, .ptr 0 0), (5, .ptr 1 0), (6, .ptr 2 0), (8, .ptr 16 0), (9, .int .i64 n1)], [(0, .box [.int .u8 a.Phase, .int .i64 a.Ballot, .imm 1 (a.Members.map (D.int .i64)) 4, .str a.Wish, .str a.Value, .imm 3 (a.Promises.map TPromise.d) 4, .imm 1 (a.Accepted.map (D.int .i64)) 4]), (1, .box [.int .i64 p.Node, .int .i64 p.Ballot, .str p.Value]), (2, .box [.int .u8 0, .int .i64 0, .imm 0 [] 0, .str [], .str [], .imm 0 [] 0, .imm 0 [] 0]), (8, .arr 3 1 true (v4.Members.map (D.int .i64))), (10, .arr 3 1 true (v4.Accepted.map (D.int .i64))), (16, .box [.int .u8 v4.Phase, .int .i64 v4.Ballot, .ref 8 1 0 v4.Members.length (some uC), .str v4.Wish, .str v4.Value, .ref 22 3 0 ((a.Promises.take n1.toNat).length) (some uC), .ref 10 1 0 v4.Accepted.length (some uC)]), (22, .arr 91 3 true ((a.Promises.take n1.toNat).map TPromise.d))], 23⟩) (fun _ => True) (lb rfl) ?_ (fun _ _ => ?_)
 ·rcases zam (a.Promises.take n1.toNat) with hE1 | ⟨y, ys, hE1⟩
  ·have hM1 : (a.Promises.take n1.toNat).map TPromise.d = [] := by rw [hE1]; simp
   refine .pp zS [3, 5, 6, 8, 9] (by intro q hq; simp only [go_sem, Nat.reduceSub, Int.reduceEq, Nat.reduceLT, Nat.reduceDiv, Nat.reduceAdd, Nat.reduceBEq, Nat.reduceLeDiff, reduceCtorEq, Nat.reduceEqDiff, Nat.reduceMod, Nat.reduceMul, Tryz.tm_55, Tryz.tm_57, drop_map, take_map, take_map_len, List.take_length, Int.toNat_zero, appendD_nil hM1, TAttempt.d, TPromise.d]; exact hq) ?_
   refine ⟨(), ?_, trivial⟩
   refine Goes.new0 3 91 (lb rfl) ?_
   refine Goes.boxs 16 _ [.int .u8 v4.Phase, .int .i64 v4.Ballot, .ref 8 1 0 v4.Members.length (some uC), .str v4.Wish, .str v4.Value, .ref 22 3 0 0 (some uC), .ref 10 1 0 v4.Accepted.length (some uC)] rfl (.keep (.keep (.keep (.keep (.keep (.cons (.own0 22 _ _ _ (by decide)) (.refl _))))))) ?_
   exact .mx hE1 [3, 5, 6, 8, 9] [0, 1, 2, 8, 10, 16, 22] []
  have hM1 : (a.Promises.take n1.toNat).map TPromise.d ≠ [] := by rw [hE1]; simp
  refine .pp zS [3, 5, 6, 8, 9] (by intro q hq; simp only [go_sem, Nat.reduceSub, Int.reduceEq, Nat.reduceLT, Nat.reduceDiv, Nat.reduceAdd, Nat.reduceBEq, Nat.reduceLeDiff, reduceCtorEq, Nat.reduceEqDiff, Nat.reduceMod, Nat.reduceMul, Tryz.tm_55, Tryz.tm_57, drop_map, take_map, take_map_len, List.take_length, Int.toNat_zero, appendD_cons hM1, TAttempt.d, TPromise.d]; exact hq) ?_
  refine ⟨(), ?_, trivial⟩
  refine Goes.boxs 16 _ [.int .u8 v4.Phase, .int .i64 v4.Ballot, .ref 8 1 0 v4.Members.length (some uC), .str v4.Wish, .str v4.Value, .ref 22 3 0 ((a.Promises.take n1.toNat).length) (some uC), .ref 10 1 0 v4.Accepted.length (some uC)] rfl (.keep (.keep (.keep (.keep (.keep (.cons (.unk _ _ _ _ _) (.refl _))))))) ?_
  exact .mx hE1 [3, 5, 6, 8, 9] [0, 1, 2, 8, 10, 16, 22] []
 refine .seq ?_
 obtain ⟨k5, h⟩ := zaa h
 refine .pl zS [3, 5, 6, 8, 9] ?_
 refine .seq ?_
 obtain ⟨k6, h⟩ := zaa h
 obtain ⟨k7, h⟩ := zaa h
 refine .rg zS [3, 6, 8, 9] ?_
 refine .rd 6 ?_
 refine .rd 3 ?_
 refine .nd ?_
 obtain ⟨x2, hx2, h⟩ := bind_some h
 refine .seqM 26 (fun (j : Int × (List UInt8)) => Tryz.St_r08_Promised_5 a p v4 n1 j.1 j.2) (fun j => x2 = j) (lb rfl) ?_ ?_
 ·refine .seq ?_
  obtain ⟨v7, hv7, hx2⟩ := bind_some hx2
  obtain ⟨v8, hv8, hx2⟩ := bind_some hx2
  refine .rg zS [3, 6, 8] ?_
  refine .rd 4 ?_
  refine .ncall (r := .ref 26 1 0 v7.length (some uC)) (eff := [(26, some (.arr 3 1 true (v7.map (D.int .i64))))]) (nw := (26, 31)) [] rfl rfl rfl rfl rfl (za2 (zc8 (zax pl_TPromise (by first | rfl | (simp only [go_sem, Nat.reduceBEq]; rfl)) (by first | rfl | (simp; done) | (simp <;> omega))) trivial) zad) rfl (zbw 26 (lb rfl) (callH_r08_nodes (((a.Promises.take n1.toNat) ++ [p]) ++ (a.Promises.drop n1.toNat)) v7 hv7)) (zab rfl rfl (zag zar _ _ _) zbx) (by intro i hi; simp [D.ids, D.idsL] at hi <;> omega) rfl ⟨Nat.le_of_ble_eq_true rfl, Nat.le_of_ble_eq_true rfl⟩ ?_
  refine .rd 0 ?_
  refine .lcall (r := .bool v8) [] rfl rfl rfl rfl rfl (za2 rfl (za2 (zc8 (zax (pl_int .i64) (by first | rfl | (simp only [go_sem, Nat.reduceBEq]; rfl)) (by first | rfl | (simp; done) | (simp <;> omega))) trivial) zad)) rfl (callP_r06_Counts a.Members v7 v8 hv8) ?_
  refine .nd ?_
  refine .cond rfl rfl (fun hc6 => ?_) (fun hc6 => ?_)
  ·replace hx2 := za0 hx2 hc6
   refine .seq (.pl zS [6, 8] ?_)
   obtain ⟨v9, hv9, hx2⟩ := bind_some hx2
   refine .rg zS [6, 8] ?_
   refine .rn 4 ?_
   refine .lcall (r := .str v9) [] rfl rfl rfl rfl rfl (za2 (zc8 (zax pl_TPromise (by first | rfl | (simp only [go_sem, Nat.reduceBEq]; rfl)) (by first | rfl | (simp; done) | (simp <;> omega))) trivial) (za2 rfl zad)) rfl (callP_r08_Best (((a.Promises.take n1.toNat) ++ [p]) ++ (a.Promises.drop n1.toNat)) v4.Wish v9 hv9) ?_
   refine .rn 2 ?_
   refine .nil ⟨nofun, ?_⟩
   refine ⟨_, ?_, (sj hx2).symm⟩
   exact .m [6, 8] [2, 8, 10, 16, 25] []
  replace hx2 := za3 hx2 hc6
  refine .skip ?_
  refine ⟨_, ?_, (sj hx2).symm⟩
  exact .m [6, 8] [2, 8, 10, 16, 25] []
 rintro ⟨n3, s1⟩ hj2
 subst x2
 try dsimp only at h
 simp only [Tryz.St_r08_Promised_5]
 refine .seq (.pl zS [6, 8] ?_)
 have hq := sj h
 subst r
 refine .ret ⟨Tryz.Re_r08_Promised ((⟨n3, v4.Ballot, v4.Members, v4.Wish, s1, (((a.Promises.take n1.toNat) ++ [p]) ++ (a.Promises.drop n1.toNat)), v4.Accepted⟩ : TAttempt), 0), ?_, .inr rfl, retH [2, 1, 0] ?_ ?_⟩
 ·exact .m [6, 7] [8, 25, 10, 2] [(8, 0), (25, 1), (10, 2), (2, 3)]
 ·exact rsi0
 rfl
theorem callP_r08_Promised (a : TAttempt) (ballot : Int) (p : TPromise) (r : TAttempt × Int) (h : m_r08_Promised a ballot p = some r) : CallP Tryz.prog 91 [.agg [.int .u8 a.Phase, .int .i64 a.Ballot, .imm 1 (a.Members.map (D.int .i64)) 4, .str a.Wish, .str a.Value, .imm 3 (a.Promises.map TPromise.d) 4, .imm 1 (a.Accepted.map (D.int .i64)) 4], .int .i64 ballot, .agg [.int .i64 p.Node, .int .i64 p.Ballot, .str p.Value]] (.tuple [.agg [.int .u8 r.1.Phase, .int .i64 r.1.Ballot, .imm 1 (r.1.Members.map (D.int .i64)) 12, .str r.1.Wish, .str r.1.Value, .imm 3 (r.1.Promises.map TPromise.d) 12, .imm 1 (r.1.Accepted.map (D.int .i64)) 12], .int .i64 r.2]) :=
 callP_frz (frz_tup (za1 (frz_agg (za1 rfl (za1 rfl (za1 (zap zar rfl rfl) (za1 rfl (za1 rfl (za1 (zap zbu rfl rfl) (za1 (zap zar rfl rfl) zc9)))))))) (za1 rfl zc9))) (callH_r08_Promised a ballot p r h)
@[go_sem] def Tryz.St_r08_Accepted_1 (a : TAttempt) (node : Int) (v3 : TAttempt) (n1 : Int) : St := ⟨[(2, .int .i64 node), (3, .ptr 0 0), (6, .ptr 1 0), (8, .ptr 16 0), (9, .int .i64 n1)], [(0, .box [.int .u8 a.Phase, .int .i64 a.Ballot, .imm 1 (a.Members.map (D.int .i64)) 4, .str a.Wish, .str a.Value, .imm 3 (a.Promises.map TPromise.d) 4, .imm 1 (a.Accepted.map (D.int .i64)) 4]), (1, .box [.int .u8 0, .int .i64 0, .imm 0 [] 0, .str [], .str [], .imm 0 [] 0, .imm 0 [] 0]), (8, .arr 3 1 true (v3.Members.map (D.int .i64))), (9, .arr 91 3 true (v3.Promises.map TPromise.d)), (10, .arr 3 1 true (v3.Accepted.map (D.int .i64))), (16, .box [.int .u8 v3.Phase, .int .i64 v3.Ballot, .ref 8 1 0 v3.Members.length (some uC), .str v3.Wish, .str v3.Value, .ref 9 3 0 v3.Promises.length (some uC), .ref 10 1 0 v3.Accepted.length (some uC)])], 17⟩
@[go_sem] def Tryz.St_r08_Accepted_3 (a : TAttempt) (node : Int) (v3 : TAttempt) (n2 : Int) : St := ⟨[(2, .int .i64 node), (3, .ptr 0 0), (6, .ptr 1 0), (8, .ptr 16 0), (9, .int .i64 n2)], [(0, .box [.int .u8 a.Phase, .int .i64 a.Ballot, .imm 1 (a.Members.map (D.int .i64)) 4, .str a.Wish, .str a.Value, .imm 3 (a.Promises.map TPromise.d) 4, .imm 1 (a.Accepted.map (D.int .i64)) 4]), (1, .box [.int .u8 0, .int .i64 0, .imm 0 [] 0, .str [], .str [], .imm 0 [] 0, .imm 0 [] 0]), (8, .arr 3 1 true (v3.Members.map (D.int .i64))), (9, .arr 91 3 true (v3.Promises.map TPromise.d)), (10, .arr 3 1 true (v3.Accepted.map (D.int .i64))), (16, .box [.int .u8 v3.Phase, .int .i64 v3.Ballot, .ref 8 1 0 v3.Members.length (some uC), .str v3.Wish, .str v3.Value, .ref 9 3 0 v3.Promises.length (some uC), .ref 10 1 0 v3.Accepted.length (some uC)])], 17⟩
@[go_sem] def Tryz.St_r08_Accepted_5 (a : TAttempt) (node : Int) (v3 : TAttempt) (n1 : Int) (n3 : Int) : St := ⟨[(6, .ptr 1 0), (8, .ptr 16 0)], [(1, .box [.int .u8 0, .int .i64 0, .imm 0 [] 0, .str [], .str [], .imm 0 [] 0, .imm 0 [] 0]), (8, .arr 3 1 true (v3.Members.map (D.int .i64))), (9, .arr 91 3 true (v3.Promises.map TPromise.d)), (16, .box [.int .u8 n3, .int .i64 v3.Ballot, .ref 8 1 0 v3.Members.length (some uC), .str v3.Wish, .str v3.Value, .ref 9 3 0 v3.Promises.length (some uC), .ref 20 1 0 ((((a.Accepted.take n1.toNat) ++ [node]) ++ (a.Accepted.drop n1.toNat)).length) (some uC)]), (20, .arr 3 1 true ((((a.Accepted.take n1.toNat) ++ [node]) ++ (a.Accepted.drop n1.toNat)).map (D.int .i64)))], 21⟩
@[go_sem] def Tryz.Re_r08_Accepted (r : TAttempt × Int) : St := ⟨[(6, .ptr 3 0), (7, .int .i64 r.2)], [(0, .arr 3 1 true (r.1.Members.map (D.int .i64))), (1, .arr 91 3 true (r.1.Promises.map TPromise.d)), (2, .arr 3 1 true (r.1.Accepted.map (D.int .i64))), (3, .box [.int .u8 r.1.Phase, .int .i64 r.1.Ballot, .ref 0 1 0 r.1.Members.length (some uC), .str r.1.Wish, .str r.1.Value, .ref 1 3 0 r.1.Promises.length (some uC), .ref 2 1 0 r.1.Accepted.length (some uC)])], 4⟩
theorem callH_r08_Accepted (a : TAttempt) (ballot : Int) (node : Int) (r : TAttempt × Int) (h : m_r08_Accepted a ballot node = some r) : CallH Tryz.prog 66 [.agg [.int .u8 a.Phase, .int .i64 a.Ballot, .imm 1 (a.Members.map (D.int .i64)) 4, .str a.Wish, .str a.Value, .imm 3 (a.Promises.map TPromise.d) 4, .imm 1 (a.Accepted.map (D.int .i64)) 4], .int .i64 ballot, .int .i64 node] [] (.tuple [.agg [.int .u8 r.1.Phase, .int .i64 r.1.Ballot, .ref 0 1 0 r.1.Members.length (some uC), .str r.1.Wish, .str r.1.Value, .ref 1 3 0 r.1.Promises.length (some uC), .ref 2 1 0 r.1.Accepted.length (some uC)], .int .i64 r.2]) [(0, some (.arr 3 1 true (r.1.Members.map (D.int .i64)))), (1, some (.arr 91 3 true (r.1.Promises.map TPromise.d))), (2, some (.arr 3 1 true (r.1.Accepted.map (D.int .i64))))] (0, 23) := by
 refine za8 Tryz.tmOk Tryz.func66 rfl (by decide) (lb rfl) (by simp) ?_
 intro hwf
 unfold m_r08_Accepted at h
 refine .ends 0 (Nat.le_refl _) ?_
 refine .seq (.pl zS [0, 1, 2] ?_)
 refine .seq (.seq ?_)
 obtain ⟨v1, hv1, h⟩ := bind_some h
 refine .rg zS [1, 2, 3, 6] ?_
 refine .rn 1 ?_
 refine .call (r := .bool v1) rfl rfl rfl rfl rfl rfl (callP_r08_May a v1 hv1) ?_
 refine .rn 1 ?_
 refine .nil ⟨nofun, ?_⟩
 refine .cond rfl rfl (fun hc1 => ?_) (fun hc1 => ?_)
 ·replace h := za0 h hc1
  refine .seq (.pl zS [6] ?_)
  have hq := sj h
  subst r
  refine .ret ⟨Tryz.Re_r08_Accepted ((⟨0, 0, [], [], [], [], []⟩ : TAttempt), 8), ?_, .inr rfl, retH [2, 1, 0] ?_ ?_⟩
  ·refine Goes.new0 1 3 (lb rfl) ?_
   refine Goes.new0 3 91 (lb rfl) ?_
   refine Goes.new0 1 3 (lb rfl) ?_
   refine Goes.boxs 1 _ [.int .u8 0, .int .i64 0, .ref 2 1 0 0 (some uC), .str [], .str [], .ref 3 3 0 0 (some uC), .ref 4 1 0 0 (some uC)] rfl (.keep (.keep (.cons (.own0 2 _ _ _ (by decide)) (.keep (.keep (.cons (.own0 3 _ _ _ (by decide)) (.cons (.own0 4 _ _ _ (by decide)) (.refl _)))))))) ?_
   exact .m [6, 7] [2, 3, 4, 1] [(2, 0), (3, 1), (4, 2), (1, 3)]
  ·exact rsi0
  rfl
 replace h := za3 h hc1
 refine .skip ?_
 refine .seq (.seq ?_)
 obtain ⟨v2, hv2, h⟩ := bind_some h
 refine .rg zS [1, 2, 3, 6] ?_
 refine .rn 6 ?_
 refine .rn 7 ?_
 refine .gcall (r := .bool v2) rfl rfl rfl rfl rfl (fun hg => ⟨[], [.imm 1 (a.Members.map (D.int .i64)) 4, .int .i64 node], _, rfl, gd hg, rfl, (callP_r06_Has a.Members node v2 (za0 hv2 hg))⟩) ?_
 refine .rn 2 ?_
 refine .nil ⟨nofun, ?_⟩
 refine .cond rfl rfl (fun hc2 => ?_) (fun hc2 => ?_)
 ·replace h := za0 h hc2
  refine .seq (.pl zS [6] ?_)
  have hq := sj h
  subst r
  refine .ret ⟨Tryz.Re_r08_Accepted ((⟨0, 0, [], [], [], [], []⟩ : TAttempt), 6), ?_, .inr rfl, retH [2, 1, 0] ?_ ?_⟩
  ·refine Goes.new0 1 3 (lb rfl) ?_
   refine Goes.new0 3 91 (lb rfl) ?_
   refine Goes.new0 1 3 (lb rfl) ?_
   refine Goes.boxs 1 _ [.int .u8 0, .int .i64 0, .ref 2 1 0 0 (some uC), .str [], .str [], .ref 3 3 0 0 (some uC), .ref 4 1 0 0 (some uC)] rfl (.keep (.keep (.cons (.own0 2 _ _ _ (by decide)) (.keep (.keep (.cons (.own0 3 _ _ _ (by decide)) (.cons (.own0 4 _ _ _ (by decide)) (.refl _)))))))) ?_
   exact .m [6, 7] [2, 3, 4, 1] [(2, 0), (3, 1), (4, 2), (1, 3)]
  ·exact rsi0
  rfl
 replace h := za3 h hc2
 refine .skip ?_
 refine .seq ?_
 obtain ⟨v3, hv3, h⟩ := bind_some h
 refine .rg zS [2, 3, 6] ?_
 refine .rn 1 ?_
 refine .ncall (r := .agg [.int .u8 v3.Phase, .int .i64 v3.Ballot, .ref 8 1 0 v3.Members.length (some uC), .str v3.Wish, .str v3.Value, .ref 9 3 0 v3.Promises.length (some uC), .ref 10 1 0 v3.Accepted.length (some uC)]) (eff := [(8, some (.arr 3 1 true (v3.Members.map (D.int .i64)))), (9, some (.arr 91 3 true (v3.Promises.map TPromise.d))), (10, some (.arr 3 1 true (v3.Accepted.map (D.int .i64))))]) (nw := (8, 16)) [] rfl rfl rfl rfl rfl (za2 rfl zad) rfl (zbw 8 (lb rfl) (callH_r08_Twin a v3 hv3)) (zab rfl rfl (zag zar _ _ _) (zab rfl rfl (zag zbu _ _ _) (zab rfl rfl (zag zar _ _ _) zbx))) (by intro i hi; simp [D.ids, D.idsL] at hi <;> omega) rfl ⟨Nat.le_of_ble_eq_true rfl, Nat.le_of_ble_eq_true rfl⟩ ?_
 refine .rn 2 ?_
 refine .nil ⟨nofun, ?_⟩
 refine .seq (.seq ?_)
 obtain ⟨v4, hv4, h⟩ := bind_some h
 refine .rg zS [2, 3, 6, 8] ?_
 refine .rn 3 ?_
 refine .call (r := .bool v4) rfl rfl rfl rfl rfl rfl (callP_r06_Has a.Accepted node v4 hv4) ?_
 refine .nil ⟨nofun, ?_⟩
 refine .cond rfl rfl (fun hc3 => ?_) (fun hc3 => ?_)
 ·replace h := za0 h hc3
  refine .seq (.pl zS [6, 8] ?_)
  have hq := sj h
  subst r
  refine .ret ⟨Tryz.Re_r08_Accepted (v3, 0), ?_, .inr rfl, retH [2, 1, 0] ?_ ?_⟩
  ·exact .m [6, 7] [8, 9, 10, 1] [(8, 0), (9, 1), (10, 2), (1, 3)]
  ·exact rsi0
  rfl
 replace h := za3 h hc3
 refine .skip ?_
 refine .seq (.pl zS [2, 3, 6, 8] ?_)
 obtain ⟨x1, hx1, h⟩ := bind_some h
 refine .seqM 17 (fun (j : Int) => Tryz.St_r08_Accepted_1 a node v3 j) (fun j => x1 = j) (lb rfl) ?_ ?_
 ·refine .block ?_
  refine .loopG 17 (fun (j : Nat × Int) => Tryz.St_r08_Accepted_3 a node v3 j.2) (fun j => zb1 a node j.1 j.2 = some x1) (fun j => j.1) (a.Accepted.length + 1, 0) (lb rfl) ?_ hx1 ?_
  ·exact .m [2, 3, 6, 8, 9] [0, 1, 8, 9, 10, 16] []
  rintro ⟨fu1, n2⟩ hx1
  simp only [Tryz.St_r08_Accepted_3]
  try simp only at hx1
  obtain ⟨fu1, rfl⟩ : ∃ k, fu1 = k + 1 := by cases fu1 with | zero => (rw [zb1] at hx1; cases hx1) | succ k => exact ⟨k, rfl⟩
  rw [zb1] at hx1
  refine .seq ?_
  obtain ⟨k2, hx1⟩ := zaa hx1
  refine .seqM 17 (fun (_ : Unit) => ⟨[(2, .int .i64 node), (3, .ptr 0 0), (6, .ptr 1 0), (8, .ptr 16 0), (9, .int .i64 n2), (51, .bool ((decide (n2 < (a.Accepted.length : Int))) && (decide ((a.Accepted.getD n2.toNat default) < node))))], [(0, .box [.int .u8 a.Phase, .int .i64 a.Ballot, .imm 1 (a.Members.map (D.int .i64)) 4, .str a.Wish, .str a.Value, .imm 3 (a.Promises.map TPromise.d) 4, .imm 1 (a.Accepted.map (D.int .i64)) 4]), (1, .box [.int .u8 0, .int .i64 0, .imm 0 [] 0, .str [], .str [], .imm 0 [] 0, .imm 0 [] 0]), (8, .arr 3 1 true (v3.Members.map (D.int .i64))), (9, .arr 91 3 true (v3.Promises.map TPromise.d)), (10, .arr 3 1 true (v3.Accepted.map (D.int .i64))), (16, .box [.int .u8 v3.Phase, .int .i64 v3.Ballot, .ref 8 1 0 v3.Members.length (some uC), .str v3.Wish, .str v3.Value, .ref 9 3 0 v3.Promises.length (some uC), .ref 10 1 0 v3.Accepted.length (some uC)])], 17⟩) (fun _ => True) (lb rfl) ?_ (fun _ _ => ?_)
  ·by_cases hgd : n2 < (a.Accepted.length : Int)
   ·have eg10 := zaj (D.int .i64) a.Accepted n2 (k2 hgd)
    refine .rg zS [2, 3, 6, 8, 9] ?_
    refine .rnx 6 eg10 ?_
    refine .rnx 8 eg10 ?_
    refine .nil ⟨nofun, ?_⟩
    refine ⟨(), ?_, trivial⟩
    exact .m [2, 3, 6, 8, 9, 51] [0, 1, 8, 9, 10, 16] []
   have hgf1 : (decide (n2 < (a.Accepted.length : Int))) = false := by first | simpa using hgd | (simp at hgd ⊢; omega) | grind
   rcases nth_or (D.int .i64) a.Accepted n2.toNat with eg10 | eg10
   ·refine .rg zS [2, 3, 6, 8, 9] ?_
    refine .rnx 6 (And.intro eg10 hgf1) ?_
    refine .rnx 8 (And.intro eg10 hgf1) ?_
    refine .nil ⟨nofun, ?_⟩
    refine ⟨(), ?_, trivial⟩
    exact .mx hgf1 [2, 3, 6, 8, 9, 51] [0, 1, 8, 9, 10, 16] []
   refine .rg zS [2, 3, 6, 8, 9] ?_
   refine .rnx 6 (And.intro eg10 hgf1) ?_
   refine .rnx 8 (And.intro eg10 hgf1) ?_
   refine .nil ⟨nofun, ?_⟩
   refine ⟨(), ?_, trivial⟩
   exact .mx hgf1 [2, 3, 6, 8, 9, 51] [0, 1, 8, 9, 10, 16] []
  refine .cond rfl rfl (fun hc4 => ?_) (fun hc4 => ?_)
  ·replace hx1 := za0 hx1 hc4
   refine .skip ?_
   refine .block ?_
   refine .pl zS [2, 3, 6, 8, 9] ?_
   refine ⟨(fu1, _), ?_, hx1, by dsimp only; omega⟩
   exact .m [2, 3, 6, 8, 9] [0, 1, 8, 9, 10, 16] []
  replace hx1 := za3 hx1 hc4
  refine .exit ?_
  refine ⟨_, ?_, (sj hx1).symm⟩
  exact .m [2, 3, 6, 8, 9] [0, 1, 8, 9, 10, 16] []
 rintro n1 hj1
 subst x1
 try dsimp only at h
 simp only [Tryz.St_r08_Accepted_1]
 obtain ⟨k3, h⟩ := zaa h
 obtain ⟨k4, h⟩ := zaa h
 refine .seqM 17 (fun (_ : Unit) => ⟨[(2, .int .i64 node), (3, .ptr 0 0), (6, .ptr 1 0), (8, .ptr 16 0), (9, .int .i64 n1)], [(0, .box [.int .u8 a.Phase, .int .i64 a.Ballot, .imm 1 (a.Members.map (D.int .i64)) 4, .str a.Wish, .str a.Value, .imm 3 (a.Promises.map TPromise.d) 4, .imm 1 (a.Accepted.map (D.int .i64)) 4]), (1, .box [.int .u8 0, .int .i64 0, .imm 0 [] 0, .str [], .str [], .imm 0 [] 0, .imm 0 [] 0]), (8, .arr 3 1 true (v3.Members.map (D.int .i64))), (9, .arr 91 3 true (v3.Promises.map TPromise.d)), (16, .box [.int .u8 v3.Phase, .int .i64 v3.Ballot, .ref 8 1 0 v3.Members.length (some uC), .str v3.Wish, .str v3.Value, .ref 9 3 0 v3.Promises.length (some uC), .ref 17 1 0 ((a.Accepted.take n1.toNat).length) (some uC)]), (17, .arr 3 1 true ((a.Accepted.take n1.toNat).map (D.int .i64)))], 18⟩) (fun _ => True) (lb rfl) ?_ (fun _ _ => ?_)
 ·rcases zam (a.Accepted.take n1.toNat) with hE1 | ⟨y, ys, hE1⟩
  ·have hM1 : (a.Accepted.take n1.toNat).map (D.int .i64) = [] := by rw [hE1]; simp
   refine .pp zS [2, 3, 6, 8, 9] (by intro q hq; simp only [go_sem, Nat.reduceSub, Int.reduceEq, Nat.reduceLT, Nat.reduceDiv, Nat.reduceAdd, Nat.reduceBEq, Nat.reduceLeDiff, reduceCtorEq, Nat.reduceEqDiff, Nat.reduceMod, Nat.reduceMul, Tryz.tm_22, Tryz.tm_57, drop_map, take_map, take_map_len, List.take_length, Int.toNat_zero, appendD_nil hM1, TAttempt.d]; exact hq) ?_
   refine ⟨(), ?_, trivial⟩
   refine Goes.new0 1 3 (lb rfl) ?_
   refine Goes.boxs 16 _ [.int .u8 v3.Phase, .int .i64 v3.Ballot, .ref 8 1 0 v3.Members.length (some uC), .str v3.Wish, .str v3.Value, .ref 9 3 0 v3.Promises.length (some uC), .ref 17 1 0 0 (some uC)] rfl (.keep (.keep (.keep (.keep (.keep (.keep (.cons (.own0 17 _ _ _ (by decide)) (.refl _)))))))) ?_
   exact .mx hE1 [2, 3, 6, 8, 9] [0, 1, 8, 9, 16, 17] []
  have hM1 : (a.Accepted.take n1.toNat).map (D.int .i64) ≠ [] := by rw [hE1]; simp
  refine .pp zS [2, 3, 6, 8, 9] (by intro q hq; simp only [go_sem, Nat.reduceSub, Int.reduceEq, Nat.reduceLT, Nat.reduceDiv, Nat.reduceAdd, Nat.reduceBEq, Nat.reduceLeDiff, reduceCtorEq, Nat.reduceEqDiff, Nat.reduceMod, Nat.reduceMul, Tryz.tm_22, Tryz.tm_57, drop_map, take_map, take_map_len, List.take_length, Int.toNat_zero, appendD_cons hM1, TAttempt.d]; exact hq) ?_
  refine ⟨(), ?_, trivial⟩
  refine Goes.boxs 16 _ [.int .u8 v3.Phase, .int .i64 v3.Ballot, .ref 8 1 0 v3.Members.length (some uC), .str v3.Wish, .str v3.Value, .ref 9 3 0 v3.Promises.length (some uC), .ref 17 1 0 ((a.Accepted.take n1.toNat).length) (some uC)] rfl (.keep (.keep (.keep (.keep (.keep (.keep (.cons (.unk _ _ _ _ _) (.refl _)))))))) ?_
  exact .mx hE1 [2, 3, 6, 8, 9] [0, 1, 8, 9, 16, 17] []
 refine .seq ?_
 obtain ⟨k5, h⟩ := zaa h
 refine .pl zS [2, 3, 6, 8, 9] ?_
 refine .seq ?_
 obtain ⟨k6, h⟩ := zaa h
 obtain ⟨k7, h⟩ := zaa h
 refine .rg zS [3, 6, 8, 9] ?_
 refine .rd 6 ?_
 refine .rd 3 ?_
 refine .nd ?_
 obtain ⟨x2, hx2, h⟩ := bind_some h
 refine .seqM 21 (fun (j : Int) => Tryz.St_r08_Accepted_5 a node v3 n1 j) (fun j => x2 = j) (lb rfl) ?_ ?_
 ·refine .seq ?_
  obtain ⟨v5, hv5, hx2⟩ := bind_some hx2
  refine .rg zS [3, 6, 8] ?_
  refine .rn 4 ?_
  refine .lcall (r := .bool v5) [] rfl rfl rfl rfl rfl (za2 rfl (za2 (zc8 (zax (pl_int .i64) (by first | rfl | (simp only [go_sem, Nat.reduceBEq]; rfl)) (by first | rfl | (simp; done) | (simp <;> omega))) trivial) zad)) rfl (callP_r06_Counts a.Members (((a.Accepted.take n1.toNat) ++ [node]) ++ (a.Accepted.drop n1.toNat)) v5 hv5) ?_
  refine .nil ⟨nofun, ?_⟩
  refine .cond rfl rfl (fun hc5 => ?_) (fun hc5 => ?_)
  ·replace hx2 := za0 hx2 hc5
   refine .pl zS [6, 8] ?_
   refine ⟨_, ?_, (sj hx2).symm⟩
   exact .m [6, 8] [1, 8, 9, 16, 20] []
  replace hx2 := za3 hx2 hc5
  refine .skip ?_
  refine ⟨_, ?_, (sj hx2).symm⟩
  exact .m [6, 8] [1, 8, 9, 16, 20] []
 rintro n3 hj2
 subst x2
 try dsimp only at h
 simp only [Tryz.St_r08_Accepted_5]
 refine .seq (.pl zS [6, 8] ?_)
 have hq := sj h
 subst r
 refine .ret ⟨Tryz.Re_r08_Accepted ((⟨n3, v3.Ballot, v3.Members, v3.Wish, v3.Value, v3.Promises, (((a.Accepted.take n1.toNat) ++ [node]) ++ (a.Accepted.drop n1.toNat))⟩ : TAttempt), 0), ?_, .inr rfl, retH [2, 1, 0] ?_ ?_⟩
 ·exact .m [6, 7] [8, 9, 20, 1] [(8, 0), (9, 1), (20, 2), (1, 3)]
 ·exact rsi0
 rfl
theorem callP_r08_Accepted (a : TAttempt) (ballot : Int) (node : Int) (r : TAttempt × Int) (h : m_r08_Accepted a ballot node = some r) : CallP Tryz.prog 66 [.agg [.int .u8 a.Phase, .int .i64 a.Ballot, .imm 1 (a.Members.map (D.int .i64)) 4, .str a.Wish, .str a.Value, .imm 3 (a.Promises.map TPromise.d) 4, .imm 1 (a.Accepted.map (D.int .i64)) 4], .int .i64 ballot, .int .i64 node] (.tuple [.agg [.int .u8 r.1.Phase, .int .i64 r.1.Ballot, .imm 1 (r.1.Members.map (D.int .i64)) 12, .str r.1.Wish, .str r.1.Value, .imm 3 (r.1.Promises.map TPromise.d) 12, .imm 1 (r.1.Accepted.map (D.int .i64)) 12], .int .i64 r.2]) :=
 callP_frz (frz_tup (za1 (frz_agg (za1 rfl (za1 rfl (za1 (zap zar rfl rfl) (za1 rfl (za1 rfl (za1 (zap zbu rfl rfl) (za1 (zap zar rfl rfl) zc9)))))))) (za1 rfl zc9))) (callH_r08_Accepted a ballot node r h)
end Go.Proofs
end
section
namespace Go.Proofs
open Go.Tm
theorem insT98 (i j k : Nat) (hij : i ≠ j) (hik : i ≠ k) (hjk : j ≠ k) (l : List TPromise) (x : TPromise) (at' : Int) (h : 0 <= at' /\ at' <= (l.length : Int)) (hl : l.length < 1000000) :
  CallH Tryz.prog 98 [.ref i 3 0 l.length (some uC), .int .i64 at', .ref j 3 0 1 (some 1)] [(i, .arr 91 3 true (l.map TPromise.d)), (j, .arr 91 3 true [x.d])] (.ref k 3 0 (l.take at'.toNat ++ x :: l.drop at'.toNat).length (some uC)) [(k, some (.arr 91 3 true ((l.take at'.toNat ++ x :: l.drop at'.toNat).map TPromise.d))), (i, none)] (k, k + 1) := by
 have t := ins98 i j k hij hik hjk (l.map TPromise.d) x.d true true at'.toNat (by rw [List.length_map]; omega) (by rw [List.length_map]; exact hl)
 rw [Int.toNat_of_nonneg h.1, List.length_map, take_map, drop_map, <- List.map_cons, <- List.map_append] at t
 have e : l.length + 1 = (l.take at'.toNat ++ x :: l.drop at'.toNat).length := by simp; omega
 rw [e] at t
 exact t
theorem insT101 (i j k : Nat) (hij : i ≠ j) (hik : i ≠ k) (hjk : j ≠ k) (l : List Int) (x : Int) (at' : Int) (h : 0 <= at' /\ at' <= (l.length : Int)) (hl : l.length < 1000000) :
  CallH Tryz.prog 101 [.ref i 1 0 l.length (some uC), .int .i64 at', .ref j 1 0 1 (some 1)] [(i, .arr 3 1 true (l.map (D.int .i64))), (j, .arr 3 1 true [(D.int .i64 x)])] (.ref k 1 0 (l.take at'.toNat ++ x :: l.drop at'.toNat).length (some uC)) [(k, some (.arr 3 1 true ((l.take at'.toNat ++ x :: l.drop at'.toNat).map (D.int .i64)))), (i, none)] (k, k + 1) := by
 have t := ins101 i j k hij hik hjk (l.map (D.int .i64)) (D.int .i64 x) true true at'.toNat (by rw [List.length_map]; omega) (by rw [List.length_map]; exact hl)
 rw [Int.toNat_of_nonneg h.1, List.length_map, take_map, drop_map, <- List.map_cons, <- List.map_append] at t
 have e : l.length + 1 = (l.take at'.toNat ++ x :: l.drop at'.toNat).length := by simp; omega
 rw [e] at t
 exact t
end Go.Proofs
end
section
namespace Go.Proofs
open Go.Tm
set_option linter.unusedVariables false
def zc4 (a0 : Int) (c0 : TAttempt) (c1 : TPromise) : Option Bool :=
 if (0 <= a0 /\ a0 < (c0.Promises.length : Int)) then
 some (decide ((c0.Promises.getD a0.toNat default).Node >= c1.Node))
 else none
def zc1 (a : TAttempt) (b : Int) (p : TPromise) : Option (TAttempt × Int) :=
 Option.bind (m_attempt_Check a) fun v1 =>
 if ¬ (v1 = 0) then
 some ((⟨0, 0, [], [], [], [], []⟩ : TAttempt), v1)
 else
 Option.bind (if ¬ ((¬ (a.Phase = 1)) \/ (¬ (b = a.Ballot))) then m_quorum_Has a.Members p.Node else some default) fun v2 =>
 if ((¬ (a.Phase = 1)) \/ (¬ (b = a.Ballot))) \/ (¬ (v2 = true)) then
 some ((⟨0, 0, [], [], [], [], []⟩ : TAttempt), 6)
 else
 Option.bind (m_attempt_may p b) fun v3 =>
 if ¬ (v3 = true) then
 some ((⟨0, 0, [], [], [], [], []⟩ : TAttempt), 8)
 else
 Option.bind (m_attempt_Twin a) fun v4 =>
 Option.bind (m_sort_Search (v4.Promises.length : Int) (fun x0 => zc4 x0 v4 p)) fun v5 =>
 if (v5 < (v4.Promises.length : Int)) -> (0 <= v5 /\ v5 < (v4.Promises.length : Int)) then
 if (v5 < (v4.Promises.length : Int)) /\ ((v4.Promises.getD v5.toNat default).Node = p.Node) then
 some (v4, 0)
 else
 if 0 <= v5 /\ v5 <= (v4.Promises.length : Int) then
 if v4.Promises.length < 1000000 then
 Option.bind (α := Int × (List UInt8)) (Option.bind (zbp ((v4.Promises.take v5.toNat) ++ (p :: (v4.Promises.drop v5.toNat)))) fun v6 =>
 Option.bind (zbq v4.Members v6) fun v7 =>
 if v7 = true then
 Option.bind (m_attempt_Best ((v4.Promises.take v5.toNat) ++ (p :: (v4.Promises.drop v5.toNat))) v4.Wish) fun v8 =>
 some (2, v8)
 else
 some (v4.Phase, v4.Value)) fun (n1, s1) =>
 some ((⟨n1, v4.Ballot, v4.Members, v4.Wish, s1, ((v4.Promises.take v5.toNat) ++ (p :: (v4.Promises.drop v5.toNat))), v4.Accepted⟩ : TAttempt), 0)
 else none
 else none
 else none
def zc2 (a : TAttempt) (b : Int) (node : Int) : Option (TAttempt × Int) :=
 Option.bind (m_attempt_Check a) fun v1 =>
 if ¬ (v1 = 0) then
 some ((⟨0, 0, [], [], [], [], []⟩ : TAttempt), v1)
 else
 Option.bind (if ¬ ((a.Phase < 2) \/ (¬ (b = a.Ballot))) then m_quorum_Has a.Members node else some default) fun v2 =>
 if ((a.Phase < 2) \/ (¬ (b = a.Ballot))) \/ (¬ (v2 = true)) then
 some ((⟨0, 0, [], [], [], [], []⟩ : TAttempt), 6)
 else
 Option.bind (m_attempt_Twin a) fun v3 =>
 Option.bind (m_sort_SearchInts v3.Accepted node) fun v4 =>
 Option.bind (α := (List Int)) (if (¬ (v4 = (v3.Accepted.length : Int))) -> (0 <= v4 /\ v4 < (v3.Accepted.length : Int)) then
 if (v4 = (v3.Accepted.length : Int)) \/ (¬ ((v3.Accepted.getD v4.toNat default) = node)) then
 if 0 <= v4 /\ v4 <= (v3.Accepted.length : Int) then
 if v3.Accepted.length < 1000000 then
 some ((v3.Accepted.take v4.toNat) ++ (node :: (v3.Accepted.drop v4.toNat)))
 else none
 else none
 else
 some v3.Accepted
 else none) fun l1 =>
 Option.bind (α := Int) (Option.bind (zbq v3.Members l1) fun v5 =>
 if v5 = true then
 some 3
 else
 some v3.Phase) fun n1 =>
 some ((⟨n1, v3.Ballot, v3.Members, v3.Wish, v3.Value, v3.Promises, l1⟩ : TAttempt), 0)
end Go.Proofs
end
