/- Texts of the proof. -/
import Derived.Test.YtkananhhhkkpkaaGreatOrderAsksPg
import Derived.Test.YtkananhhhkkpkaaGreatOrderAsksPf
import Derived.Test.YtkananhhhkkpkaaGreatOrderAsksPh
import Derived.Test.YtkananhhhkkpkaaGreatOrderAsksPi
import Derived.Test.YtkananhhhkkpkaaGreatOrderAsksPj
import Derived.Test.YtkananhhhkkpkaaGreatOrderAsksPk
import Derived.Test.YtkananhhhkkpkaaGreatOrderAsksPe
section
namespace Go.Proofs
open Go.Tm Go.RowKit Go.WideShapes
set_option maxRecDepth 100000
set_option maxHeartbeats 4000000
set_option linter.unusedSimpArgs false
set_option linter.unusedVariables false
@[go_sem] def ya4u (n1 : Int) : St := ⟨[(6, .int .i64 n1)], [], 1⟩
@[go_sem] def ya4s (a0 : List (List (List UInt8))) (a1 : TMessage) (n3 : Nat) (n2 : Int) : St := ⟨[(0, .imm 1 (a0.map zdn) 4), (3, .ptr 0 0), (6, .int .i64 n2), (7, .int .i64 (n3 : Int))], [(0, .box [.int .i64 a1.Id, .imm 1 (a1.Groups.map (D.int .i64)) 4, .int .i64 a1.Topic, .str a1.Key, .str a1.Body])], 1⟩
@[go_sem] def ya4r (a0 : List (List (List UInt8))) (a1 : TMessage) (n3 : Nat) (n4 : Int) : St := ⟨[(0, .imm 1 (a0.map zdn) 4), (3, .ptr 0 0), (6, .int .i64 n4), (7, .int .i64 (n3 : Int))], [(0, .box [.int .i64 a1.Id, .imm 1 (a1.Groups.map (D.int .i64)) 4, .int .i64 a1.Topic, .str a1.Key, .str a1.Body])], 1⟩
@[go_sem] def ya4q (a0 : List (List (List UInt8))) (a1 : TMessage) (n3 : Nat) (n2 : Int) (n5 : Int) : St := ⟨[(0, .imm 1 (a0.map zdn) 4), (3, .ptr 0 0), (6, .int .i64 n2), (7, .int .i64 (n3 : Int)), (9, .int .i64 n5)], [(0, .box [.int .i64 a1.Id, .imm 1 (a1.Groups.map (D.int .i64)) 4, .int .i64 a1.Topic, .str a1.Key, .str a1.Body])], 1⟩
@[go_sem] def ya4p (a0 : List (List (List UInt8))) (a1 : TMessage) (n3 : Nat) (n2 : Int) (v1 : List Ttowncrierref16_Given) (n7 : Nat) (n6 : Int) : St := ⟨[(0, .imm 1 (a0.map zdn) 4), (3, .ptr 0 0), (6, .int .i64 n2), (7, .int .i64 (n3 : Int)), (9, .int .i64 n6), (10, .imm 6 (v1.map Ttowncrierref16_Given.d) 12), (11, .int .i64 (n7 : Int))], [(0, .box [.int .i64 a1.Id, .imm 1 (a1.Groups.map (D.int .i64)) 4, .int .i64 a1.Topic, .str a1.Key, .str a1.Body])], 1⟩
@[go_sem] def ya4t (a0 : List (List (List UInt8))) (a1 : TMessage) (n3 : Nat) (n2 : Int) (v1 : List Ttowncrierref16_Given) (n7 : Nat) (n8 : Int) : St := ⟨[(0, .imm 1 (a0.map zdn) 4), (3, .ptr 0 0), (6, .int .i64 n2), (7, .int .i64 (n3 : Int)), (9, .int .i64 n8), (10, .imm 6 (v1.map Ttowncrierref16_Given.d) 12), (11, .int .i64 (n7 : Int))], [(0, .box [.int .i64 a1.Id, .imm 1 (a1.Groups.map (D.int .i64)) 4, .int .i64 a1.Topic, .str a1.Key, .str a1.Body])], 1⟩
theorem zhr (a0 : List (List (List UInt8))) (a1 : TMessage) (r : Int × Bool) (h : ze4 a0 a1 = some r) : zbn Tryz.prog 32 [.imm 1 (a0.map zdn) 4, .agg [.int .i64 a1.Id, .imm 1 (a1.Groups.map (D.int .i64)) 4, .int .i64 a1.Topic, .str a1.Key, .str a1.Body]] (.tuple [.int .i64 r.1, .bool r.2]) := by
 refine za2 Tryz.tmOk 3 Tryz.func32 rfl (by decide) rfl rfl (lb rfl) ?_
 intro hwf
 unfold ze4 at h
 refine .seq (.pl zS [0, 1] ?_)
 refine .seq (.pl zS [0, 3] ?_)
 obtain ⟨x1, hx1, h⟩ := bind_some h
 refine .seqM 1 (fun (j : Int) => ya4u j) (fun j => x1 = (.inr j)) (lb rfl) ?_ ?_
 refine .seq (.pl zS [0, 3, 6] ?_)
 refine .block ?_
 refine .loopG 1 (fun (j : Nat × Int) => ya4s a0 a1 j.1 j.2) (fun j => j.1 <= a1.Groups.length /\ zca a0 a1 (a1.Groups.drop j.1) j.2 = some x1) (fun j => a1.Groups.length - j.1) (0, 0) (lb rfl) ?_ ⟨Nat.zero_le _, hx1⟩ ?_
 exact .m [0, 3, 6, 7] [0] []
 rintro ⟨n3, n2⟩ ⟨hi1, hx1⟩
 simp only [ya4s]
 simp only at hi1 hx1
 refine .wfb 0 [.int .i64 a1.Id, .imm 1 (a1.Groups.map (D.int .i64)) 4, .int .i64 a1.Topic, .str a1.Key, .str a1.Body] rfl ?_
 intro hln3
 replace hln3 : (a1.Groups.length : Int) <= 9223372036854775807 := by simp only [wf, wfL, IntKind.max, IntKind.min, IntKind.signed, IntKind.bits, List.length_map] at hln3; first | exact hln3.2 | exact hln3.1 | (simp at hln3; omega)
 refine .seq (.seq (.pl zS [0, 3, 6, 7] ?_))
 refine .cond rfl rfl (fun hc1 => ?_) (fun hc1 => ?_)
 have h1 : n3 < a1.Groups.length := by simpa using hc1
 have hwn3 : wr .i64 ((n3 : Int) + 1) = ((n3 + 1 : Nat) : Int) := zch h1 hln3
 have hpn3 : wr .i64 ((n3 : Int) - 1) = (n3 : Int) - 1 := zci h1 hln3
 rw [List.drop_eq_getElem_cons h1, zca] at hx1
 refine .skip ?_
 obtain ⟨x2, hx2, hx1⟩ := bind_some hx1
 refine .seqM 1 (fun (j : Int) => ya4r a0 a1 n3 j) (fun j => x2 = (.inr j)) (lb rfl) ?_ ?_
 refine .block ?_
 refine .seq ?_
 have e1 := zay (D.int .i64) a1.Groups n3 h1
 refine .plx zS (ai e1 hwn3) [0, 3, 6, 7] ?_
 refine .seq (.seq (.plx zS hwn3 [0, 3, 6, 7, 8] ?_))
 refine .cond rfl rfl (fun hc2 => ?_) (fun hc2 => ?_)
 replace hx2 := za0 hx2 hc2
 refine .seq (.plx zS hwn3 [] ?_)
 have hq := sj hx2
 subst x2
 try dsimp only at hx1
 have hq := sj hx1
 subst x1
 try dsimp only at h
 have hq := sj h
 subst r
 exact .ret ⟨.inr rfl, rsi⟩
 replace hx2 := za3 hx2 hc2
 refine .skip ?_
 refine .seq (.plx zS hwn3 [0, 3, 6, 7, 8] ?_)
 refine .seq ?_
 obtain ⟨k1, hx2⟩ := zae hx2
 obtain ⟨v1, hv1, hx2⟩ := bind_some hx2
 have e2 := zb1 zdn a0 (a1.Groups[n3])
 replace e2 := e2 k1
 refine .rg zS [0, 3, 6, 7, 8, 9] ?_
 refine .rnx 5 (ai e2 hwn3) ?_
 refine .call (r := .imm 6 (v1.map Ttowncrierref16_Given.d) 12) rfl rfl rfl rfl rfl rfl (zhh (a1.Groups[n3]) (a0.getD (a1.Groups[n3]).toNat default) v1 hv1) ?_
 refine .rnx 1 (ai e2 hwn3) ?_
 refine .nil ⟨nofun, ?_⟩
 obtain ⟨x3, hx3, hx2⟩ := bind_some hx2
 refine .seqM 1 (fun (j : Int) => ya4q a0 a1 n3 n2 j) (fun j => x3 = j) (lb rfl) ?_ ?_
 refine .seq (.plx zS hwn3 [0, 3, 6, 7, 9, 10] ?_)
 refine .block ?_
 refine .loopG 1 (fun (j : Nat × Int) => ya4p a0 a1 n3 n2 v1 j.1 j.2) (fun j => j.1 <= v1.length /\ zb7 a1 (v1.drop j.1) j.2 = some x3) (fun j => v1.length - j.1) (0, 0) (lb rfl) ?_ ⟨Nat.zero_le _, hx3⟩ ?_
 exact .m [0, 3, 6, 7, 9, 10, 11] [0] []
 rintro ⟨n7, n6⟩ ⟨hi2, hx3⟩
 simp only [ya4p]
 simp only at hi2 hx3
 refine .wf 10 (.imm 6 (v1.map Ttowncrierref16_Given.d) 12) rfl ?_
 intro hln7
 replace hln7 : (v1.length : Int) <= 9223372036854775807 := by simp only [wf, wfL, IntKind.max, IntKind.min, IntKind.signed, IntKind.bits, List.length_map] at hln7; first | exact hln7.2 | exact hln7.1 | (simp at hln7; omega)
 refine .seq (.seq (.plx zS hwn3 [0, 3, 6, 7, 9, 10, 11] ?_))
 refine .cond rfl rfl (fun hc3 => ?_) (fun hc3 => ?_)
 have h2 : n7 < v1.length := by simpa using hc3
 have hwn7 : wr .i64 ((n7 : Int) + 1) = ((n7 + 1 : Nat) : Int) := zch h2 hln7
 have hpn7 : wr .i64 ((n7 : Int) - 1) = (n7 : Int) - 1 := zci h2 hln7
 rw [List.drop_eq_getElem_cons h2, zb7] at hx3
 refine .skip ?_
 obtain ⟨x4, hx4, hx3⟩ := bind_some hx3
 refine .seqM 1 (fun (j : Int) => ya4t a0 a1 n3 n2 v1 n7 j) (fun j => x4 = j) (lb rfl) ?_ ?_
 refine .block ?_
 refine .seq ?_
 obtain ⟨v2, hv2, hx4⟩ := bind_some hx4
 have e3 := zay Ttowncrierref16_Given.d v1 n7 h2
 refine .rg zS [0, 3, 6, 7, 9, 10, 11] ?_
 refine .rdx 6 (ai e3 (ai hwn3 hwn7)) ?_
 refine .call (r := .bool v2) rfl rfl rfl rfl rfl rfl (zao (v1[n7].Message) a1 v2 hv2) ?_
 refine .nd ?_
 refine .cond rfl rfl (fun hc4 => ?_) (fun hc4 => ?_)
 replace hx4 := za0 hx4 hc4
 have e4 := zay Ttowncrierref16_Given.d v1 n7 h2
 refine .plx zS (ai e4 (ai hwn3 hwn7)) [0, 3, 6, 7, 10, 11] ?_
 refine ⟨_, ?_, (sj hx4).symm⟩
 exact .m [0, 3, 6, 7, 9, 10, 11] [0] []
 replace hx4 := za3 hx4 hc4
 refine .skip ?_
 refine ⟨_, ?_, (sj hx4).symm⟩
 exact .m [0, 3, 6, 7, 9, 10, 11] [0] []
 rintro n8 hj1
 subst x4
 try dsimp only at hx3
 simp only [ya4t]
 refine .plx zS (ai hwn3 hwn7) [0, 3, 6, 7, 9, 10, 11] ?_
 refine ⟨(n7 + 1, _), ?_, ⟨by omega, hx3⟩, by dsimp only; omega⟩
 exact .m [0, 3, 6, 7, 9, 10, 11] [0] []
 have h3 : n7 = v1.length := by have h3b := of_decide_eq_false hc3; omega
 rw [List.drop_of_length_le (by omega), zb7] at hx3
 refine .exit ?_
 refine ⟨_, ?_, (sj hx3).symm⟩
 exact .m [0, 3, 6, 7, 9] [0] []
 rintro n5 hj2
 subst x3
 try dsimp only at hx2
 simp only [ya4q]
 refine .seq (.seq (.plx zS hwn3 [0, 3, 6, 7, 9] ?_))
 refine .cond rfl rfl (fun hc5 => ?_) (fun hc5 => ?_)
 replace hx2 := za0 hx2 hc5
 refine .seq (.plx zS hwn3 [] ?_)
 have hq := sj hx2
 subst x2
 try dsimp only at hx1
 have hq := sj hx1
 subst x1
 try dsimp only at h
 have hq := sj h
 subst r
 exact .ret ⟨.inr rfl, rsi⟩
 replace hx2 := za3 hx2 hc5
 refine .skip ?_
 refine .plx zS hwn3 [0, 3, 6, 7, 9] ?_
 refine ⟨_, ?_, (sj hx2).symm⟩
 exact .m [0, 3, 6, 7] [0] []
 rintro n4 hj3
 subst x2
 try dsimp only at hx1
 simp only [ya4r]
 refine .plx zS hwn3 [0, 3, 6, 7] ?_
 refine ⟨(n3 + 1, _), ?_, ⟨by omega, hx1⟩, by dsimp only; omega⟩
 exact .m [0, 3, 6, 7] [0] []
 have h4 : n3 = a1.Groups.length := by have h4b := of_decide_eq_false hc1; omega
 rw [List.drop_of_length_le (by omega), zca] at hx1
 refine .exit ?_
 refine ⟨_, ?_, (sj hx1).symm⟩
 exact .m [6] [] []
 rintro n1 hj4
 subst x1
 try dsimp only at h
 simp only [ya4u]
 refine .seq (.pl zS [6] ?_)
 have hq := sj h
 subst r
 exact .ret ⟨.inr rfl, rsi⟩
@[go_sem] def ya4i : St := ⟨[], [], 0⟩
@[go_sem] def ya4h (a0 : List (List (List UInt8))) (n1 : Nat) : St := ⟨[(0, .imm 1 (a0.map zdn) 4), (3, .int .i64 (n1 : Int))], [], 0⟩
theorem zi8 (a0 : List (List (List UInt8))) (r : Int) (h : zdo a0 = some r) : zbn Tryz.prog 30 [.imm 1 (a0.map zdn) 4] (.int .i64 r) := by
 refine za2 Tryz.tmOk 2 Tryz.func30 rfl (by decide) rfl rfl (lb rfl) ?_
 intro hwf
 unfold zdo at h
 refine .seq (.pl zS [0] ?_)
 refine .seq (.seq (.pl zS [0] ?_))
 refine .cond rfl rfl (fun hc1 => ?_) (fun hc1 => ?_)
 replace h := za0 h hc1
 refine .seq (.pl zS [] ?_)
 have hq := sj h
 subst r
 exact .ret ⟨.inr rfl, rsi⟩
 replace h := za3 h hc1
 refine .skip ?_
 obtain ⟨x1, hx1, h⟩ := bind_some h
 refine .seqM 0 (fun (j : Unit) => ya4i) (fun j => x1 = (.inr j)) (lb rfl) ?_ ?_
 refine .seq (.pl zS [0] ?_)
 refine .block ?_
 refine .loopG 0 (fun (j : Nat) => ya4h a0 j) (fun j => j <= a0.length /\ zc1 (a0.drop j)  = some x1) (fun j => a0.length - j) (0) (lb rfl) ?_ ⟨Nat.zero_le _, hx1⟩ ?_
 exact .m [0, 3] [] []
 rintro n1 ⟨hi1, hx1⟩
 simp only [ya4h]
 refine .wf 0 (.imm 1 (a0.map zdn) 4) rfl ?_
 intro hln1
 replace hln1 : (a0.length : Int) <= 9223372036854775807 := by simp only [wf, wfL, IntKind.max, IntKind.min, IntKind.signed, IntKind.bits, List.length_map] at hln1; first | exact hln1.2 | exact hln1.1 | (simp at hln1; omega)
 refine .seq (.seq (.pl zS [0, 3] ?_))
 refine .cond rfl rfl (fun hc2 => ?_) (fun hc2 => ?_)
 have h1 : n1 < a0.length := by simpa using hc2
 have hwn1 : wr .i64 ((n1 : Int) + 1) = ((n1 + 1 : Nat) : Int) := zch h1 hln1
 have hpn1 : wr .i64 ((n1 : Int) - 1) = (n1 : Int) - 1 := zci h1 hln1
 rw [List.drop_eq_getElem_cons h1, zc1] at hx1
 refine .skip ?_
 refine .seq (.block (.seq ?_))
 obtain ⟨v1, hv1, hx1⟩ := bind_some hx1
 have e1 := zay zdn a0 n1 h1
 refine .rg zS [0, 3] ?_
 refine .rnx 4 (ai e1 hwn1) ?_
 refine .call (r := .int .i64 v1) rfl rfl rfl rfl rfl rfl (zkf (a0[n1]) v1 hv1) ?_
 refine .rnx 1 (ai e1 hwn1) ?_
 refine .nil ⟨nofun, ?_⟩
 refine .seq (.plx zS hwn1 [0, 3, 4] ?_)
 refine .cond rfl rfl (fun hc3 => ?_) (fun hc3 => ?_)
 replace hx1 := za0 hx1 hc3
 refine .seq (.plx zS hwn1 [4] ?_)
 have hq := sj hx1
 subst x1
 try dsimp only at h
 have hq := sj h
 subst r
 exact .ret ⟨.inr rfl, rsi⟩
 replace hx1 := za3 hx1 hc3
 refine .skip ?_
 refine .plx zS hwn1 [0, 3] ?_
 refine ⟨n1 + 1, ?_, ⟨by omega, hx1⟩, by dsimp only; omega⟩
 exact .m [0, 3] [] []
 have h2 : n1 = a0.length := by have h2b := of_decide_eq_false hc2; omega
 rw [List.drop_of_length_le (by omega), zc1] at hx1
 refine .exit ?_
 refine ⟨_, ?_, (sj hx1).symm⟩
 exact .m [] [] []
 rintro ⟨⟩ hj1
 subst x1
 try dsimp only at h
 simp only [ya4i]
 refine .seq (.pl zS [] ?_)
 have hq := sj h
 subst r
 exact .ret ⟨.inr rfl, rsi⟩
@[go_sem] def ya4z (a0 : List (List (List UInt8))) (a1 : TMessage) (n1 : Int) : St := ⟨[(0, .imm 1 (a0.map zdn) 4), (3, .ptr 0 0), (7, .int .i64 n1)], [(0, .box [.int .i64 a1.Id, .imm 1 (a1.Groups.map (D.int .i64)) 4, .int .i64 a1.Topic, .str a1.Key, .str a1.Body])], 1⟩
theorem zkc (a0 : List (List (List UInt8))) (a1 : TMessage) (r : Int × Bool × Int) (h : zen a0 a1 = some r) : zbn Tryz.prog 15 [.imm 1 (a0.map zdn) 4, .agg [.int .i64 a1.Id, .imm 1 (a1.Groups.map (D.int .i64)) 4, .int .i64 a1.Topic, .str a1.Key, .str a1.Body]] (.tuple [.int .i64 r.1, .bool r.2.1, .int .i64 r.2.2]) := by
 refine za2 Tryz.tmOk 3 Tryz.func15 rfl (by decide) rfl rfl (lb rfl) ?_
 intro hwf
 unfold zen at h
 refine .seq (.pl zS [0, 1] ?_)
 refine .seq ?_
 obtain ⟨v1, hv1, h⟩ := bind_some h
 refine .rg zS [0, 3] ?_
 refine .rn 1 ?_
 refine .call (r := .int .i64 v1) rfl rfl rfl rfl rfl rfl (zi8 a0 v1 hv1) ?_
 refine .rn 1 ?_
 refine .nil ⟨nofun, ?_⟩
 obtain ⟨x1, hx1, h⟩ := bind_some h
 refine .seqM 1 (fun (j : Int) => ya4z a0 a1 j) (fun j => x1 = j) (lb rfl) ?_ ?_
 refine .seq ?_
 obtain ⟨v2, hv2, hx1⟩ := bind_some hx1
 refine .rg zS [0, 3, 7] ?_
 refine .rn 4 ?_
 refine .gcall (r := .bool v2) rfl rfl rfl rfl rfl (fun hg => ⟨[], [.agg [.int .i64 a1.Id, .imm 1 (a1.Groups.map (D.int .i64)) 4, .int .i64 a1.Topic, .str a1.Key, .str a1.Body]], _, rfl, gd hg, rfl, (zgf a1 v2 (za0 hv2 hg))⟩) ?_
 refine .rn 2 ?_
 refine .nil ⟨nofun, ?_⟩
 refine .cond rfl rfl (fun hc1 => ?_) (fun hc1 => ?_)
 replace hx1 := za0 hx1 hc1
 refine .pl zS [0, 3] ?_
 refine ⟨_, ?_, (sj hx1).symm⟩
 exact .m [0, 3, 7] [0] []
 replace hx1 := za3 hx1 hc1
 refine .skip ?_
 refine ⟨_, ?_, (sj hx1).symm⟩
 exact .m [0, 3, 7] [0] []
 rintro n1 hj1
 subst x1
 try dsimp only at h
 simp only [ya4z]
 refine .seq (.seq (.pl zS [0, 3, 7] ?_))
 refine .cond rfl rfl (fun hc2 => ?_) (fun hc2 => ?_)
 replace h := za0 h hc2
 refine .seq (.pl zS [7] ?_)
 have hq := sj h
 subst r
 exact .ret ⟨.inr rfl, rsi⟩
 replace h := za3 h hc2
 refine .skip ?_
 refine .seq ?_
 obtain ⟨v3, hv3, h⟩ := bind_some h
 refine .rg zS [0, 3] ?_
 refine .rn 2 ?_
 refine .call (r := .tuple [.int .i64 v3.1, .bool v3.2]) rfl rfl rfl rfl rfl rfl (zhr a0 a1 v3 hv3) ?_
 refine .rn 5 ?_
 refine .nil ⟨nofun, ?_⟩
 refine .seq (.pl zS [8, 9] ?_)
 have hq := sj h
 subst r
 exact .ret ⟨.inr rfl, rsi⟩
@[go_sem] def ya45 : St := ⟨[(4, .ptr 1 0)], [(1, .box [.int .i64 0, .imm 0 [] 0, .int .i64 0, .str [], .str [], .int .i64 0, .bool false])], 2⟩
@[go_sem] def ya44 (a0 : TSkeen) (a1 : Int) (n1 : Nat) : St := ⟨[(1, .int .i64 a1), (2, .ptr 0 0), (4, .ptr 1 0), (6, .int .i64 (n1 : Int))], [(0, .box [.int .i64 a0.Clock, .imm 7 (a0.Waits.map TWait.d) 4, .imm 2 (a0.Done.map TStamp.d) 4]), (1, .box [.int .i64 0, .imm 0 [] 0, .int .i64 0, .str [], .str [], .int .i64 0, .bool false])], 2⟩
@[go_sem] def st43 (r : TWait × Bool) : St := ⟨[(4, .ptr 0 0), (5, .bool r.2)], [(0, .box [.int .i64 r.1.Message.Id, .imm 1 (r.1.Message.Groups.map (D.int .i64)) 4, .int .i64 r.1.Message.Topic, .str r.1.Message.Key, .str r.1.Message.Body, .int .i64 r.1.Time, .bool r.1.Final])], 1⟩
theorem zl2 (a0 : TSkeen) (a1 : Int) (r : TWait × Bool) (h : zfv a0 a1 = some r) : zcv Tryz.prog 61 [.agg [.int .i64 a0.Clock, .imm 7 (a0.Waits.map TWait.d) 4, .imm 2 (a0.Done.map TStamp.d) 4], .int .i64 a1] [] (.tuple [.agg [.int .i64 r.1.Message.Id, .imm 1 (r.1.Message.Groups.map (D.int .i64)) 4, .int .i64 r.1.Message.Topic, .str r.1.Message.Key, .str r.1.Message.Body, .int .i64 r.1.Time, .bool r.1.Final], .bool r.2]) [] (0, 4) := by
 refine za5 Tryz.tmOk Tryz.func61 rfl (by decide) (lb rfl) (by simp) ?_
 intro hwf
 unfold zfv at h
 refine .ends 0 (Nat.le_refl _) ?_
 refine .seq (.pl zS [0, 1] ?_)
 obtain ⟨x1, hx1, h⟩ := bind_some h
 refine .seqM 2 (fun (j : Unit) => ya45) (fun j => x1 = (.inr j)) (lb rfl) ?_ ?_
 refine .seq (.pl zS [1, 2, 4] ?_)
 refine .block ?_
 refine .loopG 2 (fun (j : Nat) => ya44 a0 a1 j) (fun j => j <= a0.Waits.length /\ zbp a1 (a0.Waits.drop j)  = some x1) (fun j => a0.Waits.length - j) (0) (lb rfl) ?_ ⟨Nat.zero_le _, hx1⟩ ?_
 exact .m [1, 2, 4, 6] [0, 1] []
 rintro n1 ⟨hi1, hx1⟩
 simp only [ya44]
 refine .wfb 0 [.int .i64 a0.Clock, .imm 7 (a0.Waits.map TWait.d) 4, .imm 2 (a0.Done.map TStamp.d) 4] rfl ?_
 intro hln1
 replace hln1 : (a0.Waits.length : Int) <= 9223372036854775807 := by simp only [wf, wfL, IntKind.max, IntKind.min, IntKind.signed, IntKind.bits, List.length_map] at hln1; first | exact hln1.2 | exact hln1.1 | (simp at hln1; omega)
 refine .seq (.seq (.pl zS [1, 2, 4, 6] ?_))
 refine .cond rfl rfl (fun hc1 => ?_) (fun hc1 => ?_)
 have h1 : n1 < a0.Waits.length := by simpa using hc1
 have hwn1 : wr .i64 ((n1 : Int) + 1) = ((n1 + 1 : Nat) : Int) := zch h1 hln1
 have hpn1 : wr .i64 ((n1 : Int) - 1) = (n1 : Int) - 1 := zci h1 hln1
 rw [List.drop_eq_getElem_cons h1, zbp] at hx1
 refine .skip ?_
 refine .seq (.block (.seq ?_))
 have e1 := zay TWait.d a0.Waits n1 h1
 refine .rg zS [1, 2, 4, 6] ?_
 refine .rnx 6 (ai e1 hwn1) ?_
 refine .rnx 3 (ai e1 hwn1) ?_
 refine .nil ⟨nofun, ?_⟩
 refine .cond rfl rfl (fun hc2 => ?_) (fun hc2 => ?_)
 replace hx1 := za0 hx1 hc2
 refine .seq ?_
 have e2 := zay TWait.d a0.Waits n1 h1
 refine .plx zS (ai e2 hwn1) [2, 4, 6] ?_
 have hq := sj hx1
 subst x1
 try dsimp only at h
 have hq := sj h
 subst r
 refine .ret ⟨st43 (a0.Waits[n1], true), ?_, .inr rfl, retH [] ?_ ?_⟩
 exact .m [4, 5] [1] [(1, 0)]
 exact rsi0
 rfl
 replace hx1 := za3 hx1 hc2
 refine .skip ?_
 refine .plx zS hwn1 [1, 2, 4, 6] ?_
 refine ⟨n1 + 1, ?_, ⟨by omega, hx1⟩, by dsimp only; omega⟩
 exact .m [1, 2, 4, 6] [0, 1] []
 have h2 : n1 = a0.Waits.length := by have h2b := of_decide_eq_false hc1; omega
 rw [List.drop_of_length_le (by omega), zbp] at hx1
 refine .exit ?_
 refine ⟨_, ?_, (sj hx1).symm⟩
 exact .m [4] [1] []
 rintro ⟨⟩ hj1
 subst x1
 try dsimp only at h
 simp only [ya45]
 refine .seq (.pl zS [4] ?_)
 have hq := sj h
 subst r
 refine .ret ⟨st43 ((⟨(⟨0, [], 0, [], []⟩ : TMessage), 0, false⟩ : TWait), false), ?_, .inr rfl, retH [] ?_ ?_⟩
 refine Goes.boxs 1 _ [.int .i64 0, .imm 1 [] 4, .int .i64 0, .str [], .str [], .int .i64 0, .bool false] rfl (.keep (.cons (.nil4 _ _ 0 rfl) (.refl _))) ?_
 exact .m [4, 5] [1] [(1, 0)]
 exact rsi0
 rfl
@[go_sem] def ya4b (l1 : List Ttowncrierref16_Given) : St := ⟨[(3, .ref 0 6 0 l1.length (some uC))], [(0, .arr 76 6 true (l1.map Ttowncrierref16_Given.n))], 1⟩
@[go_sem] def ya49 (a0 : List (List (List UInt8))) (n1 : Nat) (l2 : List Ttowncrierref16_Given) : St := ⟨[(0, .imm 1 (a0.map zdn) 4), (3, .ref 0 6 0 l2.length (some uC)), (4, .int .i64 (n1 : Int))], [(0, .arr 76 6 true (l2.map Ttowncrierref16_Given.n))], 1⟩
@[go_sem] def ya48 : St := ⟨[], [], 1⟩
@[go_sem] def ya47 (l1 : List Ttowncrierref16_Given) (n2 : Int) : St := ⟨[(3, .ref 0 6 0 l1.length (some uC)), (5, .int .i64 n2)], [(0, .arr 76 6 true (l1.map Ttowncrierref16_Given.n))], 1⟩
@[go_sem] def ya46 (l1 : List Ttowncrierref16_Given) (n2 : Int) : St := ⟨[(3, .ref 0 6 0 l1.length (some uC)), (5, .int .i64 n2)], [(0, .arr 76 6 true (l1.map Ttowncrierref16_Given.n))], 1⟩
@[go_sem] def ya4a (l1 : List Ttowncrierref16_Given) (n2 : Int) (n3 : Int) : St := ⟨[(3, .ref 0 6 0 l1.length (some uC)), (5, .int .i64 n2), (6, .int .i64 n3)], [(0, .arr 76 6 true (l1.map Ttowncrierref16_Given.n))], 1⟩
theorem zle (a0 : List (List (List UInt8))) (r : Bool) (h : zf8 a0 = some r) : zbn Tryz.prog 60 [.imm 1 (a0.map zdn) 4] (.bool r) := by
 refine za2 Tryz.tmOk 4 Tryz.func60 rfl (by decide) rfl rfl (lb rfl) ?_
 intro hwf
 unfold zf8 at h
 refine .seq (.pl zS [0] ?_)
 refine .seq (.pl zS [0] ?_)
 obtain ⟨x1, hx1, h⟩ := bind_some h
 refine .seqM 0 (fun (j : (List Ttowncrierref16_Given)) => ya4b j) (fun j => x1 = j) (lb rfl) ?_ ?_
 refine .seq (.pl zS [0, 3] ?_)
 refine .block ?_
 refine .loopG 0 (fun (j : Nat × (List Ttowncrierref16_Given)) => ya49 a0 j.1 j.2) (fun j => j.1 <= a0.length /\ zcj (a0.drop j.1) j.1 j.2 = some x1) (fun j => a0.length - j.1) (0, []) (lb rfl) ?_ ⟨Nat.zero_le _, hx1⟩ ?_
 refine Goes.new0 6 76 (lb rfl) ?_
 refine Goes.wk 3 _ (.ref 0 6 0 0 (some uC)) rfl (.own0 0 _ _ _ (by decide)) ?_
 exact .m [0, 3, 4] [0] []
 rintro ⟨n1, l2⟩ ⟨hi1, hx1⟩
 simp only [ya49]
 simp only at hi1 hx1
 refine .wf 0 (.imm 1 (a0.map zdn) 4) rfl ?_
 intro hln1
 replace hln1 : (a0.length : Int) <= 9223372036854775807 := by simp only [wf, wfL, IntKind.max, IntKind.min, IntKind.signed, IntKind.bits, List.length_map] at hln1; first | exact hln1.2 | exact hln1.1 | (simp at hln1; omega)
 refine .seq (.seq (.pl zS [0, 3, 4] ?_))
 refine .cond rfl rfl (fun hc1 => ?_) (fun hc1 => ?_)
 have h1 : n1 < a0.length := by simpa using hc1
 have hwn1 : wr .i64 ((n1 : Int) + 1) = ((n1 + 1 : Nat) : Int) := zch h1 hln1
 have hpn1 : wr .i64 ((n1 : Int) - 1) = (n1 : Int) - 1 := zci h1 hln1
 rw [List.drop_eq_getElem_cons h1, zh7] at hx1
 refine .skip ?_
 refine .seq (.block ?_)
 obtain ⟨v1, hv1, hx1⟩ := bind_some hx1
 obtain ⟨k1, hx1⟩ := zae hx1
 have e1 := zay zdn a0 n1 h1
 refine .rg zS [0, 3, 4] ?_
 refine .rnx 6 (ai e1 hwn1) ?_
 refine .call (r := .imm 6 (v1.map Ttowncrierref16_Given.d) 12) rfl rfl rfl rfl rfl rfl (zhh (n1 : Int) (a0[n1]) v1 hv1) ?_
 refine .rnx 2 (ai e1 hwn1) ?_
 refine .nil ⟨nofun, ?_⟩
 refine .plx zS hwn1 [0, 3, 4] ?_
 refine ⟨(n1 + 1, _), ?_, ⟨by omega, hx1⟩, by dsimp only; omega⟩
 exact .m [0, 3, 4] [1] [(1, 0)]
 have h2 : n1 = a0.length := by have h2b := of_decide_eq_false hc1; omega
 rw [List.drop_of_length_le (by omega), zh6] at hx1
 refine .exit ?_
 refine ⟨_, ?_, (sj hx1).symm⟩
 exact .m [3] [0] []
 rintro l1 hj1
 subst x1
 try dsimp only at h
 simp only [ya4b]
 obtain ⟨x2, hx2, h⟩ := bind_some h
 refine .seqM 1 (fun (j : Unit) => ya48) (fun j => x2 = (.inr j)) (lb rfl) ?_ ?_
 refine .seq (.pl zS [3] ?_)
 refine .block ?_
 refine .loopG 1 (fun (j : Nat × Int) => ya47 l1 j.2) (fun j => zax l1 j.1 j.2 = some x2) (fun j => j.1) (900, 0) (lb rfl) ?_ hx2 ?_
 exact .m [3, 5] [0] []
 rintro ⟨fu1, n2⟩ hx2
 simp only [ya47]
 try simp only at hx2
 obtain ⟨fu1, rfl⟩ : ∃ k, fu1 = k + 1 := by cases fu1 with | zero => (rw [zax] at hx2; cases hx2) | succ k => exact ⟨k, rfl⟩
 rw [zax] at hx2
 refine .seq (.seq (.pl zS [3, 5] ?_))
 refine .cond rfl rfl (fun hc2 => ?_) (fun hc2 => ?_)
 replace hx2 := za0 hx2 hc2
 refine .skip ?_
 obtain ⟨x3, hx3, hx2⟩ := bind_some hx2
 refine .seqM 1 (fun (j : Unit) => ya46 l1 n2) (fun j => x3 = (.inr j)) (lb rfl) ?_ ?_
 refine .block ?_
 refine .seq (.pl zS [3, 5] ?_)
 refine .block ?_
 refine .loopG 1 (fun (j : Nat × Int) => ya4a l1 n2 j.2) (fun j => zal l1 n2 j.1 j.2 = some x3) (fun j => j.1) (900, 0) (lb rfl) ?_ hx3 ?_
 exact .m [3, 5, 6] [0] []
 rintro ⟨fu2, n3⟩ hx3
 simp only [ya4a]
 try simp only at hx3
 obtain ⟨fu2, rfl⟩ : ∃ k, fu2 = k + 1 := by cases fu2 with | zero => (rw [zal] at hx3; cases hx3) | succ k => exact ⟨k, rfl⟩
 rw [zal] at hx3
 refine .seq (.seq (.pl zS [3, 5, 6] ?_))
 refine .cond rfl rfl (fun hc3 => ?_) (fun hc3 => ?_)
 replace hx3 := za0 hx3 hc3
 refine .skip ?_
 refine .seq (.block ?_)
 obtain ⟨k2, hx3⟩ := zae hx3
 obtain ⟨k3, hx3⟩ := zae hx3
 obtain ⟨k4, hx3⟩ := zae hx3
 obtain ⟨k5, hx3⟩ := zae hx3
 obtain ⟨v2, hv2, hx3⟩ := bind_some hx3
 refine .seqM 1 (fun (_ : Unit) => ⟨[(3, .ref 0 6 0 l1.length (some uC)), (5, .int .i64 n2), (6, .int .i64 n3), (58, .bool (((l1.getD n2.toNat default).Message.Id == (l1.getD n3.toNat default).Message.Id) && (!v2)))], [(0, .arr 76 6 true (l1.map Ttowncrierref16_Given.n))], 1⟩) (fun _ => True) (lb rfl) ?_ (fun _ _ => ?_)
 by_cases hgd : (l1.getD n2.toNat default).Message.Id = (l1.getD n3.toNat default).Message.Id
 have eg10 := zb1 Ttowncrierref16_Given.n l1 n2 (k4 hgd)
 have eg11 := zb1 Ttowncrierref16_Given.n l1 n3 (k5 hgd)
 have e2 := zb1 Ttowncrierref16_Given.n l1 n2
 have e3 := zb1 Ttowncrierref16_Given.n l1 n3
 replace e2 := e2 k2
 replace e3 := e3 k3
 refine .rg zS [3, 5, 6] ?_
 refine .rdx 6 (ai e2 (ai e3 (ai eg10 eg11))) ?_
 refine .rdx 6 (ai e2 (ai e3 (ai eg10 eg11))) ?_
 refine .rdx 6 (ai e2 (ai e3 (ai eg10 eg11))) ?_
 refine .rdx 6 (ai e2 (ai e3 (ai eg10 eg11))) ?_
 refine .gcall (r := .bool v2) rfl rfl rfl rfl rfl (fun hg => ⟨[], [.agg [.int .i64 ((l1.getD n2.toNat default).Message.Id), .imm 1 (((l1.getD n2.toNat default).Message.Groups).map (D.int .i64)) 12, .int .i64 ((l1.getD n2.toNat default).Message.Topic), .str ((l1.getD n2.toNat default).Message.Key), .str ((l1.getD n2.toNat default).Message.Body)], .agg [.int .i64 ((l1.getD n3.toNat default).Message.Id), .imm 1 (((l1.getD n3.toNat default).Message.Groups).map (D.int .i64)) 12, .int .i64 ((l1.getD n3.toNat default).Message.Topic), .str ((l1.getD n3.toNat default).Message.Key), .str ((l1.getD n3.toNat default).Message.Body)]], _, rfl, gd hg, rfl, (zao ((l1.getD n2.toNat default).Message) ((l1.getD n3.toNat default).Message) v2 (za0 hv2 hg))⟩) ?_
 refine .rdx 2 (ai e2 (ai e3 (ai eg10 eg11))) ?_
 refine .nd ?_
 refine ⟨(), ?_, trivial⟩
 exact .m [3, 5, 6, 58] [0] []
 have hgf1 : ((l1.getD n2.toNat default).Message.Id == (l1.getD n3.toNat default).Message.Id) = false := by first | simpa using hgd | (simp at hgd ⊢; omega) | grind
 rcases zl9 Ttowncrierref16_Given.n l1 n2.toNat with eg10 | eg10
 rcases zl9 Ttowncrierref16_Given.n l1 n3.toNat with eg11 | eg11
 have e2 := zb1 Ttowncrierref16_Given.n l1 n2
 have e3 := zb1 Ttowncrierref16_Given.n l1 n3
 replace e2 := e2 k2
 replace e3 := e3 k3
 refine .rg zS [3, 5, 6] ?_
 refine .rdx 6 (ai e2 (ai e3 (ai eg10 (ai eg11 hgf1)))) ?_
 refine .rdx 6 (ai e2 (ai e3 (ai eg10 (ai eg11 hgf1)))) ?_
 refine .rdx 6 (ai e2 (ai e3 (ai eg10 (ai eg11 hgf1)))) ?_
 refine .rdx 6 (ai e2 (ai e3 (ai eg10 (ai eg11 hgf1)))) ?_
 refine .gcall (r := .bool v2) rfl rfl rfl rfl rfl (fun hg => ⟨[], [.agg [.int .i64 ((l1.getD n2.toNat default).Message.Id), .imm 1 (((l1.getD n2.toNat default).Message.Groups).map (D.int .i64)) 12, .int .i64 ((l1.getD n2.toNat default).Message.Topic), .str ((l1.getD n2.toNat default).Message.Key), .str ((l1.getD n2.toNat default).Message.Body)], .agg [.int .i64 ((l1.getD n3.toNat default).Message.Id), .imm 1 (((l1.getD n3.toNat default).Message.Groups).map (D.int .i64)) 12, .int .i64 ((l1.getD n3.toNat default).Message.Topic), .str ((l1.getD n3.toNat default).Message.Key), .str ((l1.getD n3.toNat default).Message.Body)]], _, rfl, gd hg, rfl, (zao ((l1.getD n2.toNat default).Message) ((l1.getD n3.toNat default).Message) v2 (za0 hv2 hg))⟩) ?_
 refine .rdx 2 (ai e2 (ai e3 (ai eg10 (ai eg11 hgf1)))) ?_
 refine .nd ?_
 refine ⟨(), ?_, trivial⟩
 exact .mx hgf1 [3, 5, 6, 58] [0] []
 have e2 := zb1 Ttowncrierref16_Given.n l1 n2
 have e3 := zb1 Ttowncrierref16_Given.n l1 n3
 replace e2 := e2 k2
 replace e3 := e3 k3
 refine .rg zS [3, 5, 6] ?_
 refine .rdx 6 (ai e2 (ai e3 (ai eg10 (ai eg11 hgf1)))) ?_
 refine .rdx 6 (ai e2 (ai e3 (ai eg10 (ai eg11 hgf1)))) ?_
 refine .rdx 6 (ai e2 (ai e3 (ai eg10 (ai eg11 hgf1)))) ?_
 refine .rdx 6 (ai e2 (ai e3 (ai eg10 (ai eg11 hgf1)))) ?_
 refine .gcall (r := .bool v2) rfl rfl rfl rfl rfl (fun hg => ⟨[], [.agg [.int .i64 ((l1.getD n2.toNat default).Message.Id), .imm 1 (((l1.getD n2.toNat default).Message.Groups).map (D.int .i64)) 12, .int .i64 ((l1.getD n2.toNat default).Message.Topic), .str ((l1.getD n2.toNat default).Message.Key), .str ((l1.getD n2.toNat default).Message.Body)], .agg [.int .i64 ((l1.getD n3.toNat default).Message.Id), .imm 1 (((l1.getD n3.toNat default).Message.Groups).map (D.int .i64)) 12, .int .i64 ((l1.getD n3.toNat default).Message.Topic), .str ((l1.getD n3.toNat default).Message.Key), .str ((l1.getD n3.toNat default).Message.Body)]], _, rfl, gd hg, rfl, (zao ((l1.getD n2.toNat default).Message) ((l1.getD n3.toNat default).Message) v2 (za0 hv2 hg))⟩) ?_
 refine .rdx 2 (ai e2 (ai e3 (ai eg10 (ai eg11 hgf1)))) ?_
 refine .nd ?_
 refine ⟨(), ?_, trivial⟩
 exact .mx hgf1 [3, 5, 6, 58] [0] []
 rcases zl9 Ttowncrierref16_Given.n l1 n3.toNat with eg11 | eg11
 have e2 := zb1 Ttowncrierref16_Given.n l1 n2
 have e3 := zb1 Ttowncrierref16_Given.n l1 n3
 replace e2 := e2 k2
 replace e3 := e3 k3
 refine .rg zS [3, 5, 6] ?_
 refine .rdx 6 (ai e2 (ai e3 (ai eg10 (ai eg11 hgf1)))) ?_
 refine .rdx 6 (ai e2 (ai e3 (ai eg10 (ai eg11 hgf1)))) ?_
 refine .rdx 6 (ai e2 (ai e3 (ai eg10 (ai eg11 hgf1)))) ?_
 refine .rdx 6 (ai e2 (ai e3 (ai eg10 (ai eg11 hgf1)))) ?_
 refine .gcall (r := .bool v2) rfl rfl rfl rfl rfl (fun hg => ⟨[], [.agg [.int .i64 ((l1.getD n2.toNat default).Message.Id), .imm 1 (((l1.getD n2.toNat default).Message.Groups).map (D.int .i64)) 12, .int .i64 ((l1.getD n2.toNat default).Message.Topic), .str ((l1.getD n2.toNat default).Message.Key), .str ((l1.getD n2.toNat default).Message.Body)], .agg [.int .i64 ((l1.getD n3.toNat default).Message.Id), .imm 1 (((l1.getD n3.toNat default).Message.Groups).map (D.int .i64)) 12, .int .i64 ((l1.getD n3.toNat default).Message.Topic), .str ((l1.getD n3.toNat default).Message.Key), .str ((l1.getD n3.toNat default).Message.Body)]], _, rfl, gd hg, rfl, (zao ((l1.getD n2.toNat default).Message) ((l1.getD n3.toNat default).Message) v2 (za0 hv2 hg))⟩) ?_
 refine .rdx 2 (ai e2 (ai e3 (ai eg10 (ai eg11 hgf1)))) ?_
 refine .nd ?_
 refine ⟨(), ?_, trivial⟩
 exact .mx hgf1 [3, 5, 6, 58] [0] []
 have e2 := zb1 Ttowncrierref16_Given.n l1 n2
 have e3 := zb1 Ttowncrierref16_Given.n l1 n3
 replace e2 := e2 k2
 replace e3 := e3 k3
 refine .rg zS [3, 5, 6] ?_
 refine .rdx 6 (ai e2 (ai e3 (ai eg10 (ai eg11 hgf1)))) ?_
 refine .rdx 6 (ai e2 (ai e3 (ai eg10 (ai eg11 hgf1)))) ?_
 refine .rdx 6 (ai e2 (ai e3 (ai eg10 (ai eg11 hgf1)))) ?_
 refine .rdx 6 (ai e2 (ai e3 (ai eg10 (ai eg11 hgf1)))) ?_
 refine .gcall (r := .bool v2) rfl rfl rfl rfl rfl (fun hg => ⟨[], [.agg [.int .i64 ((l1.getD n2.toNat default).Message.Id), .imm 1 (((l1.getD n2.toNat default).Message.Groups).map (D.int .i64)) 12, .int .i64 ((l1.getD n2.toNat default).Message.Topic), .str ((l1.getD n2.toNat default).Message.Key), .str ((l1.getD n2.toNat default).Message.Body)], .agg [.int .i64 ((l1.getD n3.toNat default).Message.Id), .imm 1 (((l1.getD n3.toNat default).Message.Groups).map (D.int .i64)) 12, .int .i64 ((l1.getD n3.toNat default).Message.Topic), .str ((l1.getD n3.toNat default).Message.Key), .str ((l1.getD n3.toNat default).Message.Body)]], _, rfl, gd hg, rfl, (zao ((l1.getD n2.toNat default).Message) ((l1.getD n3.toNat default).Message) v2 (za0 hv2 hg))⟩) ?_
 refine .rdx 2 (ai e2 (ai e3 (ai eg10 (ai eg11 hgf1)))) ?_
 refine .nd ?_
 refine ⟨(), ?_, trivial⟩
 exact .mx hgf1 [3, 5, 6, 58] [0] []
 refine .cond rfl rfl (fun hc4 => ?_) (fun hc4 => ?_)
 replace hx3 := za0 hx3 hc4
 refine .seq (.pl zS [] ?_)
 have hq := sj hx3
 subst x3
 try dsimp only at hx2
 have hq := sj hx2
 subst x2
 try dsimp only at h
 have hq := sj h
 subst r
 exact .ret ⟨.inr rfl, rsi⟩
 replace hx3 := za3 hx3 hc4
 refine .skip ?_
 refine .pl zS [3, 5, 6] ?_
 refine ⟨(fu2, _), ?_, hx3, by dsimp only; omega⟩
 exact .m [3, 5, 6] [0] []
 replace hx3 := za3 hx3 hc3
 refine .exit ?_
 refine ⟨_, ?_, (sj hx3).symm⟩
 exact .m [3, 5] [0] []
 rintro ⟨⟩ hj2
 subst x3
 try dsimp only at hx2
 simp only [ya46]
 refine .pl zS [3, 5] ?_
 refine ⟨(fu1, _), ?_, hx2, by dsimp only; omega⟩
 exact .m [3, 5] [0] []
 replace hx2 := za3 hx2 hc2
 refine .exit ?_
 refine ⟨_, ?_, (sj hx2).symm⟩
 exact .m [] [] []
 rintro ⟨⟩ hj3
 subst x2
 try dsimp only at h
 simp only [ya48]
 refine .seq (.pl zS [] ?_)
 have hq := sj h
 subst r
 exact .ret ⟨.inr rfl, rsi⟩
@[go_sem] def ya54 : St := ⟨[], [], 0⟩
@[go_sem] def ya53 (a0 : List (List (List UInt8))) (n1 : Nat) : St := ⟨[(0, .imm 1 (a0.map zdn) 4), (3, .int .i64 (n1 : Int))], [], 0⟩
@[go_sem] def ya52 (a0 : List (List (List UInt8))) (n1 : Nat) : St := ⟨[(0, .imm 1 (a0.map zdn) 4), (3, .int .i64 (n1 : Int))], [], 0⟩
@[go_sem] def ya51 (a0 : List (List (List UInt8))) (n1 : Nat) (v2 : List Ttowncrierref16_Step) (n2 : Nat) : St := ⟨[(0, .imm 1 (a0.map zdn) 4), (3, .int .i64 (n1 : Int)), (4, .imm 19 (v2.map Ttowncrierref16_Step.d) 12), (5, .int .i64 (n2 : Int))], [], 0⟩
@[go_sem] def ya50 (a0 : List (List (List UInt8))) (n1 : Nat) (v2 : List Ttowncrierref16_Step) (n2 : Nat) : St := ⟨[(0, .imm 1 (a0.map zdn) 4), (3, .int .i64 (n1 : Int)), (4, .imm 19 (v2.map Ttowncrierref16_Step.d) 12), (5, .int .i64 (n2 : Int))], [], 0⟩
theorem zkv (a0 : List (List (List UInt8))) (r : Bool) (h : zfw a0 = some r) : zbn Tryz.prog 38 [.imm 1 (a0.map zdn) 4] (.bool r) := by
 refine za2 Tryz.tmOk 11 Tryz.func38 rfl (by decide) rfl rfl (lb rfl) ?_
 intro hwf
 unfold zfw at h
 refine .seq (.pl zS [0] ?_)
 refine .seq (.seq ?_)
 obtain ⟨v1, hv1, h⟩ := bind_some h
 refine .rg zS [0] ?_
 refine .rn 1 ?_
 refine .call (r := .bool v1) rfl rfl rfl rfl rfl rfl (zle a0 v1 hv1) ?_
 refine .rn 1 ?_
 refine .nil ⟨nofun, ?_⟩
 refine .cond rfl rfl (fun hc1 => ?_) (fun hc1 => ?_)
 replace h := za0 h hc1
 refine .seq (.pl zS [] ?_)
 have hq := sj h
 subst r
 exact .ret ⟨.inr rfl, rsi⟩
 replace h := za3 h hc1
 refine .skip ?_
 obtain ⟨x1, hx1, h⟩ := bind_some h
 refine .seqM 0 (fun (j : Unit) => ya54) (fun j => x1 = (.inr j)) (lb rfl) ?_ ?_
 refine .seq (.pl zS [0] ?_)
 refine .block ?_
 refine .loopG 0 (fun (j : Nat) => ya53 a0 j) (fun j => j <= a0.length /\ zbq a0 (a0.drop j) j  = some x1) (fun j => a0.length - j) (0) (lb rfl) ?_ ⟨Nat.zero_le _, hx1⟩ ?_
 exact .m [0, 3] [] []
 rintro n1 ⟨hi1, hx1⟩
 simp only [ya53]
 refine .wf 0 (.imm 1 (a0.map zdn) 4) rfl ?_
 intro hln1
 replace hln1 : (a0.length : Int) <= 9223372036854775807 := by simp only [wf, wfL, IntKind.max, IntKind.min, IntKind.signed, IntKind.bits, List.length_map] at hln1; first | exact hln1.2 | exact hln1.1 | (simp at hln1; omega)
 refine .seq (.seq (.pl zS [0, 3] ?_))
 refine .cond rfl rfl (fun hc2 => ?_) (fun hc2 => ?_)
 have h1 : n1 < a0.length := by simpa using hc2
 have hwn1 : wr .i64 ((n1 : Int) + 1) = ((n1 + 1 : Nat) : Int) := zch h1 hln1
 have hpn1 : wr .i64 ((n1 : Int) - 1) = (n1 : Int) - 1 := zci h1 hln1
 rw [List.drop_eq_getElem_cons h1, zbq] at hx1
 refine .skip ?_
 obtain ⟨x2, hx2, hx1⟩ := bind_some hx1
 refine .seqM 0 (fun (j : Unit) => ya52 a0 n1) (fun j => x2 = (.inr j)) (lb rfl) ?_ ?_
 refine .block ?_
 refine .seq ?_
 obtain ⟨v2, hv2, hx2⟩ := bind_some hx2
 have e1 := zay zdn a0 n1 h1
 refine .rg zS [0, 3] ?_
 refine .rnx 5 (ai e1 hwn1) ?_
 refine .call (r := .imm 19 (v2.map Ttowncrierref16_Step.d) 12) rfl rfl rfl rfl rfl rfl (zhi (n1 : Int) (a0[n1]) v2 hv2) ?_
 refine .rnx 1 (ai e1 hwn1) ?_
 refine .nil ⟨nofun, ?_⟩
 refine .seq (.plx zS hwn1 [0, 3, 4] ?_)
 refine .block ?_
 refine .loopG 0 (fun (j : Nat) => ya51 a0 n1 v2 j) (fun j => j <= v2.length /\ zau a0 (v2.drop j)  = some x2) (fun j => v2.length - j) (0) (lb rfl) ?_ ⟨Nat.zero_le _, hx2⟩ ?_
 exact .m [0, 3, 4, 5] [] []
 rintro n2 ⟨hi2, hx2⟩
 simp only [ya51]
 refine .wf 4 (.imm 19 (v2.map Ttowncrierref16_Step.d) 12) rfl ?_
 intro hln2
 replace hln2 : (v2.length : Int) <= 9223372036854775807 := by simp only [wf, wfL, IntKind.max, IntKind.min, IntKind.signed, IntKind.bits, List.length_map] at hln2; first | exact hln2.2 | exact hln2.1 | (simp at hln2; omega)
 refine .seq (.seq (.plx zS hwn1 [0, 3, 4, 5] ?_))
 refine .cond rfl rfl (fun hc3 => ?_) (fun hc3 => ?_)
 have h2 : n2 < v2.length := by simpa using hc3
 have hwn2 : wr .i64 ((n2 : Int) + 1) = ((n2 + 1 : Nat) : Int) := zch h2 hln2
 have hpn2 : wr .i64 ((n2 : Int) - 1) = (n2 : Int) - 1 := zci h2 hln2
 rw [List.drop_eq_getElem_cons h2, zau] at hx2
 refine .skip ?_
 obtain ⟨x3, hx3, hx2⟩ := bind_some hx2
 refine .seqM 0 (fun (j : Unit) => ya50 a0 n1 v2 n2) (fun j => x3 = (.inr j)) (lb rfl) ?_ ?_
 refine .block ?_
 refine .seq ?_
 have e2 := zay Ttowncrierref16_Step.d v2 n2 h2
 refine .plx zS (ai e2 (ai hwn1 hwn2)) [0, 3, 4, 5] ?_
 refine .seq (.seq (.plx zS (ai hwn1 hwn2) [0, 3, 4, 5, 6] ?_))
 refine .cond rfl rfl (fun hc4 => ?_) (fun hc4 => ?_)
 replace hx3 := za0 hx3 hc4
 refine .exit ?_
 refine ⟨_, ?_, (sj hx3).symm⟩
 exact .m [0, 3, 4, 5] [] []
 replace hx3 := za3 hx3 hc4
 refine .skip ?_
 refine .seq ?_
 obtain ⟨v3, hv3, hx3⟩ := bind_some hx3
 have e3 := zay Ttowncrierref16_Step.d v2 n2 h2
 refine .rg zS [0, 3, 4, 5, 6] ?_
 refine .rdx 7 (ai e3 (ai hwn1 hwn2)) ?_
 refine .hcall (H := []) (eff := []) (nw := (4, 8)) (r := .tuple [.agg [.int .i64 v3.1.Message.Id, .imm 1 (v3.1.Message.Groups.map (D.int .i64)) 4, .int .i64 v3.1.Message.Topic, .str v3.1.Message.Key, .str v3.1.Message.Body, .int .i64 v3.1.Time, .bool v3.1.Final], .bool v3.2]) rfl rfl rfl rfl rfl (zeh 4 (lb rfl) (zot (.cons (.aggs (.keep (.cons (.new4 _ _ rfl) (.cons (.new4 _ _ rfl) (.refl _))))) (.refl _)) (zl2 (v2[n2].Before) (v2[n2].C.Id) v3 hv3))) (fun id b h => zaj [] _ id b h) (by simp) (.inr ⟨lb rfl, lb rfl⟩) ?_
 refine .rdx 6 (ai e3 (ai hwn1 hwn2)) ?_
 refine .nd ?_
 refine .seq (.seq ?_)
 obtain ⟨v4, hv4, hx3⟩ := bind_some hx3
 have e4 := zay Ttowncrierref16_Step.d v2 n2 h2
 have e5 := zay Ttowncrierref16_Step.d v2 n2 h2
 refine .rg zS [0, 3, 4, 5, 6, 7, 8] ?_
 refine .rdx 6 (ai e4 (ai e5 (ai hwn1 hwn2))) ?_
 refine .rdx 6 (ai e4 (ai e5 (ai hwn1 hwn2))) ?_
 refine .rdx 6 (ai e4 (ai e5 (ai hwn1 hwn2))) ?_
 refine .rdx 6 (ai e4 (ai e5 (ai hwn1 hwn2))) ?_
 refine .gcall (r := .bool v4) rfl rfl rfl rfl rfl (fun hg => ⟨[], [.agg [.int .i64 (v2[n2].Before.Clock), .imm 7 ((v2[n2].Before.Waits).map TWait.d) 12, .imm 2 ((v2[n2].Before.Done).map TStamp.d) 12], .agg [.int .i64 (v2[n2].After.Clock), .imm 7 ((v2[n2].After.Waits).map TWait.d) 12, .imm 2 ((v2[n2].After.Done).map TStamp.d) 12]], _, rfl, gd hg, rfl, (zkx (v2[n2].Before) (v2[n2].After) v4 (za0 hv4 hg))⟩) ?_
 refine .rdx 1 (ai e4 (ai e5 (ai hwn1 hwn2))) ?_
 refine .nd ?_
 refine .cond rfl rfl (fun hc5 => ?_) (fun hc5 => ?_)
 replace hx3 := za0 hx3 hc5
 refine .exit ?_
 refine ⟨_, ?_, (sj hx3).symm⟩
 exact .m [0, 3, 4, 5] [] []
 replace hx3 := za3 hx3 hc5
 refine .skip ?_
 refine .seq ?_
 obtain ⟨v5, hv5, hx3⟩ := bind_some hx3
 refine .rg zS [0, 3, 4, 5, 6, 7] ?_
 refine .rnx 3 (ai hwn1 hwn2) ?_
 refine .call (r := .tuple [.int .i64 v5.1, .bool v5.2]) rfl rfl rfl rfl rfl rfl (zhr a0 v3.1.Message v5 hv5) ?_
 refine .rnx 5 (ai hwn1 hwn2) ?_
 refine .nil ⟨nofun, ?_⟩
 refine .seq (.plx zS (ai hwn1 hwn2) [0, 3, 4, 5, 6, 9, 10] ?_)
 refine .cond rfl rfl (fun hc6 => ?_) (fun hc6 => ?_)
 replace hx3 := za0 hx3 hc6
 refine .seq (.plx zS (ai hwn1 hwn2) [] ?_)
 have hq := sj hx3
 subst x3
 try dsimp only at hx2
 have hq := sj hx2
 subst x2
 try dsimp only at hx1
 have hq := sj hx1
 subst x1
 try dsimp only at h
 have hq := sj h
 subst r
 exact .ret ⟨.inr rfl, rsi⟩
 replace hx3 := za3 hx3 hc6
 refine .skip ?_
 refine ⟨_, ?_, (sj hx3).symm⟩
 exact .m [0, 3, 4, 5] [] []
 rintro ⟨⟩ hj1
 subst x3
 try dsimp only at hx2
 simp only [ya50]
 refine .plx zS (ai hwn1 hwn2) [0, 3, 4, 5] ?_
 refine ⟨n2 + 1, ?_, ⟨by omega, hx2⟩, by dsimp only; omega⟩
 exact .m [0, 3, 4, 5] [] []
 have h3 : n2 = v2.length := by have h3b := of_decide_eq_false hc3; omega
 rw [List.drop_of_length_le (by omega), zau] at hx2
 refine .exit ?_
 refine ⟨_, ?_, (sj hx2).symm⟩
 exact .m [0, 3] [] []
 rintro ⟨⟩ hj2
 subst x2
 try dsimp only at hx1
 simp only [ya52]
 refine .plx zS hwn1 [0, 3] ?_
 refine ⟨n1 + 1, ?_, ⟨by omega, hx1⟩, by dsimp only; omega⟩
 exact .m [0, 3] [] []
 have h4 : n1 = a0.length := by have h4b := of_decide_eq_false hc2; omega
 rw [List.drop_of_length_le (by omega), zbq] at hx1
 refine .exit ?_
 refine ⟨_, ?_, (sj hx1).symm⟩
 exact .m [] [] []
 rintro ⟨⟩ hj3
 subst x1
 try dsimp only at h
 simp only [ya54]
 refine .seq (.pl zS [] ?_)
 have hq := sj h
 subst r
 exact .ret ⟨.inr rfl, rsi⟩
theorem zk3 (a0 : List (List (List UInt8))) (r : Bool × Int) (h : zec a0 = some r) : zbn Tryz.prog 17 [.imm 1 (a0.map zdn) 4] (.tuple [.bool r.1, .int .i64 r.2]) := by
 refine za2 Tryz.tmOk 2 Tryz.func17 rfl (by decide) rfl rfl (lb rfl) ?_
 intro hwf
 unfold zec at h
 refine .seq (.pl zS [0] ?_)
 refine .seq ?_
 obtain ⟨v1, hv1, h⟩ := bind_some h
 refine .rg zS [0] ?_
 refine .rn 1 ?_
 refine .call (r := .int .i64 v1) rfl rfl rfl rfl rfl rfl (zi8 a0 v1 hv1) ?_
 refine .rn 1 ?_
 refine .nil ⟨nofun, ?_⟩
 refine .seq (.seq (.pl zS [0, 4] ?_))
 refine .cond rfl rfl (fun hc1 => ?_) (fun hc1 => ?_)
 replace h := za0 h hc1
 refine .seq (.pl zS [4] ?_)
 have hq := sj h
 subst r
 exact .ret ⟨.inr rfl, rsi⟩
 replace h := za3 h hc1
 refine .skip ?_
 refine .seq ?_
 obtain ⟨v2, hv2, h⟩ := bind_some h
 refine .rg zS [0] ?_
 refine .rn 1 ?_
 refine .call (r := .bool v2) rfl rfl rfl rfl rfl rfl (zkv a0 v2 hv2) ?_
 refine .rn 2 ?_
 refine .nil ⟨nofun, ?_⟩
 have hq := sj h
 subst r
 exact .ret ⟨.inr rfl, rsi⟩
@[go_sem] def ya4g (l1 : List TStamp) : St := ⟨[(5, .ref 0 2 0 l1.length (some uC))], [(0, .arr 72 2 true (l1.map TStamp.d))], 1⟩
@[go_sem] def ya4f (a0 : List TStamp) (a1 : List TStamp) (n1 : Nat) (l2 : List TStamp) : St := ⟨[(0, .imm 2 (a0.map TStamp.d) 4), (1, .imm 2 (a1.map TStamp.d) 4), (5, .ref 0 2 0 l2.length (some uC)), (6, .int .i64 (n1 : Int))], [(0, .arr 72 2 true (l2.map TStamp.d))], 1⟩
@[go_sem] def ya4e (a0 : List TStamp) (a1 : List TStamp) (n1 : Nat) (l3 : List TStamp) : St := ⟨[(0, .imm 2 (a0.map TStamp.d) 4), (1, .imm 2 (a1.map TStamp.d) 4), (5, .ref 1 2 0 l3.length (some uC)), (6, .int .i64 (n1 : Int))], [(1, .arr 72 2 true (l3.map TStamp.d))], 2⟩
@[go_sem] def ya4d (a0 : List TStamp) (a1 : List TStamp) (n1 : Nat) (l2 : List TStamp) (b1 : Bool) : St := ⟨[(0, .imm 2 (a0.map TStamp.d) 4), (1, .imm 2 (a1.map TStamp.d) 4), (5, .ref 0 2 0 l2.length (some uC)), (6, .int .i64 (n1 : Int)), (7, .bool b1)], [(0, .arr 72 2 true (l2.map TStamp.d))], 1⟩
@[go_sem] def ya4c (a0 : List TStamp) (a1 : List TStamp) (n1 : Nat) (l2 : List TStamp) (n2 : Nat) (b2 : Bool) : St := ⟨[(0, .imm 2 (a0.map TStamp.d) 4), (1, .imm 2 (a1.map TStamp.d) 4), (5, .ref 0 2 0 l2.length (some uC)), (6, .int .i64 (n1 : Int)), (7, .bool b2), (8, .int .i64 (n2 : Int))], [(0, .arr 72 2 true (l2.map TStamp.d))], 1⟩
@[go_sem] def st42 (r : (List TStamp)) : St := ⟨[(4, .ref 0 2 0 r.length (some uC))], [(0, .arr 72 2 true (r.map TStamp.d))], 1⟩
theorem zk7 (a0 : List TStamp) (a1 : List TStamp) (r : (List TStamp)) (h : zd2 a0 a1 = some r) : zcv Tryz.prog 41 [.imm 2 (a0.map TStamp.d) 4, .imm 2 (a1.map TStamp.d) 4] [] (.ref 0 2 0 r.length (some uC)) [(0, some (.arr 72 2 true (r.map TStamp.d)))] (0, 5) := by
 refine za5 Tryz.tmOk Tryz.func41 rfl (by decide) (lb rfl) (by simp) ?_
 intro hwf
 unfold zd2 at h
 refine .ends 0 (Nat.le_refl _) ?_
 refine .seq (.pl zS [0, 1] ?_)
 refine .seq (.pl zS [0, 1] ?_)
 obtain ⟨x1, hx1, h⟩ := bind_some h
 refine .seqM 0 (fun (j : (List TStamp)) => ya4g j) (fun j => x1 = j) (lb rfl) ?_ ?_
 refine .seq (.pl zS [0, 1, 5] ?_)
 refine .block ?_
 refine .loopG 0 (fun (j : Nat × (List TStamp)) => ya4f a0 a1 j.1 j.2) (fun j => j.1 <= a0.length /\ zbw a1 (a0.drop j.1) j.2 = some x1) (fun j => a0.length - j.1) (0, []) (lb rfl) ?_ ⟨Nat.zero_le _, hx1⟩ ?_
 refine Goes.new0 2 72 (lb rfl) ?_
 refine Goes.wk 5 _ (.ref 0 2 0 0 (some uC)) rfl (.own0 0 _ _ _ (by decide)) ?_
 exact .m [0, 1, 5, 6] [0] []
 rintro ⟨n1, l2⟩ ⟨hi1, hx1⟩
 simp only [ya4f]
 simp only at hi1 hx1
 refine .wf 0 (.imm 2 (a0.map TStamp.d) 4) rfl ?_
 intro hln1
 replace hln1 : (a0.length : Int) <= 9223372036854775807 := by simp only [wf, wfL, IntKind.max, IntKind.min, IntKind.signed, IntKind.bits, List.length_map] at hln1; first | exact hln1.2 | exact hln1.1 | (simp at hln1; omega)
 refine .seq (.seq (.pl zS [0, 1, 5, 6] ?_))
 refine .cond rfl rfl (fun hc1 => ?_) (fun hc1 => ?_)
 have h1 : n1 < a0.length := by simpa using hc1
 have hwn1 : wr .i64 ((n1 : Int) + 1) = ((n1 + 1 : Nat) : Int) := zch h1 hln1
 have hpn1 : wr .i64 ((n1 : Int) - 1) = (n1 : Int) - 1 := zci h1 hln1
 rw [List.drop_eq_getElem_cons h1, zga] at hx1
 refine .skip ?_
 obtain ⟨x2, hx2, hx1⟩ := bind_some hx1
 refine .seqM 1 (fun (j : (List TStamp)) => ya4e a0 a1 n1 j) (fun j => x2 = j) (lb rfl) ?_ ?_
 refine .block ?_
 refine .seq (.plx zS hwn1 [0, 1, 5, 6] ?_)
 obtain ⟨x3, hx3, hx2⟩ := bind_some hx2
 refine .seqM 1 (fun (j : Bool) => ya4d a0 a1 n1 l2 j) (fun j => x3 = j) (lb rfl) ?_ ?_
 refine .seq (.plx zS hwn1 [0, 1, 5, 6, 7] ?_)
 refine .block ?_
 refine .loopG 1 (fun (j : Nat × Bool) => ya4c a0 a1 n1 l2 j.1 j.2) (fun j => j.1 <= a1.length /\ zaw (a0[n1]) (a1.drop j.1) j.2 = some x3) (fun j => a1.length - j.1) (0, false) (lb rfl) ?_ ⟨Nat.zero_le _, hx3⟩ ?_
 exact .m [0, 1, 5, 6, 7, 8] [0] []
 rintro ⟨n2, b2⟩ ⟨hi2, hx3⟩
 simp only [ya4c]
 simp only at hi2 hx3
 refine .wf 1 (.imm 2 (a1.map TStamp.d) 4) rfl ?_
 intro hln2
 replace hln2 : (a1.length : Int) <= 9223372036854775807 := by simp only [wf, wfL, IntKind.max, IntKind.min, IntKind.signed, IntKind.bits, List.length_map] at hln2; first | exact hln2.2 | exact hln2.1 | (simp at hln2; omega)
 refine .seq (.seq (.plx zS hwn1 [0, 1, 5, 6, 7, 8] ?_))
 refine .cond rfl rfl (fun hc2 => ?_) (fun hc2 => ?_)
 have h2 : n2 < a1.length := by simpa using hc2
 have hwn2 : wr .i64 ((n2 : Int) + 1) = ((n2 + 1 : Nat) : Int) := zch h2 hln2
 have hpn2 : wr .i64 ((n2 : Int) - 1) = (n2 : Int) - 1 := zci h2 hln2
 rw [List.drop_eq_getElem_cons h2, zaw] at hx3
 refine .skip ?_
 refine .seq (.block ?_)
 have e1 := zay TStamp.d a1 n2 h2
 have e2 := zay TStamp.d a0 n1 h1
 refine .rg zS [0, 1, 5, 6, 7, 8] ?_
 refine .rdx 6 (ai e1 (ai e2 (ai hwn1 hwn2))) ?_
 refine .rdx 6 (ai e1 (ai e2 (ai hwn1 hwn2))) ?_
 refine .rdx 3 (ai e1 (ai e2 (ai hwn1 hwn2))) ?_
 refine .nd ?_
 refine .plx zS (ai hwn1 hwn2) [0, 1, 5, 6, 7, 8] ?_
 refine ⟨(n2 + 1, _), ?_, ⟨by omega, hx3⟩, by dsimp only; omega⟩
 exact .m [0, 1, 5, 6, 7, 8] [0] []
 have h3 : n2 = a1.length := by have h3b := of_decide_eq_false hc2; omega
 rw [List.drop_of_length_le (by omega), zaw] at hx3
 refine .exit ?_
 refine ⟨_, ?_, (sj hx3).symm⟩
 exact .m [0, 1, 5, 6, 7] [0] []
 rintro b1 hj1
 subst x3
 try dsimp only at hx2
 simp only [ya4d]
 refine .seq (.plx zS hwn1 [0, 1, 5, 6, 7] ?_)
 refine .cond rfl rfl (fun hc3 => ?_) (fun hc3 => ?_)
 replace hx2 := za0 hx2 hc3
 obtain ⟨k1, hx2⟩ := zae hx2
 have e3 := zay TStamp.d a0 n1 h1
 refine .plx zS (ai e3 hwn1) [0, 1, 5, 6] ?_
 refine ⟨_, ?_, (sj hx2).symm⟩
 exact .m [0, 1, 5, 6] [2] [(2, 1)]
 replace hx2 := za3 hx2 hc3
 refine .skip ?_
 refine ⟨_, ?_, (sj hx2).symm⟩
 exact .m [0, 1, 5, 6] [0] [(0, 1)]
 rintro l3 hj2
 subst x2
 try dsimp only at hx1
 simp only [ya4e]
 refine .plx zS hwn1 [0, 1, 5, 6] ?_
 refine ⟨(n1 + 1, _), ?_, ⟨by omega, hx1⟩, by dsimp only; omega⟩
 exact .m [0, 1, 5, 6] [1] [(1, 0)]
 have h4 : n1 = a0.length := by have h4b := of_decide_eq_false hc1; omega
 rw [List.drop_of_length_le (by omega), zg9] at hx1
 refine .exit ?_
 refine ⟨_, ?_, (sj hx1).symm⟩
 exact .m [5] [0] []
 rintro l1 hj3
 subst x1
 try dsimp only at h
 simp only [ya4g]
 refine .seq (.pl zS [5] ?_)
 have hq := sj h
 subst r
 refine .ret ⟨st42 l1, ?_, .inr rfl, retH [0] ?_ ?_⟩
 exact .m [4] [0] []
 exact rsi0
 rfl
theorem zhe (a0 : List TStamp) (a1 : List TStamp) (r : (List TStamp)) (h : zd2 a0 a1 = some r) : zbn Tryz.prog 41 [.imm 2 (a0.map TStamp.d) 4, .imm 2 (a1.map TStamp.d) 4] (.imm 2 (r.map TStamp.d) 12) :=
 zg0 (ziv zhf rfl rfl) (zk7 a0 a1 r h)
theorem zkd (a0 : List TStamp) (a1 : List TStamp) (r : Bool) (h : zeo a0 a1 = some r) : zbn Tryz.prog 19 [.imm 2 (a0.map TStamp.d) 4, .imm 2 (a1.map TStamp.d) 4] (.bool r) := by
 refine za2 Tryz.tmOk 2 Tryz.func19 rfl (by decide) rfl rfl (lb rfl) ?_
 intro hwf
 unfold zeo at h
 refine .seq (.pl zS [0, 1] ?_)
 refine .seq ?_
 obtain ⟨v1, hv1, h⟩ := bind_some h
 obtain ⟨v2, hv2, h⟩ := bind_some h
 refine .rg zS [0, 1] ?_
 refine .rn 2 ?_
 refine .call (r := .imm 2 (v1.map TStamp.d) 12) rfl rfl rfl rfl rfl rfl (zhe a0 a1 v1 hv1) ?_
 refine .rn 2 ?_
 refine .call (r := .imm 2 (v2.map TStamp.d) 12) rfl rfl rfl rfl rfl rfl (zhe a1 a0 v2 hv2) ?_
 refine .rn 2 ?_
 refine .nil ⟨nofun, ?_⟩
 refine .seq (.pl zS [5, 6] ?_)
 refine .seq ?_
 obtain ⟨k1, h⟩ := zae h
 obtain ⟨k2, h⟩ := zae h
 obtain ⟨v3, hv3, h⟩ := bind_some h
 refine .rg zS [5, 6, 7] ?_
 refine .rd 6 ?_
 refine .call (r := .bool v3) rfl rfl rfl rfl rfl rfl (zge (v1.take (min (v1.length : Int) (v2.length : Int)).toNat) (v2.take (min (v1.length : Int) (v2.length : Int)).toNat) v3 hv3) ?_
 refine .rd 1 ?_
 refine .nd ?_
 have hq := sj h
 subst r
 exact .ret ⟨.inr rfl, rsi⟩
theorem zj3 (a0 : List (List (List UInt8))) (a1 : TMessage) (a2 : List TStamp) (a3 : List TStamp) (r : Bool) (h : zek a0 a1 a2 a3 = some r) : zbn Tryz.prog 4 [.imm 1 (a0.map zdn) 4, .agg [.int .i64 a1.Id, .imm 1 (a1.Groups.map (D.int .i64)) 4, .int .i64 a1.Topic, .str a1.Key, .str a1.Body], .imm 2 (a2.map TStamp.d) 4, .imm 2 (a3.map TStamp.d) 4] (.bool r) := by
 refine za2 Tryz.tmOk 3 Tryz.func4 rfl (by decide) rfl rfl (lb rfl) ?_
 intro hwf
 unfold zek at h
 refine .seq (.pl zS [0, 1, 2, 3] ?_)
 refine .seq (.seq ?_)
 obtain ⟨v1, hv1, h⟩ := bind_some h
 refine .rg zS [0, 2, 3, 5] ?_
 refine .rn 1 ?_
 refine .call (r := .bool v1) rfl rfl rfl rfl rfl rfl (zkb a0 v1 hv1) ?_
 refine .rn 6 ?_
 refine .rn 6 ?_
 refine .rn 6 ?_
 refine .rn 8 ?_
 refine .nil ⟨nofun, ?_⟩
 refine .cond rfl rfl (fun hc1 => ?_) (fun hc1 => ?_)
 replace h := za0 h hc1
 refine .seq (.pl zS [] ?_)
 have hq := sj h
 subst r
 exact .ret ⟨.inr rfl, rsi⟩
 replace h := za3 h hc1
 refine .skip ?_
 refine .seq ?_
 obtain ⟨v2, hv2, h⟩ := bind_some h
 refine .rg zS [0, 2, 3, 5] ?_
 refine .rn 2 ?_
 refine .call (r := .tuple [.int .i64 v2.1, .bool v2.2.1, .int .i64 v2.2.2]) rfl rfl rfl rfl rfl rfl (zpg a0 a1 v2 hv2) ?_
 refine .rn 7 ?_
 refine .nil ⟨nofun, ?_⟩
 refine .seq ?_
 obtain ⟨v3, hv3, h⟩ := bind_some h
 refine .rg zS [0, 2, 3, 5, 9, 10, 11] ?_
 refine .rn 2 ?_
 refine .call (r := .tuple [.int .i64 v3.1, .bool v3.2.1, .int .i64 v3.2.2]) rfl rfl rfl rfl rfl rfl (zkc a0 a1 v3 hv3) ?_
 refine .rn 7 ?_
 refine .nil ⟨nofun, ?_⟩
 refine .seq ?_
 obtain ⟨v4, hv4, h⟩ := bind_some h
 refine .rg zS [0, 2, 3, 9, 10, 11, 12, 13, 14] ?_
 refine .rn 1 ?_
 refine .call (r := .tuple [.bool v4.1, .int .i64 v4.2]) rfl rfl rfl rfl rfl rfl (zoq a0 v4 hv4) ?_
 refine .rn 5 ?_
 refine .nil ⟨nofun, ?_⟩
 refine .seq ?_
 obtain ⟨v5, hv5, h⟩ := bind_some h
 refine .rg zS [0, 2, 3, 9, 10, 11, 12, 13, 14, 15, 16] ?_
 refine .rn 1 ?_
 refine .call (r := .tuple [.bool v5.1, .int .i64 v5.2]) rfl rfl rfl rfl rfl rfl (zk3 a0 v5 hv5) ?_
 refine .rn 5 ?_
 refine .nil ⟨nofun, ?_⟩
 refine .seq ?_
 obtain ⟨v6, hv6, h⟩ := bind_some h
 obtain ⟨v7, hv7, h⟩ := bind_some h
 refine .rg zS [2, 3, 9, 10, 11, 12, 13, 14, 15, 16, 17, 18] ?_
 refine .rn 6 ?_
 refine .rn 6 ?_
 refine .rn 6 ?_
 refine .rn 8 ?_
 refine .gcall (r := .bool v6) rfl rfl rfl rfl rfl (fun hg => ⟨[], [.imm 2 (a2.map TStamp.d) 4, .imm 2 (a3.map TStamp.d) 4], _, rfl, gd hg, rfl, (zph a2 a3 v6 (za0 hv6 hg))⟩) ?_
 refine .rn 2 ?_
 refine .gcall (r := .bool v7) rfl rfl rfl rfl rfl (fun hg => ⟨[], [.imm 2 (a2.map TStamp.d) 4, .imm 2 (a3.map TStamp.d) 4], _, rfl, gd hg, rfl, (zkd a2 a3 v7 (za0 hv7 hg))⟩) ?_
 refine .rn 3 ?_
 refine .nil ⟨nofun, ?_⟩
 have hq := sj h
 subst r
 exact .ret ⟨.inr rfl, rsi⟩
end Go.Proofs
end
section
namespace Go.Proofs
open Go.Tm
def zi4 : Int -> List Int -> Bool
 | _, [] => true
 | last, n :: r => decide (last < n) && decide (n < 6) && zi4 n r
end Go.Proofs
end
section
namespace Go.Proofs
open Go.Tm
set_option linter.unusedSimpArgs false
set_option linter.unusedVariables false
theorem zst (v : Int) (l : List Int) : ∀ n : Nat, (v ∈ l -> ∃ k : Nat, zbl v l n = some (.inl (k : Int))) /\ (v ∉ l -> zbl v l n = some (.inr ())) := by
 induction l with
 | nil => intro n; exact ⟨(fun h => by cases h), fun _ => rfl⟩
 | cons y l ih =>
  intro n
  rw [zbl]
  by_cases h : v = y
  rw [if_pos h]
  exact ⟨fun _ => ⟨n, rfl⟩, fun hn => absurd (h ▸ List.mem_cons_self) hn⟩
  rw [if_neg h]
  refine ⟨fun hv => (ih (n + 1)).1 ?_, fun hv => (ih (n + 1)).2 fun hh => hv (List.mem_cons_of_mem _ hh)⟩
  rcases List.mem_cons.1 hv with hv | hv
  exact absurd hv h
  exact hv
theorem zrx (l : List Int) (v : Int) : zdz l v = some (decide (v ∈ l)) := by
 rw [zdz, zfo]
 by_cases h : v ∈ l
 obtain ⟨k, hk⟩ := (zst v l 0).1 h
 rw [hk]
 simp [h]
 rw [(zst v l 0).2 h]
 simp [h]
theorem zzn (v : Int) (l : List Int) : zck v l = some (if v ∈ l then .inl true else .inr ()) := by
 induction l with
 | nil => rfl
 | cons y l ih =>
  rw [zck]
  by_cases h : y = v
  rw [if_pos h, if_pos (by rw [h]; exact List.mem_cons_self)]
  rw [if_neg h, ih]
  have : (v ∈ y :: l) ↔ v ∈ l := by simp [Ne.symm h]
  simp only [this]
theorem ya3e (l : List Int) (v : Int) : zej l v = some (decide (v ∈ l)) := by
 rw [zej, zzn]
 by_cases h : v ∈ l <;> simp [h]
theorem ya0m : ∀ (l : List Int) (k : Int), zi4 k l = true -> ∀ x ∈ l, k < x /\ x < 6 := by
 intro l
 induction l with
 | nil => intro _ _ x hx; cases hx
 | cons y l ih =>
  intro k h x hx
  simp only [zi4, Bool.and_eq_true, decide_eq_true_eq] at h
  rcases List.mem_cons.1 hx with rfl | hx
  exact h.1
  have := ih y h.2 x hx
  omega
theorem zvi (l : List Int) : ∀ n, zd9 l n = some (if zi4 n l = true then .inr (l.getLastD n) else .inl 60) := by
 induction l with
 | nil => intro n; simp [zd9, zi4]
 | cons y l ih =>
  intro n
  rw [zd9]
  by_cases h : (y <= n) \/ (y >= 6)
  rw [if_pos h, if_neg (by simp only [zi4, Bool.and_eq_true, decide_eq_true_eq]; omega)]
  rw [if_neg h, ih]
  have : zi4 n (y :: l) = zi4 y l := by
   simp only [zi4]
   have h1 : decide (n < y) = true := by simp; omega
   have h2 : decide (y < 6) = true := by simp; omega
   simp [h1, h2]
  rw [this, List.getLastD_cons]
def qerr (l : List Int) : Int := if l.length > 6 then 4 else if zi4 (-1) l = true /\ l ≠ [] then 0 else 60
theorem zug (l : List Int) : zhp l = some (qerr l) := by
 rw [zhp]
 unfold qerr
 by_cases h : (l.length : Int) > 6
 rw [if_pos h, if_pos (by omega)]
 rw [if_neg h, if_neg (by omega), zvi]
 by_cases hr : zi4 (-1) l = true
 rw [if_pos hr]
 cases l with
 | nil => simp
 | cons y l =>
  have hl := (ya0m (y :: l) (-1) hr ((y :: l).getLastD (-1)) (by rw [List.getLastD_eq_getLast?, List.getLast?_eq_some_getLast (by simp)]; exact List.getLast_mem (by simp))).1
  simp only [Option.bind_some, ne_eq, reduceCtorEq, not_false_eq_true, and_true, if_pos hr]
  rw [if_neg (by omega)]
 rw [if_neg hr]
 simp [hr]
theorem ya12 (l : List Int) : ∀ (pre : List Int) (k : Int), (pre = [] /\ k = -1 \/ 0 <= k /\ pre.getLast? = some k) -> zc2 (pre ++ l) l pre.length = some (if zi4 k l = true then .inr () else .inl false) := by
 induction l with
 | nil => intro pre k _; simp [zc2, zi4]
 | cons y l ih =>
  intro pre k hk
  rw [zc2]
  have hc : (((y < 0) \/ (y >= 6)) \/ (((pre.length : Int) > 0) /\ (y <= ((pre ++ y :: l).getD (pre.length - 1) default)))) ↔ ¬ (k < y /\ y < 6) := by
   rcases hk with ⟨rfl, rfl⟩ | ⟨h0, hl⟩
   simp; omega
   have hne : pre ≠ [] := by rintro rfl; simp at hl
   have hp : 0 < pre.length := List.length_pos_iff.2 hne
   have hg : (pre ++ y :: l).getD (pre.length - 1) default = k := by
    rw [List.getD_eq_getElem?_getD, List.getElem?_append_left (by omega), <- List.getLast?_eq_getElem?, hl]; rfl
   rw [hg]; omega
  by_cases h : k < y /\ y < 6
  rw [if_neg (fun hh => hc.1 hh h)]
  have e : zi4 k (y :: l) = zi4 y l := by simp [zi4, h.1, h.2]
  have := ih (pre ++ [y]) y (.inr ⟨by rcases hk with ⟨_, rfl⟩ | ⟨h0, _⟩ <;> omega, by simp⟩)
  rw [List.append_assoc, List.singleton_append, List.length_append, List.length_singleton] at this
  rw [e]; exact this
  rw [if_pos (hc.2 h), if_neg]
  simp only [zi4, Bool.and_eq_true, decide_eq_true_eq]
  exact fun hh => h hh.1
theorem ya7c (l : List Int) : zfb l = some (zi4 (-1) l && decide (1 <= l.length) && decide (l.length <= 6)) := by
 rw [zfb]
 have := ya12 l [] (-1) (.inl ⟨rfl, rfl⟩)
 rw [List.nil_append, List.length_nil] at this
 rw [this]
 by_cases h : zi4 (-1) l = true
 simp only [h, if_true, Option.bind_some, Bool.true_and]
 congr 1
 have e1 : decide ((l.length : Int) >= 1) = decide (1 <= l.length) := decide_eq_decide.2 (by omega)
 have e2 : decide ((l.length : Int) <= 6) = decide (l.length <= 6) := decide_eq_decide.2 (by omega)
 rw [e1, e2]
 simp [h]
theorem zxs (l : List Int) : zer l = some (qerr l) := by
 rw [zer, ya7c]
 unfold qerr
 by_cases h : (l.length : Int) > 6
 rw [if_pos h, if_pos (by omega)]
 rw [if_neg h, if_neg (by omega)]
 simp only [Option.bind_some]
 have h6 : decide (l.length <= 6) = true := by simp; omega
 rw [h6, Bool.and_true]
 by_cases hr : zi4 (-1) l = true
 cases l with
 | nil => simp
 | cons y l => simp [hr]
 simp [hr]
theorem zy8 (b : List Int) : ∀ (l : List Int) (n : Nat), n + l.length = b.length -> zbm b l n = some (if l = b.drop n then .inr () else .inl false) := by
 intro l
 induction l with
 | nil => intro n h; simp [zbm]; simp at h; omega
 | cons y l ih =>
  intro n h
  simp only [List.length_cons] at h
  have hn : n < b.length := by omega
  have hg : b.getD n default = b[n] := by simp [List.getD, List.getElem?_eq_getElem hn]
  have hd := List.drop_eq_getElem_cons hn
  rw [zbm, if_pos hn, hg]
  generalize b[n] = z at hd
  rw [hd]
  by_cases hy : y = z
  rw [if_neg (by simpa using hy), ih (n + 1) (by omega)]
  simp only [hy, List.cons.injEq, true_and]
  rw [if_pos hy]
  simp only [hy, List.cons.injEq, false_and, if_false]
theorem zx7 (a b : List Int) : zdy a b = some (decide (a = b)) := by
 rw [zdy]
 by_cases h : (a.length : Int) = (b.length : Int)
 rw [if_neg (by simpa using h), zy8 b a 0 (by omega), List.drop_zero]
 by_cases hab : a = b <;> simp [hab]
 rw [if_pos h]
 have : a ≠ b := fun hh => h (by rw [hh])
 simp [this]
theorem ya3f (i j : Nat) (h : i + j < 4000000) : wr .i64 (shw false .u64 (wr .u64 (wr .i64 ((i : Int) + (j : Int)))) 1) = (((i + j) / 2 : Nat) : Int) := by
 have e1 : wr .i64 ((i : Int) + (j : Int)) = (i : Int) + (j : Int) := zju _ _ (by show (-9223372036854775808 : Int) <= _; omega) (by show _ <= (9223372036854775807 : Int); omega)
 have e2 : wr .u64 ((i : Int) + (j : Int)) = (i : Int) + (j : Int) := zju _ _ (by show (0 : Int) <= _; omega) (by show _ <= (18446744073709551615 : Int); omega)
 have e3 : shw false .u64 ((i : Int) + (j : Int)) 1 = (((i + j) / 2 : Nat) : Int) := by
  unfold shw
  show Int.fdiv ((i : Int) + (j : Int)) 2 = _
  rw [Int.fdiv_eq_ediv_of_nonneg _ (by omega)]
  omega
 rw [e1, e2, e3]
 exact zju _ _ (by show (-9223372036854775808 : Int) <= _; omega) (by show _ <= (9223372036854775807 : Int); omega)
end Go.Proofs
end
section
namespace Go.Proofs
open Go.Tm
set_option linter.unusedSimpArgs false
def stW (w : TWait) : TStamp := ⟨w.Time, w.Message.Id⟩
def ltS (a b : TStamp) : Prop := a.Time < b.Time \/ (a.Time = b.Time /\ a.Id < b.Id)
instance (a b : TStamp) : Decidable (ltS a b) := by unfold ltS; infer_instance
theorem zrd {a b c : TStamp} (h : ltS a b) (k : ltS b c) : ltS a c := by unfold ltS at *; omega
theorem zy3 (a : TStamp) : ¬ ltS a a := by unfold ltS; omega
theorem zup {a b : TStamp} (h : a.Id ≠ b.Id) (k : ¬ ltS b a) : ltS a b := by unfold ltS at *; omega
theorem or2 (x y : Int) : zj0 [x, y] = some (if x = 0 then y else x) := by
 rw [zj0, zdv]
 by_cases hx : x = 0
 rw [if_neg (by simpa using hx), zdv, if_pos hx]
 by_cases hy : y = 0
 rw [if_neg (by simpa using hy), zdv]; simp [hy]
 rw [if_pos hy]; rfl
 rw [if_pos hx, if_neg hx]; rfl
theorem ya2e (x y : Int) : zfi x y = some (if x < y then -1 else if x > y then 1 else 0) := by
 have e : ∀ z : Int, zgc z = some false := fun z => by rw [zgc]; simp
 rw [zfi, e, e]
 simp only [Option.bind_some, Bool.false_eq_true, if_false]
 split
 rfl
 split <;> rfl
theorem zvt (a b : TStamp) : zgl a b = some (decide (ltS a b)) := by
 rw [zgl, ya2e, ya2e]
 simp only [Option.bind_some, or2, Option.some.injEq, decide_eq_decide, ltS]
 by_cases h1 : a.Time < b.Time
 simp [h1]
 by_cases h2 : a.Time > b.Time
 simp [h1, h2]; omega
 have : a.Time = b.Time := by omega
 by_cases h3 : a.Id < b.Id
 simp [this, h3]
 by_cases h4 : a.Id > b.Id <;> simp [this, h3, h4]
theorem ya0u (a b : TWait) : zee a b = some (if ltS (stW a) (stW b) then -1 else if ltS (stW b) (stW a) then 1 else 0) := by
 simp only [zee, zfr, Option.bind_some, zvt, decide_eq_true_eq]
 show (if ltS (stW a) (stW b) then _ else if ltS (stW b) (stW a) then _ else _) = _
 split
 rfl
 split <;> rfl
def minW : TWait -> List TWait -> TWait
 | m, [] => m
 | m, x :: l => minW (if ltS (stW x) (stW m) then x else m) l
theorem ztn : ∀ (l : List TWait) (m : TWait), minW m l = m \/ minW m l ∈ l := by
 intro l
 induction l with
 | nil => intro m; exact .inl rfl
 | cons x l ih =>
  intro m
  rw [minW]
  rcases ih (if ltS (stW x) (stW m) then x else m) with h | h
  rw [h]; split
  exact .inr (by simp)
  exact .inl rfl
  exact .inr (List.mem_cons_of_mem _ h)
theorem zrb : ∀ (l : List TWait) (m : TWait), ¬ ltS (stW m) (stW (minW m l)) /\ ∀ x ∈ l, ¬ ltS (stW x) (stW (minW m l)) := by
 intro l
 induction l with
 | nil => intro m; exact ⟨zy3 _, by simp⟩
 | cons x l ih =>
  intro m
  rw [minW]
  obtain ⟨h1, h2⟩ := ih (if ltS (stW x) (stW m) then x else m)
  have key : ¬ ltS (stW m) (stW (minW (if ltS (stW x) (stW m) then x else m) l)) /\ ¬ ltS (stW x) (stW (minW (if ltS (stW x) (stW m) then x else m) l)) := by
   by_cases h : ltS (stW x) (stW m)
   rw [if_pos h] at h1 ⊢
   exact ⟨fun k => h1 (zrd h k), h1⟩
   rw [if_neg h] at h1 ⊢
   refine ⟨h1, fun k => ?_⟩
   have := @zrd
   unfold ltS at *; omega
  refine ⟨key.1, fun y hy => ?_⟩
  rcases List.mem_cons.1 hy with rfl | hy
  exact key.2
  exact h2 y hy
theorem ya11 (l : List TWait) (hl : l.length < 1000000) : ∀ (fu k : Nat) (m : TWait), l.length - k < fu -> k <= l.length ->
  zan l zee fu m.Message.Id m.Message.Groups m.Message.Topic m.Message.Key m.Message.Body m.Time m.Final (k : Int)
   = some (let r := minW m (l.drop k); (r.Message.Id, r.Message.Groups, r.Message.Topic, r.Message.Key, r.Message.Body, r.Time, r.Final)) := by
 intro fu
 induction fu with
 | zero => intro k m h; omega
 | succ fu ih =>
  intro k m h hk
  rw [zan]
  by_cases hlt : k < l.length
  have hd := List.drop_eq_getElem_cons hlt
  have hg : l.getD (k : Int).toNat default = l[k] := by simp [List.getD, List.getElem?_eq_getElem hlt]
  have hw : wr .i64 ((k : Int) + 1) = ((k + 1 : Nat) : Int) := zju _ _ (by show (-9223372036854775808 : Int) <= _; omega) (by show _ <= (9223372036854775807 : Int); omega)
  rw [if_pos (by omega), if_pos (by omega), hg, ya0u, hd, minW]
  show Option.bind (Option.bind (some (if ltS (stW l[k]) (stW m) then (-1 : Int) else if ltS (stW m) (stW l[k]) then 1 else 0)) _) _ = _
  simp only [Option.bind_some]
  by_cases hc : ltS (stW l[k]) (stW m)
  simp only [hc, if_true]
  rw [if_pos (by decide), if_pos (by omega)]
  simp only [Option.bind_some]
  rw [hw, ih (k + 1) l[k] (by omega) (by omega)]
  simp only [hc, if_false]
  rw [if_neg (by split <;> decide)]
  simp only [Option.bind_some]
  rw [hw, ih (k + 1) m (by omega) (by omega)]
  rw [if_neg (by omega), List.drop_of_length_le (by omega), minW]
theorem ya26 (y : TWait) (l : List TWait) (hl : l.length < 900000) : zcl (y :: l) zee = some (minW y l) := by
 rw [zcl, if_neg (by simp; omega), if_pos (by simp)]
 have := ya11 (y :: l) (by simp; omega) ((y :: l).length + 1) 1 y (by simp; omega) (by simp)
 rw [show ((1 : Nat) : Int) = 1 from rfl] at this
 have e : (y :: l).getD 0 default = y := rfl
 rw [e, this]
 rfl
theorem zzd (l : List TWait) (f : TWait -> TWait -> Option Int) : ∀ (fu : Nat) (a : Int) (b : List Int) (c : Int) (d e : List UInt8) (g : Int) (h : Bool) (i : Int), zb3 l f fu a b c d e g h i = zan l f fu a b c d e g h i := by
 intro fu
 induction fu with
 | zero => intros; rfl
 | succ fu ih =>
  intros
  rw [zb3, zan]
  simp only [ih]
theorem zvr (y : TWait) (l : List TWait) (hl : l.length < 900000) : zdf (y :: l) zee = some (minW y l) := by
 rw [<- ya26 y l hl, zdf, zcl]
 simp only [zzd]
def IdOk (n : Int) : Prop := 0 <= n /\ n <= 6291455
def zme (l : List TWait) : Prop := l.Pairwise fun a b => a.Message.Id < b.Message.Id
theorem ya7n (w : TWait) (id : Int) (h1 : IdOk w.Message.Id) (h2 : IdOk id) : zdp w id = some (w.Message.Id - id) := by
 rw [zdp]
 unfold IdOk at *
 rw [zju _ _ (by show (-9223372036854775808 : Int) <= _; omega) (by show _ <= (9223372036854775807 : Int); omega)]
def plc (id : Int) : List TWait -> Nat
 | [] => 0
 | w :: l => if w.Message.Id < id then plc id l + 1 else 0
theorem zso (id : Int) : ∀ l, plc id l <= l.length := by
 intro l
 induction l with
 | nil => simp [plc]
 | cons w l ih => rw [plc]; split <;> simp <;> omega
theorem zwp (id : Int) : ∀ (l : List TWait), zme l -> ∀ (x : Nat) (h : x < l.length), (l[x].Message.Id < id ↔ x < plc id l) := by
 intro l
 induction l with
 | nil => intro _ x h; simp at h
 | cons w l ih =>
  intro hu x h
  have hu' := List.pairwise_cons.1 hu
  rw [plc]
  cases x with
  | zero => simp only [List.getElem_cons_zero]; split <;> simp [*]
  | succ x =>
   simp only [List.getElem_cons_succ]
   have hx : x < l.length := by simpa using h
   have := ih hu'.2 x hx
   split
   rw [this]; omega
   rename_i hw
   have := hu'.1 l[x] (List.getElem_mem hx)
   constructor
   intro _; omega
   intro h; omega
theorem ya3w (l : List TWait) (id : Int) (hl : l.length < 1000000) (hu : zme l) (hi : ∀ w ∈ l, IdOk w.Message.Id) (h2 : IdOk id) : ∀ (fu i j : Nat), j - i < fu -> i <= plc id l -> plc id l <= j -> j <= l.length ->
  za9 l id zdp fu (i : Int) (j : Int) = some ((plc id l : Nat) : Int) := by
 intro fu
 induction fu with
 | zero => intro i j h; omega
 | succ fu ih =>
  intro i j h h1 h3 h4
  rw [za9]
  by_cases hij : i < j
  have hm : (i + j) / 2 < l.length := by omega
  have hg : l.getD (((i + j) / 2 : Nat) : Int).toNat default = l[(i + j) / 2] := by rw [Int.toNat_natCast]; simp [List.getD, List.getElem?_eq_getElem hm]
  have e : wr .i64 ((((i + j) / 2 : Nat) : Int) + 1) = (((i + j) / 2 + 1 : Nat) : Int) := zju _ _ (by show (-9223372036854775808 : Int) <= _; omega) (by show _ <= (9223372036854775807 : Int); omega)
  rw [if_pos (by omega), ya3f i j (by omega), if_pos ⟨by omega, by omega⟩, hg, ya7n _ _ (hi _ (List.getElem_mem hm)) h2, e]
  simp only [Option.bind_some]
  have hp := zwp id l hu _ hm
  by_cases hc : l[(i + j) / 2].Message.Id < id
  rw [if_pos (by omega)]
  exact ih _ _ (by omega) (by have := hp.1 hc; omega) h3 h4
  rw [if_neg (by omega)]
  exact ih _ _ (by omega) h1 (by have : ¬ _ := fun k => hc (hp.2 k); omega) (by omega)
  rw [if_neg (by omega)]
  have : i = plc id l := by omega
  rw [this]
theorem zr4 (id : Int) (l : List TWait) (hu : zme l) : (∃ w ∈ l, w.Message.Id = id) ↔ ∃ h : plc id l < l.length, l[plc id l].Message.Id = id := by
 constructor
 rintro ⟨w, hw, rfl⟩
 obtain ⟨x, hx, rfl⟩ := List.getElem_of_mem hw
 have h1 : ¬ x < plc l[x].Message.Id l := fun k => by have := (zwp _ l hu x hx).2 k; omega
 have h2 : plc l[x].Message.Id l <= x := by omega
 have h3 : plc l[x].Message.Id l < l.length := by omega
 refine ⟨h3, ?_⟩
 have h4 : ¬ l[plc l[x].Message.Id l].Message.Id < l[x].Message.Id := fun k => by have := (zwp _ l hu _ h3).1 k; omega
 rcases Nat.lt_or_eq_of_le h2 with h5 | h5
 have := List.pairwise_iff_getElem.1 hu _ _ h3 hx h5
 omega
 simp only [h5]
 rintro ⟨h, e⟩
 exact ⟨_, List.getElem_mem h, e⟩
theorem zrp (c : Tskeen_clock) (id : Int) (hl : c.Skeen.Waits.length < 1000000) (hu : zme c.Skeen.Waits) (hi : ∀ w ∈ c.Skeen.Waits, IdOk w.Message.Id) (h2 : IdOk id) :
  zef c id = some (((plc id c.Skeen.Waits : Nat) : Int), decide (∃ w ∈ c.Skeen.Waits, w.Message.Id = id)) := by
 obtain ⟨⟨ck, l, dn⟩⟩ := c
 simp only at hl hu hi ⊢
 have hb := ya3w l id hl hu hi h2 (l.length + 1) 0 l.length (by omega) (by omega) (zso id l) (by omega)
 rw [zef, zcm]
 simp only
 have e0 : ((0 : Nat) : Int) = 0 := rfl
 rw [e0] at hb
 rw [hb]
 simp only [Option.bind_some]
 rw [if_pos (by intro h; omega)]
 have hp := zr4 id l hu
 by_cases hc : plc id l < l.length
 have hg : l.getD ((plc id l : Nat) : Int).toNat default = l[plc id l] := by rw [Int.toNat_natCast]; simp [List.getD, List.getElem?_eq_getElem hc]
 rw [if_pos (by omega), hg, ya7n _ _ (hi _ (List.getElem_mem hc)) h2]
 simp only [Option.bind_some, Option.some.injEq, Prod.mk.injEq, true_and]
 rw [decide_eq_true (by omega : ((plc id l : Nat) : Int) < (l.length : Int)), Bool.true_and]
 by_cases hx : ∃ w ∈ l, w.Message.Id = id
 obtain ⟨h3, h4⟩ := hp.1 hx
 simp only [hx, decide_true]
 simp; omega
 simp only [hx, decide_false]
 have : ¬ l[plc id l].Message.Id = id := fun k => hx (hp.2 ⟨hc, k⟩)
 simp; omega
 rw [if_neg (by omega)]
 have : ¬ ∃ w ∈ l, w.Message.Id = id := fun k => hc (hp.1 k).1
 simp only [Option.bind_some, this, decide_false]
 rw [decide_eq_false (by omega), Bool.false_and]
theorem zwx (f : TStamp -> Option Bool) (g : TStamp -> Bool) (hf : ∀ x, f x = some (g x)) (l : List TStamp) : ∀ n : Nat, (l.any g = true -> ∃ k : Nat, zam f l n = some (.inl (k : Int))) /\ (l.any g = false -> zam f l n = some (.inr ())) := by
 induction l with
 | nil => intro n; exact ⟨(fun h => by cases h), fun _ => rfl⟩
 | cons y l ih =>
  intro n
  rw [zam, hf, List.any_cons]
  cases hg : g y with
  | true => exact ⟨fun _ => ⟨n, by simp⟩, fun h => by cases h⟩
  | false => simpa using ih (n + 1)
theorem ya01 (c : Tskeen_clock) (id : Int) : zfx c id = some (c.Skeen.Done.any fun x => x.Id == id) := by
 rw [zfx, zdg, zds]
 have hf : ∀ x : TStamp, (fun x0 => zfc x0 id) x = some (x.Id == id) := fun x => rfl
 cases h : c.Skeen.Done.any fun x => x.Id == id with
 | true => obtain ⟨k, hk⟩ := (zwx _ _ hf c.Skeen.Done 0).1 h; rw [hk]; simp
 | false => rw [(zwx _ _ hf c.Skeen.Done 0).2 h]; simp
end Go.Proofs
end
section
namespace Go.Proofs
open Go.Tm
set_option linter.unusedSimpArgs false
theorem zrf (a b c : Int) : zdu a b c = some (decide (b <= a /\ a <= c)) := by
 rw [zdu]; by_cases h : b <= a <;> by_cases k : a <= c <;> simp [h, k]
instance (n : Int) : Decidable (IdOk n) := by unfold IdOk; infer_instance
theorem zv5 (a : Int) : zhc a = some (decide (IdOk a)) := by
 rw [zhc, zrf, Option.bind_some]; rfl
def zm7 (m : TMessage) : Prop := zat m = some 0
theorem ya0y (m : TMessage) : ∀ (l : List Int) (n : Nat) (b : Bool), ∃ r, zaf m l n b = some r := by
 intro l
 induction l with
 | nil => intro n b; exact ⟨b, rfl⟩
 | cons y l ih =>
  intro n b
  rw [zaf, zrf]
  cases b with
  | true => simp only [if_true, Option.bind_some]; exact ih _ _
  | false => simp only [Bool.false_eq_true, if_false, Option.bind_some]; exact ih _ _
theorem zvq (m : TMessage) : (∃ e, zat m = some e) /\ (zat m = some 0 -> IdOk m.Id) := by
 obtain ⟨b, hb⟩ := ya0y m m.Groups 0 ((decide ((m.Groups.length : Int) >= 1)) && (decide ((m.Groups.length : Int) <= 4)))
 have key : zat m = some (if ((((¬ (b = true)) \/ (¬ (decide (IdOk m.Id) = true))) \/ (¬ (decide (0 <= m.Topic /\ m.Topic <= 3) = true))) \/ ((m.Key.length : Int) > 16)) \/ ((m.Body.length : Int) > 64) then 120 else 0) := by
  rw [zat, hb]
  simp only [Option.bind_some, zv5, zrf]
  cases b with
  | true =>
   simp only [not_true_eq_false, not_false_eq_true, if_true, Option.bind_some, false_or]
   by_cases hi : IdOk m.Id
   simp only [hi, decide_true, not_true_eq_false, not_false_eq_true, if_true, Option.bind_some, false_or]
   split <;> rfl
   simp only [hi, decide_false, Bool.false_eq_true, not_false_eq_true, not_true_eq_false, if_false, Option.bind_some, true_or, if_true]
  | false => simp
 refine ⟨⟨_, key⟩, fun h => ?_⟩
 rw [key] at h
 by_cases hi : IdOk m.Id
 exact hi
 simp [hi] at h
theorem zm7.id {m : TMessage} (h : zm7 m) : IdOk m.Id := (zvq m).2 h
def zje (x : TStamp) : Prop := 0 <= x.Time /\ x.Time <= 1073741824 /\ 0 <= x.Id /\ x.Id < 6291456
instance (x : TStamp) : Decidable (zje x) := by unfold zje; infer_instance
theorem ya43 (x : TStamp) : zib x = some (if zje x then 0 else 8) := by
 rw [zib]
 by_cases h : zje x
 rw [if_pos h, if_neg (by unfold zje at h; omega)]
 rw [if_neg h, if_pos (by unfold zje at h; omega)]
theorem zuo (k i v : Int) : ∀ m : List (Int × Int), mget k (mput i v m) = if k = i then some v else mget k m := by
 intro m
 induction m with
 | nil => simp [mput, mget]
 | cons x m ih =>
  rw [mput]
  by_cases h : i = x.1
  rw [if_pos h]; simp only [mget]
  by_cases hk : k = i
  simp [hk]
  simp [hk, show k ≠ x.1 from fun e => hk (e.trans h.symm)]
  rw [if_neg h]; simp only [mget]
  by_cases hx : k = x.1
  simp [hx, show ¬ x.1 = i from fun e => h e.symm]
  rw [if_neg hx, ih, if_neg hx]
def DOk (c : Int) (D : List TStamp) : Prop := (∀ x ∈ D, zje x /\ 1 <= x.Time /\ x.Time <= c) /\ D.Pairwise ltS /\ (D.map TStamp.Id).Nodup
theorem DOk.pre {c : Int} {D E : List TStamp} (h : DOk c (D ++ E)) : DOk c D :=
 ⟨fun x hx => h.1 x (List.mem_append_left _ hx), (List.pairwise_append.1 h.2.1).1, by have := h.2.2; rw [List.map_append] at this; exact (List.nodup_append.1 this).1⟩
theorem ya13 {D : List TStamp} (h : D.Pairwise ltS) {p : TStamp} (hp : D.getLast? = some p) : ∀ x ∈ D, x = p \/ ltS x p := by
 obtain ⟨E, rfl⟩ := List.getLast?_eq_some_iff.1 hp
 intro x hx
 rcases List.mem_append.1 hx with hx | hx
 exact .inr ((List.pairwise_append.1 h).2.2 x hx p (by simp))
 simp at hx; exact .inl hx
theorem DOk.snoc {c : Int} {D : List TStamp} (h : DOk c D) (y : TStamp) : DOk c (D ++ [y]) ↔ (zje y /\ 1 <= y.Time /\ y.Time <= c) /\ (∀ p, D.getLast? = some p -> ltS p y) /\ y.Id ∉ D.map TStamp.Id := by
 constructor
 intro k
 refine ⟨k.1 y (by simp), fun p hp => ?_, fun hm => ?_⟩
 exact (List.pairwise_append.1 k.2.1).2.2 p (List.mem_of_getLast? hp) y (by simp)
 have := k.2.2; rw [List.map_append] at this
 exact (List.nodup_append.1 this).2.2 _ hm _ (by simp) rfl
 rintro ⟨h1, h2, h3⟩
 refine ⟨fun x hx => ?_, ?_, ?_⟩
 rcases List.mem_append.1 hx with hx | hx
 exact h.1 x hx
 simp at hx; subst hx; exact h1
 rw [List.pairwise_append]
 refine ⟨h.2.1, by simp, fun x hx z hz => ?_⟩
 simp at hz; subst hz
 cases hl : D.getLast? with
 | none => rw [List.getLast?_eq_none_iff] at hl; subst hl; simp at hx
 | some p =>
  rcases ya13 h.2.1 hl x hx with rfl | hh
  exact h2 _ hl
  exact zrd hh (h2 _ hl)
 rw [List.map_append, List.nodup_append]
 refine ⟨h.2.2, by simp, fun a ha b hb e => ?_⟩
 simp at hb; subst hb; subst e; exact h3 ha
def Mp (D : List TStamp) (m : List (Int × Int)) : Prop := ∀ k, ((mget k m).getD 0 > 0 ↔ k ∈ D.map TStamp.Id)
theorem Mp.snoc {D : List TStamp} {m : List (Int × Int)} (h : Mp D m) (y : TStamp) : Mp (D ++ [y]) (mput y.Id 1 m) := by
 intro k
 rw [zuo]
 by_cases e : k = y.Id
 simp [e]
 rw [if_neg e, h k]; simp [e]
theorem ck1 (s : TSkeen) : ∀ (l pre : List TStamp) (m : List (Int × Int)) (n3 n4 : Int), DOk s.Clock pre -> Mp pre m -> (∀ x, pre.getLast? = some x -> x = ⟨n3, n4⟩) ->
  (DOk s.Clock (pre ++ l) -> ∃ m' a b, zc0 s l pre.length m n3 n4 = some (.inr (m', a, b)) /\ Mp (pre ++ l) m' /\ ∀ x, (pre ++ l).getLast? = some x -> x = ⟨a, b⟩) /\
  (¬ DOk s.Clock (pre ++ l) -> zc0 s l pre.length m n3 n4 = some (.inl 8)) := by
 intro l
 induction l with
 | nil =>
  intro pre m n3 n4 h1 h2 h3
  rw [List.append_nil]
  exact ⟨fun _ => ⟨m, n3, n4, rfl, h2, h3⟩, fun h => absurd h1 h⟩
 | cons y l ih =>
  intro pre m n3 n4 h1 h2 h3
  have ea : pre ++ y :: l = (pre ++ [y]) ++ l := by simp
  have hs := h1.snoc y
  have el : (pre ++ [y]).length = pre.length + 1 := by simp
  have hlast : ∀ x, (pre ++ [y]).getLast? = some x -> x = ⟨y.Time, y.Id⟩ := by
   intro x hx; simp at hx; exact hx.symm
  -- the round's test
  have key : ∀ k : Option (Int ⊕ (List (Int × Int) × Int × Int)), (DOk s.Clock (pre ++ [y]) -> k = zc0 s l (pre.length + 1) (mput y.Id 1 m) y.Time y.Id) -> (¬ DOk s.Clock (pre ++ [y]) -> k = some (.inl 8)) -> zc0 s (y :: l) pre.length m n3 n4 = k := by
   intro k k1 k2
   rw [zc0, ya43]
   simp only [Option.bind_some, zvt]
   by_cases c1 : zje y /\ 1 <= y.Time /\ y.Time <= s.Clock
   have e1 : ¬ ((¬ (if zje y then (0 : Int) else 8) = 0 \/ y.Time < 1) \/ y.Time > s.Clock) := by
    rw [if_pos c1.1]; omega
   by_cases c2 : pre.length = 0
   have hp : pre = [] := List.length_eq_zero_iff.1 c2
   have hl : ∀ p, pre.getLast? = some p -> ltS p y := by subst hp; simp
   rw [if_neg (by rw [c2]; simp)]
   simp only [Option.bind_some]
   by_cases c3 : y.Id ∈ pre.map TStamp.Id
   rw [if_pos (.inr ((h2 _).2 c3)), k2 (fun h => (hs.1 h).2.2 c3)]
   rw [if_neg, k1 (hs.2 ⟨c1, hl, c3⟩)]
   rintro ((hh | hh) | hh)
   exact e1 hh
   omega
   exact c3 ((h2 _).1 hh)
   obtain ⟨p, hp⟩ : ∃ p, pre.getLast? = some p := by
    cases hq : pre.getLast? with
    | none => rw [List.getLast?_eq_none_iff] at hq; subst hq; simp at c2
    | some p => exact ⟨p, rfl⟩
   have ep := h3 p hp
   rw [if_pos ⟨e1, by omega⟩]
   simp only [Option.bind_some, decide_eq_true_eq]
   by_cases c4 : ltS ⟨n3, n4⟩ y
   by_cases c3 : y.Id ∈ pre.map TStamp.Id
   rw [if_pos (.inr ((h2 _).2 c3)), k2 (fun h => (hs.1 h).2.2 c3)]
   rw [if_neg, k1 (hs.2 ⟨c1, fun q hq => by rw [hp] at hq; cases hq; rw [ep]; exact c4, c3⟩)]
   rintro ((hh | hh) | hh)
   exact e1 hh
   exact hh.2 c4
   exact c3 ((h2 _).1 hh)
   rw [if_pos (.inl (.inr ⟨by omega, c4⟩)), k2 (fun h => c4 (by have := (hs.1 h).2.1 p hp; rwa [ep] at this))]
   have e1 : ((¬ (if zje y then (0 : Int) else 8) = 0 \/ y.Time < 1) \/ y.Time > s.Clock) := by
    by_cases c0 : zje y
    rw [if_pos c0]; have := c1; simp only [c0, true_and] at this; omega
    rw [if_neg c0]; exact .inl (.inl (by decide))
   rw [if_neg (by rintro ⟨hh, _⟩; exact hh e1)]
   simp only [Option.bind_some]
   rw [if_pos (.inl (.inl e1)), k2 (fun h => c1 (hs.1 h).1)]
  rw [ea]
  by_cases hd : DOk s.Clock (pre ++ [y])
  have := ih (pre ++ [y]) (mput y.Id 1 m) y.Time y.Id hd (h2.snoc y) hlast
  rw [el] at this
  rw [key _ (fun _ => rfl) (fun h => absurd hd h)]
  exact this
  refine ⟨fun h => absurd h.pre hd, fun _ => key _ (fun h => absurd h hd) (fun _ => rfl)⟩
def W1 (c : Int) (D : List TStamp) (w : TWait) : Prop := zm7 w.Message /\ 1 <= w.Time /\ w.Time <= c /\ (∀ x ∈ D, x.Id ≠ w.Message.Id) /\ ∀ x, D.getLast? = some x -> ltS x (stW w)
def WOk (c : Int) (D : List TStamp) (W : List TWait) : Prop := (∀ w ∈ W, W1 c D w) /\ zme W
theorem WOk.pre {c : Int} {D : List TStamp} {V W : List TWait} (h : WOk c D (V ++ W)) : WOk c D V := ⟨fun w hw => h.1 w (List.mem_append_left _ hw), (List.pairwise_append.1 h.2).1⟩
theorem ya18 {W : List TWait} (h : zme W) {p : TWait} (hp : W.getLast? = some p) : ∀ x ∈ W, x = p \/ x.Message.Id < p.Message.Id := by
 obtain ⟨E, rfl⟩ := List.getLast?_eq_some_iff.1 hp
 intro x hx
 rcases List.mem_append.1 hx with hx | hx
 exact .inr ((List.pairwise_append.1 h).2.2 x hx p (by simp))
 simp at hx; exact .inl hx
theorem WOk.snoc {c : Int} {D : List TStamp} {W : List TWait} (h : WOk c D W) (y : TWait) : WOk c D (W ++ [y]) ↔ W1 c D y /\ ∀ p, W.getLast? = some p -> p.Message.Id < y.Message.Id := by
 constructor
 intro k
 exact ⟨k.1 y (by simp), fun p hp => (List.pairwise_append.1 k.2).2.2 p (List.mem_of_getLast? hp) y (by simp)⟩
 rintro ⟨h1, h2⟩
 refine ⟨fun x hx => ?_, ?_⟩
 rcases List.mem_append.1 hx with hx | hx
 exact h.1 x hx
 simp at hx; subst hx; exact h1
 unfold zme
 rw [List.pairwise_append]
 refine ⟨h.2, by simp, fun x hx z hz => ?_⟩
 simp at hz; subst hz
 cases hl : W.getLast? with
 | none => rw [List.getLast?_eq_none_iff] at hl; subst hl; simp at hx
 | some p =>
  rcases ya18 h.2 hl x hx with rfl | hh
  exact h2 _ hl
  have := h2 _ hl; omega
theorem ck2 (s : TSkeen) (m : List (Int × Int)) (a b : Int) (hm : Mp s.Done m) (hab : ∀ x, s.Done.getLast? = some x -> x = ⟨a, b⟩) : ∀ (l pre : List TWait), s.Waits = pre ++ l -> WOk s.Clock s.Done pre ->
  (WOk s.Clock s.Done (pre ++ l) -> zbz s m a b l pre.length = some (.inr ())) /\ (¬ WOk s.Clock s.Done (pre ++ l) -> zbz s m a b l pre.length = some (.inl 8)) := by
 intro l
 induction l with
 | nil =>
  intro pre _ h1
  rw [List.append_nil]
  exact ⟨fun _ => rfl, fun h => absurd h1 h⟩
 | cons y l ih =>
  intro pre hw h1
  have ea : pre ++ y :: l = (pre ++ [y]) ++ l := by simp
  have hs := h1.snoc y
  have el : (pre ++ [y]).length = pre.length + 1 := by simp
  have hprev : ∀ p, pre.getLast? = some p -> s.Waits.getD (pre.length - 1) default = p := by
   intro p hp
   obtain ⟨E, rfl⟩ := List.getLast?_eq_some_iff.1 hp
   rw [hw]; simp [List.getD]
  obtain ⟨⟨e, he⟩, _⟩ := zvq y.Message
  have hmo : zm7 y.Message ↔ e = 0 := by unfold zm7; rw [he]; simp
  have key : ∀ k : Option (Int ⊕ Unit), (WOk s.Clock s.Done (pre ++ [y]) -> k = zbz s m a b l (pre.length + 1)) -> (¬ WOk s.Clock s.Done (pre ++ [y]) -> k = some (.inl 8)) -> zbz s m a b (y :: l) pre.length = k := by
   intro k k1 k2
   rw [zbz, he]
   simp only [Option.bind_some, zfr, zvt]
   let T1 : Prop := ((((¬ (e = 0) \/ y.Time < 1) \/ y.Time > s.Clock) \/ (((pre.length : Int) > 0) /\ y.Message.Id <= (s.Waits.getD (pre.length - 1) default).Message.Id)) \/ ((mget y.Message.Id m).getD 0 > 0))
   have t1 : ¬ T1 ↔ (zm7 y.Message /\ 1 <= y.Time /\ y.Time <= s.Clock /\ (∀ x ∈ s.Done, x.Id ≠ y.Message.Id)) /\ (∀ p, pre.getLast? = some p -> p.Message.Id < y.Message.Id) := by
    have h3 : ((mget y.Message.Id m).getD 0 > 0) ↔ ¬ ∀ x ∈ s.Done, x.Id ≠ y.Message.Id := by
     rw [hm]; simp
    have h4 : (((pre.length : Int) > 0) /\ y.Message.Id <= (s.Waits.getD (pre.length - 1) default).Message.Id) ↔ ¬ ∀ p, pre.getLast? = some p -> p.Message.Id < y.Message.Id := by
     cases hq : pre.getLast? with
     | none => rw [List.getLast?_eq_none_iff] at hq; subst hq; simp
     | some p =>
      rw [hprev p hq]
      have : pre.length > 0 := by
       rcases Nat.eq_zero_or_pos pre.length with h0 | h0
       rw [List.length_eq_zero_iff.1 h0] at hq; simp at hq
       exact h0
      constructor
      rintro ⟨_, h5⟩ h6; have := h6 p rfl; omega
      intro h5
      refine ⟨by omega, ?_⟩
      apply Decidable.byContradiction
      intro h6
      exact h5 fun q hq' => by cases hq'; omega
    show ¬ ((((¬ (e = 0) \/ y.Time < 1) \/ y.Time > s.Clock) \/ _) \/ _) ↔ _
    rw [h3, h4, hmo]
    constructor
    intro h
    refine ⟨⟨?_, ?_, ?_, ?_⟩, ?_⟩
    apply Decidable.byContradiction; intro q; exact h (.inl (.inl (.inl (.inl q))))
    apply Decidable.byContradiction; intro q; exact h (.inl (.inl (.inl (.inr (by omega)))))
    apply Decidable.byContradiction; intro q; exact h (.inl (.inl (.inr (by omega))))
    apply Classical.byContradiction; intro q; exact h (.inr q)
    apply Classical.byContradiction; intro q; exact h (.inl (.inr q))
    rintro ⟨⟨q1, q2, q3, q4⟩, q5⟩ ((((q | q) | q) | q) | q)
    exact q q1
    omega
    omega
    exact q q5
    exact q q4
   by_cases c1 : T1
   have c1' : ¬ (¬ T1 /\ (s.Done.length : Int) > 0) := fun h => h.1 c1
   show Option.bind (if ¬ T1 /\ (s.Done.length : Int) > 0 then _ else _) _ = k
   rw [if_neg c1']
   simp only [Option.bind_some]
   show Option.bind (if ¬ T1 /\ (s.Done.length : Int) > 0 then _ else _) _ = k
   rw [if_neg c1']
   simp only [Option.bind_some]
   rw [if_pos (.inl c1), k2]
   intro h
   have := hs.1 h
   exact t1.2 ⟨⟨this.1.1, this.1.2.1, this.1.2.2.1, this.1.2.2.2.1⟩, this.2⟩ c1
   have q := t1.1 c1
   by_cases c2 : s.Done = []
   have c1' : ¬ (¬ T1 /\ (s.Done.length : Int) > 0) := by rw [c2]; simp
   show Option.bind (if ¬ T1 /\ (s.Done.length : Int) > 0 then _ else _) _ = k
   rw [if_neg c1']
   simp only [Option.bind_some]
   show Option.bind (if ¬ T1 /\ (s.Done.length : Int) > 0 then _ else _) _ = k
   rw [if_neg c1']
   simp only [Option.bind_some]
   rw [if_neg, k1 (hs.2 ⟨⟨q.1.1, q.1.2.1, q.1.2.2.1, q.1.2.2.2, by rw [c2]; simp⟩, q.2⟩)]
   rintro (h | h)
   exact c1 h
   rw [c2] at h; simp at h
   obtain ⟨p, hp⟩ : ∃ p, s.Done.getLast? = some p := by
    cases hq : s.Done.getLast? with
    | none => rw [List.getLast?_eq_none_iff] at hq; exact absurd hq c2
    | some p => exact ⟨p, rfl⟩
   have hpos : (s.Done.length : Int) > 0 := by
    have := List.length_pos_iff.2 c2; omega
   have ep := hab p hp
   show Option.bind (if ¬ T1 /\ (s.Done.length : Int) > 0 then _ else _) _ = k
   rw [if_pos ⟨c1, hpos⟩]
   simp only [Option.bind_some]
   show Option.bind (if ¬ T1 /\ (s.Done.length : Int) > 0 then _ else _) _ = k
   rw [if_pos ⟨c1, hpos⟩]
   simp only [Option.bind_some, decide_eq_true_eq]
   show (if T1 \/ ((s.Done.length : Int) > 0 /\ ¬ ltS ⟨a, b⟩ (stW y)) then _ else _) = k
   by_cases c3 : ltS ⟨a, b⟩ (stW y)
   rw [if_neg, k1 (hs.2 ⟨⟨q.1.1, q.1.2.1, q.1.2.2.1, q.1.2.2.2, fun x hx => by rw [hab x hx]; exact c3⟩, q.2⟩)]
   rintro (h | h)
   exact c1 h
   exact h.2 c3
   rw [if_pos (.inr ⟨hpos, c3⟩), k2]
   intro h
   exact c3 (by have := (hs.1 h).1.2.2.2.2 p hp; rwa [ep] at this)
  rw [ea]
  by_cases hd : WOk s.Clock s.Done (pre ++ [y])
  have := ih (pre ++ [y]) (by rw [hw, ea]) hd
  rw [el] at this
  rw [key _ (fun _ => rfl) (fun h => absurd hd h)]
  exact this
  exact ⟨fun h => absurd h.pre hd, fun _ => key _ (fun h => absurd h hd) (fun _ => rfl)⟩
structure V (s : TSkeen) : Prop where
 c0 : 0 <= s.Clock
 c1 : s.Clock <= 1073741824
 lw : s.Waits.length <= 200
 ld : s.Done.length <= 200
 d : DOk s.Clock s.Done
 w : WOk s.Clock s.Done s.Waits
 m : ∀ y l, s.Waits = y :: l -> (minW y l).Final = false
theorem ya0i (s : TSkeen) : ∃ e, zhg s = some e /\ (e = 0 ↔ V s) := by
 rw [zhg]
 by_cases h0 : ((s.Clock < 0 \/ s.Clock > 1073741824) \/ (s.Waits.length : Int) > 200) \/ (s.Done.length : Int) > 200
 rw [if_pos h0]
 refine ⟨8, rfl, (by intro h; cases h), fun h => ?_⟩
 have := h.c0; have := h.c1; have := h.lw; have := h.ld; omega
 rw [if_neg h0]
 have d0 : DOk s.Clock [] := ⟨by simp, by simp, by simp⟩
 have hc := ck1 s s.Done [] [] 0 0 d0 (by intro k; simp [mget]) (by simp)
 rw [List.nil_append] at hc
 by_cases hd : DOk s.Clock s.Done
 obtain ⟨m, a, b, h1, h2, h3⟩ := hc.1 hd
 have h1 : zc0 s s.Done 0 [] 0 0 = _ := h1
 rw [h1]
 simp only [Option.bind_some]
 have w0 : WOk s.Clock s.Done [] := ⟨by simp, by simp [zme]⟩
 have hc2 := ck2 s m a b h2 h3 s.Waits [] rfl w0
 rw [List.nil_append] at hc2
 by_cases hw : WOk s.Clock s.Done s.Waits
 have h4 : zbz s m a b s.Waits 0 = _ := hc2.1 hw
 rw [h4]
 simp only [Option.bind_some]
 cases hl : s.Waits with
 | nil =>
  refine ⟨0, by simp, fun _ => ⟨by omega, by omega, by omega, by omega, hd, hw, by rw [hl]; simp⟩, fun _ => rfl⟩
 | cons y l =>
  rw [if_pos (by simp only [List.length_cons]; omega), ya26 y l (by rw [hl] at h0; simp at h0; omega)]
  simp only [Option.bind_some]
  by_cases hf : (minW y l).Final = true
  rw [if_pos ⟨by simp only [List.length_cons]; omega, hf⟩]
  refine ⟨8, rfl, (by intro h; cases h), fun h => ?_⟩
  have := h.m y l hl
  rw [hf] at this; cases this
  rw [if_neg (fun h => hf h.2)]
  refine ⟨0, rfl, fun _ => ⟨by omega, by omega, by omega, by omega, hd, hw, fun y' l' h => ?_⟩, fun _ => rfl⟩
  rw [hl] at h; cases h
  simpa using hf
 have h4 : zbz s m a b s.Waits 0 = _ := hc2.2 hw
 rw [h4]
 simp only [Option.bind_some]
 exact ⟨8, rfl, (by intro h; cases h), fun h => absurd h.w hw⟩
 have h1 : zc0 s s.Done 0 [] 0 0 = _ := hc.2 hd
 rw [h1]
 simp only [Option.bind_some]
 exact ⟨8, rfl, (by intro h; cases h), fun h => absurd h.d hd⟩
end Go.Proofs
end
