/- Texts of the proof. -/
import Derived.Test.YtafdfmkjjhimaaaGreatDoorGroupPutsCardPg
import Derived.Test.YtafdfmkjjhimaaaGreatDoorGroupPutsCardPh
namespace Go.Proofs
open Go.Tm Go.RowKit Go.WideShapes
set_option maxRecDepth 100000
set_option maxHeartbeats 4000000
set_option linter.unusedSimpArgs false
set_option linter.unusedVariables false
theorem zt4 (a0 : Int) (r : Int × Int × Int) (h : zks a0 = some r) : zb9 Tryz.prog 155 [.int .i64 a0] (.tuple [.int .i64 r.1, .int .i64 r.2.1, .int .i64 r.2.2]) := by
 refine zbt 2 Tryz.func155 ?_
 intro hwf
 unfold zks at h
 refine .sp [0] ?_
 refine .seq (.seq (.pl zS [0, 4] ?_))
 refine .cd ?_ ?_ <;> intro hc1
 replace h := zaf h hc1
 refine .sp [] ?_
 obtain rfl := sj h
 exact .rr
 replace h := zao h hc1
 refine .skip (.seq (.pl zS [0, 4] ?_))
 obtain rfl := sj h
 exact .rr
theorem zpn (a0 : TStamp) (r : Int) (h : zhj a0 = some r) : zb9 Tryz.prog 90 [.agg [.int .i64 a0.Time, .int .i64 a0.Id]] (.int .i64 r) := by
 refine zbt 3 Tryz.func90 ?_
 intro hwf
 unfold zhj at h
 refine .sp [0] ?_
 refine .seq (.seq (.rg zS [1] ?_))
 refine .rn 6 ?_
 refine .rn 6 ?_
 refine .rn 6 ?_
 refine .nn ?_
 refine .cd ?_ ?_ <;> intro hc1
 replace h := zaf h hc1
 refine .sp [] ?_
 obtain rfl := sj h
 exact .rr
 replace h := zao h hc1
 refine .skip (.seq (.pl zS [] ?_))
 obtain rfl := sj h
 exact .rr
theorem zw7 (a0 : Int) (r : Bool) (h : zoe a0 = some r) : zb9 Tryz.prog 207 [.int .i64 a0] (.bool r) := by
 refine zbt 2 Tryz.func207 ?_
 intro hwf
 unfold zoe at h
 refine .sp [0] ?_
 refine .sp [0] ?_
 obtain rfl := sj h
 exact .rr
theorem zec (a0 : Int) (a1 : Int) (a2 : Int) (r : Bool) (h : zd8 a0 a1 a2 = some r) : zb9 Tryz.prog 145 [.int .i64 a0, .int .i64 a1, .int .i64 a2] (.bool r) := by
 refine zbt 2 Tryz.func145 ?_
 intro hwf
 unfold zd8 at h
 refine .sp [0, 1, 2] ?_
 refine .sr [0, 1, 2] ?_
 refine .rn 6 ?_
 refine .rn 3 ?_
 refine .nn ?_
 obtain rfl := sj h
 exact .rr
theorem zj4 (a0 : Int) (r : Bool) (h : zgi a0 = some r) : zb9 Tryz.prog 146 [.int .i64 a0] (.bool r) := by
 refine zbt 2 Tryz.func146 ?_
 intro hwf
 unfold zgi at h
 refine .sp [0] ?_
 obtain ⟨v1, hv1, h⟩ := za2 h
 refine .sr [0] ?_
 refine .rn 1 ?_
 refine .cl (zec a0 0 6291455 v1 hv1) ?_
 refine .rn 1 ?_
 refine .nn ?_
 obtain rfl := sj h
 exact .rr
@[go_sem] def st50 (a0 : TMessage) (b1 : Bool) : St := ⟨[(1, .ptr 0 0), (3, .bool b1)], [(0, .box [.int .i64 a0.Id, .imm 1 (a0.Groups.map (D.int .i64)) 4, .int .i64 a0.Topic, .str a0.Key, .str a0.Body])], 1⟩
@[go_sem] def st51 (a0 : TMessage) (n1 : Nat) (b2 : Bool) : St := ⟨[(1, .ptr 0 0), (3, .bool b2), (17, .imm 1 (a0.Groups.map (D.int .i64)) 4), (18, .int .i64 (a0.Groups.length : Int)), (19, .int .i64 (n1 : Int))], [(0, .box [.int .i64 a0.Id, .imm 1 (a0.Groups.map (D.int .i64)) 4, .int .i64 a0.Topic, .str a0.Key, .str a0.Body])], 1⟩
theorem zgs (a0 : TMessage) (r : Int) (h : zbj a0 = some r) : zb9 Tryz.prog 92 [.agg [.int .i64 a0.Id, .imm 1 (a0.Groups.map (D.int .i64)) 4, .int .i64 a0.Topic, .str a0.Key, .str a0.Body]] (.int .i64 r) := by
 refine zbt 3 Tryz.func92 ?_
 intro hwf
 unfold zbj at h
 refine .sp [0] ?_
 refine .sr [1] ?_
 refine .rn 6 ?_
 refine .rn 5 ?_
 refine .nn ?_
 obtain ⟨x1, hx1, h⟩ := za2 h
 refine .seqM 1 (fun (j : Bool) => st50 a0 j) (fun j => x1 = j) (lb rfl) ?_ ?_
 refine .sp [1, 3] ?_
 refine .block ?_
 refine .loopG 1 (fun (j : Nat × Bool) => st51 a0 j.1 j.2) (fun j => j.1 <= a0.Groups.length /\ zba a0 (a0.Groups.drop j.1) j.1 j.2 = some x1) (fun j => a0.Groups.length - j.1) (0, ((decide ((a0.Groups.length : Int) >= 1)) && (decide ((a0.Groups.length : Int) <= 4)))) (lb rfl) ?_ ⟨Nat.zero_le _, hx1⟩ ?_
 exact .m [1, 3, 17, 18, 19] [0] []
 rintro ⟨n1, b2⟩ ⟨hi1, hx1⟩
 simp only [st51]
 simp only at hi1 hx1
 refine .wf 18 (.int .i64 (a0.Groups.length : Int)) rfl ?_
 intro hln1
 replace hln1 := wfn hln1
 refine .sp [1, 3, 17, 18, 19] ?_
 refine .seq (.cd (fun hc1 => ?_) (fun hc1 => ?_))
 have h1 : n1 < a0.Groups.length := by simpa using hc1
 have hwn1 := zdw h1 hln1
 have hpn1 := zdx h1 hln1
 rw [za7 h1, zba] at hx1
 refine .skip (.seq (.block (.seq ?_)))
 have e1 := zdk (D.int .i64) a0.Groups n1 h1
 refine .plx zS (ai e1 hwn1) [1, 3, 17, 18, 19] ?_
 obtain ⟨v1, hv1, hx1⟩ := za2 hx1
 have e2 := zex (D.int .i64) a0.Groups (n1 - 1) (by omega)
 refine .rg zS [1, 3, 4, 5, 17, 18, 19] ?_
 refine .rnx 3 (ai e2 (ai hpn1 hwn1)) ?_
 refine .gcall rfl rfl rfl rfl rfl (fun hg => ⟨[], [.int .i64 (a0.Groups[n1]), .int .i64 0, .int .i64 3], _, rfl, gd hg, rfl, (zec (a0.Groups[n1]) 0 3 v1 (zaf hv1 hg))⟩) ?_
 refine .rnx 6 (ai e2 (ai hpn1 hwn1)) ?_
 refine .rnx 6 (ai e2 (ai hpn1 hwn1)) ?_
 refine .rnx 4 (ai e2 (ai hpn1 hwn1)) ?_
 refine .nn ?_
 refine .plx zS hwn1 [1, 3, 17, 18, 19] ?_
 refine ⟨(n1 + 1, _), ?_, ⟨by omega, hx1⟩, by dsimp only; omega⟩
 exact .m [1, 3, 17, 18, 19] [0] []
 have h2 : n1 = a0.Groups.length := by have h2b := of_decide_eq_false hc1; omega
 rw [zab (by omega), zba] at hx1
 refine .exit ?_
 refine ⟨_, ?_, (sj hx1).symm⟩
 exact .m [1, 3] [0] []
 rintro b1 hj1
 subst x1
 try dsimp only at h
 simp only [st50]
 refine .seq ?_
 obtain ⟨v2, hv2, h⟩ := za2 h
 obtain ⟨v3, hv3, h⟩ := za2 h
 refine .sr [1, 3] ?_
 refine .rn 5 ?_
 refine .gcall rfl rfl rfl rfl rfl (fun hg => ⟨[], [.int .i64 a0.Id], _, rfl, gd hg, rfl, (zj4 a0.Id v2 (zaf hv2 hg))⟩) ?_
 refine .rn 5 ?_
 refine .gcall rfl rfl rfl rfl rfl (fun hg => ⟨[], [.int .i64 a0.Topic, .int .i64 0, .int .i64 3], _, rfl, gd hg, rfl, (zec a0.Topic 0 3 v3 (zaf hv3 hg))⟩) ?_
 refine .rn 6 ?_
 refine .rn 8 ?_
 refine .nn ?_
 refine .cd ?_ ?_ <;> intro hc2
 replace h := zaf h hc2
 refine .sp [] ?_
 obtain rfl := sj h
 exact .rr
 replace h := zao h hc2
 refine .skip (.seq (.pl zS [] ?_))
 obtain rfl := sj h
 exact .rr
theorem zh2 (a0 : TMessage) (a1 : TMessage) (r : Bool) (h : zdh a0 a1 = some r) : zb9 Tryz.prog 105 [.agg [.int .i64 a0.Id, .imm 1 (a0.Groups.map (D.int .i64)) 4, .int .i64 a0.Topic, .str a0.Key, .str a0.Body], .agg [.int .i64 a1.Id, .imm 1 (a1.Groups.map (D.int .i64)) 4, .int .i64 a1.Topic, .str a1.Key, .str a1.Body]] (.bool r) := by
 refine zbt 4 Tryz.func105 ?_
 intro hwf
 unfold zdh at h
 refine .sp [0, 1] ?_
 obtain ⟨v1, hv1, h⟩ := za2 h
 refine .sr [2, 3] ?_
 refine .rn 6 ?_
 refine .rn 4 ?_
 refine .gcall rfl rfl rfl rfl rfl (fun hg => ⟨[], [.imm 1 (a0.Groups.map (D.int .i64)) 4, .imm 1 (a1.Groups.map (D.int .i64)) 4], _, rfl, gd hg, rfl, (ze1 a0.Groups a1.Groups v1 (zaf hv1 hg))⟩) ?_
 refine .rn 6 ?_
 refine .rn 6 ?_
 refine .rn 6 ?_
 refine .rn 5 ?_
 refine .nn ?_
 obtain rfl := sj h
 exact .rr
theorem zou (a0 : TCommand) (a1 : TCommand) (r : Bool) (h : zh1 a0 a1 = some r) : zb9 Tryz.prog 121 [.agg [.int .u8 a0.Kind, .int .i64 a0.Message.Id, .imm 1 (a0.Message.Groups.map (D.int .i64)) 4, .int .i64 a0.Message.Topic, .str a0.Message.Key, .str a0.Message.Body, .int .i64 a0.Id, .int .i64 a0.Time, .imm 1 (a0.Members.map (D.int .i64)) 4, .int .i64 a0.Topic, .int .i64 a0.Who, .int .i64 a0.N], .agg [.int .u8 a1.Kind, .int .i64 a1.Message.Id, .imm 1 (a1.Message.Groups.map (D.int .i64)) 4, .int .i64 a1.Message.Topic, .str a1.Message.Key, .str a1.Message.Body, .int .i64 a1.Id, .int .i64 a1.Time, .imm 1 (a1.Members.map (D.int .i64)) 4, .int .i64 a1.Topic, .int .i64 a1.Who, .int .i64 a1.N]] (.bool r) := by
 refine zbt 4 Tryz.func121 ?_
 intro hwf
 unfold zh1 at h
 refine .sp [0, 1] ?_
 obtain ⟨v1, hv1, h⟩ := za2 h
 obtain ⟨v2, hv2, h⟩ := za2 h
 refine .sr [2, 3] ?_
 refine .rn 6 ?_
 refine .rn 4 ?_
 refine .gcall rfl rfl rfl rfl rfl (fun hg => ⟨[], [.agg [.int .i64 a0.Message.Id, .imm 1 (a0.Message.Groups.map (D.int .i64)) 4, .int .i64 a0.Message.Topic, .str a0.Message.Key, .str a0.Message.Body], .agg [.int .i64 a1.Message.Id, .imm 1 (a1.Message.Groups.map (D.int .i64)) 4, .int .i64 a1.Message.Topic, .str a1.Message.Key, .str a1.Message.Body]], _, rfl, gd hg, rfl, (zh2 a0.Message a1.Message v1 (zaf hv1 hg))⟩) ?_
 refine .rn 6 ?_
 refine .rn 6 ?_
 refine .rn 8 ?_
 refine .gcall rfl rfl rfl rfl rfl (fun hg => ⟨[], [.imm 1 (a0.Members.map (D.int .i64)) 4, .imm 1 (a1.Members.map (D.int .i64)) 4], _, rfl, gd hg, rfl, (ze1 a0.Members a1.Members v2 (zaf hv2 hg))⟩) ?_
 refine .rn 6 ?_
 refine .rn 6 ?_
 refine .rn 6 ?_
 refine .rn 5 ?_
 refine .nn ?_
 obtain rfl := sj h
 exact .rr
theorem zg7 (a0 : TWait) (r : TStamp) (h : zff a0 = some r) : zb9 Tryz.prog 93 [.agg [.int .i64 a0.Message.Id, .imm 1 (a0.Message.Groups.map (D.int .i64)) 4, .int .i64 a0.Message.Topic, .str a0.Message.Key, .str a0.Message.Body, .int .i64 a0.Time, .bool a0.Final]] (.agg [.int .i64 r.Time, .int .i64 r.Id]) := by
 refine zbt 4 Tryz.func93 ?_
 intro hwf
 unfold zff at h
 refine .sp [0] ?_
 refine .sp [1, 2] ?_
 obtain rfl := sj h
 exact .rr
theorem zjz (a0 : Int) (r : Bool) (h : zfk a0 = some r) : zb9 Tryz.prog 175 [.int .i64 a0] (.bool r) := by
 refine zbt 2 Tryz.func175 ?_
 intro hwf
 unfold zfk at h
 refine .sp [0] ?_
 refine .sp [0] ?_
 obtain rfl := sj h
 exact .rr
theorem ziv (a0 : Int) (a1 : Int) (r : Int) (h : zel a0 a1 = some r) : zb9 Tryz.prog 144 [.int .i64 a0, .int .i64 a1] (.int .i64 r) := by
 refine zbt 2 Tryz.func144 ?_
 intro hwf
 unfold zel at h
 refine .sp [0, 1] ?_
 obtain ⟨v1, hv1, h⟩ := za2 h
 refine .sr [0, 1] ?_
 refine .rn 1 ?_
 refine .cl (zjz a0 v1 hv1) ?_
 refine .rn 1 ?_
 refine .nn ?_
 obtain ⟨v2, hv2, h⟩ := za2 h
 refine .sr [0, 1, 5] ?_
 refine .rn 1 ?_
 refine .cl (zjz a1 v2 hv2) ?_
 refine .rn 1 ?_
 refine .nn ?_
 refine .seq (.seq (.pl zS [0, 1, 5, 6] ?_))
 refine .cd ?_ ?_ <;> intro hc1
 replace h := zaf h hc1
 refine .seq (.seq (.pl zS [6] ?_))
 refine .cd ?_ ?_ <;> intro hc2
 replace h := zaf h hc2
 refine .sp [] ?_
 obtain rfl := sj h
 exact .rr
 replace h := zao h hc2
 refine .skip (.seq (.pl zS [] ?_))
 obtain rfl := sj h
 exact .rr
 replace h := zao h hc1
 refine .skip (.seq (.seq (.pl zS [0, 1, 6] ?_)))
 refine .cd ?_ ?_ <;> intro hc3
 replace h := zaf h hc3
 refine .sp [] ?_
 obtain rfl := sj h
 exact .rr
 replace h := zao h hc3
 refine .skip (.seq (.seq (.pl zS [0, 1] ?_)))
 refine .cd ?_ ?_ <;> intro hc4
 replace h := zaf h hc4
 refine .sp [] ?_
 obtain rfl := sj h
 exact .rr
 replace h := zao h hc4
 refine .skip (.seq (.seq (.pl zS [0, 1] ?_)))
 refine .cd ?_ ?_ <;> intro hc5
 replace h := zaf h hc5
 refine .sp [] ?_
 obtain rfl := sj h
 exact .rr
 replace h := zao h hc5
 refine .skip (.seq (.pl zS [] ?_))
 obtain rfl := sj h
 exact .rr
@[go_sem] def st48 : St := ⟨[(3, .int .i64 0)], [], 0⟩
@[go_sem] def st49 (a0 : List Int) (n1 : Nat) : St := ⟨[(3, .int .i64 0), (6, .imm 1 (a0.map (D.int .i64)) 4), (7, .int .i64 (a0.length : Int)), (8, .int .i64 (n1 : Int))], [], 0⟩
theorem zqe (a0 : List Int) (r : Int) (h : zio a0 = some r) : zb9 Tryz.prog 143 [.imm 1 (a0.map (D.int .i64)) 4] (.int .i64 r) := by
 refine zbt 2 Tryz.func143 ?_
 intro hwf
 unfold zio at h
 refine .sp [0] ?_
 refine .sp [0] ?_
 obtain ⟨x1, hx1, h⟩ := za2 h
 refine .seqM 0 (fun (j : Unit) => st48) (fun j => x1 = (.inr j)) (lb rfl) ?_ ?_
 refine .sp [0, 3] ?_
 refine .block ?_
 refine .loopG 0 (fun (j : Nat) => st49 a0 j) (fun j => j <= a0.length /\ zd9 (a0.drop j)  = some x1) (fun j => a0.length - j) (0) (lb rfl) ?_ ⟨Nat.zero_le _, hx1⟩ ?_
 exact .m [3, 6, 7, 8] [] []
 rintro n1 ⟨hi1, hx1⟩
 simp only [st49]
 refine .wf 7 (.int .i64 (a0.length : Int)) rfl ?_
 intro hln1
 replace hln1 := wfn hln1
 refine .sp [3, 6, 7, 8] ?_
 refine .seq (.cd (fun hc1 => ?_) (fun hc1 => ?_))
 have h1 : n1 < a0.length := by simpa using hc1
 have hwn1 := zdw h1 hln1
 have hpn1 := zdx h1 hln1
 rw [za7 h1, zd9] at hx1
 refine .skip (.seq (.block (.seq ?_)))
 have e1 := zdk (D.int .i64) a0 n1 h1
 refine .plx zS (ai e1 hwn1) [3, 6, 7, 8] ?_
 refine .seq (.plx zS hwn1 [3, 5, 6, 7, 8] ?_)
 refine .cd ?_ ?_ <;> intro hc2
 replace hx1 := zaf hx1 hc2
 refine .seq (.plx zS hwn1 [5] ?_)
 have hq := sj hx1
 subst x1
 try dsimp only at h
 obtain rfl := sj h
 exact .rr
 replace hx1 := zao hx1 hc2
 refine .skip (.plx zS hwn1 [3, 6, 7, 8] ?_)
 refine ⟨n1 + 1, ?_, ⟨by omega, hx1⟩, by dsimp only; omega⟩
 exact .m [3, 6, 7, 8] [] []
 have h2 : n1 = a0.length := by have h2b := of_decide_eq_false hc1; omega
 rw [zab (by omega), zd9] at hx1
 refine .exit ?_
 refine ⟨_, ?_, (sj hx1).symm⟩
 exact .m [3] [] []
 rintro ⟨⟩ hj1
 subst x1
 try dsimp only at h
 simp only [st48]
 refine .sp [3] ?_
 obtain rfl := sj h
 exact .rr
@[go_sem] def st98 : St := ⟨[], [], 0⟩
@[go_sem] def st99 (a0 : List TStamp) (a1 : List TStamp) (n1 : Nat) : St := ⟨[(0, .imm 2 (a0.map TStamp.d) 4), (1, .imm 2 (a1.map TStamp.d) 4), (12, .int .i64 (a0.length : Int)), (13, .int .i64 (n1 : Int))], [], 0⟩
theorem zit (a0 : List TStamp) (a1 : List TStamp) (r : Bool) (h : zet a0 a1 = some r) : zb9 Tryz.prog 102 [.imm 2 (a0.map TStamp.d) 4, .imm 2 (a1.map TStamp.d) 4] (.bool r) := by
 refine zbt 2 Tryz.func102 ?_
 intro hwf
 unfold zet at h
 refine .sp [0, 1] ?_
 refine .seq (.seq (.pl zS [0, 1] ?_))
 refine .cd ?_ ?_ <;> intro hc1
 replace h := zaf h hc1
 refine .sp [] ?_
 obtain rfl := sj h
 exact .rr
 replace h := zao h hc1
 obtain ⟨x1, hx1, h⟩ := za2 h
 refine .skip ?_
 refine .seqM 0 (fun (j : Unit) => st98) (fun j => x1 = (.inr j)) (lb rfl) ?_ ?_
 refine .sp [0, 1] ?_
 refine .block ?_
 refine .loopG 0 (fun (j : Nat) => st99 a0 a1 j) (fun j => j <= a0.length /\ zc5 a1 (a0.drop j) j  = some x1) (fun j => a0.length - j) (0) (lb rfl) ?_ ⟨Nat.zero_le _, hx1⟩ ?_
 exact .m [0, 1, 12, 13] [] []
 rintro n1 ⟨hi1, hx1⟩
 simp only [st99]
 refine .wf 12 (.int .i64 (a0.length : Int)) rfl ?_
 intro hln1
 replace hln1 := wfn hln1
 refine .sp [0, 1, 12, 13] ?_
 refine .seq (.cd (fun hc2 => ?_) (fun hc2 => ?_))
 have h1 : n1 < a0.length := by simpa using hc2
 have hwn1 := zdw h1 hln1
 have hpn1 := zdx h1 hln1
 rw [za7 h1, zc5] at hx1
 refine .skip (.seq (.block (.seq (.plx zS hwn1 [0, 1, 12, 13] ?_))))
 refine .seq ?_
 obtain ⟨k1, hx1⟩ := zb0 hx1
 have e1 := zdk TStamp.d a0 n1 h1
 have e2 := zex TStamp.d a1 n1
 replace e2 := e2 k1
 refine .rg zS [0, 1, 5, 12, 13] ?_
 refine .rdx 6 (ai e1 (ai e2 hwn1)) ?_
 refine .rdx 3 (ai e1 (ai e2 hwn1)) ?_
 refine .nd ?_
 refine .cd ?_ ?_ <;> intro hc3
 replace hx1 := zaf hx1 hc3
 refine .seq (.plx zS hwn1 [] ?_)
 have hq := sj hx1
 subst x1
 try dsimp only at h
 obtain rfl := sj h
 exact .rr
 replace hx1 := zao hx1 hc3
 refine .skip (.plx zS hwn1 [0, 1, 12, 13] ?_)
 refine ⟨n1 + 1, ?_, ⟨by omega, hx1⟩, by dsimp only; omega⟩
 exact .m [0, 1, 12, 13] [] []
 have h2 : n1 = a0.length := by have h2b := of_decide_eq_false hc2; omega
 rw [zab (by omega), zc5] at hx1
 refine .exit ?_
 refine ⟨_, ?_, (sj hx1).symm⟩
 exact .m [] [] []
 rintro ⟨⟩ hj1
 subst x1
 try dsimp only at h
 simp only [st98]
 refine .sp [] ?_
 obtain rfl := sj h
 exact .rr
@[go_sem] def st92 : St := ⟨[], [], 0⟩
@[go_sem] def st93 (a0 : List TWait) (a1 : List TWait) (Ka2 : Nat) (ca2 : List D) (n1 : Nat) : St := ⟨[(1, .imm 7 (a1.map TWait.d) 4), (2, .fn (.func Ka2) ca2), (15, .imm 7 (a0.map TWait.d) 4), (16, .int .i64 (a0.length : Int)), (17, .int .i64 (n1 : Int))], [], 0⟩
theorem zg1 (a0 : List TWait) (a1 : List TWait) (Ka2 : Nat) (ca2 : List D) (hca2 : ∀ hp, zdm hp ca2 = (ca2, true)) (h2a2 : ∀ hp, zdb hp ca2 = (ca2, true)) (h3a2 : ∀ hp, zfx hp ca2 = []) (a2 : TWait -> TWait -> Option Bool) (ha2 : ∀ x0 x1 y, a2 x0 x1 = some y -> zb9 Tryz.prog Ka2 (.agg [.int .i64 x0.Message.Id, .imm 1 (x0.Message.Groups.map (D.int .i64)) 4, .int .i64 x0.Message.Topic, .str x0.Message.Key, .str x0.Message.Body, .int .i64 x0.Time, .bool x0.Final] :: .agg [.int .i64 x1.Message.Id, .imm 1 (x1.Message.Groups.map (D.int .i64)) 4, .int .i64 x1.Message.Topic, .str x1.Message.Key, .str x1.Message.Body, .int .i64 x1.Time, .bool x1.Final] :: ca2) (.bool y)) (r : Bool) (h : zcy a0 a1 a2 = some r) : zb9 Tryz.prog 103 [.imm 7 (a0.map TWait.d) 4, .imm 7 (a1.map TWait.d) 4, .fn (.func Ka2) ca2] (.bool r) := by
 refine zbt 4 Tryz.func103 ?_
 intro hwf
 unfold zcy at h
 refine .sp [0, 1, 2] ?_
 refine .seq (.seq (.pl zS [0, 1, 2] ?_))
 refine .cd ?_ ?_ <;> intro hc1
 replace h := zaf h hc1
 refine .sp [] ?_
 obtain rfl := sj h
 exact .rr
 replace h := zao h hc1
 obtain ⟨x1, hx1, h⟩ := za2 h
 refine .skip ?_
 refine .seqM 0 (fun (j : Unit) => st92) (fun j => x1 = (.inr j)) (lb rfl) ?_ ?_
 refine .sp [0, 1, 2] ?_
 refine .block ?_
 refine .loopG 0 (fun (j : Nat) => st93 a0 a1 Ka2 ca2 j) (fun j => j <= a0.length /\ zbd a1 a2 (a0.drop j) j  = some x1) (fun j => a0.length - j) (0) (lb rfl) ?_ ⟨Nat.zero_le _, hx1⟩ ?_
 exact .mq (zb2 hca2) (zb1 hca2) [1, 2, 15, 16, 17] [] []
 rintro n1 ⟨hi1, hx1⟩
 simp only [st93]
 refine .wf 16 (.int .i64 (a0.length : Int)) rfl ?_
 intro hln1
 replace hln1 := wfn hln1
 refine .sp [1, 2, 15, 16, 17] ?_
 refine .seq (.cd (fun hc2 => ?_) (fun hc2 => ?_))
 have h1 : n1 < a0.length := by simpa using hc2
 have hwn1 := zdw h1 hln1
 have hpn1 := zdx h1 hln1
 rw [za7 h1, zbd] at hx1
 refine .skip (.seq (.block (.seq ?_)))
 have e1 := zdk TWait.d a0 n1 h1
 refine .plx zS (ai e1 hwn1) [1, 2, 15, 16, 17] ?_
 refine .seq ?_
 obtain ⟨k1, hx1⟩ := zb0 hx1
 have e2 := zex TWait.d a1 n1
 replace e2 := e2 k1
 refine .plx zS (ai e2 hwn1) [1, 2, 7, 8, 15, 16, 17] ?_
 refine .seq ?_
 obtain ⟨v1, hv1, hx1⟩ := za2 hx1
 refine .rg zS [1, 2, 8, 9, 15, 16, 17] ?_
 refine .rnx 3 hwn1 ?_
 refine .call (r := .bool v1) rfl rfl rfl rfl rfl (za8 rfl (za8 rfl (hca2 _))) (ha2 _ _ v1 hv1) ?_
 refine .rnx 1 hwn1 ?_
 refine .nn ?_
 refine .cd ?_ ?_ <;> intro hc3
 replace hx1 := zaf hx1 hc3
 refine .seq (.plx zS hwn1 [] ?_)
 have hq := sj hx1
 subst x1
 try dsimp only at h
 obtain rfl := sj h
 exact .rr
 replace hx1 := zao hx1 hc3
 refine .skip (.plx zS hwn1 [1, 2, 15, 16, 17] ?_)
 refine ⟨n1 + 1, ?_, ⟨by omega, hx1⟩, by dsimp only; omega⟩
 exact .mq (zb2 hca2) (zb1 hca2) [1, 2, 15, 16, 17] [] []
 have h2 : n1 = a0.length := by have h2b := of_decide_eq_false hc2; omega
 rw [zab (by omega), zbd] at hx1
 refine .exit ?_
 refine ⟨_, ?_, (sj hx1).symm⟩
 exact .mq (zb2 hca2) (zb1 hca2) [] [] []
 rintro ⟨⟩ hj1
 subst x1
 try dsimp only at h
 simp only [st92]
 refine .sp [] ?_
 obtain rfl := sj h
 exact .rr
@[go_sem] def ya6t (n1 : Int) (l1 : List Int) (n2 : Int) (s1 : List UInt8) (s2 : List UInt8) (n3 : Int) (b1 : Bool) : St := ⟨[(4, .ptr 0 0), (5, .ptr 1 0)], [(0, .box [.int .i64 0, .imm 0 [] 0, .int .i64 0, .str [], .str [], .int .i64 0, .bool false]), (1, .box [.int .i64 n1, .imm 1 (l1.map (D.int .i64)) 4, .int .i64 n2, .str s1, .str s2, .int .i64 n3, .bool b1])], 2⟩
@[go_sem] def ya6s (a0 : List TWait) (Ka1 : Nat) (ca1 : List D) (n4 : Int) (l2 : List Int) (n5 : Int) (s3 : List UInt8) (s4 : List UInt8) (n6 : Int) (b2 : Bool) (n7 : Int) : St := ⟨[(0, .imm 7 (a0.map TWait.d) 4), (1, .fn (.func Ka1) ca1), (4, .ptr 0 0), (5, .ptr 1 0), (6, .int .i64 n7)], [(0, .box [.int .i64 0, .imm 0 [] 0, .int .i64 0, .str [], .str [], .int .i64 0, .bool false]), (1, .box [.int .i64 n4, .imm 1 (l2.map (D.int .i64)) 4, .int .i64 n5, .str s3, .str s4, .int .i64 n6, .bool b2])], 2⟩
@[go_sem] def ya6r (a0 : List TWait) (Ka1 : Nat) (ca1 : List D) (n7 : Int) (n8 : Int) (l3 : List Int) (n9 : Int) (s5 : List UInt8) (s6 : List UInt8) (n10 : Int) (b3 : Bool) : St := ⟨[(0, .imm 7 (a0.map TWait.d) 4), (1, .fn (.func Ka1) ca1), (4, .ptr 0 0), (5, .ptr 1 0), (6, .int .i64 n7)], [(0, .box [.int .i64 0, .imm 0 [] 0, .int .i64 0, .str [], .str [], .int .i64 0, .bool false]), (1, .box [.int .i64 n8, .imm 1 (l3.map (D.int .i64)) 4, .int .i64 n9, .str s5, .str s6, .int .i64 n10, .bool b3])], 2⟩
@[go_sem] def st33 (r : TWait) : St := ⟨[(4, .ptr 0 0)], [(0, .box [.int .i64 r.Message.Id, .imm 1 (r.Message.Groups.map (D.int .i64)) 4, .int .i64 r.Message.Topic, .str r.Message.Key, .str r.Message.Body, .int .i64 r.Time, .bool r.Final])], 1⟩
theorem ziw (a0 : List TWait) (Ka1 : Nat) (ca1 : List D) (hca1 : ∀ hp, zdm hp ca1 = (ca1, true)) (h2a1 : ∀ hp, zdb hp ca1 = (ca1, true)) (h3a1 : ∀ hp, zfx hp ca1 = []) (a1 : TWait -> TWait -> Option Int) (ha1 : ∀ x0 x1 y, a1 x0 x1 = some y -> zb9 Tryz.prog Ka1 (.agg [.int .i64 x0.Message.Id, .imm 1 (x0.Message.Groups.map (D.int .i64)) 4, .int .i64 x0.Message.Topic, .str x0.Message.Key, .str x0.Message.Body, .int .i64 x0.Time, .bool x0.Final] :: .agg [.int .i64 x1.Message.Id, .imm 1 (x1.Message.Groups.map (D.int .i64)) 4, .int .i64 x1.Message.Topic, .str x1.Message.Key, .str x1.Message.Body, .int .i64 x1.Time, .bool x1.Final] :: ca1) (.int .i64 y)) (r : TWait) (h : zbz a0 a1 = some r) : zby Tryz.prog 94 [.imm 7 (a0.map TWait.d) 4, .fn (.func Ka1) ca1] [] (.agg [.int .i64 r.Message.Id, .imm 1 (r.Message.Groups.map (D.int .i64)) 4, .int .i64 r.Message.Topic, .str r.Message.Key, .str r.Message.Body, .int .i64 r.Time, .bool r.Final]) [] (0, 4) := by
 refine zcu Tryz.func94 ?_
 intro hwf
 unfold zbz at h
 refine .ends 0 (za4 _) ?_
 refine .sp [0, 1] ?_
 refine .seq (.seq (.pl zS [0, 1, 4] ?_))
 refine .cd ?_ ?_ <;> intro hc1
 replace h := zaf h hc1
 cases h
 replace h := zao h hc1
 refine .skip (.seq ?_)
 obtain ⟨k1, h⟩ := zb0 h
 have e1 := zex TWait.d a0 0 k1
 refine .plx zS e1 [0, 1, 4] ?_
 obtain ⟨x1, hx1, h⟩ := za2 h
 refine .seqM 2 (fun (j : Int × (List Int) × Int × (List UInt8) × (List UInt8) × Int × Bool) => ya6t j.1 j.2.1 j.2.2.1 j.2.2.2.1 j.2.2.2.2.1 j.2.2.2.2.2.1 j.2.2.2.2.2.2) (fun j => x1 = j) (lb rfl) ?_ ?_
 refine .sp [0, 1, 4, 5] ?_
 refine .block ?_
 refine .loopG 2 (fun (j : Nat × Int × (List Int) × Int × (List UInt8) × (List UInt8) × Int × Bool × Int) => ya6s a0 Ka1 ca1 j.2.1 j.2.2.1 j.2.2.2.1 j.2.2.2.2.1 j.2.2.2.2.2.1 j.2.2.2.2.2.2.1 j.2.2.2.2.2.2.2.1 j.2.2.2.2.2.2.2.2) (fun j => zax a0 a1 j.1 j.2.1 j.2.2.1 j.2.2.2.1 j.2.2.2.2.1 j.2.2.2.2.2.1 j.2.2.2.2.2.2.1 j.2.2.2.2.2.2.2.1 j.2.2.2.2.2.2.2.2 = some x1) (fun j => j.1) (a0.length + 1, (a0.getD 0 default).Message.Id, (a0.getD 0 default).Message.Groups, (a0.getD 0 default).Message.Topic, (a0.getD 0 default).Message.Key, (a0.getD 0 default).Message.Body, (a0.getD 0 default).Time, (a0.getD 0 default).Final, 1) (lb rfl) ?_ hx1 ?_
 exact .mq (zb2 hca1) (zb1 hca1) [0, 1, 4, 5, 6] [0, 1] []
 rintro ⟨fu1, n4, l2, n5, s3, s4, n6, b2, n7⟩ hx1
 simp only [ya6s]
 try simp only at hx1
 obtain ⟨fu1, rfl⟩ : ∃ k, fu1 = k + 1 := by cases fu1 with | zero => (rw [zax] at hx1; cases hx1) | succ k => exact ⟨k, rfl⟩
 rw [zax] at hx1
 refine .seq (.seq (.pl zS [0, 1, 4, 5, 6] ?_))
 refine .cd ?_ ?_ <;> intro hc2
 replace hx1 := zaf hx1 hc2
 refine .skip ?_
 obtain ⟨x2, hx2, hx1⟩ := za2 hx1
 refine .seqM 2 (fun (j : Int × (List Int) × Int × (List UInt8) × (List UInt8) × Int × Bool) => ya6r a0 Ka1 ca1 n7 j.1 j.2.1 j.2.2.1 j.2.2.2.1 j.2.2.2.2.1 j.2.2.2.2.2.1 j.2.2.2.2.2.2) (fun j => x2 = j) (lb rfl) ?_ ?_
 refine .block (.seq ?_)
 obtain ⟨k2, hx2⟩ := zb0 hx2
 obtain ⟨v1, hv1, hx2⟩ := za2 hx2
 have e2 := zbx TWait.d a0 n7
 replace e2 := e2 k2
 refine .rg zS [0, 1, 4, 5, 6] ?_
 refine .rdx 6 e2 ?_
 refine .call (r := .int .i64 v1) rfl rfl rfl rfl rfl (za8 rfl (za8 rfl (hca1 _))) (ha1 _ _ v1 hv1) ?_
 refine .rdx 1 e2 ?_
 refine .nd ?_
 refine .cd ?_ ?_ <;> intro hc3
 replace hx2 := zaf hx2 hc3
 obtain ⟨k3, hx2⟩ := zb0 hx2
 have e3 := zbx TWait.d a0 n7
 replace e3 := e3 k3
 refine .plx zS e3 [0, 1, 4, 5, 6] ?_
 refine ⟨_, ?_, (sj hx2).symm⟩
 exact .mq (zb2 hca1) (zb1 hca1) [0, 1, 4, 5, 6] [0, 1] []
 replace hx2 := zao hx2 hc3
 refine .skip ?_
 refine ⟨_, ?_, (sj hx2).symm⟩
 exact .mq (zb2 hca1) (zb1 hca1) [0, 1, 4, 5, 6] [0, 1] []
 rintro ⟨n8, l3, n9, s5, s6, n10, b3⟩ hj1
 subst x2
 try dsimp only at hx1
 simp only [ya6r]
 refine .pl zS [0, 1, 4, 5, 6] ?_
 refine ⟨(fu1, _, _, _, _, _, _, _, _), ?_, hx1, by dsimp only; omega⟩
 exact .mq (zb2 hca1) (zb1 hca1) [0, 1, 4, 5, 6] [0, 1] []
 replace hx1 := zao hx1 hc2
 refine .exit ?_
 refine ⟨_, ?_, (sj hx1).symm⟩
 exact .mq (zb2 hca1) (zb1 hca1) [4, 5] [0, 1] []
 rintro ⟨n1, l1, n2, s1, s2, n3, b1⟩ hj2
 subst x1
 try dsimp only at h
 simp only [ya6t]
 refine .sp [4, 5] ?_
 obtain rfl := sj h
 refine .ret ⟨st33 (⟨(⟨n1, l1, n2, s1, s2⟩ : TMessage), n3, b1⟩ : TWait), ?_, .inr rfl, retH [] ?_ ?_⟩
 exact .mq (zb2 hca1) (zb1 hca1) [4] [0] []
 exact rsi0
 rfl
theorem zir (a0 : List TWait) (Ka1 : Nat) (ca1 : List D) (hca1 : ∀ hp, zdm hp ca1 = (ca1, true)) (h2a1 : ∀ hp, zdb hp ca1 = (ca1, true)) (h3a1 : ∀ hp, zfx hp ca1 = []) (a1 : TWait -> TWait -> Option Int) (ha1 : ∀ x0 x1 y, a1 x0 x1 = some y -> zb9 Tryz.prog Ka1 (.agg [.int .i64 x0.Message.Id, .imm 1 (x0.Message.Groups.map (D.int .i64)) 4, .int .i64 x0.Message.Topic, .str x0.Message.Key, .str x0.Message.Body, .int .i64 x0.Time, .bool x0.Final] :: .agg [.int .i64 x1.Message.Id, .imm 1 (x1.Message.Groups.map (D.int .i64)) 4, .int .i64 x1.Message.Topic, .str x1.Message.Key, .str x1.Message.Body, .int .i64 x1.Time, .bool x1.Final] :: ca1) (.int .i64 y)) (r : TWait) (h : zbz a0 a1 = some r) : zb9 Tryz.prog 94 [.imm 7 (a0.map TWait.d) 4, .fn (.func Ka1) ca1] (.agg [.int .i64 r.Message.Id, .undef, .int .i64 r.Message.Topic, .str r.Message.Key, .str r.Message.Body, .int .i64 r.Time, .bool r.Final]) :=
 zfa rfl rfl (ya2e (.aggs (.cons (.refl _) (.cons (.un _) (.cons (.refl _) (.cons (.refl _) (.cons (.refl _) (.cons (.refl _) (.cons (.refl _) (.refl _))))))))) (ziw a0 Ka1 ca1 hca1 h2a1 h3a1 a1 ha1 r h))
@[go_sem] def ya6q (a0 : List TWait) (n1 : Int) (l1 : List Int) (n2 : Int) (s1 : List UInt8) (s2 : List UInt8) (n3 : Int) (b1 : Bool) : St := ⟨[(0, .ref 20000 7 0 a0.length (some uC)), (4, .ptr 20100 0), (5, .ptr 20101 0)], [(20000, .arr 91 7 true (a0.map TWait.n)), (20100, .box [.int .i64 0, .imm 0 [] 0, .int .i64 0, .str [], .str [], .int .i64 0, .bool false]), (20101, .box [.int .i64 n1, .imm 1 (l1.map (D.int .i64)) 13, .int .i64 n2, .str s1, .str s2, .int .i64 n3, .bool b1])], 20102⟩
@[go_sem] def ya6p (a0 : List TWait) (Ka1 : Nat) (ca1 : List D) (n4 : Int) (l2 : List Int) (n5 : Int) (s3 : List UInt8) (s4 : List UInt8) (n6 : Int) (b2 : Bool) (n7 : Int) : St := ⟨[(0, .ref 20000 7 0 a0.length (some uC)), (1, .fn (.func Ka1) ca1), (4, .ptr 20100 0), (5, .ptr 20101 0), (6, .int .i64 n7)], [(20000, .arr 91 7 true (a0.map TWait.n)), (20100, .box [.int .i64 0, .imm 0 [] 0, .int .i64 0, .str [], .str [], .int .i64 0, .bool false]), (20101, .box [.int .i64 n4, .imm 1 (l2.map (D.int .i64)) 13, .int .i64 n5, .str s3, .str s4, .int .i64 n6, .bool b2])], 20102⟩
@[go_sem] def ya6o (a0 : List TWait) (Ka1 : Nat) (ca1 : List D) (n7 : Int) (n8 : Int) (l3 : List Int) (n9 : Int) (s5 : List UInt8) (s6 : List UInt8) (n10 : Int) (b3 : Bool) : St := ⟨[(0, .ref 20000 7 0 a0.length (some uC)), (1, .fn (.func Ka1) ca1), (4, .ptr 20100 0), (5, .ptr 20101 0), (6, .int .i64 n7)], [(20000, .arr 91 7 true (a0.map TWait.n)), (20100, .box [.int .i64 0, .imm 0 [] 0, .int .i64 0, .str [], .str [], .int .i64 0, .bool false]), (20101, .box [.int .i64 n8, .imm 1 (l3.map (D.int .i64)) 13, .int .i64 n9, .str s5, .str s6, .int .i64 n10, .bool b3])], 20102⟩
@[go_sem] def st34 (a0 : List TWait) (r : TWait) : St := ⟨[(4, .ptr 20100 0)], [(20000, .arr 91 7 true (a0.map TWait.n)), (20100, .box [.int .i64 r.Message.Id, .imm 1 (r.Message.Groups.map (D.int .i64)) 13, .int .i64 r.Message.Topic, .str r.Message.Key, .str r.Message.Body, .int .i64 r.Time, .bool r.Final])], 20101⟩
theorem zi1 (a0 : List TWait) (Ka1 : Nat) (ca1 : List D) (hca1 : ∀ hp, zdm hp ca1 = (ca1, true)) (h2a1 : ∀ hp, zdb hp ca1 = (ca1, true)) (h3a1 : ∀ hp, zfx hp ca1 = []) (a1 : TWait -> TWait -> Option Int) (ha1 : ∀ x0 x1 y, a1 x0 x1 = some y -> zb9 Tryz.prog Ka1 (.agg [.int .i64 x0.Message.Id, .imm 1 (x0.Message.Groups.map (D.int .i64)) 4, .int .i64 x0.Message.Topic, .str x0.Message.Key, .str x0.Message.Body, .int .i64 x0.Time, .bool x0.Final] :: .agg [.int .i64 x1.Message.Id, .imm 1 (x1.Message.Groups.map (D.int .i64)) 4, .int .i64 x1.Message.Topic, .str x1.Message.Key, .str x1.Message.Body, .int .i64 x1.Time, .bool x1.Final] :: ca1) (.int .i64 y)) (r : TWait) (h : zck a0 a1 = some r) : zby Tryz.prog 94 [.ref 20000 7 0 a0.length (some uC), .fn (.func Ka1) ca1] [(20000, .arr 91 7 true (a0.map TWait.n))] (.agg [.int .i64 r.Message.Id, .imm 1 (r.Message.Groups.map (D.int .i64)) 13, .int .i64 r.Message.Topic, .str r.Message.Key, .str r.Message.Body, .int .i64 r.Time, .bool r.Final]) [] (20100, 20104) := by
 refine zcu Tryz.func94 ?_
 intro hwf
 unfold zck at h
 refine .ends 20100 (za4 _) ?_
 refine .sp [0, 1] ?_
 refine .seq (.seq (.pl zS [0, 1, 4] ?_))
 refine .cd ?_ ?_ <;> intro hc1
 replace h := zaf h hc1
 cases h
 replace h := zao h hc1
 refine .skip (.seq ?_)
 obtain ⟨k1, h⟩ := zb0 h
 have e1 := zex TWait.n a0 0 k1
 refine .plx zS e1 [0, 1, 4] ?_
 obtain ⟨x1, hx1, h⟩ := za2 h
 refine .seqM 20102 (fun (j : Int × (List Int) × Int × (List UInt8) × (List UInt8) × Int × Bool) => ya6q a0 j.1 j.2.1 j.2.2.1 j.2.2.2.1 j.2.2.2.2.1 j.2.2.2.2.2.1 j.2.2.2.2.2.2) (fun j => x1 = j) (lb rfl) ?_ ?_
 refine .sp [0, 1, 4, 5] ?_
 refine .block ?_
 refine .loopG 20102 (fun (j : Nat × Int × (List Int) × Int × (List UInt8) × (List UInt8) × Int × Bool × Int) => ya6p a0 Ka1 ca1 j.2.1 j.2.2.1 j.2.2.2.1 j.2.2.2.2.1 j.2.2.2.2.2.1 j.2.2.2.2.2.2.1 j.2.2.2.2.2.2.2.1 j.2.2.2.2.2.2.2.2) (fun j => zbb a0 a1 j.1 j.2.1 j.2.2.1 j.2.2.2.1 j.2.2.2.2.1 j.2.2.2.2.2.1 j.2.2.2.2.2.2.1 j.2.2.2.2.2.2.2.1 j.2.2.2.2.2.2.2.2 = some x1) (fun j => j.1) (a0.length + 1, (a0.getD 0 default).Message.Id, (a0.getD 0 default).Message.Groups, (a0.getD 0 default).Message.Topic, (a0.getD 0 default).Message.Key, (a0.getD 0 default).Message.Body, (a0.getD 0 default).Time, (a0.getD 0 default).Final, 1) (lb rfl) ?_ hx1 ?_
 exact .mq (zb2 hca1) (zb1 hca1) [0, 1, 4, 5, 6] [20000, 20100, 20101] []
 rintro ⟨fu1, n4, l2, n5, s3, s4, n6, b2, n7⟩ hx1
 simp only [ya6p]
 try simp only at hx1
 obtain ⟨fu1, rfl⟩ : ∃ k, fu1 = k + 1 := by cases fu1 with | zero => (rw [zbb] at hx1; cases hx1) | succ k => exact ⟨k, rfl⟩
 rw [zbb] at hx1
 refine .seq (.seq (.pl zS [0, 1, 4, 5, 6] ?_))
 refine .cd ?_ ?_ <;> intro hc2
 replace hx1 := zaf hx1 hc2
 refine .skip ?_
 obtain ⟨x2, hx2, hx1⟩ := za2 hx1
 refine .seqM 20102 (fun (j : Int × (List Int) × Int × (List UInt8) × (List UInt8) × Int × Bool) => ya6o a0 Ka1 ca1 n7 j.1 j.2.1 j.2.2.1 j.2.2.2.1 j.2.2.2.2.1 j.2.2.2.2.2.1 j.2.2.2.2.2.2) (fun j => x2 = j) (lb rfl) ?_ ?_
 refine .block (.seq ?_)
 obtain ⟨k2, hx2⟩ := zb0 hx2
 obtain ⟨v1, hv1, hx2⟩ := za2 hx2
 have e2 := zbx TWait.n a0 n7
 replace e2 := e2 k2
 refine .rg zS [0, 1, 4, 5, 6] ?_
 refine .rdx 6 e2 ?_
 refine .call (r := .int .i64 v1) rfl rfl rfl rfl rfl (za8 rfl (za8 rfl (hca1 _))) (ha1 _ _ v1 hv1) ?_
 refine .rdx 1 e2 ?_
 refine .nd ?_
 refine .cd ?_ ?_ <;> intro hc3
 replace hx2 := zaf hx2 hc3
 obtain ⟨k3, hx2⟩ := zb0 hx2
 have e3 := zbx TWait.n a0 n7
 replace e3 := e3 k3
 refine .plx zS e3 [0, 1, 4, 5, 6] ?_
 refine ⟨_, ?_, (sj hx2).symm⟩
 exact .mq (zb2 hca1) (zb1 hca1) [0, 1, 4, 5, 6] [20000, 20100, 20101] []
 replace hx2 := zao hx2 hc3
 refine .skip ?_
 refine ⟨_, ?_, (sj hx2).symm⟩
 exact .mq (zb2 hca1) (zb1 hca1) [0, 1, 4, 5, 6] [20000, 20100, 20101] []
 rintro ⟨n8, l3, n9, s5, s6, n10, b3⟩ hj1
 subst x2
 try dsimp only at hx1
 simp only [ya6o]
 refine .pl zS [0, 1, 4, 5, 6] ?_
 refine ⟨(fu1, _, _, _, _, _, _, _, _), ?_, hx1, by dsimp only; omega⟩
 exact .mq (zb2 hca1) (zb1 hca1) [0, 1, 4, 5, 6] [20000, 20100, 20101] []
 replace hx1 := zao hx1 hc2
 refine .exit ?_
 refine ⟨_, ?_, (sj hx1).symm⟩
 exact .mq (zb2 hca1) (zb1 hca1) [0, 4, 5] [20000, 20100, 20101] []
 rintro ⟨n1, l1, n2, s1, s2, n3, b1⟩ hj2
 subst x1
 try dsimp only at h
 simp only [ya6q]
 refine .sp [0, 4, 5] ?_
 obtain rfl := sj h
 refine .ret ⟨st34 a0 (⟨(⟨n1, l1, n2, s1, s2⟩ : TMessage), n3, b1⟩ : TWait), ?_, .inr rfl, retH [20000] ?_ ?_⟩
 exact .mq (zb2 hca1) (zb1 hca1) [4] [20000, 20100] []
 exact rsi0
 rfl
theorem zkz (a0 : TWait) (a1 : Int) (r : Int) (h : zd2 a0 a1 = some r) : zb9 Tryz.prog 198 [.agg [.int .i64 a0.Message.Id, .imm 1 (a0.Message.Groups.map (D.int .i64)) 4, .int .i64 a0.Message.Topic, .str a0.Message.Key, .str a0.Message.Body, .int .i64 a0.Time, .bool a0.Final], .int .i64 a1] (.int .i64 r) := by
 refine zbt 3 Tryz.func198 ?_
 intro hwf
 unfold zd2 at h
 refine .sp [0, 1] ?_
 refine .sp [1, 2] ?_
 obtain rfl := sj h
 exact .rr
@[go_sem] def st88 (a0 : List TWait) (a1 : Int) (Ka2 : Nat) (ca2 : List D) (n1 : Int) : St := ⟨[(0, .imm 7 (a0.map TWait.d) 4), (1, .int .i64 a1), (2, .fn (.func Ka2) ca2), (8, .int .i64 (a0.length : Int)), (9, .int .i64 n1)], [], 0⟩
@[go_sem] def st89 (a0 : List TWait) (a1 : Int) (Ka2 : Nat) (ca2 : List D) (n2 : Int) (n3 : Int) : St := ⟨[(0, .imm 7 (a0.map TWait.d) 4), (1, .int .i64 a1), (2, .fn (.func Ka2) ca2), (8, .int .i64 (a0.length : Int)), (9, .int .i64 n2), (10, .int .i64 n3)], [], 0⟩
theorem zfy (a0 : List TWait) (a1 : Int) (Ka2 : Nat) (ca2 : List D) (hca2 : ∀ hp, zdm hp ca2 = (ca2, true)) (h2a2 : ∀ hp, zdb hp ca2 = (ca2, true)) (h3a2 : ∀ hp, zfx hp ca2 = []) (a2 : TWait -> Int -> Option Int) (ha2 : ∀ x0 x1 y, a2 x0 x1 = some y -> zb9 Tryz.prog Ka2 (.agg [.int .i64 x0.Message.Id, .imm 1 (x0.Message.Groups.map (D.int .i64)) 4, .int .i64 x0.Message.Topic, .str x0.Message.Key, .str x0.Message.Body, .int .i64 x0.Time, .bool x0.Final] :: .int .i64 x1 :: ca2) (.int .i64 y)) (r : Int × Bool) (h : zc2 a0 a1 a2 = some r) : zb9 Tryz.prog 197 [.imm 7 (a0.map TWait.d) 4, .int .i64 a1, .fn (.func Ka2) ca2] (.tuple [.int .i64 r.1, .bool r.2]) := by
 refine zbt 2 Tryz.func197 ?_
 intro hwf
 unfold zc2 at h
 refine .sp [0, 1, 2] ?_
 refine .sp [0, 1, 2] ?_
 refine .sp [0, 1, 2, 8] ?_
 obtain ⟨x1, hx1, h⟩ := za2 h
 refine .seqM 0 (fun (j : Int) => st88 a0 a1 Ka2 ca2 j) (fun j => x1 = j) (lb rfl) ?_ ?_
 refine .block ?_
 refine .loopG 0 (fun (j : Nat × Int × Int) => st89 a0 a1 Ka2 ca2 j.2.1 j.2.2) (fun j => zaq a0 a1 a2 j.1 j.2.1 j.2.2 = some x1) (fun j => j.1) (a0.length + 1, 0, (a0.length : Int)) (lb rfl) ?_ hx1 ?_
 exact .mq (zb2 hca2) (zb1 hca2) [0, 1, 2, 8, 9, 10] [] []
 rintro ⟨fu1, n2, n3⟩ hx1
 simp only [st89]
 try simp only at hx1
 obtain ⟨fu1, rfl⟩ : ∃ k, fu1 = k + 1 := by cases fu1 with | zero => (rw [zaq] at hx1; cases hx1) | succ k => exact ⟨k, rfl⟩
 rw [zaq] at hx1
 refine .seq (.seq (.pl zS [0, 1, 2, 8, 9, 10] ?_))
 refine .cd ?_ ?_ <;> intro hc1
 replace hx1 := zaf hx1 hc1
 refine .skip (.block (.seq (.pl zS [0, 1, 2, 8, 9, 10] ?_)))
 refine .seq ?_
 obtain ⟨k1, hx1⟩ := zb0 hx1
 obtain ⟨v1, hv1, hx1⟩ := za2 hx1
 have e1 := zbx TWait.d a0 (wr .i64 (shw false .u64 (wr .u64 (wr .i64 (n2 + n3))) 1))
 replace e1 := e1 k1
 refine .rg zS [0, 1, 2, 8, 9, 10, 11] ?_
 refine .rnx 6 e1 ?_
 refine .call (r := .int .i64 v1) rfl rfl rfl rfl rfl (za8 rfl (za8 rfl (hca2 _))) (ha2 _ _ v1 hv1) ?_
 refine .rnx 1 e1 ?_
 refine .nn ?_
 refine .cd ?_ ?_ <;> intro hc2
 replace hx1 := zaf hx1 hc2
 refine .pl zS [0, 1, 2, 8, 10, 11] ?_
 refine ⟨(fu1, _, _), ?_, hx1, by dsimp only; omega⟩
 exact .mq (zb2 hca2) (zb1 hca2) [0, 1, 2, 8, 9, 10] [] []
 replace hx1 := zao hx1 hc2
 refine .pl zS [0, 1, 2, 8, 9, 11] ?_
 refine ⟨(fu1, _, _), ?_, hx1, by dsimp only; omega⟩
 exact .mq (zb2 hca2) (zb1 hca2) [0, 1, 2, 8, 9, 10] [] []
 replace hx1 := zao hx1 hc1
 refine .exit ?_
 refine ⟨_, ?_, (sj hx1).symm⟩
 exact .mq (zb2 hca2) (zb1 hca2) [0, 1, 2, 8, 9] [] []
 rintro n1 hj1
 subst x1
 try dsimp only at h
 simp only [st88]
 obtain ⟨k2, h⟩ := zb0 h
 obtain ⟨v2, hv2, h⟩ := za2 h
 refine .seqM 0 (fun (_ : Unit) => ⟨[(6, .int .i64 n1), (7, .bool ((decide (n1 < (a0.length : Int))) && (v2 == 0)))], [], 0⟩) (fun _ => True) (lb rfl) ?_ (fun _ _ => ?_)
 by_cases hgd : n1 < (a0.length : Int)
 have eg10 := zbx TWait.d a0 n1 (k2 hgd)
 refine .rg zS [0, 1, 2, 8, 9] ?_
 refine .rnx 6 eg10 ?_
 refine .rnx 5 eg10 ?_
 refine .gcall rfl rfl rfl rfl rfl (fun hg => ⟨ca2, [.agg [.int .i64 ((a0.getD n1.toNat default).Message.Id), .imm 1 (((a0.getD n1.toNat default).Message.Groups).map (D.int .i64)) 4, .int .i64 ((a0.getD n1.toNat default).Message.Topic), .str ((a0.getD n1.toNat default).Message.Key), .str ((a0.getD n1.toNat default).Message.Body), .int .i64 ((a0.getD n1.toNat default).Time), .bool ((a0.getD n1.toNat default).Final)], .int .i64 a1], _, gd hg, gd hg, (za8 rfl (za8 rfl (hca2 _))), ha2 _ _ v2 (zaf hv2 hg)⟩) ?_
 refine .rnx 4 eg10 ?_
 refine .nn ?_
 refine ⟨(), ?_, trivial⟩
 exact .mq (zb2 hca2) (zb1 hca2) [6, 7] [] []
 have hgf1 : (decide (n1 < (a0.length : Int))) = false := by first | simpa using hgd | (simp at hgd ⊢; omega) | grind
 rcases zvj TWait.d a0 n1.toNat with eg10 | eg10
 refine .rg zS [0, 1, 2, 8, 9] ?_
 refine .rnx 6 (ai eg10 hgf1) ?_
 refine .rnx 5 (ai eg10 hgf1) ?_
 refine .gcall rfl rfl rfl rfl rfl (fun hg => ⟨ca2, [.agg [.int .i64 ((a0.getD n1.toNat default).Message.Id), .imm 1 (((a0.getD n1.toNat default).Message.Groups).map (D.int .i64)) 4, .int .i64 ((a0.getD n1.toNat default).Message.Topic), .str ((a0.getD n1.toNat default).Message.Key), .str ((a0.getD n1.toNat default).Message.Body), .int .i64 ((a0.getD n1.toNat default).Time), .bool ((a0.getD n1.toNat default).Final)], .int .i64 a1], _, gd hg, gd hg, (za8 rfl (za8 rfl (hca2 _))), ha2 _ _ v2 (zaf hv2 hg)⟩) ?_
 refine .rnx 4 (ai eg10 hgf1) ?_
 refine .nn ?_
 refine ⟨(), ?_, trivial⟩
 refine .mv [6, 7] [] [] ?_ (lb rfl) (lb rfl) (by first | rfl | (simp only [idsV, idsH, zcw, getL, D.ids, Blk.ids, natbeq, Nat.reduceBEq, cond_true, cond_false, zag, zai, zal, zb1 hca2] <;> rfl))
 first | rfl | simp only [hgf1, go_sem, Nat.reduceBEq, Nat.reduceAdd, zb2 hca2, Bool.false_and, Bool.true_or, Bool.and_false] <;> rfl
 refine .rg zS [0, 1, 2, 8, 9] ?_
 refine .rnx 6 (ai eg10 hgf1) ?_
 refine .rnx 5 (ai eg10 hgf1) ?_
 refine .gcall rfl rfl rfl rfl rfl (fun hg => ⟨ca2, [.agg [.int .i64 ((a0.getD n1.toNat default).Message.Id), .imm 1 (((a0.getD n1.toNat default).Message.Groups).map (D.int .i64)) 4, .int .i64 ((a0.getD n1.toNat default).Message.Topic), .str ((a0.getD n1.toNat default).Message.Key), .str ((a0.getD n1.toNat default).Message.Body), .int .i64 ((a0.getD n1.toNat default).Time), .bool ((a0.getD n1.toNat default).Final)], .int .i64 a1], _, gd hg, gd hg, (za8 rfl (za8 rfl (hca2 _))), ha2 _ _ v2 (zaf hv2 hg)⟩) ?_
 refine .rnx 4 (ai eg10 hgf1) ?_
 refine .nn ?_
 refine ⟨(), ?_, trivial⟩
 refine .mv [6, 7] [] [] ?_ (lb rfl) (lb rfl) (by first | rfl | (simp only [idsV, idsH, zcw, getL, D.ids, Blk.ids, natbeq, Nat.reduceBEq, cond_true, cond_false, zag, zai, zal, zb1 hca2] <;> rfl))
 first | rfl | simp only [hgf1, go_sem, Nat.reduceBEq, Nat.reduceAdd, zb2 hca2, Bool.false_and, Bool.true_or, Bool.and_false] <;> rfl
 obtain rfl := sj h
 exact .rr
theorem zg9 (a0 : Tskeen_clock) (a1 : Int) (r : Int × Bool) (h : zdr a0 a1 = some r) : zb9 Tryz.prog 181 [.iptr 0 [.int .i64 a0.Skeen.Clock, .imm 7 (a0.Skeen.Waits.map TWait.d) 4, .imm 2 (a0.Skeen.Done.map TStamp.d) 4], .int .i64 a1] (.tuple [.int .i64 r.1, .bool r.2]) := by
 refine zbt 2 Tryz.func181 ?_
 intro hwf
 unfold zdr at h
 refine .sp [0, 1] ?_
 obtain ⟨v1, hv1, h⟩ := za2 h
 refine .sr [0, 1] ?_
 refine .rn 6 ?_
 refine .lcall (r := .tuple [.int .i64 v1.1, .bool v1.2]) [] rfl rfl rfl rfl rfl (za9 rfl (za9 rfl (za9 (zfw zap) zap))) rfl (zfy a0.Skeen.Waits a1 198 [] (fun _ => rfl) (fun _ => rfl) (fun _ => rfl) zd2 (fun x0 x1 y hy => zkz x0 x1 y hy) v1 hv1) ?_
 refine .rn 4 ?_
 refine .nn ?_
 obtain rfl := sj h
 exact .rr
@[go_sem] def ya75 : St := ⟨[], [], 0⟩
@[go_sem] def ya74 (a0 : List TStamp) (Ka1 : Nat) (ca1 : List D) (n1 : Nat) : St := ⟨[(0, .imm 2 (a0.map TStamp.d) 4), (1, .fn (.func Ka1) ca1), (7, .int .i64 (a0.length : Int)), (8, .int .i64 (n1 : Int))], [], 0⟩
theorem zhf (a0 : List TStamp) (Ka1 : Nat) (ca1 : List D) (hca1 : ∀ hp, zdm hp ca1 = (ca1, true)) (h2a1 : ∀ hp, zdb hp ca1 = (ca1, true)) (h3a1 : ∀ hp, zfx hp ca1 = []) (a1 : TStamp -> Option Bool) (ha1 : ∀ x0 y, a1 x0 = some y -> zb9 Tryz.prog Ka1 (.agg [.int .i64 x0.Time, .int .i64 x0.Id] :: ca1) (.bool y)) (r : Int) (h : zd5 a0 a1 = some r) : zb9 Tryz.prog 210 [.imm 2 (a0.map TStamp.d) 4, .fn (.func Ka1) ca1] (.int .i64 r) := by
 refine zbt 2 Tryz.func210 ?_
 intro hwf
 unfold zd5 at h
 refine .sp [0, 1] ?_
 obtain ⟨x1, hx1, h⟩ := za2 h
 refine .seqM 0 (fun (j : Unit) => ya75) (fun j => x1 = (.inr j)) (lb rfl) ?_ ?_
 refine .sp [0, 1] ?_
 refine .block ?_
 refine .loopG 0 (fun (j : Nat) => ya74 a0 Ka1 ca1 j) (fun j => j <= a0.length /\ zaw a1 (a0.drop j) j  = some x1) (fun j => a0.length - j) (0) (lb rfl) ?_ ⟨Nat.zero_le _, hx1⟩ ?_
 exact .mq (zb2 hca1) (zb1 hca1) [0, 1, 7, 8] [] []
 rintro n1 ⟨hi1, hx1⟩
 simp only [ya74]
 refine .wf 7 (.int .i64 (a0.length : Int)) rfl ?_
 intro hln1
 replace hln1 := wfn hln1
 refine .sp [0, 1, 7, 8] ?_
 refine .seq (.cd (fun hc1 => ?_) (fun hc1 => ?_))
 have h1 : n1 < a0.length := by simpa using hc1
 have hwn1 := zdw h1 hln1
 have hpn1 := zdx h1 hln1
 rw [za7 h1, zaw] at hx1
 refine .skip (.seq (.block (.seq (.plx zS hwn1 [0, 1, 7, 8] ?_))))
 refine .seq ?_
 obtain ⟨v1, hv1, hx1⟩ := za2 hx1
 have e1 := zdk TStamp.d a0 n1 h1
 refine .rg zS [0, 1, 5, 7, 8] ?_
 refine .rnx 5 (ai e1 hwn1) ?_
 refine .call (r := .bool v1) rfl rfl rfl rfl rfl (za8 rfl (hca1 _)) (ha1 _ v1 hv1) ?_
 refine .nn ?_
 refine .cd ?_ ?_ <;> intro hc2
 replace hx1 := zaf hx1 hc2
 refine .seq (.plx zS hwn1 [5] ?_)
 have hq := sj hx1
 subst x1
 try dsimp only at h
 obtain rfl := sj h
 exact .rr
 replace hx1 := zao hx1 hc2
 refine .skip (.plx zS hwn1 [0, 1, 7, 8] ?_)
 refine ⟨n1 + 1, ?_, ⟨by omega, hx1⟩, by dsimp only; omega⟩
 exact .mq (zb2 hca1) (zb1 hca1) [0, 1, 7, 8] [] []
 have h2 : n1 = a0.length := by have h2b := of_decide_eq_false hc1; omega
 rw [zab (by omega), zaw] at hx1
 refine .exit ?_
 refine ⟨_, ?_, (sj hx1).symm⟩
 exact .mq (zb2 hca1) (zb1 hca1) [] [] []
 rintro ⟨⟩ hj1
 subst x1
 try dsimp only at h
 simp only [ya75]
 refine .sp [] ?_
 obtain rfl := sj h
 exact .rr
theorem zgx (a0 : List TStamp) (Ka1 : Nat) (ca1 : List D) (hca1 : ∀ hp, zdm hp ca1 = (ca1, true)) (h2a1 : ∀ hp, zdb hp ca1 = (ca1, true)) (h3a1 : ∀ hp, zfx hp ca1 = []) (a1 : TStamp -> Option Bool) (ha1 : ∀ x0 y, a1 x0 = some y -> zb9 Tryz.prog Ka1 (.agg [.int .i64 x0.Time, .int .i64 x0.Id] :: ca1) (.bool y)) (r : Bool) (h : zcl a0 a1 = some r) : zb9 Tryz.prog 199 [.imm 2 (a0.map TStamp.d) 4, .fn (.func Ka1) ca1] (.bool r) := by
 refine zbt 2 Tryz.func199 ?_
 intro hwf
 unfold zcl at h
 refine .sp [0, 1] ?_
 obtain ⟨v1, hv1, h⟩ := za2 h
 refine .sr [0, 1] ?_
 refine .rn 2 ?_
 refine .lcall (r := .int .i64 v1) [] rfl rfl rfl rfl rfl (za9 rfl (za9 (zfw (h2a1 _)) zap)) (by show zfx _ [.imm 2 (a0.map TStamp.d) 4, .fn (.func Ka1) ca1] = _; simp only [zfx, ids2, zag, zai, zal, h3a1]) (zhf a0 Ka1 ca1 hca1 h2a1 h3a1 a1 ha1 v1 hv1) ?_
 refine .rn 2 ?_
 refine .nn ?_
 obtain rfl := sj h
 exact .rr
theorem zl0 (a0 : TStamp) (c0 : Int) (r : Bool) (h : zee a0 c0 = some r) : zb9 Tryz.prog 200 [.agg [.int .i64 a0.Time, .int .i64 a0.Id], .iptr 0 [.int .i64 c0]] (.bool r) := by
 refine zbt 3 Tryz.func200 ?_
 intro hwf
 unfold zee at h
 refine .sp [0, 1] ?_
 refine .sp [1, 2] ?_
 obtain rfl := sj h
 exact .rr
theorem zly (a0 : Tskeen_clock) (a1 : Int) (r : Bool) (h : zf2 a0 a1 = some r) : zb9 Tryz.prog 182 [.iptr 0 [.int .i64 a0.Skeen.Clock, .imm 7 (a0.Skeen.Waits.map TWait.d) 4, .imm 2 (a0.Skeen.Done.map TStamp.d) 4], .int .i64 a1] (.bool r) := by
 refine zbt 3 Tryz.func182 ?_
 intro hwf
 unfold zf2 at h
 refine .sp [0, 1] ?_
 obtain ⟨v1, hv1, h⟩ := za2 h
 refine .sr [0, 3] ?_
 refine .rn 6 ?_
 refine .lcall (r := .bool v1) [] rfl rfl rfl rfl rfl (za9 rfl (za9 (zfw (za9 (zjx rfl (za8 rfl zeg)) zap)) zap)) rfl (zgx a0.Skeen.Done 200 [.iptr 0 [.int .i64 a1]] (fun _ => rfl) (fun _ => rfl) (fun _ => rfl) (fun x0 => zee x0 a1) (fun x0 y hy => zl0 x0 a1 y hy) v1 hv1) ?_
 refine .rn 1 ?_
 refine .nn ?_
 obtain rfl := sj h
 exact .rr
@[go_sem] def st30 (r : (List TStamp)) : St := ⟨[(2, .ref 0 2 0 r.length (some uC))], [(0, .arr 144 2 true (r.map TStamp.d))], 1⟩
theorem zix (a0 : List TStamp) (r : (List TStamp)) (h : ze0 a0 = some r) : zby Tryz.prog 84 [.imm 2 (a0.map TStamp.d) 4] [] (.ref 0 2 0 r.length (some uC)) [(0, some (.arr 144 2 true (r.map TStamp.d)))] (0, 3) := by
 refine zcu Tryz.func84 ?_
 intro hwf
 unfold ze0 at h
 refine .ends 0 (za4 _) ?_
 refine .nil4 0 2 (a0.map TStamp.d) rfl ?_ (fun hl => ?_)
 refine .sp [0] ?_
 refine .seq (.seq (.pl zS [0] ?_))
 refine .cond rfl rfl (fun hc => by cases hc) (fun hc => ?_)
 obtain ⟨k1, h⟩ := zb0 h
 refine .skip ?_
 refine .seqM 0 (fun (_ : Unit) => ⟨[(2, .ref 0 2 0 a0.length (some uC))], [(0, .arr 144 2 true (a0.map TStamp.d))], 1⟩) (fun _ => True) (lb rfl) ?_ (fun _ _ => ?_)
 rcases zmv a0 with hE1 | ⟨y, ys, hE1⟩
 have hM1 : a0.map TStamp.d = [] := by rw [hE1]; simp
 refine .px zS (apn hM1) [0] ?_
 refine ⟨(), ?_, trivial⟩
 refine .n0 2 144 ?_
 refine .w0 2 0 2 ?_
 exact .mx hE1 [2] [0] []
 have hM1 : a0.map TStamp.d ≠ [] := by rw [hE1]; simp
 refine .px zS (apc hM1) [0] ?_
 refine ⟨(), ?_, trivial⟩
 refine .wk 2 _ (.ref 0 2 0 a0.length (some uC)) rfl (.unk _ _ _ _ _) ?_
 exact .mx hE1 [2] [0] []
 obtain rfl := sj h
 refine .ret ⟨st30 a0, ?_, .inr rfl, retH [0] ?_ ?_⟩
 exact .m [2] [0] []
 exact rsi0
 rfl
 have hE0 : a0 = [] := by simpa using hl
 obtain ⟨k1, h⟩ := zb0 h
 refine .sp [0] ?_
 refine .seq (.seq (.pl zS [0] ?_))
 refine .cond rfl rfl (fun hc => ?_) (fun hc => by cases hc)
 refine .sp [] ?_
 obtain rfl := sj h
 refine .ret ⟨st30 a0, ?_, .inr rfl, retH [0] ?_ ?_⟩
 refine .n0 2 144 ?_
 refine .w0 2 0 2 ?_
 exact .mx hE0 [2] [0] []
 exact rsi0
 rfl
@[go_sem] def st31 (r : (List TWait)) : St := ⟨[(2, .ref 0 7 0 r.length (some uC))], [(0, .arr 91 7 true (r.map TWait.d))], 1⟩
theorem zjd (a0 : List TWait) (r : (List TWait)) (h : ze9 a0 = some r) : zby Tryz.prog 83 [.imm 7 (a0.map TWait.d) 4] [] (.ref 0 7 0 r.length (some uC)) [(0, some (.arr 91 7 true (r.map TWait.d)))] (0, 3) := by
 refine zcu Tryz.func83 ?_
 intro hwf
 unfold ze9 at h
 refine .ends 0 (za4 _) ?_
 refine .nil4 0 7 (a0.map TWait.d) rfl ?_ (fun hl => ?_)
 refine .sp [0] ?_
 refine .seq (.seq (.pl zS [0] ?_))
 refine .cond rfl rfl (fun hc => by cases hc) (fun hc => ?_)
 obtain ⟨k1, h⟩ := zb0 h
 refine .skip ?_
 refine .seqM 0 (fun (_ : Unit) => ⟨[(2, .ref 0 7 0 a0.length (some uC))], [(0, .arr 91 7 true (a0.map TWait.d))], 1⟩) (fun _ => True) (lb rfl) ?_ (fun _ _ => ?_)
 rcases zmv a0 with hE1 | ⟨y, ys, hE1⟩
 have hM1 : a0.map TWait.d = [] := by rw [hE1]; simp
 refine .px zS (apn hM1) [0] ?_
 refine ⟨(), ?_, trivial⟩
 refine .n0 7 91 ?_
 refine .w0 2 0 7 ?_
 exact .mx hE1 [2] [0] []
 have hM1 : a0.map TWait.d ≠ [] := by rw [hE1]; simp
 refine .px zS (apc hM1) [0] ?_
 refine ⟨(), ?_, trivial⟩
 refine .wk 2 _ (.ref 0 7 0 a0.length (some uC)) rfl (.unk _ _ _ _ _) ?_
 exact .mx hE1 [2] [0] []
 obtain rfl := sj h
 refine .ret ⟨st31 a0, ?_, .inr rfl, retH [0] ?_ ?_⟩
 exact .m [2] [0] []
 exact rsi0
 rfl
 have hE0 : a0 = [] := by simpa using hl
 obtain ⟨k1, h⟩ := zb0 h
 refine .sp [0] ?_
 refine .seq (.seq (.pl zS [0] ?_))
 refine .cond rfl rfl (fun hc => ?_) (fun hc => by cases hc)
 refine .sp [] ?_
 obtain rfl := sj h
 refine .ret ⟨st31 a0, ?_, .inr rfl, retH [0] ?_ ?_⟩
 refine .n0 7 91 ?_
 refine .w0 2 0 7 ?_
 exact .mx hE0 [2] [0] []
 exact rsi0
 rfl
@[go_sem] def st28 (r : Tskeen_clock) : St := ⟨[(0, .ptr 20000 0)], [(20000, .box [.int .i64 r.Skeen.Clock, .ref 20100 7 0 r.Skeen.Waits.length (some uC), .ref 20101 2 0 r.Skeen.Done.length (some uC)]), (20100, .arr 91 7 true (r.Skeen.Waits.map TWait.n)), (20101, .arr 144 2 true (r.Skeen.Done.map TStamp.d))], 20102⟩
theorem zlm (a0 : Tskeen_clock) (a1 : Int) (a2 : Int) (r : Tskeen_clock) (h : zcq a0 a1 a2 = some r) : zby Tryz.prog 158 [.ptr 20000 0, .int .i64 a1, .int .i64 a2] [(20000, .box [.int .i64 a0.Skeen.Clock, .ref 20001 7 0 a0.Skeen.Waits.length (some uC), .ref 20002 2 0 a0.Skeen.Done.length (some uC)]), (20001, .arr 91 7 true (a0.Skeen.Waits.map TWait.n)), (20002, .arr 144 2 true (a0.Skeen.Done.map TStamp.d))] (.tuple []) [(20000, some (.box [.int .i64 r.Skeen.Clock, .ref 20100 7 0 r.Skeen.Waits.length (some uC), .ref 20101 2 0 r.Skeen.Done.length (some uC)])), (20001, none), (20002, none), (20100, some (.arr 91 7 true (r.Skeen.Waits.map TWait.n))), (20101, some (.arr 144 2 true (r.Skeen.Done.map TStamp.d)))] (20100, 20104) := by
 refine zcu Tryz.func158 ?_
 intro hwf
 unfold zcq at h
 refine .ends 20100 (za4 _) ?_
 obtain ⟨v1, hv1, h⟩ := za2 h
 refine .sr [0, 1, 2] ?_
 refine .rn 2 ?_
 refine .lcall (r := .tuple [.int .i64 v1.1, .bool v1.2]) [20001, 20002] rfl rfl rfl rfl rfl (za9 (zjx rfl (za8 rfl (za8 (zmc zjv (by first | rfl | (simp only [go_sem, Nat.reduceBEq]; rfl)) (by first | rfl | (simp; done) | (simp <;> omega))) (za8 (zfv zm8 (by first | rfl | (simp only [go_sem, Nat.reduceBEq]; rfl)) (by first | rfl | (simp; done) | (simp <;> omega))) zeg)))) (za9 rfl zap)) rfl (zg9 a0 a1 v1 hv1) ?_
 refine .rn 5 ?_
 refine .nn ?_
 obtain ⟨k1, h⟩ := zb0 h
 obtain ⟨k2, h⟩ := zb0 h
 refine .seq ?_
 refine .seqM 20100 (fun (_ : Unit) => ⟨[(0, .ptr 20000 0), (2, .int .i64 a2), (6, .int .i64 v1.1), (39, .bool (((!v1.2) || (a0.Skeen.Waits.getD v1.1.toNat default).Final) || (decide (a2 < (a0.Skeen.Waits.getD v1.1.toNat default).Time))))], [(20000, .box [.int .i64 a0.Skeen.Clock, .ref 20001 7 0 a0.Skeen.Waits.length (some uC), .ref 20002 2 0 a0.Skeen.Done.length (some uC)]), (20001, .arr 91 7 true (a0.Skeen.Waits.map TWait.n)), (20002, .arr 144 2 true (a0.Skeen.Done.map TStamp.d))], 20100⟩) (fun _ => True) (lb rfl) ?_ (fun _ _ => ?_)
 by_cases hgd : ¬ (¬ (v1.2 = true))
 have eg10 := zbx TWait.n a0.Skeen.Waits v1.1 (k1 hgd)
 by_cases hgd : ¬ ((¬ (v1.2 = true)) \/ ((a0.Skeen.Waits.getD v1.1.toNat default).Final = true))
 have eg20 := zbx TWait.n a0.Skeen.Waits v1.1 (k2 hgd)
 refine .rg zS [0, 2, 6, 7] ?_
 refine .rnx 6 (ai eg10 eg20) ?_
 refine .rnx 6 (ai eg10 eg20) ?_
 refine .rnx 6 (ai eg10 eg20) ?_
 refine .rnx 8 (ai eg10 eg20) ?_
 refine .nn ?_
 refine ⟨(), ?_, trivial⟩
 exact .m [0, 2, 6, 39] [20000, 20001, 20002] []
 have hgf2 : (!((!v1.2) || (a0.Skeen.Waits.getD v1.1.toNat default).Final)) = false := by first | simpa using hgd | (simp at hgd ⊢; omega) | grind
 have hgf2t : ((!v1.2) || (a0.Skeen.Waits.getD v1.1.toNat default).Final) = true := by first | simpa using hgf2 | grind
 rcases zvj TWait.n a0.Skeen.Waits v1.1.toNat with eg20 | eg20
 refine .rg zS [0, 2, 6, 7] ?_
 refine .rnx 6 (ai eg10 (ai eg20 (ai hgf2 hgf2t))) ?_
 refine .rnx 6 (ai eg10 (ai eg20 (ai hgf2 hgf2t))) ?_
 refine .rnx 6 (ai eg10 (ai eg20 (ai hgf2 hgf2t))) ?_
 refine .rnx 8 (ai eg10 (ai eg20 (ai hgf2 hgf2t))) ?_
 refine .nn ?_
 refine ⟨(), ?_, trivial⟩
 exact .mx (ai hgf2 hgf2t) [0, 2, 6, 39] [20000, 20001, 20002] []
 refine .rg zS [0, 2, 6, 7] ?_
 refine .rnx 6 (ai eg10 (ai eg20 (ai hgf2 hgf2t))) ?_
 refine .rnx 6 (ai eg10 (ai eg20 (ai hgf2 hgf2t))) ?_
 refine .rnx 6 (ai eg10 (ai eg20 (ai hgf2 hgf2t))) ?_
 refine .rnx 8 (ai eg10 (ai eg20 (ai hgf2 hgf2t))) ?_
 refine .nn ?_
 refine ⟨(), ?_, trivial⟩
 exact .mx (ai hgf2 hgf2t) [0, 2, 6, 39] [20000, 20001, 20002] []
 have hgf1 : (!(!v1.2)) = false := by first | simpa using hgd | (simp at hgd ⊢; omega) | grind
 have hgf1t : (!v1.2) = true := by first | simpa using hgf1 | grind
 rcases zvj TWait.n a0.Skeen.Waits v1.1.toNat with eg10 | eg10
 by_cases hgd : ¬ ((¬ (v1.2 = true)) \/ ((a0.Skeen.Waits.getD v1.1.toNat default).Final = true))
 have eg30 := zbx TWait.n a0.Skeen.Waits v1.1 (k2 hgd)
 refine .rg zS [0, 2, 6, 7] ?_
 refine .rnx 6 (ai eg10 (ai hgf1 (ai hgf1t eg30))) ?_
 refine .rnx 6 (ai eg10 (ai hgf1 (ai hgf1t eg30))) ?_
 refine .rnx 6 (ai eg10 (ai hgf1 (ai hgf1t eg30))) ?_
 refine .rnx 8 (ai eg10 (ai hgf1 (ai hgf1t eg30))) ?_
 refine .nn ?_
 refine ⟨(), ?_, trivial⟩
 exact .mx (ai hgf1 hgf1t) [0, 2, 6, 39] [20000, 20001, 20002] []
 have hgf3 : (!((!v1.2) || (a0.Skeen.Waits.getD v1.1.toNat default).Final)) = false := by first | simpa using hgd | (simp at hgd ⊢; omega) | grind
 have hgf3t : ((!v1.2) || (a0.Skeen.Waits.getD v1.1.toNat default).Final) = true := by first | simpa using hgf3 | grind
 rcases zvj TWait.n a0.Skeen.Waits v1.1.toNat with eg30 | eg30
 refine .rg zS [0, 2, 6, 7] ?_
 refine .rnx 6 (ai eg10 (ai hgf1 (ai hgf1t (ai eg30 (ai hgf3 hgf3t))))) ?_
 refine .rnx 6 (ai eg10 (ai hgf1 (ai hgf1t (ai eg30 (ai hgf3 hgf3t))))) ?_
 refine .rnx 6 (ai eg10 (ai hgf1 (ai hgf1t (ai eg30 (ai hgf3 hgf3t))))) ?_
 refine .rnx 8 (ai eg10 (ai hgf1 (ai hgf1t (ai eg30 (ai hgf3 hgf3t))))) ?_
 refine .nn ?_
 refine ⟨(), ?_, trivial⟩
 exact .mx (ai hgf1 (ai hgf1t (ai hgf3 hgf3t))) [0, 2, 6, 39] [20000, 20001, 20002] []
 refine .rg zS [0, 2, 6, 7] ?_
 refine .rnx 6 (ai eg10 (ai hgf1 (ai hgf1t (ai eg30 (ai hgf3 hgf3t))))) ?_
 refine .rnx 6 (ai eg10 (ai hgf1 (ai hgf1t (ai eg30 (ai hgf3 hgf3t))))) ?_
 refine .rnx 6 (ai eg10 (ai hgf1 (ai hgf1t (ai eg30 (ai hgf3 hgf3t))))) ?_
 refine .rnx 8 (ai eg10 (ai hgf1 (ai hgf1t (ai eg30 (ai hgf3 hgf3t))))) ?_
 refine .nn ?_
 refine ⟨(), ?_, trivial⟩
 exact .mx (ai hgf1 (ai hgf1t (ai hgf3 hgf3t))) [0, 2, 6, 39] [20000, 20001, 20002] []
 by_cases hgd : ¬ ((¬ (v1.2 = true)) \/ ((a0.Skeen.Waits.getD v1.1.toNat default).Final = true))
 have eg40 := zbx TWait.n a0.Skeen.Waits v1.1 (k2 hgd)
 refine .rg zS [0, 2, 6, 7] ?_
 refine .rnx 6 (ai eg10 (ai hgf1 (ai hgf1t eg40))) ?_
 refine .rnx 6 (ai eg10 (ai hgf1 (ai hgf1t eg40))) ?_
 refine .rnx 6 (ai eg10 (ai hgf1 (ai hgf1t eg40))) ?_
 refine .rnx 8 (ai eg10 (ai hgf1 (ai hgf1t eg40))) ?_
 refine .nn ?_
 refine ⟨(), ?_, trivial⟩
 exact .mx (ai hgf1 hgf1t) [0, 2, 6, 39] [20000, 20001, 20002] []
 have hgf4 : (!((!v1.2) || (a0.Skeen.Waits.getD v1.1.toNat default).Final)) = false := by first | simpa using hgd | (simp at hgd ⊢; omega) | grind
 have hgf4t : ((!v1.2) || (a0.Skeen.Waits.getD v1.1.toNat default).Final) = true := by first | simpa using hgf4 | grind
 rcases zvj TWait.n a0.Skeen.Waits v1.1.toNat with eg40 | eg40
 refine .rg zS [0, 2, 6, 7] ?_
 refine .rnx 6 (ai eg10 (ai hgf1 (ai hgf1t (ai eg40 (ai hgf4 hgf4t))))) ?_
 refine .rnx 6 (ai eg10 (ai hgf1 (ai hgf1t (ai eg40 (ai hgf4 hgf4t))))) ?_
 refine .rnx 6 (ai eg10 (ai hgf1 (ai hgf1t (ai eg40 (ai hgf4 hgf4t))))) ?_
 refine .rnx 8 (ai eg10 (ai hgf1 (ai hgf1t (ai eg40 (ai hgf4 hgf4t))))) ?_
 refine .nn ?_
 refine ⟨(), ?_, trivial⟩
 exact .mx (ai hgf1 (ai hgf1t (ai hgf4 hgf4t))) [0, 2, 6, 39] [20000, 20001, 20002] []
 refine .rg zS [0, 2, 6, 7] ?_
 refine .rnx 6 (ai eg10 (ai hgf1 (ai hgf1t (ai eg40 (ai hgf4 hgf4t))))) ?_
 refine .rnx 6 (ai eg10 (ai hgf1 (ai hgf1t (ai eg40 (ai hgf4 hgf4t))))) ?_
 refine .rnx 6 (ai eg10 (ai hgf1 (ai hgf1t (ai eg40 (ai hgf4 hgf4t))))) ?_
 refine .rnx 8 (ai eg10 (ai hgf1 (ai hgf1t (ai eg40 (ai hgf4 hgf4t))))) ?_
 refine .nn ?_
 refine ⟨(), ?_, trivial⟩
 exact .mx (ai hgf1 (ai hgf1t (ai hgf4 hgf4t))) [0, 2, 6, 39] [20000, 20001, 20002] []
 refine .cd ?_ ?_ <;> intro hc1
 replace h := zaf h hc1
 obtain rfl := sj h
 refine .ret ⟨st28 a0, ?_, .inr rfl, retH [20000, 20101, 20100] ?_ ?_⟩
 exact .m [0] [20000, 20001, 20002] [(20001, 20100), (20002, 20101)]
 exact rsi0
 rfl
 replace h := zao h hc1
 refine .skip (.seq ?_)
 obtain ⟨k3, h⟩ := zb0 h
 obtain ⟨k4, h⟩ := zb0 h
 have e1 := zbx TWait.n a0.Skeen.Waits v1.1
 have es1 := zif TWait.n a0.Skeen.Waits v1.1.toNat (⟨(a0.Skeen.Waits.getD v1.1.toNat default).Message, a2, (a0.Skeen.Waits.getD v1.1.toNat default).Final⟩ : TWait)
 have e2 := zbx TWait.n (a0.Skeen.Waits.set v1.1.toNat (⟨(a0.Skeen.Waits.getD v1.1.toNat default).Message, a2, (a0.Skeen.Waits.getD v1.1.toNat default).Final⟩ : TWait)) v1.1
 have es2 := zif TWait.n (a0.Skeen.Waits.set v1.1.toNat (⟨(a0.Skeen.Waits.getD v1.1.toNat default).Message, a2, (a0.Skeen.Waits.getD v1.1.toNat default).Final⟩ : TWait)) v1.1.toNat (⟨((a0.Skeen.Waits.set v1.1.toNat (⟨(a0.Skeen.Waits.getD v1.1.toNat default).Message, a2, (a0.Skeen.Waits.getD v1.1.toNat default).Final⟩ : TWait)).getD v1.1.toNat default).Message, ((a0.Skeen.Waits.set v1.1.toNat (⟨(a0.Skeen.Waits.getD v1.1.toNat default).Message, a2, (a0.Skeen.Waits.getD v1.1.toNat default).Final⟩ : TWait)).getD v1.1.toNat default).Time, true⟩ : TWait)
 replace e1 := e1 k3
 replace es1 : setN (a0.Skeen.Waits.map TWait.n) v1.1.toNat (.agg [.int .i64 ((a0.Skeen.Waits.getD v1.1.toNat default).Message.Id), .imm 1 (((a0.Skeen.Waits.getD v1.1.toNat default).Message.Groups).map (D.int .i64)) 13, .int .i64 ((a0.Skeen.Waits.getD v1.1.toNat default).Message.Topic), .str ((a0.Skeen.Waits.getD v1.1.toNat default).Message.Key), .str ((a0.Skeen.Waits.getD v1.1.toNat default).Message.Body), .int .i64 a2, .bool ((a0.Skeen.Waits.getD v1.1.toNat default).Final)]) = (a0.Skeen.Waits.set v1.1.toNat (⟨(a0.Skeen.Waits.getD v1.1.toNat default).Message, a2, (a0.Skeen.Waits.getD v1.1.toNat default).Final⟩ : TWait)).map TWait.n := es1
 replace e2 := e2 k4
 replace es2 : setN ((a0.Skeen.Waits.set v1.1.toNat (⟨(a0.Skeen.Waits.getD v1.1.toNat default).Message, a2, (a0.Skeen.Waits.getD v1.1.toNat default).Final⟩ : TWait)).map TWait.n) v1.1.toNat (.agg [.int .i64 (((a0.Skeen.Waits.set v1.1.toNat (⟨(a0.Skeen.Waits.getD v1.1.toNat default).Message, a2, (a0.Skeen.Waits.getD v1.1.toNat default).Final⟩ : TWait)).getD v1.1.toNat default).Message.Id), .imm 1 ((((a0.Skeen.Waits.set v1.1.toNat (⟨(a0.Skeen.Waits.getD v1.1.toNat default).Message, a2, (a0.Skeen.Waits.getD v1.1.toNat default).Final⟩ : TWait)).getD v1.1.toNat default).Message.Groups).map (D.int .i64)) 13, .int .i64 (((a0.Skeen.Waits.set v1.1.toNat (⟨(a0.Skeen.Waits.getD v1.1.toNat default).Message, a2, (a0.Skeen.Waits.getD v1.1.toNat default).Final⟩ : TWait)).getD v1.1.toNat default).Message.Topic), .str (((a0.Skeen.Waits.set v1.1.toNat (⟨(a0.Skeen.Waits.getD v1.1.toNat default).Message, a2, (a0.Skeen.Waits.getD v1.1.toNat default).Final⟩ : TWait)).getD v1.1.toNat default).Message.Key), .str (((a0.Skeen.Waits.set v1.1.toNat (⟨(a0.Skeen.Waits.getD v1.1.toNat default).Message, a2, (a0.Skeen.Waits.getD v1.1.toNat default).Final⟩ : TWait)).getD v1.1.toNat default).Message.Body), .int .i64 (((a0.Skeen.Waits.set v1.1.toNat (⟨(a0.Skeen.Waits.getD v1.1.toNat default).Message, a2, (a0.Skeen.Waits.getD v1.1.toNat default).Final⟩ : TWait)).getD v1.1.toNat default).Time), .bool true]) = ((a0.Skeen.Waits.set v1.1.toNat (⟨(a0.Skeen.Waits.getD v1.1.toNat default).Message, a2, (a0.Skeen.Waits.getD v1.1.toNat default).Final⟩ : TWait)).set v1.1.toNat (⟨((a0.Skeen.Waits.set v1.1.toNat (⟨(a0.Skeen.Waits.getD v1.1.toNat default).Message, a2, (a0.Skeen.Waits.getD v1.1.toNat default).Final⟩ : TWait)).getD v1.1.toNat default).Message, ((a0.Skeen.Waits.set v1.1.toNat (⟨(a0.Skeen.Waits.getD v1.1.toNat default).Message, a2, (a0.Skeen.Waits.getD v1.1.toNat default).Final⟩ : TWait)).getD v1.1.toNat default).Time, true⟩ : TWait)).map TWait.n := es2
 refine .rg zS [0, 2, 6] ?_
 refine .rdx 6 (ai e1 (ai es1 (ai e2 es2))) ?_
 refine .rdx 6 (ai e1 (ai es1 (ai e2 es2))) ?_
 refine .rdx 7 (ai e1 (ai es1 (ai e2 es2))) ?_
 refine .nd ?_
 refine .rg zS [0, 2] ?_
 refine .rn 6 ?_
 refine .rn 6 ?_
 refine .nn ?_
 obtain rfl := sj h
 refine ⟨st28 (⟨(⟨(max a0.Skeen.Clock a2), ((a0.Skeen.Waits.set v1.1.toNat (⟨(a0.Skeen.Waits.getD v1.1.toNat default).Message, a2, (a0.Skeen.Waits.getD v1.1.toNat default).Final⟩ : TWait)).set v1.1.toNat (⟨((a0.Skeen.Waits.set v1.1.toNat (⟨(a0.Skeen.Waits.getD v1.1.toNat default).Message, a2, (a0.Skeen.Waits.getD v1.1.toNat default).Final⟩ : TWait)).getD v1.1.toNat default).Message, ((a0.Skeen.Waits.set v1.1.toNat (⟨(a0.Skeen.Waits.getD v1.1.toNat default).Message, a2, (a0.Skeen.Waits.getD v1.1.toNat default).Final⟩ : TWait)).getD v1.1.toNat default).Time, true⟩ : TWait)), a0.Skeen.Done⟩ : TSkeen)⟩ : Tskeen_clock), ?_, .inl rfl, retH [20000, 20101, 20100] ?_ ?_⟩
 exact .m [0] [20000, 20001, 20002] [(20001, 20100), (20002, 20101)]
 exact rsi0
 rfl
@[go_sem] def st26 (r : Int × Tskeen_clock) : St := ⟨[(0, .ptr 20000 0), (6, .int .i64 r.1)], [(20000, .box [.int .i64 r.2.Skeen.Clock, .ref 20100 7 0 r.2.Skeen.Waits.length (some uC), .ref 20101 2 0 r.2.Skeen.Done.length (some uC)]), (20100, .arr 91 7 true (r.2.Skeen.Waits.map TWait.n)), (20101, .arr 144 2 true (r.2.Skeen.Done.map TStamp.d))], 20102⟩
theorem zl4 (a0 : Tskeen_clock) (a1 : Int) (a2 : TMessage) (r : Int × Tskeen_clock) (h : zcg a0 a1 a2 = some r) : zby Tryz.prog 157 [.ptr 20000 0, .int .i64 a1, .agg [.int .i64 a2.Id, .imm 1 (a2.Groups.map (D.int .i64)) 4, .int .i64 a2.Topic, .str a2.Key, .str a2.Body]] [(20000, .box [.int .i64 a0.Skeen.Clock, .ref 20001 7 0 a0.Skeen.Waits.length (some uC), .ref 20002 2 0 a0.Skeen.Done.length (some uC)]), (20001, .arr 91 7 true (a0.Skeen.Waits.map TWait.n)), (20002, .arr 144 2 true (a0.Skeen.Done.map TStamp.d))] (.int .i64 r.1) [(20000, some (.box [.int .i64 r.2.Skeen.Clock, .ref 20100 7 0 r.2.Skeen.Waits.length (some uC), .ref 20101 2 0 r.2.Skeen.Done.length (some uC)])), (20001, none), (20002, none), (20100, some (.arr 91 7 true (r.2.Skeen.Waits.map TWait.n))), (20101, some (.arr 144 2 true (r.2.Skeen.Done.map TStamp.d)))] (20100, 20105) := by
 refine zcu Tryz.func157 ?_
 intro hwf
 unfold zcg at h
 refine .ends 20100 (za4 _) ?_
 refine .sp [0, 1, 2] ?_
 obtain ⟨v1, hv1, h⟩ := za2 h
 refine .sr [0, 1, 5] ?_
 refine .rn 3 ?_
 refine .lcall (r := .tuple [.int .i64 v1.1, .bool v1.2]) [20001, 20002] rfl rfl rfl rfl rfl (za9 (zjx rfl (za8 rfl (za8 (zmc zjv (by first | rfl | (simp only [go_sem, Nat.reduceBEq]; rfl)) (by first | rfl | (simp; done) | (simp <;> omega))) (za8 (zfv zm8 (by first | rfl | (simp only [go_sem, Nat.reduceBEq]; rfl)) (by first | rfl | (simp; done) | (simp <;> omega))) zeg)))) (za9 rfl zap)) rfl (zg9 a0 a2.Id v1 hv1) ?_
 refine .rn 5 ?_
 refine .nn ?_
 refine .seq ?_
 obtain ⟨v2, hv2, h⟩ := za2 h
 obtain ⟨v3, hv3, h⟩ := za2 h
 refine .sr [0, 1, 5, 7, 8] ?_
 refine .rn 5 ?_
 refine .glcall (r := .bool v2) [20001, 20002] rfl rfl rfl rfl rfl (fun hg => ⟨[], [.ptr 20000 0, .int .i64 a2.Id], _, rfl, gd hg, (za9 (zjx rfl (za8 rfl (za8 (zmc zjv (by first | rfl | (simp only [go_sem, Nat.reduceBEq]; rfl)) (by first | rfl | (simp; done) | (simp <;> omega))) (za8 (zfv zm8 (by first | rfl | (simp only [go_sem, Nat.reduceBEq]; rfl)) (by first | rfl | (simp; done) | (simp <;> omega))) zeg)))) (za9 rfl zap)), rfl, (zly a0 a2.Id v2 (zaf hv2 hg))⟩) ?_
 refine .rn 5 ?_
 refine .gcall rfl rfl rfl rfl rfl (fun hg => ⟨[], [.imm 1 (a2.Groups.map (D.int .i64)) 4, .int .i64 a1], _, rfl, gd hg, rfl, (zj3 a2.Groups a1 v3 (zaf hv3 hg))⟩) ?_
 refine .rn 2 ?_
 refine .nn ?_
 refine .cd ?_ ?_ <;> intro hc1
 replace h := zaf h hc1
 refine .sp [0] ?_
 obtain rfl := sj h
 refine .ret ⟨st26 (0, a0), ?_, .inr rfl, retH [20000, 20101, 20100] ?_ ?_⟩
 exact .m [0, 6] [20000, 20001, 20002] [(20001, 20100), (20002, 20101)]
 exact rsi0
 rfl
 replace h := zao h hc1
 refine .skip (.seq (.seq (.rg zS [0, 5, 7] ?_)))
 refine .rn 6 ?_
 refine .rn 6 ?_
 refine .rn 3 ?_
 refine .nn ?_
 refine .cd ?_ ?_ <;> intro hc2
 replace h := zaf h hc2
 refine .sp [0] ?_
 obtain rfl := sj h
 refine .ret ⟨st26 (9, a0), ?_, .inr rfl, retH [20000, 20101, 20100] ?_ ?_⟩
 exact .m [0, 6] [20000, 20001, 20002] [(20001, 20100), (20002, 20101)]
 exact rsi0
 rfl
 replace h := zao h hc2
 refine .skip (.seq (.rg zS [0, 5, 7] ?_))
 refine .rn 6 ?_
 refine .rn 4 ?_
 refine .nn ?_
 obtain ⟨v4, hv4, h⟩ := za2 h
 refine .sr [0, 5, 7] ?_
 refine .rn 2 ?_
 refine .cl (zgr a2.Groups v4 hv4) ?_
 refine .rn 2 ?_
 refine .nn ?_
 obtain ⟨k1, h⟩ := zb0 h
 obtain ⟨k2, h⟩ := zb0 h
 refine .sr [0, 5, 7] ?_
 refine .rd 6 ?_
 refine .rd 6 ?_
 refine .rd 3 ?_
 refine .hcall (r := .ref 20102 7 0 (((a0.Skeen.Waits.take v1.1.toNat) ++ ((⟨(⟨a2.Id, v4, a2.Topic, a2.Key, a2.Body⟩ : TMessage), (wr .i64 (a0.Skeen.Clock + 1)), false⟩ : TWait) :: (a0.Skeen.Waits.drop v1.1.toNat))).length) (some uC)) rfl rfl rfl rfl rfl (ya3j 20001 20101 20102 (by decide) (by decide) (by decide) a0.Skeen.Waits (⟨(⟨a2.Id, v4, a2.Topic, a2.Key, a2.Body⟩ : TMessage), (wr .i64 (a0.Skeen.Clock + 1)), false⟩ : TWait) v1.1 k1 k2) (fun id b h => zav [20001, 20101] _ id b h) (by simp) (.inr ⟨za4 _, lb rfl⟩) ?_
 refine .rd 4 ?_
 refine .nd ?_
 refine .sp [0] ?_
 obtain rfl := sj h
 refine .ret ⟨st26 (0, (⟨(⟨(wr .i64 (a0.Skeen.Clock + 1)), ((a0.Skeen.Waits.take v1.1.toNat) ++ ((⟨(⟨a2.Id, v4, a2.Topic, a2.Key, a2.Body⟩ : TMessage), (wr .i64 (a0.Skeen.Clock + 1)), false⟩ : TWait) :: (a0.Skeen.Waits.drop v1.1.toNat))), a0.Skeen.Done⟩ : TSkeen)⟩ : Tskeen_clock)), ?_, .inr rfl, retH [20000, 20101, 20100] ?_ ?_⟩
 exact .m [0, 6] [20000, 20102, 20002] [(20102, 20100), (20002, 20101)]
 exact rsi0
 rfl
@[go_sem] def st84 (a0 : TSkeen) (v2 : List TStamp) (l1 : List TWait) : St := ⟨[(1, .ptr 0 0), (2, .ptr 1 0)], [(0, .box [.int .i64 a0.Clock, .ref 9 7 0 l1.length (some uC), .ref 6 2 0 v2.length (some uC)]), (1, .box [.int .i64 0, .imm 0 [] 0, .imm 0 [] 0]), (6, .arr 144 2 true (v2.map TStamp.d)), (9, .arr 91 7 true (l1.map TWait.n))], 10⟩
@[go_sem] def st85 (a0 : TSkeen) (v1 : (List TWait)) (v2 : List TStamp) (l2 : List TWait) (n1 : Int) : St := ⟨[(1, .ptr 0 0), (2, .ptr 1 0), (14, .int .i64 (v1.length : Int)), (15, .int .i64 n1)], [(0, .box [.int .i64 a0.Clock, .ref 9 7 0 l2.length (some uC), .ref 6 2 0 v2.length (some uC)]), (1, .box [.int .i64 0, .imm 0 [] 0, .imm 0 [] 0]), (6, .arr 144 2 true (v2.map TStamp.d)), (9, .arr 91 7 true (mx TWait.n TWait.d n1.toNat l2))], 10⟩
@[go_sem] def st25 (r : TSkeen) : St := ⟨[(2, .ptr 2 0)], [(0, .arr 91 7 true (r.Waits.map TWait.n)), (1, .arr 144 2 true (r.Done.map TStamp.d)), (2, .box [.int .i64 r.Clock, .ref 0 7 0 r.Waits.length (some uC), .ref 1 2 0 r.Done.length (some uC)])], 3⟩
theorem zlu (a0 : TSkeen) (r : TSkeen) (h : zdu a0 = some r) : zby Tryz.prog 38 [.agg [.int .i64 a0.Clock, .imm 7 (a0.Waits.map TWait.d) 4, .imm 2 (a0.Done.map TStamp.d) 4]] [] (.agg [.int .i64 r.Clock, .ref 0 7 0 r.Waits.length (some uC), .ref 1 2 0 r.Done.length (some uC)]) [(0, some (.arr 91 7 true (r.Waits.map TWait.n))), (1, some (.arr 144 2 true (r.Done.map TStamp.d)))] (0, 12) := by
 refine zcu Tryz.func38 ?_
 intro hwf
 unfold zdu at h
 refine .ends 0 (za4 _) ?_
 refine .sp [0] ?_
 obtain ⟨v1, hv1, h⟩ := za2 h
 obtain ⟨v2, hv2, h⟩ := za2 h
 refine .sr [1, 2] ?_
 refine .rd 2 ?_
 refine .hcall (H := []) (eff := [(3, some (.arr 91 7 true (v1.map TWait.d)))]) (nw := (3, 6)) (r := .ref 3 7 0 v1.length (some uC)) rfl rfl rfl rfl rfl (zdt 3 (lb rfl) (zjd a0.Waits v1 hv1)) (fun id b h => zav [] _ id b h) (by simp) (.inr ⟨lb rfl, lb rfl⟩) ?_
 refine .rd 2 ?_
 refine .ncall (r := .ref 6 2 0 v2.length (some uC)) (eff := [(6, some (.arr 144 2 true (v2.map TStamp.d)))]) (nw := (6, 9)) [] rfl rfl rfl rfl rfl (za9 rfl zap) rfl (zdt 6 (lb rfl) (zix a0.Done v2 hv2)) (zc4 rfl rfl (ze4 zmu _ _ _) ze8) (by intro i hi; simp [D.ids, D.idsL] at hi <;> omega) rfl ⟨lb rfl, lb rfl⟩ ?_
 refine .rd 4 ?_
 refine .nd ?_
 obtain ⟨x1, hx1, h⟩ := za2 h
 refine .seqM 9 (fun (j : (List TWait)) => st84 a0 v2 j) (fun j => x1 = j) (lb rfl) ?_ ?_
 refine .sp [1, 2] ?_
 refine .block ?_
 refine .loopG 9 (fun (j : Nat × (List TWait) × Int) => st85 a0 v1 v2 j.2.1 j.2.2) (fun j => zd7 v1 j.1 j.2.1 j.2.2 = some x1) (fun j => j.1) (a0.Waits.length + 1, v1, 0) (lb rfl) ?_ hx1 ?_
 refine .arr 3 (v1.map TWait.d) (mx TWait.n TWait.d (Int.toNat 0) v1) rfl (.mx0 _ _ _) ?_
 exact .m [1, 2, 14, 15] [0, 1, 6, 3] [(3, 9)]
 rintro ⟨fu1, l2, n1⟩ hx1
 simp only [st85]
 try simp only at hx1
 obtain ⟨fu1, rfl⟩ : ∃ k, fu1 = k + 1 := by cases fu1 with | zero => (rw [zd7] at hx1; cases hx1) | succ k => exact ⟨k, rfl⟩
 rw [zd7] at hx1
 refine .sp [1, 2, 14, 15] ?_
 refine .seq (.cd (fun hc1 => ?_) (fun hc1 => ?_))
 replace hx1 := zaf hx1 hc1
 refine .skip (.seq (.block (.seq (.pl zS [1, 2, 14, 15] ?_))))
 obtain ⟨k1, hx1⟩ := zb0 hx1
 obtain ⟨v3, hv3, hx1⟩ := za2 hx1
 obtain ⟨k2, hx1⟩ := zb0 hx1
 have e1 := ya4c TWait.n TWait.d (k := n1.toNat) (l := l2) (by omega)
 have e2 := ya4c TWait.n TWait.d (k := n1.toNat) (l := l2) (by omega)
 have es1 := ya7q TWait.n TWait.d (k := n1.toNat) (l := l2) (⟨(⟨(l2.getD n1.toNat default).Message.Id, v3, (l2.getD n1.toNat default).Message.Topic, (l2.getD n1.toNat default).Message.Key, (l2.getD n1.toNat default).Message.Body⟩ : TMessage), (l2.getD n1.toNat default).Time, (l2.getD n1.toNat default).Final⟩ : TWait) (by omega)
 replace es1 : setN (mx TWait.n TWait.d n1.toNat l2) n1.toNat (.agg [.int .i64 ((l2.getD n1.toNat default).Message.Id), .imm 1 (v3.map (D.int .i64)) 13, .int .i64 ((l2.getD n1.toNat default).Message.Topic), .str ((l2.getD n1.toNat default).Message.Key), .str ((l2.getD n1.toNat default).Message.Body), .int .i64 ((l2.getD n1.toNat default).Time), .bool ((l2.getD n1.toNat default).Final)]) = mx TWait.n TWait.d (n1.toNat + 1) (l2.set n1.toNat (⟨(⟨(l2.getD n1.toNat default).Message.Id, v3, (l2.getD n1.toNat default).Message.Topic, (l2.getD n1.toNat default).Message.Key, (l2.getD n1.toNat default).Message.Body⟩ : TMessage), (l2.getD n1.toNat default).Time, (l2.getD n1.toNat default).Final⟩ : TWait)) := es1
 refine .rg zS [1, 2, 3, 14, 15] ?_
 refine .rdx 6 (ai e1 (ai e2 es1)) ?_
 refine .rdx 4 (ai e1 (ai e2 es1)) ?_
 refine .cl (zgr ((l2.getD n1.toNat default).Message.Groups) v3 hv3) ?_
 refine .rdx 4 (ai e1 (ai e2 es1)) ?_
 refine .nd ?_
 refine .pl zS [1, 2, 14, 15] ?_
 refine ⟨(fu1, _, _), ?_, hx1, by dsimp only; omega⟩
 refine .arr 9 (mx TWait.n TWait.d (n1.toNat + 1) (l2.set n1.toNat (⟨(⟨(l2.getD n1.toNat default).Message.Id, v3, (l2.getD n1.toNat default).Message.Topic, (l2.getD n1.toNat default).Message.Key, (l2.getD n1.toNat default).Message.Body⟩ : TMessage), (l2.getD n1.toNat default).Time, (l2.getD n1.toNat default).Final⟩ : TWait))) (mx TWait.n TWait.d ((wr .i64 (n1 + 1)).toNat) (l2.set n1.toNat (⟨(⟨(l2.getD n1.toNat default).Message.Id, v3, (l2.getD n1.toNat default).Message.Topic, (l2.getD n1.toNat default).Message.Key, (l2.getD n1.toNat default).Message.Body⟩ : TMessage), (l2.getD n1.toNat default).Time, (l2.getD n1.toNat default).Final⟩ : TWait))) rfl (.mxk _ _ _ (zze k1 k2)) ?_
 exact .m [1, 2, 14, 15] [0, 1, 6, 9] []
 replace hx1 := zao hx1 hc1
 refine .exit ?_
 obtain ⟨k3, hx1⟩ := zb0 hx1
 refine ⟨_, ?_, (sj hx1).symm⟩
 refine .arr 9 (mx TWait.n TWait.d n1.toNat l2) (l2.map TWait.n) rfl (.mxe _ _ k3) ?_
 exact .m [1, 2] [0, 1, 6, 9] []
 rintro l1 hj1
 subst x1
 try dsimp only at h
 simp only [st84]
 refine .sp [1, 2] ?_
 obtain rfl := sj h
 refine .ret ⟨st25 (⟨a0.Clock, l1, v2⟩ : TSkeen), ?_, .inr rfl, retH [1, 0] ?_ ?_⟩
 exact .m [2] [9, 6, 1] [(9, 0), (6, 1), (1, 2)]
 exact rsi0
 rfl
theorem zlr (a0 : TSkeen) (r : TSkeen) (h : zdu a0 = some r) : zb9 Tryz.prog 38 [.agg [.int .i64 a0.Clock, .imm 7 (a0.Waits.map TWait.d) 4, .imm 2 (a0.Done.map TStamp.d) 4]] (.agg [.int .i64 r.Clock, .imm 7 (r.Waits.map TWait.d) 13, .imm 2 (r.Done.map TStamp.d) 13]) :=
 ze7 (zhs (zaa rfl (zaa (zeb zjv rfl rfl) (zaa (zcm zmu rfl rfl) zcd)))) (zlu a0 r h)
@[go_sem] def st24 (r : TSkeen) : St := ⟨[(0, .ptr 0 0)], [(0, .box [.int .i64 r.Clock, .imm 7 (r.Waits.map TWait.d) 13, .imm 2 (r.Done.map TStamp.d) 13])], 1⟩
theorem zsq (r : TSkeen) (h : zi7  = some r) : zby Tryz.prog 50 [] [] (.agg [.int .i64 r.Clock, .imm 7 (r.Waits.map TWait.d) 13, .imm 2 (r.Done.map TStamp.d) 13]) [] (0, 3) := by
 refine zcu Tryz.func50 ?_
 intro hwf
 unfold zi7 at h
 refine .ends 0 (za4 _) ?_
 refine .sp [] ?_
 refine .sp [0] ?_
 obtain rfl := sj h
 refine .ret ⟨st24 (⟨0, [], []⟩ : TSkeen), ?_, .inr rfl, retH [] ?_ ?_⟩
 refine .boxs 0 _ [.int .i64 0, .imm 7 [] 13, .imm 2 [] 13] rfl (.keep (.cons (.nil12 _ _ 0 (by decide)) (.cons (.nil12 _ _ 0 (by decide)) (.refl _)))) ?_
 exact .m [0] [0] []
 exact rsi0
 rfl
theorem zmk (r : TSkeen) (h : zi7  = some r) : zb9 Tryz.prog 50 [] (.agg [.int .i64 r.Clock, .imm 7 (r.Waits.map TWait.d) 13, .imm 2 (r.Done.map TStamp.d) 13]) :=
 ze7 (zhs (zaa rfl (zaa rfl (zaa rfl zcd)))) (zsq  r h)
theorem zor (a0 : TWait) (a1 : TWait) (r : Bool) (h : zig a0 a1 = some r) : zb9 Tryz.prog 104 [.agg [.int .i64 a0.Message.Id, .imm 1 (a0.Message.Groups.map (D.int .i64)) 4, .int .i64 a0.Message.Topic, .str a0.Message.Key, .str a0.Message.Body, .int .i64 a0.Time, .bool a0.Final], .agg [.int .i64 a1.Message.Id, .imm 1 (a1.Message.Groups.map (D.int .i64)) 4, .int .i64 a1.Message.Topic, .str a1.Message.Key, .str a1.Message.Body, .int .i64 a1.Time, .bool a1.Final]] (.bool r) := by
 refine zbt 4 Tryz.func104 ?_
 intro hwf
 unfold zig at h
 refine .sp [0, 1] ?_
 obtain ⟨v1, hv1, h⟩ := za2 h
 refine .sr [2, 3] ?_
 refine .rn 4 ?_
 refine .cl (zh2 a0.Message a1.Message v1 hv1) ?_
 refine .rn 6 ?_
 refine .rn 6 ?_
 refine .rn 3 ?_
 refine .nn ?_
 obtain rfl := sj h
 exact .rr
theorem zqb (a0 : TSkeen) (a1 : TSkeen) (r : Bool) (h : zmb a0 a1 = some r) : zb9 Tryz.prog 47 [.agg [.int .i64 a0.Clock, .imm 7 (a0.Waits.map TWait.d) 4, .imm 2 (a0.Done.map TStamp.d) 4], .agg [.int .i64 a1.Clock, .imm 7 (a1.Waits.map TWait.d) 4, .imm 2 (a1.Done.map TStamp.d) 4]] (.bool r) := by
 refine zbt 4 Tryz.func47 ?_
 intro hwf
 unfold zmb at h
 refine .sp [0, 1] ?_
 obtain ⟨v1, hv1, h⟩ := za2 h
 obtain ⟨v2, hv2, h⟩ := za2 h
 refine .sr [2, 3] ?_
 refine .rn 6 ?_
 refine .rn 4 ?_
 refine .gcall rfl rfl rfl rfl rfl (fun hg => ⟨[], [.imm 2 (a0.Done.map TStamp.d) 4, .imm 2 (a1.Done.map TStamp.d) 4], _, rfl, gd hg, rfl, (zit a0.Done a1.Done v1 (zaf hv1 hg))⟩) ?_
 refine .rn 6 ?_
 refine .glcall (r := .bool v2) [] rfl rfl rfl rfl rfl (fun hg => ⟨[], [.imm 7 (a0.Waits.map TWait.d) 4, .imm 7 (a1.Waits.map TWait.d) 4, .fn (.func 104) []], _, rfl, gd hg, (za9 rfl (za9 rfl (za9 (zfw zap) zap))), rfl, (zg1 a0.Waits a1.Waits 104 [] (fun _ => rfl) (fun _ => rfl) (fun _ => rfl) zig (fun x0 x1 y hy => zor x0 x1 y hy) v2 (zaf hv2 hg))⟩) ?_
 refine .rn 2 ?_
 refine .nn ?_
 obtain rfl := sj h
 exact .rr
theorem zh6 (a0 : TStamp) (a1 : TStamp) (r : Bool) (h : zfo a0 a1 = some r) : zb9 Tryz.prog 91 [.agg [.int .i64 a0.Time, .int .i64 a0.Id], .agg [.int .i64 a1.Time, .int .i64 a1.Id]] (.bool r) := by
 refine zbt 5 Tryz.func91 ?_
 intro hwf
 unfold zfo at h
 refine .sp [0, 1] ?_
 obtain ⟨v1, hv1, h⟩ := za2 h
 obtain ⟨v2, hv2, h⟩ := za2 h
 obtain ⟨v3, hv3, h⟩ := za2 h
 refine .sr [2, 3] ?_
 refine .rd 4 ?_
 refine .cl (ziv a0.Time a1.Time v1 hv1) ?_
 refine .rd 4 ?_
 refine .cl (ziv a0.Id a1.Id v2 hv2) ?_
 refine .rd 1 ?_
 refine .lcall (r := .int .i64 v3) [] rfl rfl rfl rfl rfl (za9 (zhr (zfv (zlp .i64) (by first | rfl | (simp only [go_sem, Nat.reduceBEq]; rfl)) (by first | rfl | (simp; done) | (simp <;> omega))) trivial) zap) rfl (zqe [v1, v2] v3 hv3) ?_
 refine .rd 2 ?_
 refine .nd ?_
 obtain rfl := sj h
 exact .rr
@[go_sem] def st52 (a0 : TCommand) (n1 : Int) (b1 : Bool) : St := ⟨[(1, .ptr 0 0), (2, .ptr 1 0), (4, .ptr 2 0), (5, .bool b1)], [(0, .box [.int .u8 a0.Kind, .int .i64 a0.Message.Id, .imm 1 (a0.Message.Groups.map (D.int .i64)) 4, .int .i64 a0.Message.Topic, .str a0.Message.Key, .str a0.Message.Body, .int .i64 a0.Id, .int .i64 a0.Time, .imm 1 (a0.Members.map (D.int .i64)) 4, .int .i64 a0.Topic, .int .i64 a0.Who, .int .i64 a0.N]), (1, .box [.int .u8 0, .int .i64 0, .imm 0 [] 0, .int .i64 0, .str [], .str [], .int .i64 0, .int .i64 0, .imm 0 [] 0, .int .i64 0, .int .i64 0, .int .i64 0]), (2, .box [.int .u8 a0.Kind, .int .i64 0, .imm 0 [] 0, .int .i64 0, .str [], .str [], .int .i64 0, .int .i64 0, .imm 0 [] 0, .int .i64 0, .int .i64 n1, .int .i64 0])], 3⟩
@[go_sem] def st53 (a0 : TCommand) (v1 : Bool) (v2 : Bool) (v3 : Bool) (b3 : Bool) : St := ⟨[(1, .ptr 0 0), (2, .ptr 1 0), (4, .ptr 2 0), (5, .bool ((v1 && v2) && v3)), (34, .bool b3)], [(0, .box [.int .u8 a0.Kind, .int .i64 a0.Message.Id, .imm 1 (a0.Message.Groups.map (D.int .i64)) 4, .int .i64 a0.Message.Topic, .str a0.Message.Key, .str a0.Message.Body, .int .i64 a0.Id, .int .i64 a0.Time, .imm 1 (a0.Members.map (D.int .i64)) 4, .int .i64 a0.Topic, .int .i64 a0.Who, .int .i64 a0.N]), (1, .box [.int .u8 0, .int .i64 0, .imm 0 [] 0, .int .i64 0, .str [], .str [], .int .i64 0, .int .i64 0, .imm 0 [] 0, .int .i64 0, .int .i64 0, .int .i64 0]), (2, .box [.int .u8 a0.Kind, .int .i64 0, .imm 0 [] 0, .int .i64 0, .str [], .str [], .int .i64 0, .int .i64 0, .imm 0 [] 0, .int .i64 0, .int .i64 0, .int .i64 0])], 3⟩
@[go_sem] def st1 (r : TCommand × Bool) : St := ⟨[(2, .ptr 0 0), (3, .bool r.2)], [(0, .box [.int .u8 r.1.Kind, .int .i64 r.1.Message.Id, .imm 1 (r.1.Message.Groups.map (D.int .i64)) 4, .int .i64 r.1.Message.Topic, .str r.1.Message.Key, .str r.1.Message.Body, .int .i64 r.1.Id, .int .i64 r.1.Time, .imm 1 (r.1.Members.map (D.int .i64)) 4, .int .i64 r.1.Topic, .int .i64 r.1.Who, .int .i64 r.1.N])], 1⟩
theorem znw (a0 : TCommand) (r : TCommand × Bool) (h : zfj a0 = some r) : zby Tryz.prog 120 [.agg [.int .u8 a0.Kind, .int .i64 a0.Message.Id, .imm 1 (a0.Message.Groups.map (D.int .i64)) 4, .int .i64 a0.Message.Topic, .str a0.Message.Key, .str a0.Message.Body, .int .i64 a0.Id, .int .i64 a0.Time, .imm 1 (a0.Members.map (D.int .i64)) 4, .int .i64 a0.Topic, .int .i64 a0.Who, .int .i64 a0.N]] [] (.tuple [.agg [.int .u8 r.1.Kind, .int .i64 r.1.Message.Id, .imm 1 (r.1.Message.Groups.map (D.int .i64)) 4, .int .i64 r.1.Message.Topic, .str r.1.Message.Key, .str r.1.Message.Body, .int .i64 r.1.Id, .int .i64 r.1.Time, .imm 1 (r.1.Members.map (D.int .i64)) 4, .int .i64 r.1.Topic, .int .i64 r.1.Who, .int .i64 r.1.N], .bool r.2]) [] (0, 5) := by
 refine zcu Tryz.func120 ?_
 intro hwf
 unfold zfj at h
 refine .ends 0 (za4 _) ?_
 refine .sp [0] ?_
 refine .sp [1, 2] ?_
 obtain ⟨v1, hv1, h⟩ := za2 h
 obtain ⟨v2, hv2, h⟩ := za2 h
 obtain ⟨v3, hv3, h⟩ := za2 h
 refine .sr [1, 2, 4] ?_
 refine .rn 2 ?_
 refine .cl (zj4 a0.Id v1 hv1) ?_
 refine .rn 3 ?_
 refine .gcall rfl rfl rfl rfl rfl (fun hg => ⟨[], [.int .i64 a0.Topic, .int .i64 0, .int .i64 3], _, rfl, gd hg, rfl, (zec a0.Topic 0 3 v2 (zaf hv2 hg))⟩) ?_
 refine .rn 4 ?_
 refine .gcall rfl rfl rfl rfl rfl (fun hg => ⟨[], [.int .i64 a0.N, .int .i64 0, .int .i64 1073741824], _, rfl, gd hg, rfl, (zec a0.N 0 1073741824 v3 (zaf hv3 hg))⟩) ?_
 refine .rn 2 ?_
 refine .nn ?_
 refine .seq (.seq (.pl zS [1, 2, 4, 5] ?_))
 obtain ⟨x1, hx1, h⟩ := za2 h
 refine .block ?_
 refine .seqM 3 (fun (j : Int × Bool) => st52 a0 j.1 j.2) (fun j => x1 = (.inr (.inr j))) (lb rfl) ?_ ?_
 refine .block (.seq (.block (.seq (.block (.seq (.block (.seq (.block (.seq (.block (.seq (.seq (.seq (.pl zS [1, 2, 4, 5, 23] ?_))))))))))))))
 refine .cd ?_ ?_ <;> intro hc1
 replace hx1 := zaf hx1 hc1
 refine .exit ?_
 refine .seq (.seq (.pl zS [2, 4] ?_))
 have hq := sj hx1
 subst x1
 try dsimp only at h
 obtain rfl := sj h
 refine .ret ⟨st1 ((⟨a0.Kind, (⟨0, [], 0, [], []⟩ : TMessage), 0, 0, [], 0, 0, 0⟩ : TCommand), true), ?_, .inr rfl, retH [] ?_ ?_⟩
 refine .boxs 1 _ [.int .u8 a0.Kind, .int .i64 0, .imm 1 [] 4, .int .i64 0, .str [], .str [], .int .i64 0, .int .i64 0, .imm 1 [] 4, .int .i64 0, .int .i64 0, .int .i64 0] rfl (.keep (.keep (.cons (.nil4 _ _ 0 rfl) (.keep (.keep (.keep (.keep (.keep (.cons (.nil4 _ _ 0 rfl) (.refl _)))))))))) ?_
 exact .m [2, 3] [1] [(1, 0)]
 exact rsi0
 rfl
 replace hx1 := zao hx1 hc1
 refine .skip (.seq (.seq (.pl zS [1, 2, 4, 5, 23] ?_)))
 refine .cd ?_ ?_ <;> intro hc2
 replace hx1 := zaf hx1 hc2
 refine .exit ?_
 refine .seq (.seq (.pl zS [1, 2, 4] ?_))
 refine .seq ?_
 obtain ⟨v4, hv4, hx1⟩ := za2 hx1
 refine .rg zS [1, 2, 4] ?_
 refine .rd 3 ?_
 refine .cl (zgs a0.Message v4 hv4) ?_
 refine .rd 3 ?_
 refine .nd ?_
 have hq := sj hx1
 subst x1
 try dsimp only at h
 obtain rfl := sj h
 refine .ret ⟨st1 ((⟨a0.Kind, a0.Message, 0, 0, [], 0, 0, 0⟩ : TCommand), (v4 == 0)), ?_, .inr rfl, retH [] ?_ ?_⟩
 refine .boxs 1 _ [.int .u8 a0.Kind, .int .i64 a0.Message.Id, .imm 1 (a0.Message.Groups.map (D.int .i64)) 4, .int .i64 a0.Message.Topic, .str a0.Message.Key, .str a0.Message.Body, .int .i64 0, .int .i64 0, .imm 1 [] 4, .int .i64 0, .int .i64 0, .int .i64 0] rfl (.keep (.keep (.keep (.keep (.keep (.keep (.keep (.keep (.cons (.nil4 _ _ 0 rfl) (.refl _)))))))))) ?_
 exact .m [2, 3] [1] [(1, 0)]
 exact rsi0
 rfl
 replace hx1 := zao hx1 hc2
 refine .skip (.seq (.seq (.pl zS [1, 2, 4, 5, 23] ?_)))
 refine .cd ?_ ?_ <;> intro hc3
 replace hx1 := zaf hx1 hc3
 refine .exit ?_
 refine .seq (.seq ?_)
 refine .dr zS [1, 2, 4] ?_
 refine .seq ?_
 obtain ⟨v5, hv5, hx1⟩ := za2 hx1
 obtain ⟨v6, hv6, hx1⟩ := za2 hx1
 refine .rg zS [1, 2, 4] ?_
 refine .rd 3 ?_
 refine .cl (zj4 a0.Id v5 hv5) ?_
 refine .rd 3 ?_
 refine .gcall rfl rfl rfl rfl rfl (fun hg => ⟨[], [.int .i64 a0.Time, .int .i64 1, .int .i64 1073741824], _, rfl, gd hg, rfl, (zec a0.Time 1 1073741824 v6 (zaf hv6 hg))⟩) ?_
 refine .rd 3 ?_
 refine .nd ?_
 have hq := sj hx1
 subst x1
 try dsimp only at h
 obtain rfl := sj h
 refine .ret ⟨st1 ((⟨a0.Kind, (⟨0, [], 0, [], []⟩ : TMessage), a0.Id, a0.Time, [], 0, 0, 0⟩ : TCommand), (v5 && v6)), ?_, .inr rfl, retH [] ?_ ?_⟩
 refine .boxs 1 _ [.int .u8 a0.Kind, .int .i64 0, .imm 1 [] 4, .int .i64 0, .str [], .str [], .int .i64 a0.Id, .int .i64 a0.Time, .imm 1 [] 4, .int .i64 0, .int .i64 0, .int .i64 0] rfl (.keep (.keep (.cons (.nil4 _ _ 0 rfl) (.keep (.keep (.keep (.keep (.keep (.cons (.nil4 _ _ 0 rfl) (.refl _)))))))))) ?_
 exact .m [2, 3] [1] [(1, 0)]
 exact rsi0
 rfl
 replace hx1 := zao hx1 hc3
 refine .skip (.seq (.seq (.pl zS [1, 2, 4, 5, 23] ?_)))
 refine .cd ?_ ?_ <;> intro hc4
 replace hx1 := zaf hx1 hc4
 refine .exit ?_
 refine .seq (.seq (.pl zS [1, 2, 4] ?_))
 refine .seq ?_
 obtain ⟨v7, hv7, hx1⟩ := za2 hx1
 refine .rg zS [1, 2, 4] ?_
 refine .rd 3 ?_
 refine .cl (zos a0.Members v7 hv7) ?_
 refine .rd 3 ?_
 refine .nd ?_
 have hq := sj hx1
 subst x1
 try dsimp only at h
 obtain rfl := sj h
 refine .ret ⟨st1 ((⟨a0.Kind, (⟨0, [], 0, [], []⟩ : TMessage), 0, 0, a0.Members, 0, 0, 0⟩ : TCommand), (v7 == 0)), ?_, .inr rfl, retH [] ?_ ?_⟩
 refine .boxs 1 _ [.int .u8 a0.Kind, .int .i64 0, .imm 1 [] 4, .int .i64 0, .str [], .str [], .int .i64 0, .int .i64 0, .imm 1 (a0.Members.map (D.int .i64)) 4, .int .i64 0, .int .i64 0, .int .i64 0] rfl (.keep (.keep (.cons (.nil4 _ _ 0 rfl) (.refl _)))) ?_
 exact .m [2, 3] [1] [(1, 0)]
 exact rsi0
 rfl
 replace hx1 := zao hx1 hc4
 refine .skip (.seq (.seq (.pl zS [1, 2, 4, 5, 23] ?_)))
 refine .cd ?_ ?_ <;> intro hc5
 replace hx1 := zaf hx1 hc5
 refine .exit ?_
 refine .sp [1, 2, 4, 5] ?_
 obtain ⟨v8, hv8, hx1⟩ := za2 hx1
 refine .rg zS [1, 2, 4, 5] ?_
 refine .rn 4 ?_
 refine .gcall rfl rfl rfl rfl rfl (fun hg => ⟨[], [.int .i64 a0.Who, .int .i64 0, .int .i64 7], _, rfl, gd hg, rfl, (zec a0.Who 0 7 v8 (zaf hv8 hg))⟩) ?_
 refine .rn 2 ?_
 refine .nn ?_
 refine ⟨_, ?_, (sj hx1).symm⟩
 exact .m [1, 2, 4, 5] [0, 1, 2] []
 replace hx1 := zao hx1 hc5
 refine .skip ?_
 obtain ⟨x2, hx2, hx1⟩ := za2 hx1
 refine .seqM 3 (fun (j : Bool) => st53 a0 v1 v2 v3 j) (fun j => x2 = j) (lb rfl) ?_ ?_
 refine .sp [1, 2, 4, 5, 23] ?_
 refine .cd ?_ ?_ <;> intro hc6
 replace hx2 := zaf hx2 hc6
 refine .skip ?_
 refine ⟨_, ?_, (sj hx2).symm⟩
 exact .m [1, 2, 4, 5, 34] [0, 1, 2] []
 replace hx2 := zao hx2 hc6
 refine .pl zS [1, 2, 4, 5, 23] ?_
 refine ⟨_, ?_, (sj hx2).symm⟩
 exact .m [1, 2, 4, 5, 34] [0, 1, 2] []
 rintro b3 hj1
 subst x2
 try dsimp only at hx1
 simp only [st53]
 refine .cd ?_ ?_ <;> intro hc7
 replace hx1 := zaf hx1 hc7
 refine .exit ?_
 refine ⟨_, ?_, (sj hx1).symm⟩
 exact .m [1, 2, 4, 5] [0, 1, 2] []
 replace hx1 := zao hx1 hc7
 refine .skip ?_
 refine .exit ?_
 have hq := sj hx1
 subst x1
 try dsimp only at h
 refine .sp [2, 4] ?_
 obtain rfl := sj h
 refine .ret ⟨st1 ((⟨a0.Kind, (⟨0, [], 0, [], []⟩ : TMessage), 0, 0, [], 0, 0, 0⟩ : TCommand), false), ?_, .inr rfl, retH [] ?_ ?_⟩
 refine .boxs 1 _ [.int .u8 a0.Kind, .int .i64 0, .imm 1 [] 4, .int .i64 0, .str [], .str [], .int .i64 0, .int .i64 0, .imm 1 [] 4, .int .i64 0, .int .i64 0, .int .i64 0] rfl (.keep (.keep (.cons (.nil4 _ _ 0 rfl) (.keep (.keep (.keep (.keep (.keep (.cons (.nil4 _ _ 0 rfl) (.refl _)))))))))) ?_
 exact .m [2, 3] [1] [(1, 0)]
 exact rsi0
 rfl
 rintro ⟨n1, b1⟩ hj2
 subst x1
 try dsimp only at h
 simp only [st52]
 refine .seq (.seq (.rg zS [1, 2, 4, 5] ?_))
 refine .rd 6 ?_
 refine .rd 6 ?_
 refine .nd ?_
 refine .sp [2, 4, 5] ?_
 obtain rfl := sj h
 refine .ret ⟨st1 ((⟨a0.Kind, (⟨0, [], 0, [], []⟩ : TMessage), a0.Id, 0, [], a0.Topic, n1, a0.N⟩ : TCommand), b1), ?_, .inr rfl, retH [] ?_ ?_⟩
 refine .boxs 1 _ [.int .u8 a0.Kind, .int .i64 0, .imm 1 [] 4, .int .i64 0, .str [], .str [], .int .i64 a0.Id, .int .i64 0, .imm 1 [] 4, .int .i64 a0.Topic, .int .i64 n1, .int .i64 a0.N] rfl (.keep (.keep (.cons (.nil4 _ _ 0 rfl) (.keep (.keep (.keep (.keep (.keep (.cons (.nil4 _ _ 0 rfl) (.refl _)))))))))) ?_
 exact .m [2, 3] [1] [(1, 0)]
 exact rsi0
 rfl
theorem zfz (a0 : TCommand) (r : Int) (h : zb6 a0 = some r) : zb9 Tryz.prog 69 [.agg [.int .u8 a0.Kind, .int .i64 a0.Message.Id, .imm 1 (a0.Message.Groups.map (D.int .i64)) 4, .int .i64 a0.Message.Topic, .str a0.Message.Key, .str a0.Message.Body, .int .i64 a0.Id, .int .i64 a0.Time, .imm 1 (a0.Members.map (D.int .i64)) 4, .int .i64 a0.Topic, .int .i64 a0.Who, .int .i64 a0.N]] (.int .i64 r) := by
 refine zbt 13 Tryz.func69 ?_
 intro hwf
 unfold zb6 at h
 refine .sp [0] ?_
 refine .seq ?_
 obtain ⟨v1, hv1, h⟩ := za2 h
 refine .sr [1] ?_
 refine .rn 1 ?_
 refine .hcall (H := []) (eff := []) (nw := (5, 10)) (r := .tuple [.agg [.int .u8 v1.1.Kind, .int .i64 v1.1.Message.Id, .imm 1 (v1.1.Message.Groups.map (D.int .i64)) 4, .int .i64 v1.1.Message.Topic, .str v1.1.Message.Key, .str v1.1.Message.Body, .int .i64 v1.1.Id, .int .i64 v1.1.Time, .imm 1 (v1.1.Members.map (D.int .i64)) 4, .int .i64 v1.1.Topic, .int .i64 v1.1.Who, .int .i64 v1.1.N], .bool v1.2]) rfl rfl rfl rfl rfl (zdt 5 (lb rfl) (znw a0 v1 hv1)) (fun id b h => zav [] _ id b h) (by simp) (.inr ⟨lb rfl, lb rfl⟩) ?_
 refine .rn 6 ?_
 refine .nn ?_
 obtain ⟨v2, hv2, h⟩ := za2 h
 refine .sr [1, 3, 4] ?_
 refine .rn 5 ?_
 refine .gcall rfl rfl rfl rfl rfl (fun hg => ⟨[], [.agg [.int .u8 v1.1.Kind, .int .i64 v1.1.Message.Id, .imm 1 (v1.1.Message.Groups.map (D.int .i64)) 4, .int .i64 v1.1.Message.Topic, .str v1.1.Message.Key, .str v1.1.Message.Body, .int .i64 v1.1.Id, .int .i64 v1.1.Time, .imm 1 (v1.1.Members.map (D.int .i64)) 4, .int .i64 v1.1.Topic, .int .i64 v1.1.Who, .int .i64 v1.1.N], .agg [.int .u8 a0.Kind, .int .i64 a0.Message.Id, .imm 1 (a0.Message.Groups.map (D.int .i64)) 4, .int .i64 a0.Message.Topic, .str a0.Message.Key, .str a0.Message.Body, .int .i64 a0.Id, .int .i64 a0.Time, .imm 1 (a0.Members.map (D.int .i64)) 4, .int .i64 a0.Topic, .int .i64 a0.Who, .int .i64 a0.N]], _, rfl, gd hg, rfl, (zou v1.1 a0 v2 (zaf hv2 hg))⟩) ?_
 refine .rn 2 ?_
 refine .nn ?_
 refine .cd ?_ ?_ <;> intro hc1
 replace h := zaf h hc1
 refine .sp [] ?_
 obtain rfl := sj h
 exact .rr
 replace h := zao h hc1
 refine .skip (.seq (.pl zS [] ?_))
 obtain rfl := sj h
 exact .rr
theorem zky (a0 : TWait) (a1 : TWait) (r : Int) (h : zdq a0 a1 = some r) : zb9 Tryz.prog 95 [.agg [.int .i64 a0.Message.Id, .imm 1 (a0.Message.Groups.map (D.int .i64)) 4, .int .i64 a0.Message.Topic, .str a0.Message.Key, .str a0.Message.Body, .int .i64 a0.Time, .bool a0.Final], .agg [.int .i64 a1.Message.Id, .imm 1 (a1.Message.Groups.map (D.int .i64)) 4, .int .i64 a1.Message.Topic, .str a1.Message.Key, .str a1.Message.Body, .int .i64 a1.Time, .bool a1.Final]] (.int .i64 r) := by
 refine zbt 4 Tryz.func95 ?_
 intro hwf
 unfold zdq at h
 refine .sp [0, 1] ?_
 refine .seq (.block ?_)
 obtain ⟨v1, hv1, h⟩ := za2 h
 obtain ⟨v2, hv2, h⟩ := za2 h
 obtain ⟨v3, hv3, h⟩ := za2 h
 refine .sr [2, 3] ?_
 refine .rd 1 ?_
 refine .cl (zg7 a0 v1 hv1) ?_
 refine .rd 1 ?_
 refine .cl (zg7 a1 v2 hv2) ?_
 refine .rd 0 ?_
 refine .cl (zh6 v1 v2 v3 hv3) ?_
 refine .rd 1 ?_
 refine .nd ?_
 refine .cd ?_ ?_ <;> intro hc1
 replace h := zaf h hc1
 refine .sp [] ?_
 obtain rfl := sj h
 exact .rr
 replace h := zao h hc1
 obtain ⟨v4, hv4, h⟩ := za2 h
 obtain ⟨v5, hv5, h⟩ := za2 h
 obtain ⟨v6, hv6, h⟩ := za2 h
 refine .sr [2, 3] ?_
 refine .rd 1 ?_
 refine .cl (zg7 a1 v4 hv4) ?_
 refine .rd 1 ?_
 refine .cl (zg7 a0 v5 hv5) ?_
 refine .rd 0 ?_
 refine .cl (zh6 v4 v5 v6 hv6) ?_
 refine .rd 1 ?_
 refine .nd ?_
 refine .cd ?_ ?_ <;> intro hc2
 replace h := zaf h hc2
 refine .sp [] ?_
 obtain rfl := sj h
 exact .rr
 replace h := zao h hc2
 refine .skip (.seq (.pl zS [] ?_))
 obtain rfl := sj h
 exact .rr
@[go_sem] def st86 (a0 : Tskeen_clock) (l1 : List TWait) (l2 : List TStamp) (l3 : List TMessage) : St := ⟨[(0, .ptr 20000 0), (2, .ref 20102 5 0 l3.length (some uC))], [(20000, .box [.int .i64 a0.Skeen.Clock, .ref 20100 7 0 l1.length (some uC), .ref 20101 2 0 l2.length (some uC)]), (20100, .arr 91 7 true (l1.map TWait.n)), (20101, .arr 144 2 true (l2.map TStamp.d)), (20102, .arr 34 5 true (l3.map TMessage.n))], 20103⟩
@[go_sem] def st87 (a0 : Tskeen_clock) (l4 : List TWait) (l5 : List TStamp) (l6 : List TMessage) : St := ⟨[(0, .ptr 20000 0), (2, .ref 20102 5 0 l6.length (some uC))], [(20000, .box [.int .i64 a0.Skeen.Clock, .ref 20100 7 0 l4.length (some uC), .ref 20101 2 0 l5.length (some uC)]), (20100, .arr 91 7 true (l4.map TWait.n)), (20101, .arr 144 2 true (l5.map TStamp.d)), (20102, .arr 34 5 true (l6.map TMessage.n))], 20103⟩
@[go_sem] def st27 (r : (List TMessage) × Tskeen_clock) : St := ⟨[(0, .ptr 20000 0), (2, .ref 20100 5 0 r.1.length (some uC))], [(20000, .box [.int .i64 r.2.Skeen.Clock, .ref 20101 7 0 r.2.Skeen.Waits.length (some uC), .ref 20102 2 0 r.2.Skeen.Done.length (some uC)]), (20100, .arr 34 5 true (r.1.map TMessage.n)), (20101, .arr 91 7 true (r.2.Skeen.Waits.map TWait.n)), (20102, .arr 144 2 true (r.2.Skeen.Done.map TStamp.d))], 20103⟩
theorem zkk (a0 : Tskeen_clock) (r : (List TMessage) × Tskeen_clock) (h : zcr a0 = some r) : zby Tryz.prog 159 [.ptr 20000 0] [(20000, .box [.int .i64 a0.Skeen.Clock, .ref 20001 7 0 a0.Skeen.Waits.length (some uC), .ref 20002 2 0 a0.Skeen.Done.length (some uC)]), (20001, .arr 91 7 true (a0.Skeen.Waits.map TWait.n)), (20002, .arr 144 2 true (a0.Skeen.Done.map TStamp.d))] (.ref 20100 5 0 r.1.length (some uC)) [(20000, some (.box [.int .i64 r.2.Skeen.Clock, .ref 20101 7 0 r.2.Skeen.Waits.length (some uC), .ref 20102 2 0 r.2.Skeen.Done.length (some uC)])), (20001, none), (20002, none), (20100, some (.arr 34 5 true (r.1.map TMessage.n))), (20101, some (.arr 91 7 true (r.2.Skeen.Waits.map TWait.n))), (20102, some (.arr 144 2 true (r.2.Skeen.Done.map TStamp.d)))] (20100, 20116) := by
 refine zcu Tryz.func159 ?_
 intro hwf
 unfold zcr at h
 refine .ends 20100 (za4 _) ?_
 refine .sp [0] ?_
 refine .scopeT ?_
 refine .seq ?_
 refine .label ?_
 obtain ⟨x1, hx1, h⟩ := za2 h
 refine .seqM 20100 (fun (j : (List TWait) × (List TStamp) × (List TMessage)) => st86 a0 j.1 j.2.1 j.2.2) (fun j => x1 = j) (lb rfl) ?_ ?_
 refine .block ?_
 refine .loopG 20100 (fun (j : Nat × (List TWait) × (List TStamp) × (List TMessage)) => st87 a0 j.2.1 j.2.2.1 j.2.2.2) (fun j => zb5 a0 j.1 j.2.1 j.2.2.1 j.2.2.2 = some x1) (fun j => j.1) (a0.Skeen.Waits.length + 1, a0.Skeen.Waits, a0.Skeen.Done, []) (lb rfl) ?_ hx1 ?_
 refine .n0 5 34 ?_
 refine .w0 2 20100 5 ?_
 exact .m [0, 2] [20000, 20001, 20002, 20100] [(20001, 20100), (20002, 20101), (20100, 20102)]
 rintro ⟨fu1, l4, l5, l6⟩ hx1
 simp only [st87]
 try simp only at hx1
 obtain ⟨fu1, rfl⟩ : ∃ k, fu1 = k + 1 := by cases fu1 with | zero => (rw [zb5] at hx1; cases hx1) | succ k => exact ⟨k, rfl⟩
 rw [zb5] at hx1
 refine .seq (.seq (.pl zS [0, 2] ?_))
 refine .cd ?_ ?_ <;> intro hc1
 replace hx1 := zaf hx1 hc1
 refine .skip (.block (.seq ?_))
 obtain ⟨v1, hv1, hx1⟩ := za2 hx1
 refine .rg zS [0, 2] ?_
 refine .rn 5 ?_
 refine .hcall (H := [(20100, .arr 91 7 true (l4.map TWait.n))]) (eff := []) (nw := (20104, 20108)) (r := .agg [.int .i64 v1.Message.Id, .imm 1 (v1.Message.Groups.map (D.int .i64)) 13, .int .i64 v1.Message.Topic, .str v1.Message.Key, .str v1.Message.Body, .int .i64 v1.Time, .bool v1.Final]) rfl rfl rfl rfl rfl (zbm 20000 20100 (zcn 20104 (zi1 l4 95 [] (fun _ => rfl) (fun _ => rfl) (fun _ => rfl) zdq (fun x0 x1 y hy => zky x0 x1 y hy) v1 hv1))) (fun id b h => zav [20100] _ id b h) (by simp) (.inr ⟨lb rfl, lb rfl⟩) ?_
 refine .rn 2 ?_
 refine .nn ?_
 refine .seq (.seq (.pl zS [0, 2, 3] ?_))
 refine .cd ?_ ?_ <;> intro hc2
 replace hx1 := zaf hx1 hc2
 refine .exit ?_
 refine ⟨_, ?_, (sj hx1).symm⟩
 exact .m [0, 2] [20000, 20100, 20101, 20102] []
 replace hx1 := zao hx1 hc2
 refine .skip (.seq ?_)
 obtain ⟨v2, hv2, hx1⟩ := za2 hx1
 refine .rg zS [0, 2, 3] ?_
 refine .rn 4 ?_
 refine .lcall (r := .tuple [.int .i64 v2.1, .bool v2.2]) [20100, 20101] rfl rfl rfl rfl rfl (za9 (zjx rfl (za8 rfl (za8 (zmc zjv (by first | rfl | (simp only [go_sem, Nat.reduceBEq]; rfl)) (by first | rfl | (simp; done) | (simp <;> omega))) (za8 (zfv zm8 (by first | rfl | (simp only [go_sem, Nat.reduceBEq]; rfl)) (by first | rfl | (simp; done) | (simp <;> omega))) zeg)))) (za9 rfl zap)) rfl (zg9 (⟨(⟨a0.Skeen.Clock, l4, l5⟩ : TSkeen)⟩ : Tskeen_clock) v1.Message.Id v2 hv2) ?_
 refine .rn 5 ?_
 refine .nn ?_
 refine .seq ?_
 obtain ⟨k1, hx1⟩ := zb0 hx1
 obtain ⟨k2, hx1⟩ := zb0 hx1
 refine .rg zS [0, 2, 3, 4] ?_
 refine .rn 6 ?_
 refine .rn 3 ?_
 refine .hcall (r := .ref 20109 7 0 ((l4.eraseIdx v2.1.toNat).length) (some uC)) rfl rfl rfl rfl rfl (ya3u 20100 20109 (by decide) l4 v2.1 k1 k2) (fun id b h => zav [20100] _ id b h) (by simp) (.inr ⟨za4 _, lb rfl⟩) ?_
 refine .rn 4 ?_
 refine .nn ?_
 refine .seq ?_
 obtain ⟨v3, hv3, hx1⟩ := za2 hx1
 obtain ⟨k3, hx1⟩ := zb0 hx1
 refine .rg zS [0, 2, 3] ?_
 refine .rd 7 ?_
 refine .call rfl rfl rfl rfl rfl rfl (zii (WkL.cons (Wk.agg (WkL.cons (Wk.refl _) (WkL.cons Wk.iz (WkL.cons (Wk.refl _) (WkL.cons (Wk.refl _) (WkL.cons (Wk.refl _) (WkL.cons (Wk.refl _) (WkL.cons (Wk.refl _) (WkL.refl _))))))))) (WkL.refl _)) (zg7 v1 v3 hv3)) ?_
 refine .rd 6 ?_
 refine .nd ?_
 obtain ⟨k4, hx1⟩ := zb0 hx1
 refine .pl zS [0, 2, 3] ?_
 refine ⟨(fu1, _, _, _), ?_, hx1, by dsimp only; omega⟩
 exact .m [0, 2] [20000, 20109, 20111, 20113] [(20109, 20100), (20111, 20101), (20113, 20102)]
 replace hx1 := zao hx1 hc1
 refine .exit ?_
 refine ⟨_, ?_, (sj hx1).symm⟩
 exact .m [0, 2] [20000, 20100, 20101, 20102] []
 rintro ⟨l1, l2, l3⟩ hj1
 subst x1
 try dsimp only at h
 simp only [st86]
 refine .sp [0, 2] ?_
 obtain rfl := sj h
 refine .ret ⟨st27 (l3, (⟨(⟨a0.Skeen.Clock, l1, l2⟩ : TSkeen)⟩ : Tskeen_clock)), ?_, .inr rfl, retH [20000, 20102, 20101, 20100] ?_ ?_⟩
 exact .m [0, 2] [20000, 20102, 20100, 20101] [(20102, 20100), (20100, 20101), (20101, 20102)]
 exact rsi0
 rfl
@[go_sem] def st80 (a0 : TSkeen) (m1 : List (Int × Int)) (n1 : Int) (n2 : Int) : St := ⟨[(1, .ptr 0 0), (3, .mref 1), (4, .ptr 2 0)], [(0, .box [.int .i64 a0.Clock, .imm 7 (a0.Waits.map TWait.d) 4, .imm 2 (a0.Done.map TStamp.d) 4]), (1, .map (mapD (D.int .i64) (D.int .i64) m1)), (2, .box [.int .i64 n1, .int .i64 n2])], 3⟩
@[go_sem] def st81 (a0 : TSkeen) (n5 : Nat) (m2 : List (Int × Int)) (n3 : Int) (n4 : Int) : St := ⟨[(1, .ptr 0 0), (3, .mref 1), (4, .ptr 2 0), (31, .imm 2 (a0.Done.map TStamp.d) 4), (32, .int .i64 (a0.Done.length : Int)), (33, .int .i64 (n5 : Int))], [(0, .box [.int .i64 a0.Clock, .imm 7 (a0.Waits.map TWait.d) 4, .imm 2 (a0.Done.map TStamp.d) 4]), (1, .map (mapD (D.int .i64) (D.int .i64) m2)), (2, .box [.int .i64 n3, .int .i64 n4])], 3⟩
@[go_sem] def st82 (a0 : TSkeen) : St := ⟨[(1, .ptr 0 0)], [(0, .box [.int .i64 a0.Clock, .imm 7 (a0.Waits.map TWait.d) 4, .imm 2 (a0.Done.map TStamp.d) 4])], 3⟩
@[go_sem] def st83 (a0 : TSkeen) (m1 : List (Int × Int)) (n1 : Int) (n2 : Int) (n6 : Nat) : St := ⟨[(1, .ptr 0 0), (3, .mref 1), (4, .ptr 2 0), (76, .imm 7 (a0.Waits.map TWait.d) 4), (77, .int .i64 (a0.Waits.length : Int)), (78, .int .i64 (n6 : Int))], [(0, .box [.int .i64 a0.Clock, .imm 7 (a0.Waits.map TWait.d) 4, .imm 2 (a0.Done.map TStamp.d) 4]), (1, .map (mapD (D.int .i64) (D.int .i64) m1)), (2, .box [.int .i64 n1, .int .i64 n2])], 3⟩
theorem zl1 (a0 : TSkeen) (r : Int) (h : zft a0 = some r) : zb9 Tryz.prog 44 [.agg [.int .i64 a0.Clock, .imm 7 (a0.Waits.map TWait.d) 4, .imm 2 (a0.Done.map TStamp.d) 4]] (.int .i64 r) := by
 refine zbt 6 Tryz.func44 ?_
 intro hwf
 unfold zft at h
 refine .sp [0] ?_
 refine .seq (.seq (.rg zS [1] ?_))
 refine .rn 6 ?_
 refine .rn 6 ?_
 refine .rn 8 ?_
 refine .nn ?_
 refine .cd ?_ ?_ <;> intro hc1
 replace h := zaf h hc1
 refine .sp [] ?_
 obtain rfl := sj h
 exact .rr
 replace h := zao h hc1
 refine .skip (.seq (.pl zS [1] ?_))
 refine .sp [1, 3] ?_
 obtain ⟨x1, hx1, h⟩ := za2 h
 refine .seqM 3 (fun (j : (List (Int × Int)) × Int × Int) => st80 a0 j.1 j.2.1 j.2.2) (fun j => x1 = (.inr j)) (lb rfl) ?_ ?_
 refine .sp [1, 3, 4] ?_
 refine .block ?_
 refine .loopG 3 (fun (j : Nat × (List (Int × Int)) × Int × Int) => st81 a0 j.1 j.2.1 j.2.2.1 j.2.2.2) (fun j => j.1 <= a0.Done.length /\ zbq a0 (a0.Done.drop j.1) j.1 j.2.1 j.2.2.1 j.2.2.2 = some x1) (fun j => a0.Done.length - j.1) (0, [], 0, 0) (lb rfl) ?_ ⟨Nat.zero_le _, hx1⟩ ?_
 exact .mp [1, 3, 4, 31, 32, 33] [0, 1, 2] [] ⟨rfl, trivial⟩
 rintro ⟨n5, m2, n3, n4⟩ ⟨hi1, hx1⟩
 simp only [st81]
 simp only at hi1 hx1
 refine .wf 32 (.int .i64 (a0.Done.length : Int)) rfl ?_
 intro hln5
 replace hln5 := wfn hln5
 refine .sp [1, 3, 4, 31, 32, 33] ?_
 refine .seq (.cd (fun hc2 => ?_) (fun hc2 => ?_))
 have h1 : n5 < a0.Done.length := by simpa using hc2
 have hwn5 := zdw h1 hln5
 have hpn5 := zdx h1 hln5
 rw [za7 h1, zbq] at hx1
 refine .skip (.seq (.block (.seq ?_)))
 have e1 := zdk TStamp.d a0.Done n5 h1
 refine .plx zS (ai e1 hwn5) [1, 3, 4, 31, 32, 33] ?_
 refine .seq (.seq ?_)
 obtain ⟨v1, hv1, hx1⟩ := za2 hx1
 obtain ⟨v2, hv2, hx1⟩ := za2 hx1
 refine .rg zS [1, 3, 4, 5, 6, 31, 32, 33] ?_
 refine .rnx 1 hwn5 ?_
 refine .cl (zpn (a0.Done[n5]) v1 hv1) ?_
 refine .rnx 6 hwn5 ?_
 refine .rnx 6 hwn5 ?_
 refine .rnx 7 hwn5 ?_
 refine .gcall rfl rfl rfl rfl rfl (fun hg => ⟨[], [.agg [.int .i64 n3, .int .i64 n4], .agg [.int .i64 (a0.Done[n5].Time), .int .i64 (a0.Done[n5].Id)]], _, rfl, gd hg, rfl, (zh6 (⟨n3, n4⟩ : TStamp) (a0.Done[n5]) v2 (zaf hv2 hg))⟩) ?_
 refine .rnx 6 hwn5 ?_
 refine .rnx 4 hwn5 ?_
 refine .nn ?_
 refine .cd ?_ ?_ <;> intro hc3
 replace hx1 := zaf hx1 hc3
 refine .seq (.plx zS hwn5 [] ?_)
 have hq := sj hx1
 subst x1
 try dsimp only at h
 obtain rfl := sj h
 exact .rr
 replace hx1 := zao hx1 hc3
 refine .skip ?_
 have em1 : updD (.int .i64 (a0.Done[n5].Id)) (.int .i64 1) (mapD (D.int .i64) (D.int .i64) m2) = some (mapD (D.int .i64) (D.int .i64) (mput (a0.Done[n5].Id) 1 m2)) := ya2t _ (D.int .i64) (a0.Done[n5].Id) 1 _ rfl m2
 refine .drx zS (ai em1 hwn5) [1, 3, 4, 6, 31, 32, 33] ?_
 refine .plx zS hwn5 [1, 3, 4, 31, 32, 33] ?_
 refine ⟨(n5 + 1, _, _, _), ?_, ⟨by omega, hx1⟩, by dsimp only; omega⟩
 exact .mp [1, 3, 4, 31, 32, 33] [0, 1, 2] [] ⟨zea (fun _ => rfl) (fun _ => rfl) _, trivial⟩
 have h2 : n5 = a0.Done.length := by have h2b := of_decide_eq_false hc2; omega
 rw [zab (by omega), zbq] at hx1
 refine .exit ?_
 refine ⟨_, ?_, (sj hx1).symm⟩
 exact .mp [1, 3, 4] [0, 1, 2] [] ⟨zea (fun _ => rfl) (fun _ => rfl) _, trivial⟩
 rintro ⟨m1, n1, n2⟩ hj1
 subst x1
 try dsimp only at h
 simp only [st80]
 obtain ⟨x2, hx2, h⟩ := za2 h
 refine .seqM 3 (fun (j : Unit) => st82 a0) (fun j => x2 = (.inr j)) (lb rfl) ?_ ?_
 refine .sp [1, 3, 4] ?_
 refine .block ?_
 refine .loopG 3 (fun (j : Nat) => st83 a0 m1 n1 n2 j) (fun j => j <= a0.Waits.length /\ zbp a0 m1 n1 n2 (a0.Waits.drop j) j  = some x2) (fun j => a0.Waits.length - j) (0) (lb rfl) ?_ ⟨Nat.zero_le _, hx2⟩ ?_
 exact .mp [1, 3, 4, 76, 77, 78] [0, 1, 2] [] ⟨zea (fun _ => rfl) (fun _ => rfl) _, trivial⟩
 rintro n6 ⟨hi2, hx2⟩
 simp only [st83]
 refine .wf 77 (.int .i64 (a0.Waits.length : Int)) rfl ?_
 intro hln6
 replace hln6 := wfn hln6
 refine .sp [1, 3, 4, 76, 77, 78] ?_
 refine .seq (.cd (fun hc4 => ?_) (fun hc4 => ?_))
 have h3 : n6 < a0.Waits.length := by simpa using hc4
 have hwn6 := zdw h3 hln6
 have hpn6 := zdx h3 hln6
 rw [za7 h3, zbp] at hx2
 refine .skip (.seq (.block (.seq ?_)))
 have e2 := zdk TWait.d a0.Waits n6 h3
 refine .plx zS (ai e2 hwn6) [1, 3, 4, 76, 77, 78] ?_
 refine .seq ?_
 obtain ⟨v3, hv3, hx2⟩ := za2 hx2
 obtain ⟨v4, hv4, hx2⟩ := za2 hx2
 obtain ⟨v5, hv5, hx2⟩ := za2 hx2
 have e3 := zex TWait.d a0.Waits (n6 - 1) (by omega)
 refine .rg zS [1, 3, 4, 7, 8, 76, 77, 78] ?_
 refine .rdx 2 (ai e3 (ai hpn6 hwn6)) ?_
 refine .cl (zgs (a0.Waits[n6].Message) v3 hv3) ?_
 refine .rdx 6 (ai e3 (ai hpn6 hwn6)) ?_
 refine .rdx 6 (ai e3 (ai hpn6 hwn6)) ?_
 refine .rdx 6 (ai e3 (ai hpn6 hwn6)) ?_
 refine .rdx 6 (ai e3 (ai hpn6 hwn6)) ?_
 refine .rdx 6 (ai e3 (ai hpn6 hwn6)) ?_
 refine .rdx 6 (ai e3 (ai hpn6 hwn6)) ?_
 refine .rdx 6 (ai e3 (ai hpn6 hwn6)) ?_
 refine .rdx 5 (ai e3 (ai hpn6 hwn6)) ?_
 refine .gcall rfl rfl rfl rfl rfl (fun hg => ⟨[], [.agg [.int .i64 (a0.Waits[n6].Message.Id), .imm 1 ((a0.Waits[n6].Message.Groups).map (D.int .i64)) 4, .int .i64 (a0.Waits[n6].Message.Topic), .str (a0.Waits[n6].Message.Key), .str (a0.Waits[n6].Message.Body), .int .i64 (a0.Waits[n6].Time), .bool (a0.Waits[n6].Final)]], _, rfl, gd hg, rfl, (zg7 (a0.Waits[n6]) v4 (zaf hv4 hg))⟩) ?_
 refine .rdx 0 (ai e3 (ai hpn6 hwn6)) ?_
 refine .gcall rfl rfl rfl rfl rfl (fun hg => ⟨[], [.agg [.int .i64 n1, .int .i64 n2], .agg [.int .i64 v4.Time, .int .i64 v4.Id]], _, rfl, gd hg, rfl, (zh6 (⟨n1, n2⟩ : TStamp) v4 v5 (zaf hv5 hg))⟩) ?_
 refine .rdx 3 (ai e3 (ai hpn6 hwn6)) ?_
 refine .nd ?_
 refine .cd ?_ ?_ <;> intro hc5
 replace hx2 := zaf hx2 hc5
 refine .seq (.plx zS hwn6 [] ?_)
 have hq := sj hx2
 subst x2
 try dsimp only at h
 obtain rfl := sj h
 exact .rr
 replace hx2 := zao hx2 hc5
 refine .skip (.plx zS hwn6 [1, 3, 4, 76, 77, 78] ?_)
 refine ⟨n6 + 1, ?_, ⟨by omega, hx2⟩, by dsimp only; omega⟩
 exact .mp [1, 3, 4, 76, 77, 78] [0, 1, 2] [] ⟨zea (fun _ => rfl) (fun _ => rfl) _, trivial⟩
 have h4 : n6 = a0.Waits.length := by have h4b := of_decide_eq_false hc4; omega
 rw [zab (by omega), zbp] at hx2
 refine .exit ?_
 refine ⟨_, ?_, (sj hx2).symm⟩
 exact .m [1] [0] []
 rintro ⟨⟩ hj2
 subst x2
 try dsimp only at h
 simp only [st82]
 refine .seq ?_
 obtain ⟨v6, hv6, h⟩ := za2 h
 refine .sr [1] ?_
 refine .rn 7 ?_
 refine .glcall (r := .agg [.int .i64 v6.Message.Id, .undef, .int .i64 v6.Message.Topic, .str v6.Message.Key, .str v6.Message.Body, .int .i64 v6.Time, .bool v6.Final]) [] rfl rfl rfl rfl rfl (fun hg => ⟨[], [.imm 7 (a0.Waits.map TWait.d) 4, .fn (.func 95) []], _, rfl, gd hg, (za9 rfl (za9 (zfw zap) zap)), rfl, (zir a0.Waits 95 [] (fun _ => rfl) (fun _ => rfl) (fun _ => rfl) zdq (fun x0 x1 y hy => zky x0 x1 y hy) v6 (zaf hv6 hg))⟩) ?_
 refine .rn 2 ?_
 refine .nn ?_
 refine .cd ?_ ?_ <;> intro hc6
 replace h := zaf h hc6
 refine .sp [] ?_
 obtain rfl := sj h
 exact .rr
 replace h := zao h hc6
 refine .skip (.seq (.pl zS [] ?_))
 obtain rfl := sj h
 exact .rr
@[go_sem] def st79 (n1 : Int) (l1 : List TWait) (l2 : List TStamp) : St := ⟨[(6, .ptr 2 0), (11, .ptr 24 0)], [(2, .box [.int .i64 0, .imm 0 [] 0, .imm 0 [] 0]), (24, .box [.int .i64 n1, .ref 25 7 0 l1.length (some uC), .ref 26 2 0 l2.length (some uC)]), (25, .arr 91 7 true (l1.map TWait.n)), (26, .arr 144 2 true (l2.map TStamp.d))], 27⟩
@[go_sem] def st23 (r : TSkeen × (List TMessage) × Int) : St := ⟨[(6, .ptr 3 0), (7, .ref 2 5 0 r.2.1.length (some uC)), (8, .int .i64 r.2.2)], [(0, .arr 91 7 true (r.1.Waits.map TWait.n)), (1, .arr 144 2 true (r.1.Done.map TStamp.d)), (2, .arr 34 5 true (r.2.1.map TMessage.n)), (3, .box [.int .i64 r.1.Clock, .ref 0 7 0 r.1.Waits.length (some uC), .ref 1 2 0 r.1.Done.length (some uC)])], 4⟩
theorem zps (a0 : TSkeen) (a1 : Int) (a2 : TCommand) (r : TSkeen × (List TMessage) × Int) (h : zcc a0 a1 a2 = some r) : zby Tryz.prog 113 [.agg [.int .i64 a0.Clock, .imm 7 (a0.Waits.map TWait.d) 4, .imm 2 (a0.Done.map TStamp.d) 4], .int .i64 a1, .agg [.int .u8 a2.Kind, .int .i64 a2.Message.Id, .imm 1 (a2.Message.Groups.map (D.int .i64)) 4, .int .i64 a2.Message.Topic, .str a2.Message.Key, .str a2.Message.Body, .int .i64 a2.Id, .int .i64 a2.Time, .imm 1 (a2.Members.map (D.int .i64)) 4, .int .i64 a2.Topic, .int .i64 a2.Who, .int .i64 a2.N]] [] (.tuple [.agg [.int .i64 r.1.Clock, .ref 0 7 0 r.1.Waits.length (some uC), .ref 1 2 0 r.1.Done.length (some uC)], .ref 2 5 0 r.2.1.length (some uC), .int .i64 r.2.2]) [(0, some (.arr 91 7 true (r.1.Waits.map TWait.n))), (1, some (.arr 144 2 true (r.1.Done.map TStamp.d))), (2, some (.arr 34 5 true (r.2.1.map TMessage.n)))] (0, 48) := by
 refine zcu Tryz.func113 ?_
 intro hwf
 unfold zcc at h
 refine .ends 0 (za4 _) ?_
 refine .sp [0, 1, 2] ?_
 refine .seq ?_
 obtain ⟨v1, hv1, h⟩ := za2 h
 refine .sr [1, 3, 5, 6] ?_
 refine .rn 1 ?_
 refine .cl (zl1 a0 v1 hv1) ?_
 refine .rn 1 ?_
 refine .nn ?_
 refine .sp [1, 3, 5, 6, 9] ?_
 refine .cd ?_ ?_ <;> intro hc1
 replace h := zaf h hc1
 refine .sp [6, 9] ?_
 obtain rfl := sj h
 refine .ret ⟨st23 ((⟨0, [], []⟩ : TSkeen), [], v1), ?_, .inr rfl, retH [2, 1, 0] ?_ ?_⟩
 refine .n0 7 91 ?_
 refine .n0 2 144 ?_
 refine .n0 5 34 ?_
 refine .boxs 2 _ [.int .i64 0, .ref 3 7 0 0 (some uC), .ref 4 2 0 0 (some uC)] rfl (.keep (.cons (.own0 3 _ _ _ (by decide)) (.cons (.own0 4 _ _ _ (by decide)) (.refl _)))) ?_
 refine .w0 7 5 5 ?_
 exact .m [6, 7, 8] [3, 4, 5, 2] [(3, 0), (4, 1), (5, 2), (2, 3)]
 exact rsi0
 rfl
 replace h := zao h hc1
 refine .skip (.seq (.seq (.pl zS [1, 3, 5, 6] ?_)))
 refine .cd ?_ ?_ <;> intro hc2
 replace h := zaf h hc2
 refine .sp [6] ?_
 obtain rfl := sj h
 refine .ret ⟨st23 ((⟨0, [], []⟩ : TSkeen), [], 2), ?_, .inr rfl, retH [2, 1, 0] ?_ ?_⟩
 refine .n0 7 91 ?_
 refine .n0 2 144 ?_
 refine .n0 5 34 ?_
 refine .boxs 2 _ [.int .i64 0, .ref 3 7 0 0 (some uC), .ref 4 2 0 0 (some uC)] rfl (.keep (.cons (.own0 3 _ _ _ (by decide)) (.cons (.own0 4 _ _ _ (by decide)) (.refl _)))) ?_
 refine .w0 7 5 5 ?_
 exact .m [6, 7, 8] [3, 4, 5, 2] [(3, 0), (4, 1), (5, 2), (2, 3)]
 exact rsi0
 rfl
 replace h := zao h hc2
 refine .skip (.seq ?_)
 obtain ⟨v2, hv2, h⟩ := za2 h
 refine .sr [1, 3, 5, 6] ?_
 refine .rn 1 ?_
 refine .cl (zfz a2 v2 hv2) ?_
 refine .rn 1 ?_
 refine .nn ?_
 refine .sp [1, 3, 5, 6, 10] ?_
 refine .cd ?_ ?_ <;> intro hc3
 replace h := zaf h hc3
 refine .sp [6, 10] ?_
 obtain rfl := sj h
 refine .ret ⟨st23 ((⟨0, [], []⟩ : TSkeen), [], v2), ?_, .inr rfl, retH [2, 1, 0] ?_ ?_⟩
 refine .n0 7 91 ?_
 refine .n0 2 144 ?_
 refine .n0 5 34 ?_
 refine .boxs 2 _ [.int .i64 0, .ref 3 7 0 0 (some uC), .ref 4 2 0 0 (some uC)] rfl (.keep (.cons (.own0 3 _ _ _ (by decide)) (.cons (.own0 4 _ _ _ (by decide)) (.refl _)))) ?_
 refine .w0 7 5 5 ?_
 exact .m [6, 7, 8] [3, 4, 5, 2] [(3, 0), (4, 1), (5, 2), (2, 3)]
 exact rsi0
 rfl
 replace h := zao h hc3
 refine .skip ?_
 obtain ⟨v3, hv3, h⟩ := za2 h
 refine .sr [1, 3, 5, 6] ?_
 refine .rn 1 ?_
 refine .ncall (r := .agg [.int .i64 v3.Clock, .ref 12 7 0 v3.Waits.length (some uC), .ref 13 2 0 v3.Done.length (some uC)]) (eff := [(12, some (.arr 91 7 true (v3.Waits.map TWait.n))), (13, some (.arr 144 2 true (v3.Done.map TStamp.d)))]) (nw := (12, 24)) [] rfl rfl rfl rfl rfl (za9 rfl zap) rfl (zdt 12 (lb rfl) (zlu a0 v3 hv3)) (zc4 rfl rfl (zjw zjv _ _ _) (zc4 rfl rfl (ze4 zmu _ _ _) ze8)) (by intro i hi; simp [D.ids, D.idsL] at hi <;> omega) rfl ⟨lb rfl, lb rfl⟩ ?_
 refine .rn 3 ?_
 refine .nn ?_
 obtain ⟨x1, hx1, h⟩ := za2 h
 refine .seqM 25 (fun (j : Int × (List TWait) × (List TStamp)) => st79 j.1 j.2.1 j.2.2) (fun j => x1 = (.inr j)) (lb rfl) ?_ ?_
 refine .sp [1, 5, 6, 11] ?_
 refine .block (.seq (.pl zS [1, 5, 6, 11, 38] ?_))
 refine .cd ?_ ?_ <;> intro hc4
 replace hx1 := zaf hx1 hc4
 refine .seq ?_
 obtain ⟨v4, hv4, hx1⟩ := za2 hx1
 refine .rg zS [1, 5, 6, 11] ?_
 refine .rn 4 ?_
 refine .hcall (H := [(24, .box [.int .i64 v3.Clock, .ref 12 7 0 v3.Waits.length (some uC), .ref 13 2 0 v3.Done.length (some uC)]), (12, .arr 91 7 true (v3.Waits.map TWait.n)), (13, .arr 144 2 true (v3.Done.map TStamp.d))]) (eff := [(24, some (.box [.int .i64 v4.2.Skeen.Clock, .ref 25 7 0 v4.2.Skeen.Waits.length (some uC), .ref 26 2 0 v4.2.Skeen.Done.length (some uC)])), (12, none), (13, none), (25, some (.arr 91 7 true (v4.2.Skeen.Waits.map TWait.n))), (26, some (.arr 144 2 true (v4.2.Skeen.Done.map TStamp.d)))]) (nw := (25, 30)) (r := .int .i64 v4.1) rfl rfl rfl rfl rfl (zfm 25 (zbm 20002 13 (zbm 20001 12 (zbm 20000 24 (zl4 (⟨v3⟩ : Tskeen_clock) a1 a2.Message v4 hv4))))) (fun id b h => zav [24, 12, 13] _ id b h) (by simp) (.inr ⟨lb rfl, lb rfl⟩) ?_
 refine .rn 1 ?_
 refine .nn ?_
 refine .sp [6, 11, 12] ?_
 refine .cd ?_ ?_ <;> intro hc5
 replace hx1 := zaf hx1 hc5
 refine .sp [6, 12] ?_
 have hq := sj hx1
 subst x1
 try dsimp only at h
 obtain rfl := sj h
 refine .ret ⟨st23 ((⟨0, [], []⟩ : TSkeen), [], v4.1), ?_, .inr rfl, retH [2, 1, 0] ?_ ?_⟩
 refine .n0 7 91 ?_
 refine .n0 2 144 ?_
 refine .n0 5 34 ?_
 refine .boxs 2 _ [.int .i64 0, .ref 30 7 0 0 (some uC), .ref 31 2 0 0 (some uC)] rfl (.keep (.cons (.own0 30 _ _ _ (by decide)) (.cons (.own0 31 _ _ _ (by decide)) (.refl _)))) ?_
 refine .w0 7 32 5 ?_
 exact .m [6, 7, 8] [30, 31, 32, 2] [(30, 0), (31, 1), (32, 2), (2, 3)]
 exact rsi0
 rfl
 replace hx1 := zao hx1 hc5
 refine .skip ?_
 refine ⟨_, ?_, (sj hx1).symm⟩
 exact .m [6, 11] [2, 24, 25, 26] []
 replace hx1 := zao hx1 hc4
 refine .sp [5, 6, 11, 38] ?_
 refine .cd ?_ ?_ <;> intro hc6
 replace hx1 := zaf hx1 hc6
 obtain ⟨v5, hv5, hx1⟩ := za2 hx1
 refine .rg zS [5, 6, 11] ?_
 refine .rn 5 ?_
 refine .hcall (H := [(24, .box [.int .i64 v3.Clock, .ref 12 7 0 v3.Waits.length (some uC), .ref 13 2 0 v3.Done.length (some uC)]), (12, .arr 91 7 true (v3.Waits.map TWait.n)), (13, .arr 144 2 true (v3.Done.map TStamp.d))]) (eff := [(24, some (.box [.int .i64 v5.Skeen.Clock, .ref 25 7 0 v5.Skeen.Waits.length (some uC), .ref 26 2 0 v5.Skeen.Done.length (some uC)])), (12, none), (13, none), (25, some (.arr 91 7 true (v5.Skeen.Waits.map TWait.n))), (26, some (.arr 144 2 true (v5.Skeen.Done.map TStamp.d)))]) (nw := (25, 29)) (r := .tuple []) rfl rfl rfl rfl rfl (zfm 25 (zbm 20002 13 (zbm 20001 12 (zbm 20000 24 (zlm (⟨v3⟩ : Tskeen_clock) a2.Id a2.Time v5 hv5))))) (fun id b h => zav [24, 12, 13] _ id b h) (by simp) (.inr ⟨lb rfl, lb rfl⟩) ?_
 refine .nn ?_
 refine ⟨_, ?_, (sj hx1).symm⟩
 exact .m [6, 11] [2, 24, 25, 26] []
 replace hx1 := zao hx1 hc6
 refine .skip ?_
 refine ⟨_, ?_, (sj hx1).symm⟩
 exact .m [6, 11] [2, 24, 12, 13] [(12, 25), (13, 26)]
 rintro ⟨n1, l1, l2⟩ hj1
 subst x1
 try dsimp only at h
 simp only [st79]
 obtain ⟨v6, hv6, h⟩ := za2 h
 refine .sr [6, 11] ?_
 refine .rn 1 ?_
 refine .hcall (H := [(24, .box [.int .i64 n1, .ref 25 7 0 l1.length (some uC), .ref 26 2 0 l2.length (some uC)]), (25, .arr 91 7 true (l1.map TWait.n)), (26, .arr 144 2 true (l2.map TStamp.d))]) (eff := [(24, some (.box [.int .i64 v6.2.Skeen.Clock, .ref 28 7 0 v6.2.Skeen.Waits.length (some uC), .ref 29 2 0 v6.2.Skeen.Done.length (some uC)])), (25, none), (26, none), (27, some (.arr 34 5 true (v6.1.map TMessage.n))), (28, some (.arr 91 7 true (v6.2.Skeen.Waits.map TWait.n))), (29, some (.arr 144 2 true (v6.2.Skeen.Done.map TStamp.d)))]) (nw := (27, 43)) (r := .ref 27 5 0 v6.1.length (some uC)) rfl rfl rfl rfl rfl (zfm 27 (zbm 20002 26 (zbm 20001 25 (zbm 20000 24 (zkk (⟨(⟨n1, l1, l2⟩ : TSkeen)⟩ : Tskeen_clock) v6 hv6))))) (fun id b h => zav [24, 25, 26] _ id b h) (by simp) (.inr ⟨lb rfl, lb rfl⟩) ?_
 refine .rn 1 ?_
 refine .nn ?_
 refine .seq (.seq (.pl zS [6, 11, 13] ?_))
 refine .cd ?_ ?_ <;> intro hc7
 replace h := zaf h hc7
 refine .sp [6] ?_
 obtain rfl := sj h
 refine .ret ⟨st23 ((⟨0, [], []⟩ : TSkeen), [], 9), ?_, .inr rfl, retH [2, 1, 0] ?_ ?_⟩
 refine .n0 7 91 ?_
 refine .n0 2 144 ?_
 refine .n0 5 34 ?_
 refine .boxs 2 _ [.int .i64 0, .ref 43 7 0 0 (some uC), .ref 44 2 0 0 (some uC)] rfl (.keep (.cons (.own0 43 _ _ _ (by decide)) (.cons (.own0 44 _ _ _ (by decide)) (.refl _)))) ?_
 refine .w0 7 45 5 ?_
 exact .m [6, 7, 8] [43, 44, 45, 2] [(43, 0), (44, 1), (45, 2), (2, 3)]
 exact rsi0
 rfl
 replace h := zao h hc7
 refine .skip (.seq (.pl zS [6, 11, 13] ?_))
 obtain rfl := sj h
 refine .ret ⟨st23 (v6.2.Skeen, v6.1, 0), ?_, .inr rfl, retH [2, 1, 0] ?_ ?_⟩
 exact .m [6, 7, 8] [28, 29, 27, 2] [(28, 0), (29, 1), (27, 2), (2, 3)]
 exact rsi0
 rfl
theorem zl2 (a0 : TSkeen) (a1 : Int) (a2 : TCommand) (r : TSkeen × (List TMessage) × Int) (h : zcc a0 a1 a2 = some r) : zb9 Tryz.prog 113 [.agg [.int .i64 a0.Clock, .imm 7 (a0.Waits.map TWait.d) 4, .imm 2 (a0.Done.map TStamp.d) 4], .int .i64 a1, .agg [.int .u8 a2.Kind, .int .i64 a2.Message.Id, .imm 1 (a2.Message.Groups.map (D.int .i64)) 4, .int .i64 a2.Message.Topic, .str a2.Message.Key, .str a2.Message.Body, .int .i64 a2.Id, .int .i64 a2.Time, .imm 1 (a2.Members.map (D.int .i64)) 4, .int .i64 a2.Topic, .int .i64 a2.Who, .int .i64 a2.N]] (.tuple [.agg [.int .i64 r.1.Clock, .imm 7 (r.1.Waits.map TWait.d) 13, .imm 2 (r.1.Done.map TStamp.d) 13], .imm 5 (r.2.1.map TMessage.d) 13, .int .i64 r.2.2]) :=
 ze7 (zmh (zaa (zhs (zaa rfl (zaa (zeb zjv rfl rfl) (zaa (zcm zmu rfl rfl) zcd)))) (zaa (zeb zve rfl rfl) (zaa rfl zcd)))) (zps a0 a1 a2 r h)
end Go.Proofs
