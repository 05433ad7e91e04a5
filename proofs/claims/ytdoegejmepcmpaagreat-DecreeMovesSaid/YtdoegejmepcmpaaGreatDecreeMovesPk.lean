/- Texts of the proof. -/
import Derived.Test.YtdoegejmepcmpaaGreatDecreeMovesPg
import Derived.Test.YtdoegejmepcmpaaGreatDecreeMovesPf
import Derived.Test.YtdoegejmepcmpaaGreatDecreeMovesPh
import Derived.Test.YtdoegejmepcmpaaGreatDecreeMovesPi
import Derived.Test.YtdoegejmepcmpaaGreatDecreeMovesPj
namespace Go.Proofs
open Go.Tm Go.RowKit Go.WideShapes
set_option maxRecDepth 100000
set_option maxHeartbeats 4000000
set_option linter.unusedSimpArgs false
set_option linter.unusedVariables false
@[go_sem] def ya2z (b1 : Bool) : St := ⟨[(3, .bool b1)], [], 1⟩
theorem zh6 (a0 : TVote) (r : Int) (h : zhc a0 = some r) : zb7 Tryz.prog 32 [.agg [.int .i64 a0.Promised, .int .i64 a0.Ballot, .str a0.Value]] (.int .i64 r) := by
 refine za2 Tryz.tmOk 3 Tryz.func32 rfl (by decide) rfl rfl (lb rfl) ?_
 intro hwf
 unfold zhc at h
 refine .seq (.pl zS [0] ?_)
 obtain ⟨v1, hv1, h⟩ := bind_some h
 refine .seq (.rg zS [1] ?_)
 refine .rn 6 ?_
 refine .gcall rfl rfl rfl rfl rfl (fun hg => ⟨[], [.int .i64 a0.Promised], _, rfl, gd hg, rfl, (ze0 a0.Promised v1 (za0 hv1 hg))⟩) ?_
 refine .rn 3 ?_
 refine .nn ?_
 obtain ⟨x1, hx1, h⟩ := bind_some h
 refine .seqM 1 (fun (j : Bool) => ya2z j) (fun j => x1 = j) (lb rfl) ?_ ?_
 refine .seq (.pl zS [1, 3] ?_)
 refine .cd (fun hc1 => ?_) (fun hc1 => ?_)
 replace hx1 := za0 hx1 hc1
 refine .pl zS [1, 3] ?_
 refine ⟨_, ?_, (sj hx1).symm⟩
 exact .m [3] [] []
 replace hx1 := za1 hx1 hc1
 obtain ⟨v2, hv2, hx1⟩ := bind_some hx1
 refine .rg zS [1, 3] ?_
 refine .rn 4 ?_
 refine .gcall rfl rfl rfl rfl rfl (fun hg => ⟨[], [.int .i64 a0.Ballot], _, rfl, gd hg, rfl, (ze0 a0.Ballot v2 (za0 hv2 hg))⟩) ?_
 refine .rn 6 ?_
 refine .rn 6 ?_
 refine .rn 4 ?_
 refine .nn ?_
 refine ⟨_, ?_, (sj hx1).symm⟩
 exact .m [3] [] []
 rintro b1 hj1
 subst x1
 try dsimp only at h
 simp only [ya2z]
 refine .seq (.seq (.pl zS [3] ?_))
 refine .cd (fun hc2 => ?_) (fun hc2 => ?_)
 replace h := za0 h hc2
 refine .seq (.pl zS [] ?_)
 obtain rfl := sj h
 exact .rr
 replace h := za1 h hc2
 refine .skip (.seq (.pl zS [] ?_))
 obtain rfl := sj h
 exact .rr
theorem zlm (a0 : TVote) (a1 : Int) (a2 : List UInt8) (r : Int) (h : zhb a0 a1 a2 = some r) : zb7 Tryz.prog 78 [.agg [.int .i64 a0.Promised, .int .i64 a0.Ballot, .str a0.Value], .int .i64 a1, .str a2] (.int .i64 r) := by
 refine za2 Tryz.tmOk 3 Tryz.func78 rfl (by decide) rfl rfl (lb rfl) ?_
 intro hwf
 unfold zhb at h
 refine .seq (.pl zS [0, 1, 2] ?_)
 refine .seq ?_
 obtain ⟨v1, hv1, h⟩ := bind_some h
 refine .seq (.rg zS [1, 2, 3] ?_)
 refine .rn 1 ?_
 refine .cl (zh6 a0 v1 hv1) ?_
 refine .rn 1 ?_
 refine .nn ?_
 refine .seq (.pl zS [1, 2, 3, 7] ?_)
 refine .cd (fun hc1 => ?_) (fun hc1 => ?_)
 replace h := za0 h hc1
 refine .seq (.pl zS [7] ?_)
 obtain rfl := sj h
 exact .rr
 replace h := za1 h hc1
 refine .skip (.seq ?_)
 obtain ⟨v2, hv2, h⟩ := bind_some h
 refine .seq (.rg zS [1, 2, 3] ?_)
 refine .rn 1 ?_
 refine .cl (ze0 a1 v2 hv2) ?_
 refine .rn 1 ?_
 refine .nn ?_
 refine .seq (.pl zS [1, 2, 3, 8] ?_)
 refine .cd (fun hc2 => ?_) (fun hc2 => ?_)
 replace h := za0 h hc2
 refine .seq (.pl zS [8] ?_)
 obtain rfl := sj h
 exact .rr
 replace h := za1 h hc2
 refine .skip (.seq (.seq (.pl zS [1, 2, 3] ?_)))
 refine .cd (fun hc3 => ?_) (fun hc3 => ?_)
 replace h := za0 h hc3
 refine .seq (.pl zS [] ?_)
 obtain rfl := sj h
 exact .rr
 replace h := za1 h hc3
 refine .skip (.seq (.seq (.pl zS [1, 3] ?_)))
 refine .cd (fun hc4 => ?_) (fun hc4 => ?_)
 replace h := za0 h hc4
 refine .seq (.pl zS [] ?_)
 obtain rfl := sj h
 exact .rr
 replace h := za1 h hc4
 refine .skip (.seq (.pl zS [] ?_))
 obtain rfl := sj h
 exact .rr
theorem zk1 (a0 : TVote) (a1 : Int) (r : TVote × Int) (h : zf0 a0 a1 = some r) : zb7 Tryz.prog 47 [.agg [.int .i64 a0.Promised, .int .i64 a0.Ballot, .str a0.Value], .int .i64 a1] (.tuple [.agg [.int .i64 r.1.Promised, .int .i64 r.1.Ballot, .str r.1.Value], .int .i64 r.2]) := by
 refine za2 Tryz.tmOk 4 Tryz.func47 rfl (by decide) rfl rfl (lb rfl) ?_
 intro hwf
 unfold zf0 at h
 refine .seq (.pl zS [0, 1] ?_)
 refine .seq ?_
 obtain ⟨v1, hv1, h⟩ := bind_some h
 refine .seq (.rg zS [1, 2, 4] ?_)
 refine .rn 2 ?_
 refine .cl (zlm a0 a1 [] v1 hv1) ?_
 refine .rn 1 ?_
 refine .nn ?_
 refine .seq (.pl zS [1, 2, 4, 6] ?_)
 refine .cd (fun hc1 => ?_) (fun hc1 => ?_)
 replace h := za0 h hc1
 refine .seq (.pl zS [4, 6] ?_)
 obtain rfl := sj h
 exact .rr
 replace h := za1 h hc1
 refine .skip (.seq (.pl zS [1, 2, 4] ?_))
 refine .seq (.pl zS [2, 4] ?_)
 obtain rfl := sj h
 exact .rr
theorem zkn (a0 : TVote) (a1 : Int) (a2 : List UInt8) (r : TVote × Int) (h : zff a0 a1 a2 = some r) : zb7 Tryz.prog 52 [.agg [.int .i64 a0.Promised, .int .i64 a0.Ballot, .str a0.Value], .int .i64 a1, .str a2] (.tuple [.agg [.int .i64 r.1.Promised, .int .i64 r.1.Ballot, .str r.1.Value], .int .i64 r.2]) := by
 refine za2 Tryz.tmOk 4 Tryz.func52 rfl (by decide) rfl rfl (lb rfl) ?_
 intro hwf
 unfold zff at h
 refine .seq (.pl zS [0, 1, 2] ?_)
 refine .seq ?_
 obtain ⟨v1, hv1, h⟩ := bind_some h
 refine .seq (.rg zS [1, 2, 3, 6] ?_)
 refine .rn 3 ?_
 refine .cl (zlm a0 a1 a2 v1 hv1) ?_
 refine .rn 1 ?_
 refine .nn ?_
 refine .seq (.pl zS [1, 2, 6, 8] ?_)
 refine .cd (fun hc1 => ?_) (fun hc1 => ?_)
 replace h := za0 h hc1
 refine .seq (.pl zS [6, 8] ?_)
 obtain rfl := sj h
 exact .rr
 replace h := za1 h hc1
 refine .skip (.seq (.pl zS [1, 2, 6] ?_))
 obtain rfl := sj h
 exact .rr
@[go_sem] def st43 (n1 : Int) : St := ⟨[(6, .int .i64 n1)], [], 0⟩
theorem zoy (a0 : Int) (a1 : Int) (r : Int × Int) (h : zex a0 a1 = some r) : zb7 Tryz.prog 46 [.int .i64 a0, .int .i64 a1] (.tuple [.int .i64 r.1, .int .i64 r.2]) := by
 refine za2 Tryz.tmOk 2 Tryz.func46 rfl (by decide) rfl rfl (lb rfl) ?_
 intro hwf
 unfold zex at h
 refine .seq (.pl zS [0, 1] ?_)
 refine .seq ?_
 obtain ⟨v1, hv1, h⟩ := bind_some h
 refine .seq (.rg zS [0, 1] ?_)
 refine .rn 1 ?_
 refine .cl (zkp a1 v1 hv1) ?_
 refine .rn 6 ?_
 refine .rn 3 ?_
 refine .nn ?_
 refine .cd (fun hc1 => ?_) (fun hc1 => ?_)
 replace h := za0 h hc1
 refine .seq (.pl zS [] ?_)
 obtain rfl := sj h
 exact .rr
 replace h := za1 h hc1
 refine .skip (.seq (.pl zS [0, 1] ?_))
 obtain ⟨x1, hx1, h⟩ := bind_some h
 refine .seqM 0 (fun (j : Int) => st43 j) (fun j => x1 = j) (lb rfl) ?_ ?_
 refine .seq (.pl zS [0, 6] ?_)
 refine .cd (fun hc2 => ?_) (fun hc2 => ?_)
 replace hx1 := za0 hx1 hc2
 refine .pl zS [6] ?_
 refine ⟨_, ?_, (sj hx1).symm⟩
 exact .m [6] [] []
 replace hx1 := za1 hx1 hc2
 refine .skip ?_
 refine ⟨_, ?_, (sj hx1).symm⟩
 exact .m [6] [] []
 rintro n1 hj1
 subst x1
 try dsimp only at h
 simp only [st43]
 refine .seq (.seq (.pl zS [6] ?_))
 refine .cd (fun hc3 => ?_) (fun hc3 => ?_)
 replace h := za0 h hc3
 refine .seq (.pl zS [] ?_)
 obtain rfl := sj h
 exact .rr
 replace h := za1 h hc3
 refine .skip (.seq (.pl zS [6] ?_))
 obtain rfl := sj h
 exact .rr
theorem zgv (a0 : Int) (r : Bool) (h : zev a0 = some r) : zb7 Tryz.prog 16 [.int .i64 a0] (.bool r) := by
 refine za2 Tryz.tmOk 2 Tryz.func16 rfl (by decide) rfl rfl (lb rfl) ?_
 intro hwf
 unfold zev at h
 refine .seq (.pl zS [0] ?_)
 refine .seq (.pl zS [0] ?_)
 obtain rfl := sj h
 exact .rr
theorem zov (a0 : TMail) (r : Bool) (h : zhp a0 = some r) : zb7 Tryz.prog 36 [.agg [.int .i64 a0.From, .int .i64 a0.To, .int .u8 a0.Kind, .int .i64 a0.Group, .int .i64 a0.Slot, .int .i64 a0.Ballot, .int .i64 a0.Prior, .str a0.Value, .int .i64 a0.Id, .int .i64 a0.Time]] (.bool r) := by
 refine za2 Tryz.tmOk 3 Tryz.func36 rfl (by decide) rfl rfl (lb rfl) ?_
 intro hwf
 unfold zhp at h
 refine .seq (.pl zS [0] ?_)
 obtain ⟨v1, hv1, h⟩ := bind_some h
 obtain ⟨v2, hv2, h⟩ := bind_some h
 obtain ⟨v3, hv3, h⟩ := bind_some h
 refine .seq (.rg zS [1] ?_)
 refine .rn 2 ?_
 refine .cl (zgv a0.From v1 hv1) ?_
 refine .rn 3 ?_
 refine .gcall rfl rfl rfl rfl rfl (fun hg => ⟨[], [.int .i64 a0.To], _, rfl, gd hg, rfl, (zgv a0.To v2 (za0 hv2 hg))⟩) ?_
 refine .rn 6 ?_
 refine .rn 8 ?_
 refine .gcall rfl rfl rfl rfl rfl (fun hg => ⟨[], [.int .i64 a0.Ballot], _, rfl, gd hg, rfl, (ze0 a0.Ballot v3 (za0 hv3 hg))⟩) ?_
 refine .rn 6 ?_
 refine .rn 6 ?_
 refine .rn 6 ?_
 refine .rn 6 ?_
 refine .rn 6 ?_
 refine .rn 4 ?_
 refine .nn ?_
 obtain rfl := sj h
 exact .rr
@[go_sem] def st44 (a0 : TWorld) (b1 : Bool) : St := ⟨[(1, .ptr 0 0), (3, .bool b1)], [(0, .box [.imm 1 (a0.Members.map (D.int .i64)) 4, .imm 3 (a0.Votes.map TVote.d) 4, .imm 7 (a0.Tries.map TAttempt.d) 4, .imm 10 (a0.Mail.map TMail.d) 4, .imm 2 (a0.Chosen.map TChoice.d) 4])], 1⟩
@[go_sem] def st47 (a0 : TWorld) (n1 : Nat) (b2 : Bool) : St := ⟨[(1, .ptr 0 0), (3, .bool b2), (44, .imm 7 (a0.Tries.map TAttempt.d) 4), (45, .int .i64 (a0.Tries.length : Int)), (46, .int .i64 (n1 : Int))], [(0, .box [.imm 1 (a0.Members.map (D.int .i64)) 4, .imm 3 (a0.Votes.map TVote.d) 4, .imm 7 (a0.Tries.map TAttempt.d) 4, .imm 10 (a0.Mail.map TMail.d) 4, .imm 2 (a0.Chosen.map TChoice.d) 4])], 1⟩
@[go_sem] def st48 (a0 : TWorld) (n1 : Nat) (b3 : Bool) : St := ⟨[(1, .ptr 0 0), (3, .bool b3), (44, .imm 7 (a0.Tries.map TAttempt.d) 4), (45, .int .i64 (a0.Tries.length : Int)), (46, .int .i64 (n1 : Int))], [(0, .box [.imm 1 (a0.Members.map (D.int .i64)) 4, .imm 3 (a0.Votes.map TVote.d) 4, .imm 7 (a0.Tries.map TAttempt.d) 4, .imm 10 (a0.Mail.map TMail.d) 4, .imm 2 (a0.Chosen.map TChoice.d) 4])], 1⟩
@[go_sem] def st49 (a0 : TWorld) (b4 : Bool) : St := ⟨[(1, .ptr 0 0), (3, .bool b4)], [(0, .box [.imm 1 (a0.Members.map (D.int .i64)) 4, .imm 3 (a0.Votes.map TVote.d) 4, .imm 7 (a0.Tries.map TAttempt.d) 4, .imm 10 (a0.Mail.map TMail.d) 4, .imm 2 (a0.Chosen.map TChoice.d) 4])], 1⟩
@[go_sem] def st50 (a0 : TWorld) (n2 : Nat) (b5 : Bool) : St := ⟨[(1, .ptr 0 0), (3, .bool b5), (91, .imm 10 (a0.Mail.map TMail.d) 4), (92, .int .i64 (a0.Mail.length : Int)), (93, .int .i64 (n2 : Int))], [(0, .box [.imm 1 (a0.Members.map (D.int .i64)) 4, .imm 3 (a0.Votes.map TVote.d) 4, .imm 7 (a0.Tries.map TAttempt.d) 4, .imm 10 (a0.Mail.map TMail.d) 4, .imm 2 (a0.Chosen.map TChoice.d) 4])], 1⟩
@[go_sem] def st45 (b6 : Bool) : St := ⟨[(3, .bool b6)], [], 1⟩
@[go_sem] def st46 (a0 : TWorld) (n3 : Nat) (b7 : Bool) : St := ⟨[(3, .bool b7), (104, .imm 2 (a0.Chosen.map TChoice.d) 4), (105, .int .i64 (a0.Chosen.length : Int)), (106, .int .i64 (n3 : Int))], [], 1⟩
theorem zk2 (a0 : TWorld) (r : Int) (h : zf1 a0 = some r) : zb7 Tryz.prog 10 [.agg [.imm 1 (a0.Members.map (D.int .i64)) 4, .imm 3 (a0.Votes.map TVote.d) 4, .imm 7 (a0.Tries.map TAttempt.d) 4, .imm 10 (a0.Mail.map TMail.d) 4, .imm 2 (a0.Chosen.map TChoice.d) 4]] (.int .i64 r) := by
 refine za2 Tryz.tmOk 4 Tryz.func10 rfl (by decide) rfl rfl (lb rfl) ?_
 intro hwf
 unfold zf1 at h
 refine .seq (.pl zS [0] ?_)
 obtain ⟨v1, hv1, h⟩ := bind_some h
 refine .seq (.rg zS [1] ?_)
 refine .rn 2 ?_
 refine .cl (zgf a0.Members v1 hv1) ?_
 refine .rn 6 ?_
 refine .rn 6 ?_
 refine .rn 6 ?_
 refine .rn 8 ?_
 refine .nn ?_
 refine .seq (.seq (.pl zS [1, 3] ?_))
 refine .cd (fun hc1 => ?_) (fun hc1 => ?_)
 replace h := za0 h hc1
 refine .seq (.pl zS [] ?_)
 obtain rfl := sj h
 exact .rr
 replace h := za1 h hc1
 obtain ⟨x1, hx1, h⟩ := bind_some h
 refine .skip ?_
 refine .seqM 1 (fun (j : Bool) => st44 a0 j) (fun j => x1 = j) (lb rfl) ?_ ?_
 refine .seq (.pl zS [1, 3] ?_)
 refine .block ?_
 refine .loopG 1 (fun (j : Nat × Bool) => st47 a0 j.1 j.2) (fun j => j.1 <= a0.Tries.length /\ zcl a0 (a0.Tries.drop j.1) j.1 j.2 = some x1) (fun j => a0.Tries.length - j.1) (0, (((((v1 == 0) && ((a0.Votes.length : Int) == 6)) && ((a0.Tries.length : Int) == 6)) && (decide ((a0.Mail.length : Int) <= 1000))) && (decide ((a0.Chosen.length : Int) <= 1000)))) (lb rfl) ?_ ⟨Nat.zero_le _, hx1⟩ ?_
 exact .m [1, 3, 44, 45, 46] [0] []
 rintro ⟨n1, b2⟩ ⟨hi1, hx1⟩
 simp only [st47]
 simp only at hi1 hx1
 refine .wf 45 (.int .i64 (a0.Tries.length : Int)) rfl ?_
 intro hln1
 replace hln1 : (a0.Tries.length : Int) <= 9223372036854775807 := by simp only [wf, wfL, IntKind.max, IntKind.min, IntKind.signed, IntKind.bits, List.length_map] at hln1; first | exact hln1.2 | exact hln1.1 | (simp at hln1; omega)
 refine .seq (.pl zS [1, 3, 44, 45, 46] ?_)
 refine .seq (.cd (fun hc2 => ?_) (fun hc2 => ?_))
 have h1 : n1 < a0.Tries.length := by simpa using hc2
 have hwn1 : wr .i64 ((n1 : Int) + 1) = ((n1 + 1 : Nat) : Int) := zbx h1 hln1
 have hpn1 : wr .i64 ((n1 : Int) - 1) = (n1 : Int) - 1 := zcm h1 hln1
 rw [List.drop_eq_getElem_cons h1, zcl] at hx1
 refine .skip ?_
 obtain ⟨x2, hx2, hx1⟩ := bind_some hx1
 refine .seqM 1 (fun (j : Bool) => st48 a0 n1 j) (fun j => x2 = j) (lb rfl) ?_ ?_
 refine .block (.seq ?_)
 have e1 := zbj TAttempt.d a0.Tries n1 h1
 refine .plx zS (ai e1 hwn1) [1, 3, 44, 45, 46] ?_
 obtain ⟨k1, hx2⟩ := zaa hx2
 obtain ⟨v2, hv2, hx2⟩ := bind_some hx2
 obtain ⟨v3, hv3, hx2⟩ := bind_some hx2
 refine .seqM 2 (fun (_ : Unit) => ⟨[(1, .ptr 0 0), (3, .bool ((b2 && (v2 == 0)) && (v3 == 0))), (4, .int .i64 (n1 : Int)), (5, .ptr 1 0), (44, .imm 7 (a0.Tries.map TAttempt.d) 4), (45, .int .i64 (a0.Tries.length : Int)), (46, .int .i64 (n1 : Int))], [(0, .box [.imm 1 (a0.Members.map (D.int .i64)) 4, .imm 3 (a0.Votes.map TVote.d) 4, .imm 7 (a0.Tries.map TAttempt.d) 4, .imm 10 (a0.Mail.map TMail.d) 4, .imm 2 (a0.Chosen.map TChoice.d) 4]), (1, .box [.int .u8 (a0.Tries[n1].Phase), .int .i64 (a0.Tries[n1].Ballot), .imm 1 ((a0.Tries[n1].Members).map (D.int .i64)) 4, .str (a0.Tries[n1].Wish), .str (a0.Tries[n1].Value), .imm 3 ((a0.Tries[n1].Promises).map TPromise.d) 4, .imm 1 ((a0.Tries[n1].Accepted).map (D.int .i64)) 4])], 2⟩) (fun _ => True) (lb rfl) ?_ (fun _ _ => ?_)
 by_cases hgd : b2 = true
 have eg10 := zf8 TVote.d a0.Votes n1 (k1 hgd)
 refine .rg zS [1, 3, 4, 5, 44, 45, 46] ?_
 refine .rnx 7 (ai eg10 hwn1) ?_
 refine .gcall rfl rfl rfl rfl rfl (fun hg => ⟨[], [.agg [.int .i64 ((a0.Votes.getD n1 default).Promised), .int .i64 ((a0.Votes.getD n1 default).Ballot), .str ((a0.Votes.getD n1 default).Value)]], _, rfl, gd hg, rfl, (zh6 (a0.Votes.getD n1 default) v2 (za0 hv2 hg))⟩) ?_
 refine .rnx 4 (ai eg10 hwn1) ?_
 refine .gcall rfl rfl rfl rfl rfl (fun hg => ⟨[], [.agg [.int .u8 (a0.Tries[n1].Phase), .int .i64 (a0.Tries[n1].Ballot), .imm 1 ((a0.Tries[n1].Members).map (D.int .i64)) 4, .str (a0.Tries[n1].Wish), .str (a0.Tries[n1].Value), .imm 3 ((a0.Tries[n1].Promises).map TPromise.d) 4, .imm 1 ((a0.Tries[n1].Accepted).map (D.int .i64)) 4]], _, rfl, gd hg, rfl, (zf7 (a0.Tries[n1]) v3 (za0 hv3 hg))⟩) ?_
 refine .rnx 3 (ai eg10 hwn1) ?_
 refine .nn ?_
 refine ⟨(), ?_, trivial⟩
 exact .m [1, 3, 4, 5, 44, 45, 46] [0, 1] []
 have hgf1 : b2 = false := by first | simpa using hgd | (simp at hgd ⊢; omega) | grind
 rcases zqf TVote.d a0.Votes n1 with eg10 | eg10
 refine .rg zS [1, 3, 4, 5, 44, 45, 46] ?_
 refine .rnx 7 (ai eg10 (ai hgf1 hwn1)) ?_
 refine .gcall rfl rfl rfl rfl rfl (fun hg => ⟨[], [.agg [.int .i64 ((a0.Votes.getD n1 default).Promised), .int .i64 ((a0.Votes.getD n1 default).Ballot), .str ((a0.Votes.getD n1 default).Value)]], _, rfl, gd hg, rfl, (zh6 (a0.Votes.getD n1 default) v2 (za0 hv2 hg))⟩) ?_
 refine .rnx 4 (ai eg10 (ai hgf1 hwn1)) ?_
 refine .gcall rfl rfl rfl rfl rfl (fun hg => ⟨[], [.agg [.int .u8 (a0.Tries[n1].Phase), .int .i64 (a0.Tries[n1].Ballot), .imm 1 ((a0.Tries[n1].Members).map (D.int .i64)) 4, .str (a0.Tries[n1].Wish), .str (a0.Tries[n1].Value), .imm 3 ((a0.Tries[n1].Promises).map TPromise.d) 4, .imm 1 ((a0.Tries[n1].Accepted).map (D.int .i64)) 4]], _, rfl, gd hg, rfl, (zf7 (a0.Tries[n1]) v3 (za0 hv3 hg))⟩) ?_
 refine .rnx 3 (ai eg10 (ai hgf1 hwn1)) ?_
 refine .nn ?_
 refine ⟨(), ?_, trivial⟩
 exact .mx hgf1 [1, 3, 4, 5, 44, 45, 46] [0, 1] []
 refine .rg zS [1, 3, 4, 5, 44, 45, 46] ?_
 refine .rnx 7 (ai eg10 (ai hgf1 hwn1)) ?_
 refine .gcall rfl rfl rfl rfl rfl (fun hg => ⟨[], [.agg [.int .i64 ((a0.Votes.getD n1 default).Promised), .int .i64 ((a0.Votes.getD n1 default).Ballot), .str ((a0.Votes.getD n1 default).Value)]], _, rfl, gd hg, rfl, (zh6 (a0.Votes.getD n1 default) v2 (za0 hv2 hg))⟩) ?_
 refine .rnx 4 (ai eg10 (ai hgf1 hwn1)) ?_
 refine .gcall rfl rfl rfl rfl rfl (fun hg => ⟨[], [.agg [.int .u8 (a0.Tries[n1].Phase), .int .i64 (a0.Tries[n1].Ballot), .imm 1 ((a0.Tries[n1].Members).map (D.int .i64)) 4, .str (a0.Tries[n1].Wish), .str (a0.Tries[n1].Value), .imm 3 ((a0.Tries[n1].Promises).map TPromise.d) 4, .imm 1 ((a0.Tries[n1].Accepted).map (D.int .i64)) 4]], _, rfl, gd hg, rfl, (zf7 (a0.Tries[n1]) v3 (za0 hv3 hg))⟩) ?_
 refine .rnx 3 (ai eg10 (ai hgf1 hwn1)) ?_
 refine .nn ?_
 refine ⟨(), ?_, trivial⟩
 exact .mx hgf1 [1, 3, 4, 5, 44, 45, 46] [0, 1] []
 refine .seq (.plx zS hwn1 [1, 3, 4, 5, 44, 45, 46] ?_)
 refine .cd (fun hc3 => ?_) (fun hc3 => ?_)
 replace hx2 := za0 hx2 hc3
 refine .seq ?_
 obtain ⟨v4, hv4, hx2⟩ := bind_some hx2
 refine .rg zS [1, 3, 4, 5, 44, 45, 46] ?_
 refine .rnx 2 hwn1 ?_
 refine .cl (zm7 (a0.Tries[n1].Ballot) v4 hv4) ?_
 refine .rnx 7 hwn1 ?_
 refine .nn ?_
 obtain ⟨v5, hv5, hx2⟩ := bind_some hx2
 refine .rg zS [1, 3, 4, 5, 7, 44, 45, 46] ?_
 refine .rnx 6 hwn1 ?_
 refine .rnx 5 hwn1 ?_
 refine .gcall rfl rfl rfl rfl rfl (fun hg => ⟨[], [.imm 1 ((a0.Tries[n1].Members).map (D.int .i64)) 4, .imm 1 (a0.Members.map (D.int .i64)) 4], _, rfl, gd hg, rfl, (ze3 (a0.Tries[n1].Members) a0.Members v5 (za0 hv5 hg))⟩) ?_
 refine .rnx 2 hwn1 ?_
 refine .nn ?_
 refine ⟨_, ?_, (sj hx2).symm⟩
 exact .m [1, 3, 44, 45, 46] [0] []
 replace hx2 := za1 hx2 hc3
 refine .skip ?_
 refine ⟨_, ?_, (sj hx2).symm⟩
 exact .m [1, 3, 44, 45, 46] [0] []
 rintro b3 hj1
 subst x2
 try dsimp only at hx1
 simp only [st48]
 refine .plx zS hwn1 [1, 3, 44, 45, 46] ?_
 refine ⟨(n1 + 1, _), ?_, ⟨by omega, hx1⟩, by dsimp only; omega⟩
 exact .m [1, 3, 44, 45, 46] [0] []
 have h2 : n1 = a0.Tries.length := by have h2b := of_decide_eq_false hc2; omega
 rw [List.drop_of_length_le (by omega), zcl] at hx1
 refine .exit ?_
 refine ⟨_, ?_, (sj hx1).symm⟩
 exact .m [1, 3] [0] []
 rintro b1 hj2
 subst x1
 try dsimp only at h
 simp only [st44]
 obtain ⟨x3, hx3, h⟩ := bind_some h
 refine .seqM 1 (fun (j : Bool) => st49 a0 j) (fun j => x3 = j) (lb rfl) ?_ ?_
 refine .seq (.pl zS [1, 3] ?_)
 refine .block ?_
 refine .loopG 1 (fun (j : Nat × Bool) => st50 a0 j.1 j.2) (fun j => j.1 <= a0.Mail.length /\ zck (a0.Mail.drop j.1) j.2 = some x3) (fun j => a0.Mail.length - j.1) (0, b1) (lb rfl) ?_ ⟨Nat.zero_le _, hx3⟩ ?_
 exact .m [1, 3, 91, 92, 93] [0] []
 rintro ⟨n2, b5⟩ ⟨hi2, hx3⟩
 simp only [st50]
 simp only at hi2 hx3
 refine .wf 92 (.int .i64 (a0.Mail.length : Int)) rfl ?_
 intro hln2
 replace hln2 : (a0.Mail.length : Int) <= 9223372036854775807 := by simp only [wf, wfL, IntKind.max, IntKind.min, IntKind.signed, IntKind.bits, List.length_map] at hln2; first | exact hln2.2 | exact hln2.1 | (simp at hln2; omega)
 refine .seq (.pl zS [1, 3, 91, 92, 93] ?_)
 refine .seq (.cd (fun hc4 => ?_) (fun hc4 => ?_))
 have h3 : n2 < a0.Mail.length := by simpa using hc4
 have hwn2 : wr .i64 ((n2 : Int) + 1) = ((n2 + 1 : Nat) : Int) := zbx h3 hln2
 have hpn2 : wr .i64 ((n2 : Int) - 1) = (n2 : Int) - 1 := zcm h3 hln2
 rw [List.drop_eq_getElem_cons h3, zck] at hx3
 refine .skip (.seq (.block (.seq ?_)))
 have e2 := zbj TMail.d a0.Mail n2 h3
 refine .plx zS (ai e2 hwn2) [1, 3, 91, 92, 93] ?_
 obtain ⟨v6, hv6, hx3⟩ := bind_some hx3
 refine .rg zS [1, 3, 10, 91, 92, 93] ?_
 refine .rnx 3 hwn2 ?_
 refine .gcall rfl rfl rfl rfl rfl (fun hg => ⟨[], [.agg [.int .i64 (a0.Mail[n2].From), .int .i64 (a0.Mail[n2].To), .int .u8 (a0.Mail[n2].Kind), .int .i64 (a0.Mail[n2].Group), .int .i64 (a0.Mail[n2].Slot), .int .i64 (a0.Mail[n2].Ballot), .int .i64 (a0.Mail[n2].Prior), .str (a0.Mail[n2].Value), .int .i64 (a0.Mail[n2].Id), .int .i64 (a0.Mail[n2].Time)]], _, rfl, gd hg, rfl, (zov (a0.Mail[n2]) v6 (za0 hv6 hg))⟩) ?_
 refine .rnx 2 hwn2 ?_
 refine .nn ?_
 refine .plx zS hwn2 [1, 3, 91, 92, 93] ?_
 refine ⟨(n2 + 1, _), ?_, ⟨by omega, hx3⟩, by dsimp only; omega⟩
 exact .m [1, 3, 91, 92, 93] [0] []
 have h4 : n2 = a0.Mail.length := by have h4b := of_decide_eq_false hc4; omega
 rw [List.drop_of_length_le (by omega), zck] at hx3
 refine .exit ?_
 refine ⟨_, ?_, (sj hx3).symm⟩
 exact .m [1, 3] [0] []
 rintro b4 hj3
 subst x3
 try dsimp only at h
 simp only [st49]
 obtain ⟨x4, hx4, h⟩ := bind_some h
 refine .seqM 1 (fun (j : Bool) => st45 j) (fun j => x4 = j) (lb rfl) ?_ ?_
 refine .seq (.pl zS [1, 3] ?_)
 refine .block ?_
 refine .loopG 1 (fun (j : Nat × Bool) => st46 a0 j.1 j.2) (fun j => j.1 <= a0.Chosen.length /\ zd4 (a0.Chosen.drop j.1) j.2 = some x4) (fun j => a0.Chosen.length - j.1) (0, b4) (lb rfl) ?_ ⟨Nat.zero_le _, hx4⟩ ?_
 exact .m [3, 104, 105, 106] [] []
 rintro ⟨n3, b7⟩ ⟨hi3, hx4⟩
 simp only [st46]
 simp only at hi3 hx4
 refine .wf 105 (.int .i64 (a0.Chosen.length : Int)) rfl ?_
 intro hln3
 replace hln3 : (a0.Chosen.length : Int) <= 9223372036854775807 := by simp only [wf, wfL, IntKind.max, IntKind.min, IntKind.signed, IntKind.bits, List.length_map] at hln3; first | exact hln3.2 | exact hln3.1 | (simp at hln3; omega)
 refine .seq (.pl zS [3, 104, 105, 106] ?_)
 refine .seq (.cd (fun hc5 => ?_) (fun hc5 => ?_))
 have h5 : n3 < a0.Chosen.length := by simpa using hc5
 have hwn3 : wr .i64 ((n3 : Int) + 1) = ((n3 + 1 : Nat) : Int) := zbx h5 hln3
 have hpn3 : wr .i64 ((n3 : Int) - 1) = (n3 : Int) - 1 := zcm h5 hln3
 rw [List.drop_eq_getElem_cons h5, zi1] at hx4
 refine .skip (.seq (.block (.seq ?_)))
 have e3 := zbj TChoice.d a0.Chosen n3 h5
 refine .plx zS (ai e3 hwn3) [3, 104, 105, 106] ?_
 obtain ⟨v7, hv7, hx4⟩ := bind_some hx4
 refine .rg zS [3, 12, 104, 105, 106] ?_
 refine .rnx 4 hwn3 ?_
 refine .gcall rfl rfl rfl rfl rfl (fun hg => ⟨[], [.int .i64 (a0.Chosen[n3].Node)], _, rfl, gd hg, rfl, (zgv (a0.Chosen[n3].Node) v7 (za0 hv7 hg))⟩) ?_
 refine .rnx 8 hwn3 ?_
 refine .nn ?_
 refine .plx zS hwn3 [3, 104, 105, 106] ?_
 refine ⟨(n3 + 1, _), ?_, ⟨by omega, hx4⟩, by dsimp only; omega⟩
 exact .m [3, 104, 105, 106] [] []
 have h6 : n3 = a0.Chosen.length := by have h6b := of_decide_eq_false hc5; omega
 rw [List.drop_of_length_le (by omega), zi0] at hx4
 refine .exit ?_
 refine ⟨_, ?_, (sj hx4).symm⟩
 exact .m [3] [] []
 rintro b6 hj4
 subst x4
 try dsimp only at h
 simp only [st45]
 refine .seq (.seq (.pl zS [3] ?_))
 refine .cd (fun hc6 => ?_) (fun hc6 => ?_)
 replace h := za0 h hc6
 refine .seq (.pl zS [] ?_)
 obtain rfl := sj h
 exact .rr
 replace h := za1 h hc6
 refine .skip (.seq (.pl zS [] ?_))
 obtain rfl := sj h
 exact .rr
@[go_sem] def st16 (r : (List TVote)) : St := ⟨[(2, .ref 0 3 0 r.length (some uC))], [(0, .arr 51 3 true (r.map TVote.d))], 1⟩
theorem zj1 (a0 : List TVote) (r : (List TVote)) (h : zdp a0 = some r) : zd1 Tryz.prog 24 [.imm 3 (a0.map TVote.d) 4] [] (.ref 0 3 0 r.length (some uC)) [(0, some (.arr 51 3 true (r.map TVote.d)))] (0, 3) := by
 refine zab Tryz.tmOk Tryz.func24 rfl (by decide) (lb rfl) (by simp) ?_
 intro hwf
 unfold zdp at h
 refine .ends 0 (Nat.le_refl _) ?_
 refine .nil4 0 3 (a0.map TVote.d) rfl ?_ (fun hl => ?_)
 refine .seq (.pl zS [0] ?_)
 refine .seq (.seq (.pl zS [0] ?_))
 refine .cond rfl rfl (fun hc => by cases hc) (fun hc => ?_)
 obtain ⟨k1, h⟩ := zaa h
 refine .skip ?_
 refine .seqM 0 (fun (_ : Unit) => ⟨[(2, .ref 0 3 0 a0.length (some uC))], [(0, .arr 51 3 true (a0.map TVote.d))], 1⟩) (fun _ => True) (lb rfl) ?_ (fun _ _ => ?_)
 rcases zb5 a0 with hE1 | ⟨y, ys, hE1⟩
 have hM1 : a0.map TVote.d = [] := by rw [hE1]; simp
 refine .px zS (apn hM1) [0] ?_
 refine ⟨(), ?_, trivial⟩
 refine Goes.new0 3 51 (lb rfl) ?_
 refine Goes.wk 2 _ (.ref 0 3 0 0 (some uC)) rfl (.own0 0 _ _ _ (by decide)) ?_
 exact .mx hE1 [2] [0] []
 have hM1 : a0.map TVote.d ≠ [] := by rw [hE1]; simp
 refine .px zS (apc hM1) [0] ?_
 refine ⟨(), ?_, trivial⟩
 refine Goes.wk 2 _ (.ref 0 3 0 a0.length (some uC)) rfl (.unk _ _ _ _ _) ?_
 exact .mx hE1 [2] [0] []
 obtain rfl := sj h
 refine .ret ⟨st16 a0, ?_, .inr rfl, retH [0] ?_ ?_⟩
 exact .m [2] [0] []
 exact rsi0
 rfl
 have hE0 : a0 = [] := by simpa using hl
 obtain ⟨k1, h⟩ := zaa h
 refine .seq (.pl zS [0] ?_)
 refine .seq (.seq (.pl zS [0] ?_))
 refine .cond rfl rfl (fun hc => ?_) (fun hc => by cases hc)
 refine .seq (.pl zS [] ?_)
 obtain rfl := sj h
 refine .ret ⟨st16 a0, ?_, .inr rfl, retH [0] ?_ ?_⟩
 refine Goes.new0 3 51 (lb rfl) ?_
 refine Goes.wk 2 _ (.ref 0 3 0 0 (some uC)) rfl (.own0 0 _ _ _ (by decide)) ?_
 exact .mx hE0 [2] [0] []
 exact rsi0
 rfl
@[go_sem] def st14 (r : (List TMail)) : St := ⟨[(2, .ref 0 10 0 r.length (some uC))], [(0, .arr 43 10 true (r.map TMail.d))], 1⟩
theorem zj2 (a0 : List TMail) (r : (List TMail)) (h : zdq a0 = some r) : zd1 Tryz.prog 25 [.imm 10 (a0.map TMail.d) 4] [] (.ref 0 10 0 r.length (some uC)) [(0, some (.arr 43 10 true (r.map TMail.d)))] (0, 3) := by
 refine zab Tryz.tmOk Tryz.func25 rfl (by decide) (lb rfl) (by simp) ?_
 intro hwf
 unfold zdq at h
 refine .ends 0 (Nat.le_refl _) ?_
 refine .nil4 0 10 (a0.map TMail.d) rfl ?_ (fun hl => ?_)
 refine .seq (.pl zS [0] ?_)
 refine .seq (.seq (.pl zS [0] ?_))
 refine .cond rfl rfl (fun hc => by cases hc) (fun hc => ?_)
 obtain ⟨k1, h⟩ := zaa h
 refine .skip ?_
 refine .seqM 0 (fun (_ : Unit) => ⟨[(2, .ref 0 10 0 a0.length (some uC))], [(0, .arr 43 10 true (a0.map TMail.d))], 1⟩) (fun _ => True) (lb rfl) ?_ (fun _ _ => ?_)
 rcases zb5 a0 with hE1 | ⟨y, ys, hE1⟩
 have hM1 : a0.map TMail.d = [] := by rw [hE1]; simp
 refine .px zS (apn hM1) [0] ?_
 refine ⟨(), ?_, trivial⟩
 refine Goes.new0 10 43 (lb rfl) ?_
 refine Goes.wk 2 _ (.ref 0 10 0 0 (some uC)) rfl (.own0 0 _ _ _ (by decide)) ?_
 exact .mx hE1 [2] [0] []
 have hM1 : a0.map TMail.d ≠ [] := by rw [hE1]; simp
 refine .px zS (apc hM1) [0] ?_
 refine ⟨(), ?_, trivial⟩
 refine Goes.wk 2 _ (.ref 0 10 0 a0.length (some uC)) rfl (.unk _ _ _ _ _) ?_
 exact .mx hE1 [2] [0] []
 obtain rfl := sj h
 refine .ret ⟨st14 a0, ?_, .inr rfl, retH [0] ?_ ?_⟩
 exact .m [2] [0] []
 exact rsi0
 rfl
 have hE0 : a0 = [] := by simpa using hl
 obtain ⟨k1, h⟩ := zaa h
 refine .seq (.pl zS [0] ?_)
 refine .seq (.seq (.pl zS [0] ?_))
 refine .cond rfl rfl (fun hc => ?_) (fun hc => by cases hc)
 refine .seq (.pl zS [] ?_)
 obtain rfl := sj h
 refine .ret ⟨st14 a0, ?_, .inr rfl, retH [0] ?_ ?_⟩
 refine Goes.new0 10 43 (lb rfl) ?_
 refine Goes.wk 2 _ (.ref 0 10 0 0 (some uC)) rfl (.own0 0 _ _ _ (by decide)) ?_
 exact .mx hE0 [2] [0] []
 exact rsi0
 rfl
@[go_sem] def st13 (r : (List TChoice)) : St := ⟨[(2, .ref 0 2 0 r.length (some uC))], [(0, .arr 45 2 true (r.map TChoice.d))], 1⟩
theorem zhz (a0 : List TChoice) (r : (List TChoice)) (h : zcq a0 = some r) : zd1 Tryz.prog 26 [.imm 2 (a0.map TChoice.d) 4] [] (.ref 0 2 0 r.length (some uC)) [(0, some (.arr 45 2 true (r.map TChoice.d)))] (0, 3) := by
 refine zab Tryz.tmOk Tryz.func26 rfl (by decide) (lb rfl) (by simp) ?_
 intro hwf
 unfold zcq at h
 refine .ends 0 (Nat.le_refl _) ?_
 refine .nil4 0 2 (a0.map TChoice.d) rfl ?_ (fun hl => ?_)
 refine .seq (.pl zS [0] ?_)
 refine .seq (.seq (.pl zS [0] ?_))
 refine .cond rfl rfl (fun hc => by cases hc) (fun hc => ?_)
 obtain ⟨k1, h⟩ := zaa h
 refine .skip ?_
 refine .seqM 0 (fun (_ : Unit) => ⟨[(2, .ref 0 2 0 a0.length (some uC))], [(0, .arr 45 2 true (a0.map TChoice.d))], 1⟩) (fun _ => True) (lb rfl) ?_ (fun _ _ => ?_)
 rcases zb5 a0 with hE1 | ⟨y, ys, hE1⟩
 have hM1 : a0.map TChoice.d = [] := by rw [hE1]; simp
 refine .px zS (apn hM1) [0] ?_
 refine ⟨(), ?_, trivial⟩
 refine Goes.new0 2 45 (lb rfl) ?_
 refine Goes.wk 2 _ (.ref 0 2 0 0 (some uC)) rfl (.own0 0 _ _ _ (by decide)) ?_
 exact .mx hE1 [2] [0] []
 have hM1 : a0.map TChoice.d ≠ [] := by rw [hE1]; simp
 refine .px zS (apc hM1) [0] ?_
 refine ⟨(), ?_, trivial⟩
 refine Goes.wk 2 _ (.ref 0 2 0 a0.length (some uC)) rfl (.unk _ _ _ _ _) ?_
 exact .mx hE1 [2] [0] []
 obtain rfl := sj h
 refine .ret ⟨st13 a0, ?_, .inr rfl, retH [0] ?_ ?_⟩
 exact .m [2] [0] []
 exact rsi0
 rfl
 have hE0 : a0 = [] := by simpa using hl
 obtain ⟨k1, h⟩ := zaa h
 refine .seq (.pl zS [0] ?_)
 refine .seq (.seq (.pl zS [0] ?_))
 refine .cond rfl rfl (fun hc => ?_) (fun hc => by cases hc)
 refine .seq (.pl zS [] ?_)
 obtain rfl := sj h
 refine .ret ⟨st13 a0, ?_, .inr rfl, retH [0] ?_ ?_⟩
 refine Goes.new0 2 45 (lb rfl) ?_
 refine Goes.wk 2 _ (.ref 0 2 0 0 (some uC)) rfl (.own0 0 _ _ _ (by decide)) ?_
 exact .mx hE0 [2] [0] []
 exact rsi0
 rfl
@[go_sem] def st12 (r : (List TAttempt)) : St := ⟨[(2, .ref 0 7 0 r.length (some uC))], [(0, .arr 49 7 true (r.map TAttempt.d))], 1⟩
theorem zhk (a0 : List TAttempt) (r : (List TAttempt)) (h : zca a0 = some r) : zd1 Tryz.prog 27 [.imm 7 (a0.map TAttempt.d) 4] [] (.ref 0 7 0 r.length (some uC)) [(0, some (.arr 49 7 true (r.map TAttempt.d)))] (0, 3) := by
 refine zab Tryz.tmOk Tryz.func27 rfl (by decide) (lb rfl) (by simp) ?_
 intro hwf
 unfold zca at h
 refine .ends 0 (Nat.le_refl _) ?_
 refine .nil4 0 7 (a0.map TAttempt.d) rfl ?_ (fun hl => ?_)
 refine .seq (.pl zS [0] ?_)
 refine .seq (.seq (.pl zS [0] ?_))
 refine .cond rfl rfl (fun hc => by cases hc) (fun hc => ?_)
 obtain ⟨k1, h⟩ := zaa h
 refine .skip ?_
 refine .seqM 0 (fun (_ : Unit) => ⟨[(2, .ref 0 7 0 a0.length (some uC))], [(0, .arr 49 7 true (a0.map TAttempt.d))], 1⟩) (fun _ => True) (lb rfl) ?_ (fun _ _ => ?_)
 rcases zb5 a0 with hE1 | ⟨y, ys, hE1⟩
 have hM1 : a0.map TAttempt.d = [] := by rw [hE1]; simp
 refine .px zS (apn hM1) [0] ?_
 refine ⟨(), ?_, trivial⟩
 refine Goes.new0 7 49 (lb rfl) ?_
 refine Goes.wk 2 _ (.ref 0 7 0 0 (some uC)) rfl (.own0 0 _ _ _ (by decide)) ?_
 exact .mx hE1 [2] [0] []
 have hM1 : a0.map TAttempt.d ≠ [] := by rw [hE1]; simp
 refine .px zS (apc hM1) [0] ?_
 refine ⟨(), ?_, trivial⟩
 refine Goes.wk 2 _ (.ref 0 7 0 a0.length (some uC)) rfl (.unk _ _ _ _ _) ?_
 exact .mx hE1 [2] [0] []
 obtain rfl := sj h
 refine .ret ⟨st12 a0, ?_, .inr rfl, retH [0] ?_ ?_⟩
 exact .m [2] [0] []
 exact rsi0
 rfl
 have hE0 : a0 = [] := by simpa using hl
 obtain ⟨k1, h⟩ := zaa h
 refine .seq (.pl zS [0] ?_)
 refine .seq (.seq (.pl zS [0] ?_))
 refine .cond rfl rfl (fun hc => ?_) (fun hc => by cases hc)
 refine .seq (.pl zS [] ?_)
 obtain rfl := sj h
 refine .ret ⟨st12 a0, ?_, .inr rfl, retH [0] ?_ ?_⟩
 refine Goes.new0 7 49 (lb rfl) ?_
 refine Goes.wk 2 _ (.ref 0 7 0 0 (some uC)) rfl (.own0 0 _ _ _ (by decide)) ?_
 exact .mx hE0 [2] [0] []
 exact rsi0
 rfl
@[go_sem] def st55 (v1 : List Int) (v2 : List TVote) (v3 : List TMail) (v4 : List TChoice) (l1 : List TAttempt) : St := ⟨[(1, .ptr 0 0), (2, .ptr 1 0)], [(0, .box [.ref 3 1 0 v1.length (some uC), .ref 6 3 0 v2.length (some uC), .ref 18 7 0 l1.length (some uC), .ref 9 10 0 v3.length (some uC), .ref 12 2 0 v4.length (some uC)]), (1, .box [.imm 0 [] 0, .imm 0 [] 0, .imm 0 [] 0, .imm 0 [] 0, .imm 0 [] 0]), (3, .arr 3 1 true (v1.map (D.int .i64))), (6, .arr 51 3 true (v2.map TVote.d)), (9, .arr 43 10 true (v3.map TMail.d)), (12, .arr 45 2 true (v4.map TChoice.d)), (18, .arr 49 7 true (l1.map TAttempt.n))], 19⟩
@[go_sem] def st56 (v1 : List Int) (v2 : List TVote) (v3 : List TMail) (v4 : List TChoice) (v5 : (List TAttempt)) (l2 : List TAttempt) (n1 : Int) : St := ⟨[(1, .ptr 0 0), (2, .ptr 1 0), (26, .ref 18 7 0 l2.length (some uC)), (27, .int .i64 (v5.length : Int)), (28, .int .i64 n1)], [(0, .box [.ref 3 1 0 v1.length (some uC), .ref 6 3 0 v2.length (some uC), .ref 18 7 0 l2.length (some uC), .ref 9 10 0 v3.length (some uC), .ref 12 2 0 v4.length (some uC)]), (1, .box [.imm 0 [] 0, .imm 0 [] 0, .imm 0 [] 0, .imm 0 [] 0, .imm 0 [] 0]), (3, .arr 3 1 true (v1.map (D.int .i64))), (6, .arr 51 3 true (v2.map TVote.d)), (9, .arr 43 10 true (v3.map TMail.d)), (12, .arr 45 2 true (v4.map TChoice.d)), (18, .arr 49 7 true (mx TAttempt.n TAttempt.d n1.toNat l2))], 19⟩
@[go_sem] def st6 (r : TWorld) : St := ⟨[(2, .ptr 5 0)], [(0, .arr 3 1 true (r.Members.map (D.int .i64))), (1, .arr 51 3 true (r.Votes.map TVote.d)), (2, .arr 49 7 true (r.Tries.map TAttempt.n)), (3, .arr 43 10 true (r.Mail.map TMail.d)), (4, .arr 45 2 true (r.Chosen.map TChoice.d)), (5, .box [.ref 0 1 0 r.Members.length (some uC), .ref 1 3 0 r.Votes.length (some uC), .ref 2 7 0 r.Tries.length (some uC), .ref 3 10 0 r.Mail.length (some uC), .ref 4 2 0 r.Chosen.length (some uC)])], 6⟩
theorem zkt (a0 : TWorld) (r : TWorld) (h : zew a0 = some r) : zd1 Tryz.prog 8 [.agg [.imm 1 (a0.Members.map (D.int .i64)) 4, .imm 3 (a0.Votes.map TVote.d) 4, .imm 7 (a0.Tries.map TAttempt.d) 4, .imm 10 (a0.Mail.map TMail.d) 4, .imm 2 (a0.Chosen.map TChoice.d) 4]] [] (.agg [.ref 0 1 0 r.Members.length (some uC), .ref 1 3 0 r.Votes.length (some uC), .ref 2 7 0 r.Tries.length (some uC), .ref 3 10 0 r.Mail.length (some uC), .ref 4 2 0 r.Chosen.length (some uC)]) [(0, some (.arr 3 1 true (r.Members.map (D.int .i64)))), (1, some (.arr 51 3 true (r.Votes.map TVote.d))), (2, some (.arr 49 7 true (r.Tries.map TAttempt.n))), (3, some (.arr 43 10 true (r.Mail.map TMail.d))), (4, some (.arr 45 2 true (r.Chosen.map TChoice.d)))] (0, 22) := by
 refine zab Tryz.tmOk Tryz.func8 rfl (by decide) (lb rfl) (by simp) ?_
 intro hwf
 unfold zew at h
 refine .ends 0 (Nat.le_refl _) ?_
 refine .seq (.pl zS [0] ?_)
 obtain ⟨v1, hv1, h⟩ := bind_some h
 obtain ⟨v2, hv2, h⟩ := bind_some h
 obtain ⟨v3, hv3, h⟩ := bind_some h
 obtain ⟨v4, hv4, h⟩ := bind_some h
 refine .seq (.rg zS [1, 2] ?_)
 refine .rd 2 ?_
 refine .ncall (r := .ref 3 1 0 v1.length (some uC)) (eff := [(3, some (.arr 3 1 true (v1.map (D.int .i64))))]) (nw := (3, 6)) [] rfl rfl rfl rfl rfl (za3 rfl zai) rfl (zez 3 (lb rfl) (ze5 a0.Members v1 hv1)) (zb4 rfl rfl (zc5 zcd _ _ _) zf9) (by intro i hi; simp [D.ids, D.idsL] at hi <;> omega) rfl ⟨lb rfl, lb rfl⟩ ?_
 refine .rd 2 ?_
 refine .ncall (r := .ref 6 3 0 v2.length (some uC)) (eff := [(6, some (.arr 51 3 true (v2.map TVote.d)))]) (nw := (6, 9)) [] rfl rfl rfl rfl rfl (za3 rfl zai) rfl (zez 6 (lb rfl) (zj1 a0.Votes v2 hv2)) (zb4 rfl rfl (zc5 zly _ _ _) zf9) (by intro i hi; simp [D.ids, D.idsL] at hi <;> omega) rfl ⟨lb rfl, lb rfl⟩ ?_
 refine .rd 2 ?_
 refine .ncall (r := .ref 9 10 0 v3.length (some uC)) (eff := [(9, some (.arr 43 10 true (v3.map TMail.d)))]) (nw := (9, 12)) [] rfl rfl rfl rfl rfl (za3 rfl zai) rfl (zez 9 (lb rfl) (zj2 a0.Mail v3 hv3)) (zb4 rfl rfl (zc5 zlz _ _ _) zf9) (by intro i hi; simp [D.ids, D.idsL] at hi <;> omega) rfl ⟨lb rfl, lb rfl⟩ ?_
 refine .rd 2 ?_
 refine .ncall (r := .ref 12 2 0 v4.length (some uC)) (eff := [(12, some (.arr 45 2 true (v4.map TChoice.d)))]) (nw := (12, 15)) [] rfl rfl rfl rfl rfl (za3 rfl zai) rfl (zez 12 (lb rfl) (zhz a0.Chosen v4 hv4)) (zb4 rfl rfl (zc5 zjf _ _ _) zf9) (by intro i hi; simp [D.ids, D.idsL] at hi <;> omega) rfl ⟨lb rfl, lb rfl⟩ ?_
 refine .rd 8 ?_
 refine .nd ?_
 obtain ⟨v5, hv5, h⟩ := bind_some h
 refine .seq (.rg zS [1, 2] ?_)
 refine .rn 2 ?_
 refine .hcall (H := []) (eff := [(15, some (.arr 49 7 true (v5.map TAttempt.d)))]) (nw := (15, 18)) (r := .ref 15 7 0 v5.length (some uC)) rfl rfl rfl rfl rfl (zez 15 (lb rfl) (zhk a0.Tries v5 hv5)) (fun id b h => zcr [] _ id b h) (by simp) (.inr ⟨lb rfl, lb rfl⟩) ?_
 refine .rn 2 ?_
 refine .nn ?_
 obtain ⟨x1, hx1, h⟩ := bind_some h
 refine .seqM 18 (fun (j : (List TAttempt)) => st55 v1 v2 v3 v4 j) (fun j => x1 = j) (lb rfl) ?_ ?_
 refine .seq (.pl zS [1, 2] ?_)
 refine .block ?_
 refine .loopG 18 (fun (j : Nat × (List TAttempt) × Int) => st56 v1 v2 v3 v4 v5 j.2.1 j.2.2) (fun j => zbp v5 j.1 j.2.1 j.2.2 = some x1) (fun j => j.1) (a0.Tries.length + 1, v5, 0) (lb rfl) ?_ hx1 ?_
 refine Goes.arr 15 (v5.map TAttempt.d) (mx TAttempt.n TAttempt.d (Int.toNat 0) v5) rfl (.mx0 _ _ _) ?_
 exact .m [1, 2, 26, 27, 28] [0, 1, 3, 6, 9, 12, 15] [(15, 18)]
 rintro ⟨fu1, l2, n1⟩ hx1
 simp only [st56]
 try simp only at hx1
 obtain ⟨fu1, rfl⟩ : ∃ k, fu1 = k + 1 := by cases fu1 with | zero => (rw [zbp] at hx1; cases hx1) | succ k => exact ⟨k, rfl⟩
 rw [zbp] at hx1
 refine .seq (.pl zS [1, 2, 26, 27, 28] ?_)
 refine .seq (.cd (fun hc1 => ?_) (fun hc1 => ?_))
 replace hx1 := za0 hx1 hc1
 refine .skip (.seq (.block (.seq ?_)))
 obtain ⟨k1, hx1⟩ := zaa hx1
 have e1 := ya1e TAttempt.n TAttempt.d (k := n1.toNat) (l := l2) (by omega)
 refine .plx zS e1 [1, 2, 26, 27, 28] ?_
 obtain ⟨v6, hv6, hx1⟩ := bind_some hx1
 obtain ⟨k2, hx1⟩ := zaa hx1
 obtain ⟨k3, hx1⟩ := zaa hx1
 have e2 := ya1e TAttempt.n TAttempt.d (k := n1.toNat) (l := l2) (by omega)
 have es1 := ya4m TAttempt.n TAttempt.d (k := n1.toNat) (l := l2) v6 (by omega)
 replace es1 : setN (mx TAttempt.n TAttempt.d n1.toNat l2) n1.toNat (.agg [.int .u8 v6.Phase, .int .i64 v6.Ballot, .imm 1 (v6.Members.map (D.int .i64)) 13, .str v6.Wish, .str v6.Value, .imm 3 (v6.Promises.map TPromise.d) 13, .imm 1 (v6.Accepted.map (D.int .i64)) 13]) = mx TAttempt.n TAttempt.d (n1.toNat + 1) (l2.set n1.toNat v6) := es1
 refine .rg zS [1, 2, 3, 4, 26, 27, 28] ?_
 refine .rdx 4 (ai e2 es1) ?_
 refine .cl (zo6 (l2.getD n1.toNat default) v6 hv6) ?_
 refine .rdx 2 (ai e2 es1) ?_
 refine .nd ?_
 refine .pl zS [1, 2, 26, 27, 28] ?_
 refine ⟨(fu1, _, _), ?_, hx1, by dsimp only; omega⟩
 refine Goes.arr 18 (mx TAttempt.n TAttempt.d (n1.toNat + 1) (l2.set n1.toNat v6)) (mx TAttempt.n TAttempt.d ((wr .i64 (n1 + 1)).toNat) (l2.set n1.toNat v6)) rfl (.mxk _ _ _ (zx1 k2 k3)) ?_
 exact .m [1, 2, 26, 27, 28] [0, 1, 3, 6, 9, 12, 18] []
 replace hx1 := za1 hx1 hc1
 refine .exit ?_
 obtain ⟨k4, hx1⟩ := zaa hx1
 refine ⟨_, ?_, (sj hx1).symm⟩
 refine Goes.arr 18 (mx TAttempt.n TAttempt.d n1.toNat l2) (l2.map TAttempt.n) rfl (.mxe _ _ k4) ?_
 exact .m [1, 2] [0, 1, 3, 6, 9, 12, 18] []
 rintro l1 hj1
 subst x1
 try dsimp only at h
 simp only [st55]
 refine .seq (.pl zS [1, 2] ?_)
 obtain rfl := sj h
 refine .ret ⟨st6 (⟨v1, v2, l1, v3, v4⟩ : TWorld), ?_, .inr rfl, retH [4, 3, 2, 1, 0] ?_ ?_⟩
 exact .m [2] [3, 6, 18, 9, 12, 1] [(3, 0), (6, 1), (18, 2), (9, 3), (12, 4), (1, 5)]
 exact rsi0
 rfl
@[go_sem] def st60 (a0 : Tdecree_world) (a1 : TMail) (l1 : List TMail) (n1 : Int) (n2 : Int) : St := ⟨[(0, .ptr 20000 0), (3, .ptr 20100 0), (10, .ref 20001 1 0 a0.World.Members.length (some uC)), (11, .int .i64 (a0.World.Members.length : Int)), (12, .int .i64 n2)], [(20000, .box [.ref 20001 1 0 a0.World.Members.length (some uC), .ref 20002 3 0 a0.World.Votes.length (some uC), .ref 20003 7 0 a0.World.Tries.length (some uC), .ref 20101 10 0 l1.length (some uC), .ref 20005 2 0 a0.World.Chosen.length (some uC)]), (20001, .arr 3 1 true (a0.World.Members.map (D.int .i64))), (20002, .arr 51 3 true (a0.World.Votes.map TVote.d)), (20003, .arr 49 7 true (a0.World.Tries.map TAttempt.n)), (20005, .arr 45 2 true (a0.World.Chosen.map TChoice.d)), (20100, .box [.int .i64 a1.From, .int .i64 n1, .int .u8 a1.Kind, .int .i64 a1.Group, .int .i64 a1.Slot, .int .i64 a1.Ballot, .int .i64 a1.Prior, .str a1.Value, .int .i64 a1.Id, .int .i64 a1.Time]), (20101, .arr 43 10 true (l1.map TMail.d))], 20102⟩
@[go_sem] def st61 (a0 : Tdecree_world) (a1 : TMail) (n2 : Int) (l2 : List TMail) : St := ⟨[(0, .ptr 20000 0), (3, .ptr 20100 0), (10, .ref 20001 1 0 a0.World.Members.length (some uC)), (11, .int .i64 (a0.World.Members.length : Int)), (12, .int .i64 n2)], [(20000, .box [.ref 20001 1 0 a0.World.Members.length (some uC), .ref 20002 3 0 a0.World.Votes.length (some uC), .ref 20003 7 0 a0.World.Tries.length (some uC), .ref 20102 10 0 l2.length (some uC), .ref 20005 2 0 a0.World.Chosen.length (some uC)]), (20001, .arr 3 1 true (a0.World.Members.map (D.int .i64))), (20002, .arr 51 3 true (a0.World.Votes.map TVote.d)), (20003, .arr 49 7 true (a0.World.Tries.map TAttempt.n)), (20005, .arr 45 2 true (a0.World.Chosen.map TChoice.d)), (20100, .box [.int .i64 a1.From, .int .i64 (a0.World.Members.getD n2.toNat default), .int .u8 a1.Kind, .int .i64 a1.Group, .int .i64 a1.Slot, .int .i64 a1.Ballot, .int .i64 a1.Prior, .str a1.Value, .int .i64 a1.Id, .int .i64 a1.Time]), (20102, .arr 43 10 true (l2.map TMail.d))], 20103⟩
@[go_sem] def st11 (r : Tdecree_world) : St := ⟨[(0, .ptr 20000 0)], [(20000, .box [.ref 20100 1 0 r.World.Members.length (some uC), .ref 20101 3 0 r.World.Votes.length (some uC), .ref 20102 7 0 r.World.Tries.length (some uC), .ref 20103 10 0 r.World.Mail.length (some uC), .ref 20104 2 0 r.World.Chosen.length (some uC)]), (20100, .arr 3 1 true (r.World.Members.map (D.int .i64))), (20101, .arr 51 3 true (r.World.Votes.map TVote.d)), (20102, .arr 49 7 true (r.World.Tries.map TAttempt.n)), (20103, .arr 43 10 true (r.World.Mail.map TMail.d)), (20104, .arr 45 2 true (r.World.Chosen.map TChoice.d))], 20105⟩
theorem zhs (a0 : Tdecree_world) (a1 : TMail) (r : Tdecree_world) (h : zea a0 a1 = some r) : zd1 Tryz.prog 49 [.ptr 20000 0, .agg [.int .i64 a1.From, .int .i64 a1.To, .int .u8 a1.Kind, .int .i64 a1.Group, .int .i64 a1.Slot, .int .i64 a1.Ballot, .int .i64 a1.Prior, .str a1.Value, .int .i64 a1.Id, .int .i64 a1.Time]] [(20000, .box [.ref 20001 1 0 a0.World.Members.length (some uC), .ref 20002 3 0 a0.World.Votes.length (some uC), .ref 20003 7 0 a0.World.Tries.length (some uC), .ref 20004 10 0 a0.World.Mail.length (some uC), .ref 20005 2 0 a0.World.Chosen.length (some uC)]), (20001, .arr 3 1 true (a0.World.Members.map (D.int .i64))), (20002, .arr 51 3 true (a0.World.Votes.map TVote.d)), (20003, .arr 49 7 true (a0.World.Tries.map TAttempt.n)), (20004, .arr 43 10 true (a0.World.Mail.map TMail.d)), (20005, .arr 45 2 true (a0.World.Chosen.map TChoice.d))] (.tuple []) [(20000, some (.box [.ref 20100 1 0 r.World.Members.length (some uC), .ref 20101 3 0 r.World.Votes.length (some uC), .ref 20102 7 0 r.World.Tries.length (some uC), .ref 20103 10 0 r.World.Mail.length (some uC), .ref 20104 2 0 r.World.Chosen.length (some uC)])), (20001, none), (20002, none), (20003, none), (20004, none), (20005, none), (20100, some (.arr 3 1 true (r.World.Members.map (D.int .i64)))), (20101, some (.arr 51 3 true (r.World.Votes.map TVote.d))), (20102, some (.arr 49 7 true (r.World.Tries.map TAttempt.n))), (20103, some (.arr 43 10 true (r.World.Mail.map TMail.d))), (20104, some (.arr 45 2 true (r.World.Chosen.map TChoice.d)))] (20100, 20107) := by
 refine zab Tryz.tmOk Tryz.func49 rfl (by decide) (lb rfl) (by simp) ?_
 intro hwf
 unfold zea at h
 refine .ends 20100 (Nat.le_refl _) ?_
 refine .seq (.pl zS [0, 1] ?_)
 refine .seq (.pl zS [0, 3] ?_)
 refine .block ?_
 refine .loopG 20101 (fun (j : Nat × (List TMail) × Int × Int) => st60 a0 a1 j.2.1 j.2.2.1 j.2.2.2) (fun j => zbi a0 a1 j.1 j.2.1 j.2.2.1 j.2.2.2 = some r) (fun j => j.1) (a0.World.Members.length + 1, a0.World.Mail, a1.To, 0) (lb rfl) ?_ h ?_
 exact .m [0, 3, 10, 11, 12] [20000, 20001, 20002, 20003, 20005, 20100, 20004] [(20004, 20101)]
 rintro ⟨fu1, l1, n1, n2⟩ h
 simp only [st60]
 try simp only at h
 obtain ⟨fu1, rfl⟩ : ∃ k, fu1 = k + 1 := by cases fu1 with | zero => (rw [zbi] at h; cases h) | succ k => exact ⟨k, rfl⟩
 rw [zbi] at h
 refine .seq (.pl zS [0, 3, 10, 11, 12] ?_)
 refine .seq (.cd (fun hc1 => ?_) (fun hc1 => ?_))
 replace h := za0 h hc1
 obtain ⟨x1, hx1, h⟩ := bind_some h
 refine .skip ?_
 refine .seqM 20102 (fun (j : (List TMail)) => st61 a0 a1 n2 j) (fun j => x1 = j) (lb rfl) ?_ ?_
 refine .block (.seq ?_)
 obtain ⟨k1, hx1⟩ := zaa hx1
 have e1 := zax (D.int .i64) a0.World.Members n2
 replace e1 := e1 k1
 refine .plx zS e1 [0, 3, 10, 11, 12] ?_
 refine .seq (.pl zS [0, 3, 5, 10, 11, 12] ?_)
 refine .seq (.pl zS [0, 3, 5, 10, 11, 12] ?_)
 refine .cd (fun hc2 => ?_) (fun hc2 => ?_)
 replace hx1 := za0 hx1 hc2
 obtain ⟨k2, hx1⟩ := zaa hx1
 refine .rg zS [0, 3, 10, 11, 12] ?_
 refine .rd 6 ?_
 refine .rd 7 ?_
 refine .nd ?_
 refine ⟨_, ?_, (sj hx1).symm⟩
 exact .m [0, 3, 10, 11, 12] [20000, 20001, 20002, 20003, 20005, 20100, 20103] [(20103, 20102)]
 replace hx1 := za1 hx1 hc2
 refine .skip ?_
 refine ⟨_, ?_, (sj hx1).symm⟩
 exact .m [0, 3, 10, 11, 12] [20000, 20001, 20002, 20003, 20005, 20100, 20101] [(20101, 20102)]
 rintro l2 hj1
 subst x1
 try dsimp only at h
 simp only [st61]
 refine .pl zS [0, 3, 10, 11, 12] ?_
 refine ⟨(fu1, _, _, _), ?_, h, by dsimp only; omega⟩
 exact .m [0, 3, 10, 11, 12] [20000, 20001, 20002, 20003, 20005, 20100, 20102] [(20102, 20101)]
 replace h := za1 h hc1
 refine .exit ?_
 obtain rfl := sj h
 refine ⟨st11 (⟨(⟨a0.World.Members, a0.World.Votes, a0.World.Tries, l1, a0.World.Chosen⟩ : TWorld)⟩ : Tdecree_world), ?_, .inl rfl, retH [20000, 20104, 20103, 20102, 20101, 20100] ?_ ?_⟩
 exact .m [0] [20000, 20001, 20002, 20003, 20101, 20005] [(20001, 20100), (20002, 20101), (20003, 20102), (20101, 20103), (20005, 20104)]
 exact rsi0
 rfl
@[go_sem] def st59 (a0 : Tdecree_world) (a1 : Int) (v1 : TAttempt × Int) (l1 : List TChoice) : St := ⟨[(0, .ptr 20000 0), (1, .int .i64 a1), (8, .ptr 20100 0)], [(20000, .box [.ref 20001 1 0 a0.World.Members.length (some uC), .ref 20002 3 0 a0.World.Votes.length (some uC), .ref 20003 7 0 a0.World.Tries.length (some uC), .ref 20004 10 0 a0.World.Mail.length (some uC), .ref 20101 2 0 l1.length (some uC)]), (20001, .arr 3 1 true (a0.World.Members.map (D.int .i64))), (20002, .arr 51 3 true (a0.World.Votes.map TVote.d)), (20003, .arr 49 7 true (a0.World.Tries.map TAttempt.n)), (20004, .arr 43 10 true (a0.World.Mail.map TMail.d)), (20100, .box [.int .u8 v1.1.Phase, .int .i64 v1.1.Ballot, .imm 1 (v1.1.Members.map (D.int .i64)) 13, .str v1.1.Wish, .str v1.1.Value, .imm 3 (v1.1.Promises.map TPromise.d) 13, .imm 1 (v1.1.Accepted.map (D.int .i64)) 13]), (20101, .arr 45 2 true (l1.map TChoice.d))], 20102⟩
@[go_sem] def st10 (r : Tdecree_world) : St := ⟨[(0, .ptr 20000 0)], [(20000, .box [.ref 20100 1 0 r.World.Members.length (some uC), .ref 20101 3 0 r.World.Votes.length (some uC), .ref 20102 7 0 r.World.Tries.length (some uC), .ref 20103 10 0 r.World.Mail.length (some uC), .ref 20104 2 0 r.World.Chosen.length (some uC)]), (20100, .arr 3 1 true (r.World.Members.map (D.int .i64))), (20101, .arr 51 3 true (r.World.Votes.map TVote.d)), (20102, .arr 49 7 true (r.World.Tries.map TAttempt.n)), (20103, .arr 43 10 true (r.World.Mail.map TMail.d)), (20104, .arr 45 2 true (r.World.Chosen.map TChoice.d))], 20105⟩
theorem zhh (a0 : Tdecree_world) (a1 : Int) (a2 : Int) (a3 : Int) (r : Tdecree_world) (h : zd3 a0 a1 a2 a3 = some r) : zd1 Tryz.prog 51 [.ptr 20000 0, .int .i64 a1, .int .i64 a2, .int .i64 a3] [(20000, .box [.ref 20001 1 0 a0.World.Members.length (some uC), .ref 20002 3 0 a0.World.Votes.length (some uC), .ref 20003 7 0 a0.World.Tries.length (some uC), .ref 20004 10 0 a0.World.Mail.length (some uC), .ref 20005 2 0 a0.World.Chosen.length (some uC)]), (20001, .arr 3 1 true (a0.World.Members.map (D.int .i64))), (20002, .arr 51 3 true (a0.World.Votes.map TVote.d)), (20003, .arr 49 7 true (a0.World.Tries.map TAttempt.n)), (20004, .arr 43 10 true (a0.World.Mail.map TMail.d)), (20005, .arr 45 2 true (a0.World.Chosen.map TChoice.d))] (.tuple []) [(20000, some (.box [.ref 20100 1 0 r.World.Members.length (some uC), .ref 20101 3 0 r.World.Votes.length (some uC), .ref 20102 7 0 r.World.Tries.length (some uC), .ref 20103 10 0 r.World.Mail.length (some uC), .ref 20104 2 0 r.World.Chosen.length (some uC)])), (20001, none), (20002, none), (20003, none), (20004, none), (20005, none), (20100, some (.arr 3 1 true (r.World.Members.map (D.int .i64)))), (20101, some (.arr 51 3 true (r.World.Votes.map TVote.d))), (20102, some (.arr 49 7 true (r.World.Tries.map TAttempt.n))), (20103, some (.arr 43 10 true (r.World.Mail.map TMail.d))), (20104, some (.arr 45 2 true (r.World.Chosen.map TChoice.d)))] (20100, 20107) := by
 refine zab Tryz.tmOk Tryz.func51 rfl (by decide) (lb rfl) (by simp) ?_
 intro hwf
 unfold zd3 at h
 refine .ends 20100 (Nat.le_refl _) ?_
 refine .seq ?_
 obtain ⟨k1, h⟩ := zaa h
 obtain ⟨v1, hv1, h⟩ := bind_some h
 have e1 := zax TAttempt.n a0.World.Tries a1
 replace e1 := e1 k1
 refine .rg zS [0, 1, 2, 3] ?_
 refine .rnx 6 e1 ?_
 refine .rnx 4 e1 ?_
 refine .call rfl rfl rfl rfl rfl rfl (zfq (WkL.cons (Wk.agg (WkL.cons (Wk.refl _) (WkL.cons (Wk.refl _) (WkL.cons Wk.iz (WkL.cons (Wk.refl _) (WkL.cons (Wk.refl _) (WkL.cons Wk.iz (WkL.cons Wk.iz (WkL.refl _))))))))) (WkL.cons (Wk.refl _) (WkL.cons (Wk.refl _) (WkL.refl _)))) (zlp (a0.World.Tries.getD a1.toNat default) a2 a3 v1 hv1)) ?_
 refine .rnx 6 e1 ?_
 refine .nn ?_
 refine .seq (.seq (.pl zS [0, 1, 8, 9] ?_))
 refine .cd (fun hc1 => ?_) (fun hc1 => ?_)
 replace h := za0 h hc1
 obtain rfl := sj h
 refine .ret ⟨st10 a0, ?_, .inr rfl, retH [20000, 20104, 20103, 20102, 20101, 20100] ?_ ?_⟩
 exact .m [0] [20000, 20001, 20002, 20003, 20004, 20005] [(20001, 20100), (20002, 20101), (20003, 20102), (20004, 20103), (20005, 20104)]
 exact rsi0
 rfl
 replace h := za1 h hc1
 obtain ⟨x1, hx1, h⟩ := bind_some h
 refine .skip ?_
 refine .seqM 20101 (fun (j : (List TChoice)) => st59 a0 a1 v1 j) (fun j => x1 = j) (lb rfl) ?_ ?_
 obtain ⟨k2, hx1⟩ := zaa hx1
 refine .seqM 20101 (fun (_ : Unit) => ⟨[(0, .ptr 20000 0), (1, .int .i64 a1), (8, .ptr 20100 0), (40, .bool ((v1.1.Phase == 3) && ((a0.World.Tries.getD a1.toNat default).Phase != 3)))], [(20000, .box [.ref 20001 1 0 a0.World.Members.length (some uC), .ref 20002 3 0 a0.World.Votes.length (some uC), .ref 20003 7 0 a0.World.Tries.length (some uC), .ref 20004 10 0 a0.World.Mail.length (some uC), .ref 20005 2 0 a0.World.Chosen.length (some uC)]), (20001, .arr 3 1 true (a0.World.Members.map (D.int .i64))), (20002, .arr 51 3 true (a0.World.Votes.map TVote.d)), (20003, .arr 49 7 true (a0.World.Tries.map TAttempt.n)), (20004, .arr 43 10 true (a0.World.Mail.map TMail.d)), (20005, .arr 45 2 true (a0.World.Chosen.map TChoice.d)), (20100, .box [.int .u8 v1.1.Phase, .int .i64 v1.1.Ballot, .imm 1 (v1.1.Members.map (D.int .i64)) 13, .str v1.1.Wish, .str v1.1.Value, .imm 3 (v1.1.Promises.map TPromise.d) 13, .imm 1 (v1.1.Accepted.map (D.int .i64)) 13])], 20101⟩) (fun _ => True) (lb rfl) ?_ (fun _ _ => ?_)
 by_cases hgd : v1.1.Phase = 3
 have eg10 := zax TAttempt.n a0.World.Tries a1 (k2 hgd)
 refine .rg zS [0, 1, 8] ?_
 refine .rnx 6 eg10 ?_
 refine .rnx 6 eg10 ?_
 refine .rnx 3 eg10 ?_
 refine .nn ?_
 refine ⟨(), ?_, trivial⟩
 exact .m [0, 1, 8, 40] [20000, 20001, 20002, 20003, 20004, 20005, 20100] []
 have hgf1 : (v1.1.Phase == 3) = false := by first | simpa using hgd | (simp at hgd ⊢; omega) | grind
 rcases zqf TAttempt.n a0.World.Tries a1.toNat with eg10 | eg10
 refine .rg zS [0, 1, 8] ?_
 refine .rnx 6 (ai eg10 hgf1) ?_
 refine .rnx 6 (ai eg10 hgf1) ?_
 refine .rnx 3 (ai eg10 hgf1) ?_
 refine .nn ?_
 refine ⟨(), ?_, trivial⟩
 exact .mx hgf1 [0, 1, 8, 40] [20000, 20001, 20002, 20003, 20004, 20005, 20100] []
 refine .rg zS [0, 1, 8] ?_
 refine .rnx 6 (ai eg10 hgf1) ?_
 refine .rnx 6 (ai eg10 hgf1) ?_
 refine .rnx 3 (ai eg10 hgf1) ?_
 refine .nn ?_
 refine ⟨(), ?_, trivial⟩
 exact .mx hgf1 [0, 1, 8, 40] [20000, 20001, 20002, 20003, 20004, 20005, 20100] []
 refine .cd (fun hc2 => ?_) (fun hc2 => ?_)
 replace hx1 := za0 hx1 hc2
 obtain ⟨k3, hx1⟩ := zaa hx1
 refine .rg zS [0, 1, 8] ?_
 refine .rd 6 ?_
 refine .rd 6 ?_
 refine .rd 4 ?_
 refine .nd ?_
 refine ⟨_, ?_, (sj hx1).symm⟩
 exact .m [0, 1, 8] [20000, 20001, 20002, 20003, 20004, 20100, 20102] [(20102, 20101)]
 replace hx1 := za1 hx1 hc2
 refine .skip ?_
 refine ⟨_, ?_, (sj hx1).symm⟩
 exact .m [0, 1, 8] [20000, 20001, 20002, 20003, 20004, 20100, 20005] [(20005, 20101)]
 rintro l1 hj1
 subst x1
 try dsimp only at h
 simp only [st59]
 obtain ⟨k4, h⟩ := zaa h
 have e2 := zax TAttempt.n a0.World.Tries a1
 have es1 := zgr TAttempt.n a0.World.Tries a1.toNat v1.1
 replace e2 := e2 k4
 replace es1 : setN (a0.World.Tries.map TAttempt.n) a1.toNat (.agg [.int .u8 v1.1.Phase, .int .i64 v1.1.Ballot, .imm 1 (v1.1.Members.map (D.int .i64)) 13, .str v1.1.Wish, .str v1.1.Value, .imm 3 (v1.1.Promises.map TPromise.d) 13, .imm 1 (v1.1.Accepted.map (D.int .i64)) 13]) = (a0.World.Tries.set a1.toNat v1.1).map TAttempt.n := es1
 refine .rg zS [0, 1, 8] ?_
 refine .rdx 6 (ai e2 es1) ?_
 refine .rdx 3 (ai e2 es1) ?_
 refine .nd ?_
 obtain rfl := sj h
 refine ⟨st10 (⟨(⟨a0.World.Members, a0.World.Votes, (a0.World.Tries.set a1.toNat v1.1), a0.World.Mail, l1⟩ : TWorld)⟩ : Tdecree_world), ?_, .inl rfl, retH [20000, 20104, 20103, 20102, 20101, 20100] ?_ ?_⟩
 exact .m [0] [20000, 20001, 20002, 20003, 20004, 20101] [(20001, 20100), (20002, 20101), (20003, 20102), (20004, 20103), (20101, 20104)]
 exact rsi0
 rfl
@[go_sem] def st9 (r : Tdecree_world) : St := ⟨[(0, .ptr 20000 0)], [(20000, .box [.ref 20100 1 0 r.World.Members.length (some uC), .ref 20101 3 0 r.World.Votes.length (some uC), .ref 20102 7 0 r.World.Tries.length (some uC), .ref 20103 10 0 r.World.Mail.length (some uC), .ref 20104 2 0 r.World.Chosen.length (some uC)]), (20100, .arr 3 1 true (r.World.Members.map (D.int .i64))), (20101, .arr 51 3 true (r.World.Votes.map TVote.d)), (20102, .arr 49 7 true (r.World.Tries.map TAttempt.n)), (20103, .arr 43 10 true (r.World.Mail.map TMail.d)), (20104, .arr 45 2 true (r.World.Chosen.map TChoice.d))], 20105⟩
theorem zgq (a0 : Tdecree_world) (a1 : Int) (a2 : Int) (a3 : TPromise) (r : Tdecree_world) (h : zd0 a0 a1 a2 a3 = some r) : zd1 Tryz.prog 50 [.ptr 20000 0, .int .i64 a1, .int .i64 a2, .agg [.int .i64 a3.Node, .int .i64 a3.Ballot, .str a3.Value]] [(20000, .box [.ref 20001 1 0 a0.World.Members.length (some uC), .ref 20002 3 0 a0.World.Votes.length (some uC), .ref 20003 7 0 a0.World.Tries.length (some uC), .ref 20004 10 0 a0.World.Mail.length (some uC), .ref 20005 2 0 a0.World.Chosen.length (some uC)]), (20001, .arr 3 1 true (a0.World.Members.map (D.int .i64))), (20002, .arr 51 3 true (a0.World.Votes.map TVote.d)), (20003, .arr 49 7 true (a0.World.Tries.map TAttempt.n)), (20004, .arr 43 10 true (a0.World.Mail.map TMail.d)), (20005, .arr 45 2 true (a0.World.Chosen.map TChoice.d))] (.tuple []) [(20000, some (.box [.ref 20100 1 0 r.World.Members.length (some uC), .ref 20101 3 0 r.World.Votes.length (some uC), .ref 20102 7 0 r.World.Tries.length (some uC), .ref 20103 10 0 r.World.Mail.length (some uC), .ref 20104 2 0 r.World.Chosen.length (some uC)])), (20001, none), (20002, none), (20003, none), (20004, none), (20005, none), (20100, some (.arr 3 1 true (r.World.Members.map (D.int .i64)))), (20101, some (.arr 51 3 true (r.World.Votes.map TVote.d))), (20102, some (.arr 49 7 true (r.World.Tries.map TAttempt.n))), (20103, some (.arr 43 10 true (r.World.Mail.map TMail.d))), (20104, some (.arr 45 2 true (r.World.Chosen.map TChoice.d)))] (20100, 20124) := by
 refine zab Tryz.tmOk Tryz.func50 rfl (by decide) (lb rfl) (by simp) ?_
 intro hwf
 unfold zd0 at h
 refine .ends 20100 (Nat.le_refl _) ?_
 refine .seq (.pl zS [0, 1, 2, 3] ?_)
 refine .seq ?_
 obtain ⟨k1, h⟩ := zaa h
 obtain ⟨v1, hv1, h⟩ := bind_some h
 have e1 := zax TAttempt.n a0.World.Tries a1
 replace e1 := e1 k1
 refine .rg zS [0, 1, 2, 7] ?_
 refine .rdx 6 e1 ?_
 refine .rdx 4 e1 ?_
 refine .call rfl rfl rfl rfl rfl rfl (zfq (WkL.cons (Wk.agg (WkL.cons (Wk.refl _) (WkL.cons (Wk.refl _) (WkL.cons Wk.iz (WkL.cons (Wk.refl _) (WkL.cons (Wk.refl _) (WkL.cons Wk.iz (WkL.cons Wk.iz (WkL.refl _))))))))) (WkL.cons (Wk.refl _) (WkL.cons (Wk.refl _) (WkL.refl _)))) (zlo (a0.World.Tries.getD a1.toNat default) a2 a3 v1 hv1)) ?_
 refine .rdx 6 e1 ?_
 refine .nd ?_
 refine .seq (.seq (.pl zS [0, 1, 2, 8, 9] ?_))
 refine .cd (fun hc1 => ?_) (fun hc1 => ?_)
 replace h := za0 h hc1
 obtain rfl := sj h
 refine .ret ⟨st9 a0, ?_, .inr rfl, retH [20000, 20104, 20103, 20102, 20101, 20100] ?_ ?_⟩
 exact .m [0] [20000, 20001, 20002, 20003, 20004, 20005] [(20001, 20100), (20002, 20101), (20003, 20102), (20004, 20103), (20005, 20104)]
 exact rsi0
 rfl
 replace h := za1 h hc1
 refine .skip (.seq ?_)
 obtain ⟨k2, h⟩ := zaa h
 have e2 := zax TAttempt.n a0.World.Tries a1
 have es1 := zgr TAttempt.n a0.World.Tries a1.toNat v1.1
 replace e2 := e2 k2
 replace es1 : setN (a0.World.Tries.map TAttempt.n) a1.toNat (.agg [.int .u8 v1.1.Phase, .int .i64 v1.1.Ballot, .imm 1 (v1.1.Members.map (D.int .i64)) 13, .str v1.1.Wish, .str v1.1.Value, .imm 3 (v1.1.Promises.map TPromise.d) 13, .imm 1 (v1.1.Accepted.map (D.int .i64)) 13]) = (a0.World.Tries.set a1.toNat v1.1).map TAttempt.n := es1
 refine .rg zS [0, 1, 2, 8] ?_
 refine .rdx 6 (ai e2 es1) ?_
 refine .rdx 3 (ai e2 es1) ?_
 refine .nd ?_
 refine .seq (.seq (.pl zS [0, 1, 2, 8] ?_))
 refine .cd (fun hc2 => ?_) (fun hc2 => ?_)
 replace h := za0 h hc2
 obtain rfl := sj h
 refine .ret ⟨st9 (⟨(⟨a0.World.Members, a0.World.Votes, (a0.World.Tries.set a1.toNat v1.1), a0.World.Mail, a0.World.Chosen⟩ : TWorld)⟩ : Tdecree_world), ?_, .inr rfl, retH [20000, 20104, 20103, 20102, 20101, 20100] ?_ ?_⟩
 exact .m [0] [20000, 20001, 20002, 20003, 20004, 20005] [(20001, 20100), (20002, 20101), (20003, 20102), (20004, 20103), (20005, 20104)]
 exact rsi0
 rfl
 replace h := za1 h hc2
 refine .skip ?_
 obtain ⟨v2, hv2, h⟩ := bind_some h
 refine .seq (.rg zS [0, 1, 2, 8] ?_)
 refine .rn 6 ?_
 refine .hcall (H := [(20000, .box [.ref 20001 1 0 a0.World.Members.length (some uC), .ref 20002 3 0 a0.World.Votes.length (some uC), .ref 20003 7 0 a0.World.Tries.length (some uC), .ref 20004 10 0 a0.World.Mail.length (some uC), .ref 20005 2 0 a0.World.Chosen.length (some uC)]), (20001, .arr 3 1 true (a0.World.Members.map (D.int .i64))), (20002, .arr 51 3 true (a0.World.Votes.map TVote.d)), (20003, .arr 49 7 true ((a0.World.Tries.set a1.toNat v1.1).map TAttempt.n)), (20004, .arr 43 10 true (a0.World.Mail.map TMail.d)), (20005, .arr 45 2 true (a0.World.Chosen.map TChoice.d))]) (eff := [(20000, some (.box [.ref 20107 1 0 v2.World.Members.length (some uC), .ref 20108 3 0 v2.World.Votes.length (some uC), .ref 20109 7 0 v2.World.Tries.length (some uC), .ref 20110 10 0 v2.World.Mail.length (some uC), .ref 20111 2 0 v2.World.Chosen.length (some uC)])), (20001, none), (20002, none), (20003, none), (20004, none), (20005, none), (20107, some (.arr 3 1 true (v2.World.Members.map (D.int .i64)))), (20108, some (.arr 51 3 true (v2.World.Votes.map TVote.d))), (20109, some (.arr 49 7 true (v2.World.Tries.map TAttempt.n))), (20110, some (.arr 43 10 true (v2.World.Mail.map TMail.d))), (20111, some (.arr 45 2 true (v2.World.Chosen.map TChoice.d)))]) (nw := (20107, 20114)) (r := .tuple []) rfl rfl rfl rfl rfl (by have t := (za5 20005 20005 (za5 20004 20004 (za5 20003 20003 (za5 20002 20002 (za5 20001 20001 (za5 20000 20000 (zfe 20107 (zhs (⟨(⟨a0.World.Members, a0.World.Votes, (a0.World.Tries.set a1.toNat v1.1), a0.World.Mail, a0.World.Chosen⟩ : TWorld)⟩ : Tdecree_world) (⟨a1, 0, 3, 0, 0, a2, 0, v1.1.Value, 0, 0⟩ : TMail) v2 hv2)))))))); simp only [List.length_set] at t; exact t) (fun id b h => zcr [20000, 20001, 20002, 20003, 20004, 20005] _ id b h) (by simp) (.inr ⟨lb rfl, lb rfl⟩) ?_
 refine .nn ?_
 refine .seq ?_
 obtain ⟨v3, hv3, h⟩ := bind_some h
 refine .seq (.rg zS [0, 1, 2, 8] ?_)
 refine .rn 6 ?_
 refine .lcall (r := .bool v3) [] rfl rfl rfl rfl rfl (za3 (zfh (zen (ziq .i64) (by first | rfl | (simp only [go_sem, Nat.reduceBEq]; rfl)) (by first | rfl | (simp; done) | (simp <;> omega))) trivial) (za3 rfl zai)) rfl (zh7 v2.World.Members a1 v3 hv3) ?_
 refine .rn 1 ?_
 refine .nn ?_
 refine .cd (fun hc3 => ?_) (fun hc3 => ?_)
 replace h := za0 h hc3
 obtain rfl := sj h
 refine .ret ⟨st9 v2, ?_, .inr rfl, retH [20000, 20104, 20103, 20102, 20101, 20100] ?_ ?_⟩
 exact .m [0] [20000, 20107, 20108, 20109, 20110, 20111] [(20107, 20100), (20108, 20101), (20109, 20102), (20110, 20103), (20111, 20104)]
 exact rsi0
 rfl
 replace h := za1 h hc3
 refine .skip (.seq ?_)
 obtain ⟨k3, h⟩ := zaa h
 obtain ⟨v4, hv4, h⟩ := bind_some h
 have e3 := zax TVote.d v2.World.Votes a1
 replace e3 := e3 k3
 refine .rg zS [0, 1, 2, 8] ?_
 refine .rdx 6 e3 ?_
 refine .rdx 5 e3 ?_
 refine .cl (zkn (v2.World.Votes.getD a1.toNat default) a2 v1.1.Value v4 hv4) ?_
 refine .rdx 6 e3 ?_
 refine .nd ?_
 refine .seq (.pl zS [0, 1, 2, 10, 11] ?_)
 refine .cd (fun hc4 => ?_) (fun hc4 => ?_)
 replace h := za0 h hc4
 refine .seq ?_
 obtain ⟨k4, h⟩ := zaa h
 have e4 := zax TVote.d v2.World.Votes a1
 have es2 := zgr TVote.d v2.World.Votes a1.toNat v4.1
 replace e4 := e4 k4
 replace es2 : setN (v2.World.Votes.map TVote.d) a1.toNat (.agg [.int .i64 v4.1.Promised, .int .i64 v4.1.Ballot, .str v4.1.Value]) = (v2.World.Votes.set a1.toNat v4.1).map TVote.d := es2
 refine .rg zS [0, 1, 2, 10] ?_
 refine .rdx 6 (ai e4 es2) ?_
 refine .rdx 3 (ai e4 es2) ?_
 refine .nd ?_
 obtain ⟨v5, hv5, h⟩ := bind_some h
 refine .rg zS [0, 1, 2] ?_
 refine .rn 4 ?_
 refine .hcall (H := [(20000, .box [.ref 20107 1 0 v2.World.Members.length (some uC), .ref 20108 3 0 v2.World.Votes.length (some uC), .ref 20109 7 0 v2.World.Tries.length (some uC), .ref 20110 10 0 v2.World.Mail.length (some uC), .ref 20111 2 0 v2.World.Chosen.length (some uC)]), (20107, .arr 3 1 true (v2.World.Members.map (D.int .i64))), (20108, .arr 51 3 true ((v2.World.Votes.set a1.toNat v4.1).map TVote.d)), (20109, .arr 49 7 true (v2.World.Tries.map TAttempt.n)), (20110, .arr 43 10 true (v2.World.Mail.map TMail.d)), (20111, .arr 45 2 true (v2.World.Chosen.map TChoice.d))]) (eff := [(20000, some (.box [.ref 20115 1 0 v5.World.Members.length (some uC), .ref 20116 3 0 v5.World.Votes.length (some uC), .ref 20117 7 0 v5.World.Tries.length (some uC), .ref 20118 10 0 v5.World.Mail.length (some uC), .ref 20119 2 0 v5.World.Chosen.length (some uC)])), (20107, none), (20108, none), (20109, none), (20110, none), (20111, none), (20115, some (.arr 3 1 true (v5.World.Members.map (D.int .i64)))), (20116, some (.arr 51 3 true (v5.World.Votes.map TVote.d))), (20117, some (.arr 49 7 true (v5.World.Tries.map TAttempt.n))), (20118, some (.arr 43 10 true (v5.World.Mail.map TMail.d))), (20119, some (.arr 45 2 true (v5.World.Chosen.map TChoice.d)))]) (nw := (20115, 20122)) (r := .tuple []) rfl rfl rfl rfl rfl (by have t := (za5 20005 20111 (za5 20004 20110 (za5 20003 20109 (za5 20002 20108 (za5 20001 20107 (za5 20000 20000 (zfe 20115 (zhh (⟨(⟨v2.World.Members, (v2.World.Votes.set a1.toNat v4.1), v2.World.Tries, v2.World.Mail, v2.World.Chosen⟩ : TWorld)⟩ : Tdecree_world) a1 a2 a1 v5 hv5)))))))); simp only [List.length_set] at t; exact t) (fun id b h => zcr [20000, 20107, 20108, 20109, 20110, 20111] _ id b h) (by simp) (.inr ⟨lb rfl, lb rfl⟩) ?_
 refine .nn ?_
 obtain rfl := sj h
 refine ⟨st9 v5, ?_, .inl rfl, retH [20000, 20104, 20103, 20102, 20101, 20100] ?_ ?_⟩
 exact .m [0] [20000, 20115, 20116, 20117, 20118, 20119] [(20115, 20100), (20116, 20101), (20117, 20102), (20118, 20103), (20119, 20104)]
 exact rsi0
 rfl
 replace h := za1 h hc4
 refine .skip ?_
 obtain rfl := sj h
 refine ⟨st9 v2, ?_, .inl rfl, retH [20000, 20104, 20103, 20102, 20101, 20100] ?_ ?_⟩
 exact .m [0] [20000, 20107, 20108, 20109, 20110, 20111] [(20107, 20100), (20108, 20101), (20109, 20102), (20110, 20103), (20111, 20104)]
 exact rsi0
 rfl
@[go_sem] def st7 (r : Int × Tdecree_world) : St := ⟨[(0, .ptr 20000 0), (6, .int .i64 r.1)], [(20000, .box [.ref 20100 1 0 r.2.World.Members.length (some uC), .ref 20101 3 0 r.2.World.Votes.length (some uC), .ref 20102 7 0 r.2.World.Tries.length (some uC), .ref 20103 10 0 r.2.World.Mail.length (some uC), .ref 20104 2 0 r.2.World.Chosen.length (some uC)]), (20100, .arr 3 1 true (r.2.World.Members.map (D.int .i64))), (20101, .arr 51 3 true (r.2.World.Votes.map TVote.d)), (20102, .arr 49 7 true (r.2.World.Tries.map TAttempt.n)), (20103, .arr 43 10 true (r.2.World.Mail.map TMail.d)), (20104, .arr 45 2 true (r.2.World.Chosen.map TChoice.d))], 20105⟩
theorem zks (a0 : Tdecree_world) (a1 : Int) (a2 : List UInt8) (r : Int × Tdecree_world) (h : zep a0 a1 a2 = some r) : zd1 Tryz.prog 17 [.ptr 20000 0, .int .i64 a1, .str a2] [(20000, .box [.ref 20001 1 0 a0.World.Members.length (some uC), .ref 20002 3 0 a0.World.Votes.length (some uC), .ref 20003 7 0 a0.World.Tries.length (some uC), .ref 20004 10 0 a0.World.Mail.length (some uC), .ref 20005 2 0 a0.World.Chosen.length (some uC)]), (20001, .arr 3 1 true (a0.World.Members.map (D.int .i64))), (20002, .arr 51 3 true (a0.World.Votes.map TVote.d)), (20003, .arr 49 7 true (a0.World.Tries.map TAttempt.n)), (20004, .arr 43 10 true (a0.World.Mail.map TMail.d)), (20005, .arr 45 2 true (a0.World.Chosen.map TChoice.d))] (.int .i64 r.1) [(20000, some (.box [.ref 20100 1 0 r.2.World.Members.length (some uC), .ref 20101 3 0 r.2.World.Votes.length (some uC), .ref 20102 7 0 r.2.World.Tries.length (some uC), .ref 20103 10 0 r.2.World.Mail.length (some uC), .ref 20104 2 0 r.2.World.Chosen.length (some uC)])), (20001, none), (20002, none), (20003, none), (20004, none), (20005, none), (20100, some (.arr 3 1 true (r.2.World.Members.map (D.int .i64)))), (20101, some (.arr 51 3 true (r.2.World.Votes.map TVote.d))), (20102, some (.arr 49 7 true (r.2.World.Tries.map TAttempt.n))), (20103, some (.arr 43 10 true (r.2.World.Mail.map TMail.d))), (20104, some (.arr 45 2 true (r.2.World.Chosen.map TChoice.d)))] (20100, 20150) := by
 refine zab Tryz.tmOk Tryz.func17 rfl (by decide) (lb rfl) (by simp) ?_
 intro hwf
 unfold zep at h
 refine .ends 20100 (Nat.le_refl _) ?_
 refine .seq (.pl zS [0, 1, 2] ?_)
 refine .seq ?_
 obtain ⟨k1, h⟩ := zaa h
 have e1 := zax TVote.d a0.World.Votes a1
 replace e1 := e1 k1
 refine .rg zS [0, 1, 2] ?_
 refine .rnx 6 e1 ?_
 refine .rnx 4 e1 ?_
 refine .nn ?_
 obtain ⟨v1, hv1, h⟩ := bind_some h
 refine .seq (.rg zS [0, 1, 2, 7] ?_)
 refine .rn 3 ?_
 refine .cl (zoy ((a0.World.Votes.getD a1.toNat default).Promised) a1 v1 hv1) ?_
 refine .rn 5 ?_
 refine .nn ?_
 refine .seq (.seq (.pl zS [0, 1, 2, 7, 8, 9] ?_))
 refine .cd (fun hc1 => ?_) (fun hc1 => ?_)
 replace h := za0 h hc1
 refine .seq (.pl zS [0, 9] ?_)
 obtain rfl := sj h
 refine .ret ⟨st7 (v1.2, a0), ?_, .inr rfl, retH [20000, 20104, 20103, 20102, 20101, 20100] ?_ ?_⟩
 exact .m [0, 6] [20000, 20001, 20002, 20003, 20004, 20005] [(20001, 20100), (20002, 20101), (20003, 20102), (20004, 20103), (20005, 20104)]
 exact rsi0
 rfl
 replace h := za1 h hc1
 refine .skip (.seq (.seq ?_))
 obtain ⟨v2, hv2, h⟩ := bind_some h
 obtain ⟨k2, h⟩ := zaa h
 have e2 := zax TVote.d a0.World.Votes a1
 have es1 := zgr TVote.d a0.World.Votes a1.toNat v2.1
 replace e2 := e2 k2
 replace es1 : setN (a0.World.Votes.map TVote.d) a1.toNat (.agg [.int .i64 v2.1.Promised, .int .i64 v2.1.Ballot, .str v2.1.Value]) = (a0.World.Votes.set a1.toNat v2.1).map TVote.d := es1
 refine .rg zS [0, 1, 2, 7, 8] ?_
 refine .rdx 8 (ai e2 es1) ?_
 refine .cl (zk1 (a0.World.Votes.getD a1.toNat default) v1.1 v2 hv2) ?_
 refine .rdx 6 (ai e2 es1) ?_
 refine .nd ?_
 refine .seq (.pl zS [0, 1, 2, 7, 8, 9] ?_)
 refine .cd (fun hc2 => ?_) (fun hc2 => ?_)
 replace h := za0 h hc2
 refine .seq (.pl zS [0, 9] ?_)
 obtain rfl := sj h
 refine .ret ⟨st7 (v2.2, (⟨(⟨a0.World.Members, (a0.World.Votes.set a1.toNat v2.1), a0.World.Tries, a0.World.Mail, a0.World.Chosen⟩ : TWorld)⟩ : Tdecree_world)), ?_, .inr rfl, retH [20000, 20104, 20103, 20102, 20101, 20100] ?_ ?_⟩
 exact .m [0, 6] [20000, 20001, 20002, 20003, 20004, 20005] [(20001, 20100), (20002, 20101), (20003, 20102), (20004, 20103), (20005, 20104)]
 exact rsi0
 rfl
 replace h := za1 h hc2
 refine .skip (.seq (.seq ?_))
 obtain ⟨v3, hv3, h⟩ := bind_some h
 obtain ⟨k3, h⟩ := zaa h
 have e3 := zax TAttempt.n a0.World.Tries a1
 have es2 := zgr TAttempt.n a0.World.Tries a1.toNat v3.1
 replace e3 := e3 k3
 replace es2 : setN (a0.World.Tries.map TAttempt.n) a1.toNat (.agg [.int .u8 v3.1.Phase, .int .i64 v3.1.Ballot, .imm 1 (v3.1.Members.map (D.int .i64)) 13, .str v3.1.Wish, .str v3.1.Value, .imm 3 (v3.1.Promises.map TPromise.d) 13, .imm 1 (v3.1.Accepted.map (D.int .i64)) 13]) = (a0.World.Tries.set a1.toNat v3.1).map TAttempt.n := es2
 refine .rg zS [0, 1, 2, 7, 8] ?_
 refine .rdx 6 (ai e3 es2) ?_
 refine .rdx 7 (ai e3 es2) ?_
 refine .lcall (r := .tuple [.agg [.int .u8 v3.1.Phase, .int .i64 v3.1.Ballot, .imm 1 (v3.1.Members.map (D.int .i64)) 13, .str v3.1.Wish, .str v3.1.Value, .imm 3 (v3.1.Promises.map TPromise.d) 13, .imm 1 (v3.1.Accepted.map (D.int .i64)) 13], .int .i64 v3.2]) [] rfl rfl rfl rfl rfl (za3 (zfh (zen (ziq .i64) (by first | rfl | (simp only [go_sem, Nat.reduceBEq]; rfl)) (by first | rfl | (simp; done) | (simp <;> omega))) trivial) (za3 rfl (za3 rfl zai))) rfl (znd a0.World.Members v1.1 a2 v3 hv3) ?_
 refine .rdx 6 (ai e3 es2) ?_
 refine .nd ?_
 refine .seq (.pl zS [0, 1, 7, 8, 9] ?_)
 refine .cd (fun hc3 => ?_) (fun hc3 => ?_)
 replace h := za0 h hc3
 refine .seq (.pl zS [0, 9] ?_)
 obtain rfl := sj h
 refine .ret ⟨st7 (v3.2, (⟨(⟨a0.World.Members, (a0.World.Votes.set a1.toNat v2.1), (a0.World.Tries.set a1.toNat v3.1), a0.World.Mail, a0.World.Chosen⟩ : TWorld)⟩ : Tdecree_world)), ?_, .inr rfl, retH [20000, 20104, 20103, 20102, 20101, 20100] ?_ ?_⟩
 exact .m [0, 6] [20000, 20001, 20002, 20003, 20004, 20005] [(20001, 20100), (20002, 20101), (20003, 20102), (20004, 20103), (20005, 20104)]
 exact rsi0
 rfl
 replace h := za1 h hc3
 refine .skip ?_
 obtain ⟨v4, hv4, h⟩ := bind_some h
 refine .seq (.rg zS [0, 1, 7, 8] ?_)
 refine .rn 4 ?_
 refine .hcall (H := [(20000, .box [.ref 20001 1 0 a0.World.Members.length (some uC), .ref 20002 3 0 a0.World.Votes.length (some uC), .ref 20003 7 0 a0.World.Tries.length (some uC), .ref 20004 10 0 a0.World.Mail.length (some uC), .ref 20005 2 0 a0.World.Chosen.length (some uC)]), (20001, .arr 3 1 true (a0.World.Members.map (D.int .i64))), (20002, .arr 51 3 true ((a0.World.Votes.set a1.toNat v2.1).map TVote.d)), (20003, .arr 49 7 true ((a0.World.Tries.set a1.toNat v3.1).map TAttempt.n)), (20004, .arr 43 10 true (a0.World.Mail.map TMail.d)), (20005, .arr 45 2 true (a0.World.Chosen.map TChoice.d))]) (eff := [(20000, some (.box [.ref 20107 1 0 v4.World.Members.length (some uC), .ref 20108 3 0 v4.World.Votes.length (some uC), .ref 20109 7 0 v4.World.Tries.length (some uC), .ref 20110 10 0 v4.World.Mail.length (some uC), .ref 20111 2 0 v4.World.Chosen.length (some uC)])), (20001, none), (20002, none), (20003, none), (20004, none), (20005, none), (20107, some (.arr 3 1 true (v4.World.Members.map (D.int .i64)))), (20108, some (.arr 51 3 true (v4.World.Votes.map TVote.d))), (20109, some (.arr 49 7 true (v4.World.Tries.map TAttempt.n))), (20110, some (.arr 43 10 true (v4.World.Mail.map TMail.d))), (20111, some (.arr 45 2 true (v4.World.Chosen.map TChoice.d)))]) (nw := (20107, 20114)) (r := .tuple []) rfl rfl rfl rfl rfl (by have t := (za5 20005 20005 (za5 20004 20004 (za5 20003 20003 (za5 20002 20002 (za5 20001 20001 (za5 20000 20000 (zfe 20107 (zhs (⟨(⟨a0.World.Members, (a0.World.Votes.set a1.toNat v2.1), (a0.World.Tries.set a1.toNat v3.1), a0.World.Mail, a0.World.Chosen⟩ : TWorld)⟩ : Tdecree_world) (⟨a1, 0, 1, 0, 0, v1.1, 0, [], 0, 0⟩ : TMail) v4 hv4)))))))); simp only [List.length_set] at t; exact t) (fun id b h => zcr [20000, 20001, 20002, 20003, 20004, 20005] _ id b h) (by simp) (.inr ⟨lb rfl, lb rfl⟩) ?_
 refine .nn ?_
 obtain ⟨v5, hv5, h⟩ := bind_some h
 refine .seq (.rg zS [0, 1, 7, 8] ?_)
 refine .rn 6 ?_
 refine .rn 3 ?_
 refine .hcall (H := [(20000, .box [.ref 20107 1 0 v4.World.Members.length (some uC), .ref 20108 3 0 v4.World.Votes.length (some uC), .ref 20109 7 0 v4.World.Tries.length (some uC), .ref 20110 10 0 v4.World.Mail.length (some uC), .ref 20111 2 0 v4.World.Chosen.length (some uC)]), (20107, .arr 3 1 true (v4.World.Members.map (D.int .i64))), (20108, .arr 51 3 true (v4.World.Votes.map TVote.d)), (20109, .arr 49 7 true (v4.World.Tries.map TAttempt.n)), (20110, .arr 43 10 true (v4.World.Mail.map TMail.d)), (20111, .arr 45 2 true (v4.World.Chosen.map TChoice.d))]) (eff := [(20000, some (.box [.ref 20124 1 0 v5.World.Members.length (some uC), .ref 20125 3 0 v5.World.Votes.length (some uC), .ref 20126 7 0 v5.World.Tries.length (some uC), .ref 20127 10 0 v5.World.Mail.length (some uC), .ref 20128 2 0 v5.World.Chosen.length (some uC)])), (20107, none), (20108, none), (20109, none), (20110, none), (20111, none), (20124, some (.arr 3 1 true (v5.World.Members.map (D.int .i64)))), (20125, some (.arr 51 3 true (v5.World.Votes.map TVote.d))), (20126, some (.arr 49 7 true (v5.World.Tries.map TAttempt.n))), (20127, some (.arr 43 10 true (v5.World.Mail.map TMail.d))), (20128, some (.arr 45 2 true (v5.World.Chosen.map TChoice.d)))]) (nw := (20124, 20148)) (r := .tuple []) rfl rfl rfl rfl rfl (za5 20005 20111 (za5 20004 20110 (za5 20003 20109 (za5 20002 20108 (za5 20001 20107 (za5 20000 20000 (zfe 20124 (zgq v4 a1 v1.1 (⟨a1, (a0.World.Votes.getD a1.toNat default).Ballot, (a0.World.Votes.getD a1.toNat default).Value⟩ : TPromise) v5 hv5)))))))) (fun id b h => zcr [20000, 20107, 20108, 20109, 20110, 20111] _ id b h) (by simp) (.inr ⟨lb rfl, lb rfl⟩) ?_
 refine .nn ?_
 refine .seq (.pl zS [0] ?_)
 obtain rfl := sj h
 refine .ret ⟨st7 (0, v5), ?_, .inr rfl, retH [20000, 20104, 20103, 20102, 20101, 20100] ?_ ?_⟩
 exact .m [0, 6] [20000, 20124, 20125, 20126, 20127, 20128] [(20124, 20100), (20125, 20101), (20126, 20102), (20127, 20103), (20128, 20104)]
 exact rsi0
 rfl
@[go_sem] def st57 (a0 : Tdecree_world) (a1 : TMail) (n1 : Int) (n2 : Int) (s1 : List UInt8) (n3 : Int) (n4 : Int) (s2 : List UInt8) (n5 : Int) : St := ⟨[(0, .ptr 20000 0), (4, .int .i64 a1.To), (5, .ptr 20101 0), (6, .ptr 20102 0), (7, .int .i64 n5)], [(20000, .box [.ref 20001 1 0 a0.World.Members.length (some uC), .ref 20002 3 0 a0.World.Votes.length (some uC), .ref 20003 7 0 a0.World.Tries.length (some uC), .ref 20004 10 0 a0.World.Mail.length (some uC), .ref 20005 2 0 a0.World.Chosen.length (some uC)]), (20001, .arr 3 1 true (a0.World.Members.map (D.int .i64))), (20002, .arr 51 3 true (a0.World.Votes.map TVote.d)), (20003, .arr 49 7 true (a0.World.Tries.map TAttempt.n)), (20004, .arr 43 10 true (a0.World.Mail.map TMail.d)), (20005, .arr 45 2 true (a0.World.Chosen.map TChoice.d)), (20101, .box [.int .i64 n1, .int .i64 n2, .str s1]), (20102, .box [.int .i64 a1.To, .int .i64 a1.From, .int .u8 n3, .int .i64 0, .int .i64 0, .int .i64 a1.Ballot, .int .i64 n4, .str s2, .int .i64 0, .int .i64 0])], 20103⟩
@[go_sem] def st58 (a0 : Tdecree_world) (a1 : TMail) (l1 : List TVote) (n6 : Int) (n7 : Int) (s3 : List UInt8) : St := ⟨[(0, .ptr 20000 0), (6, .ptr 20102 0)], [(20000, .box [.ref 20001 1 0 a0.World.Members.length (some uC), .ref 20103 3 0 l1.length (some uC), .ref 20003 7 0 a0.World.Tries.length (some uC), .ref 20004 10 0 a0.World.Mail.length (some uC), .ref 20005 2 0 a0.World.Chosen.length (some uC)]), (20001, .arr 3 1 true (a0.World.Members.map (D.int .i64))), (20003, .arr 49 7 true (a0.World.Tries.map TAttempt.n)), (20004, .arr 43 10 true (a0.World.Mail.map TMail.d)), (20005, .arr 45 2 true (a0.World.Chosen.map TChoice.d)), (20102, .box [.int .i64 a1.To, .int .i64 a1.From, .int .u8 n6, .int .i64 0, .int .i64 0, .int .i64 a1.Ballot, .int .i64 n7, .str s3, .int .i64 0, .int .i64 0]), (20103, .arr 51 3 true (l1.map TVote.d))], 20104⟩
@[go_sem] def st8 (r : Tdecree_world) : St := ⟨[(0, .ptr 20000 0)], [(20000, .box [.ref 20100 1 0 r.World.Members.length (some uC), .ref 20101 3 0 r.World.Votes.length (some uC), .ref 20102 7 0 r.World.Tries.length (some uC), .ref 20103 10 0 r.World.Mail.length (some uC), .ref 20104 2 0 r.World.Chosen.length (some uC)]), (20100, .arr 3 1 true (r.World.Members.map (D.int .i64))), (20101, .arr 51 3 true (r.World.Votes.map TVote.d)), (20102, .arr 49 7 true (r.World.Tries.map TAttempt.n)), (20103, .arr 43 10 true (r.World.Mail.map TMail.d)), (20104, .arr 45 2 true (r.World.Chosen.map TChoice.d))], 20105⟩
theorem zli (a0 : Tdecree_world) (a1 : TMail) (r : Tdecree_world) (h : zf5 a0 a1 = some r) : zd1 Tryz.prog 19 [.ptr 20000 0, .agg [.int .i64 a1.From, .int .i64 a1.To, .int .u8 a1.Kind, .int .i64 a1.Group, .int .i64 a1.Slot, .int .i64 a1.Ballot, .int .i64 a1.Prior, .str a1.Value, .int .i64 a1.Id, .int .i64 a1.Time]] [(20000, .box [.ref 20001 1 0 a0.World.Members.length (some uC), .ref 20002 3 0 a0.World.Votes.length (some uC), .ref 20003 7 0 a0.World.Tries.length (some uC), .ref 20004 10 0 a0.World.Mail.length (some uC), .ref 20005 2 0 a0.World.Chosen.length (some uC)]), (20001, .arr 3 1 true (a0.World.Members.map (D.int .i64))), (20002, .arr 51 3 true (a0.World.Votes.map TVote.d)), (20003, .arr 49 7 true (a0.World.Tries.map TAttempt.n)), (20004, .arr 43 10 true (a0.World.Mail.map TMail.d)), (20005, .arr 45 2 true (a0.World.Chosen.map TChoice.d))] (.tuple []) [(20000, some (.box [.ref 20100 1 0 r.World.Members.length (some uC), .ref 20101 3 0 r.World.Votes.length (some uC), .ref 20102 7 0 r.World.Tries.length (some uC), .ref 20103 10 0 r.World.Mail.length (some uC), .ref 20104 2 0 r.World.Chosen.length (some uC)])), (20001, none), (20002, none), (20003, none), (20004, none), (20005, none), (20100, some (.arr 3 1 true (r.World.Members.map (D.int .i64)))), (20101, some (.arr 51 3 true (r.World.Votes.map TVote.d))), (20102, some (.arr 49 7 true (r.World.Tries.map TAttempt.n))), (20103, some (.arr 43 10 true (r.World.Mail.map TMail.d))), (20104, some (.arr 45 2 true (r.World.Chosen.map TChoice.d)))] (20100, 20150) := by
 refine zab Tryz.tmOk Tryz.func19 rfl (by decide) (lb rfl) (by simp) ?_
 intro hwf
 unfold zf5 at h
 refine .ends 20100 (Nat.le_refl _) ?_
 refine .seq (.pl zS [0, 1] ?_)
 refine .seq ?_
 obtain ⟨k1, h⟩ := zaa h
 have e1 := zax TVote.d a0.World.Votes a1.To
 replace e1 := e1 k1
 refine .rg zS [0, 3] ?_
 refine .rdx 6 e1 ?_
 refine .rdx 8 e1 ?_
 refine .nd ?_
 refine .seq (.pl zS [0, 3, 4, 5] ?_)
 refine .seq (.pl zS [0, 3, 4, 5, 6] ?_)
 obtain ⟨x1, hx1, h⟩ := bind_some h
 refine .seqM 20103 (fun (j : Int × Int × (List UInt8) × Int × Int × (List UInt8) × Int) => st57 a0 a1 j.1 j.2.1 j.2.2.1 j.2.2.2.1 j.2.2.2.2.1 j.2.2.2.2.2.1 j.2.2.2.2.2.2) (fun j => x1 = (.inr j)) (lb rfl) ?_ ?_
 refine .seq (.pl zS [0, 3, 4, 5, 6, 7] ?_)
 refine .block (.seq (.pl zS [0, 3, 4, 5, 6, 7, 26] ?_))
 refine .cd (fun hc1 => ?_) (fun hc1 => ?_)
 replace hx1 := za0 hx1 hc1
 refine .seq ?_
 obtain ⟨v1, hv1, hx1⟩ := bind_some hx1
 refine .rg zS [0, 3, 4] ?_
 refine .rn 6 ?_
 refine .rn 5 ?_
 refine .hcall (H := [(20000, .box [.ref 20001 1 0 a0.World.Members.length (some uC), .ref 20002 3 0 a0.World.Votes.length (some uC), .ref 20003 7 0 a0.World.Tries.length (some uC), .ref 20004 10 0 a0.World.Mail.length (some uC), .ref 20005 2 0 a0.World.Chosen.length (some uC)]), (20001, .arr 3 1 true (a0.World.Members.map (D.int .i64))), (20002, .arr 51 3 true (a0.World.Votes.map TVote.d)), (20003, .arr 49 7 true (a0.World.Tries.map TAttempt.n)), (20004, .arr 43 10 true (a0.World.Mail.map TMail.d)), (20005, .arr 45 2 true (a0.World.Chosen.map TChoice.d))]) (eff := [(20000, some (.box [.ref 20124 1 0 v1.World.Members.length (some uC), .ref 20125 3 0 v1.World.Votes.length (some uC), .ref 20126 7 0 v1.World.Tries.length (some uC), .ref 20127 10 0 v1.World.Mail.length (some uC), .ref 20128 2 0 v1.World.Chosen.length (some uC)])), (20001, none), (20002, none), (20003, none), (20004, none), (20005, none), (20124, some (.arr 3 1 true (v1.World.Members.map (D.int .i64)))), (20125, some (.arr 51 3 true (v1.World.Votes.map TVote.d))), (20126, some (.arr 49 7 true (v1.World.Tries.map TAttempt.n))), (20127, some (.arr 43 10 true (v1.World.Mail.map TMail.d))), (20128, some (.arr 45 2 true (v1.World.Chosen.map TChoice.d)))]) (nw := (20124, 20148)) (r := .tuple []) rfl rfl rfl rfl rfl (za5 20005 20005 (za5 20004 20004 (za5 20003 20003 (za5 20002 20002 (za5 20001 20001 (za5 20000 20000 (zfe 20124 (zgq a0 a1.To a1.Ballot (⟨a1.From, a1.Prior, a1.Value⟩ : TPromise) v1 hv1)))))))) (fun id b h => zcr [20000, 20001, 20002, 20003, 20004, 20005] _ id b h) (by simp) (.inr ⟨lb rfl, lb rfl⟩) ?_
 refine .nn ?_
 have hq := sj hx1
 subst x1
 try dsimp only at h
 obtain rfl := sj h
 refine .ret ⟨st8 v1, ?_, .inr rfl, retH [20000, 20104, 20103, 20102, 20101, 20100] ?_ ?_⟩
 exact .m [0] [20000, 20124, 20125, 20126, 20127, 20128] [(20124, 20100), (20125, 20101), (20126, 20102), (20127, 20103), (20128, 20104)]
 exact rsi0
 rfl
 replace hx1 := za1 hx1 hc1
 refine .seq (.pl zS [0, 3, 4, 5, 6, 7, 26] ?_)
 refine .cd (fun hc2 => ?_) (fun hc2 => ?_)
 replace hx1 := za0 hx1 hc2
 refine .seq ?_
 obtain ⟨v2, hv2, hx1⟩ := bind_some hx1
 refine .rg zS [0, 3, 4] ?_
 refine .rn 6 ?_
 refine .hcall (H := [(20000, .box [.ref 20001 1 0 a0.World.Members.length (some uC), .ref 20002 3 0 a0.World.Votes.length (some uC), .ref 20003 7 0 a0.World.Tries.length (some uC), .ref 20004 10 0 a0.World.Mail.length (some uC), .ref 20005 2 0 a0.World.Chosen.length (some uC)]), (20001, .arr 3 1 true (a0.World.Members.map (D.int .i64))), (20002, .arr 51 3 true (a0.World.Votes.map TVote.d)), (20003, .arr 49 7 true (a0.World.Tries.map TAttempt.n)), (20004, .arr 43 10 true (a0.World.Mail.map TMail.d)), (20005, .arr 45 2 true (a0.World.Chosen.map TChoice.d))]) (eff := [(20000, some (.box [.ref 20107 1 0 v2.World.Members.length (some uC), .ref 20108 3 0 v2.World.Votes.length (some uC), .ref 20109 7 0 v2.World.Tries.length (some uC), .ref 20110 10 0 v2.World.Mail.length (some uC), .ref 20111 2 0 v2.World.Chosen.length (some uC)])), (20001, none), (20002, none), (20003, none), (20004, none), (20005, none), (20107, some (.arr 3 1 true (v2.World.Members.map (D.int .i64)))), (20108, some (.arr 51 3 true (v2.World.Votes.map TVote.d))), (20109, some (.arr 49 7 true (v2.World.Tries.map TAttempt.n))), (20110, some (.arr 43 10 true (v2.World.Mail.map TMail.d))), (20111, some (.arr 45 2 true (v2.World.Chosen.map TChoice.d)))]) (nw := (20107, 20114)) (r := .tuple []) rfl rfl rfl rfl rfl (za5 20005 20005 (za5 20004 20004 (za5 20003 20003 (za5 20002 20002 (za5 20001 20001 (za5 20000 20000 (zfe 20107 (zhh a0 a1.To a1.Ballot a1.From v2 hv2)))))))) (fun id b h => zcr [20000, 20001, 20002, 20003, 20004, 20005] _ id b h) (by simp) (.inr ⟨lb rfl, lb rfl⟩) ?_
 refine .nn ?_
 have hq := sj hx1
 subst x1
 try dsimp only at h
 obtain rfl := sj h
 refine .ret ⟨st8 v2, ?_, .inr rfl, retH [20000, 20104, 20103, 20102, 20101, 20100] ?_ ?_⟩
 exact .m [0] [20000, 20107, 20108, 20109, 20110, 20111] [(20107, 20100), (20108, 20101), (20109, 20102), (20110, 20103), (20111, 20104)]
 exact rsi0
 rfl
 replace hx1 := za1 hx1 hc2
 refine .seq (.pl zS [0, 3, 4, 5, 6, 7, 26] ?_)
 refine .cd (fun hc3 => ?_) (fun hc3 => ?_)
 replace hx1 := za0 hx1 hc3
 have hq := sj hx1
 subst x1
 try dsimp only at h
 obtain rfl := sj h
 refine .ret ⟨st8 a0, ?_, .inr rfl, retH [20000, 20104, 20103, 20102, 20101, 20100] ?_ ?_⟩
 exact .m [0] [20000, 20001, 20002, 20003, 20004, 20005] [(20001, 20100), (20002, 20101), (20003, 20102), (20004, 20103), (20005, 20104)]
 exact rsi0
 rfl
 replace hx1 := za1 hx1 hc3
 refine .seq (.pl zS [0, 3, 4, 5, 6, 7, 26] ?_)
 refine .cd (fun hc4 => ?_) (fun hc4 => ?_)
 replace hx1 := za0 hx1 hc4
 refine .seq ?_
 obtain ⟨v3, hv3, hx1⟩ := bind_some hx1
 refine .rg zS [0, 3, 4, 5, 6] ?_
 refine .rn 3 ?_
 refine .cl (zk1 (a0.World.Votes.getD a1.To.toNat default) a1.Ballot v3 hv3) ?_
 refine .rn 5 ?_
 refine .nn ?_
 refine .rg zS [0, 4, 5, 6, 7] ?_
 refine .rd 6 ?_
 refine .rd 4 ?_
 refine .nd ?_
 refine ⟨_, ?_, (sj hx1).symm⟩
 exact .m [0, 4, 5, 6, 7] [20000, 20001, 20002, 20003, 20004, 20005, 20101, 20102] []
 replace hx1 := za1 hx1 hc4
 refine .seq (.pl zS [0, 3, 4, 5, 6, 7, 26] ?_)
 refine .cd (fun hc5 => ?_) (fun hc5 => ?_)
 replace hx1 := za0 hx1 hc5
 refine .seq ?_
 obtain ⟨v4, hv4, hx1⟩ := bind_some hx1
 refine .rg zS [0, 3, 4, 5, 6] ?_
 refine .rn 5 ?_
 refine .cl (zkn (a0.World.Votes.getD a1.To.toNat default) a1.Ballot a1.Value v4 hv4) ?_
 refine .rn 5 ?_
 refine .nn ?_
 refine .pl zS [0, 4, 5, 6, 7] ?_
 refine ⟨_, ?_, (sj hx1).symm⟩
 exact .m [0, 4, 5, 6, 7] [20000, 20001, 20002, 20003, 20004, 20005, 20101, 20102] []
 replace hx1 := za1 hx1 hc5
 refine .skip ?_
 refine ⟨_, ?_, (sj hx1).symm⟩
 exact .m [0, 4, 5, 6, 7] [20000, 20001, 20002, 20003, 20004, 20005, 20101, 20102] []
 rintro ⟨n1, n2, s1, n3, n4, s2, n5⟩ hj1
 subst x1
 try dsimp only at h
 simp only [st57]
 obtain ⟨x2, hx2, h⟩ := bind_some h
 refine .seqM 20103 (fun (j : (List TVote) × Int × Int × (List UInt8)) => st58 a0 a1 j.1 j.2.1 j.2.2.1 j.2.2.2) (fun j => x2 = j) (lb rfl) ?_ ?_
 refine .seq (.pl zS [0, 4, 5, 6, 7] ?_)
 refine .cd (fun hc6 => ?_) (fun hc6 => ?_)
 replace hx2 := za0 hx2 hc6
 obtain ⟨k2, hx2⟩ := zaa hx2
 have e2 := zax TVote.d a0.World.Votes a1.To
 replace e2 := e2 k2
 refine .rg zS [0, 4, 6] ?_
 refine .rdx 6 e2 ?_
 refine .rdx 6 e2 ?_
 refine .rdx 3 e2 ?_
 refine .nd ?_
 refine ⟨_, ?_, (sj hx2).symm⟩
 exact .m [0, 6] [20000, 20001, 20003, 20004, 20005, 20102, 20002] [(20002, 20103)]
 replace hx2 := za1 hx2 hc6
 obtain ⟨k3, hx2⟩ := zaa hx2
 have e3 := zax TVote.d a0.World.Votes a1.To
 have es1 := zgr TVote.d a0.World.Votes a1.To.toNat (⟨n1, n2, s1⟩ : TVote)
 replace e3 := e3 k3
 replace es1 : setN (a0.World.Votes.map TVote.d) a1.To.toNat (.agg [.int .i64 n1, .int .i64 n2, .str s1]) = (a0.World.Votes.set a1.To.toNat (⟨n1, n2, s1⟩ : TVote)).map TVote.d := es1
 refine .rg zS [0, 4, 5, 6] ?_
 refine .rdx 6 (ai e3 es1) ?_
 refine .rdx 3 (ai e3 es1) ?_
 refine .nd ?_
 refine ⟨_, ?_, (sj hx2).symm⟩
 exact .m [0, 6] [20000, 20001, 20003, 20004, 20005, 20102, 20002] [(20002, 20103)]
 rintro ⟨l1, n6, n7, s3⟩ hj2
 subst x2
 try dsimp only at h
 simp only [st58]
 obtain ⟨k4, h⟩ := zaa h
 refine .rg zS [0, 6] ?_
 refine .rd 6 ?_
 refine .rd 7 ?_
 refine .nd ?_
 obtain rfl := sj h
 refine ⟨st8 (⟨(⟨a0.World.Members, l1, a0.World.Tries, (a0.World.Mail ++ [(⟨a1.To, a1.From, n6, 0, 0, a1.Ballot, n7, s3, 0, 0⟩ : TMail)]), a0.World.Chosen⟩ : TWorld)⟩ : Tdecree_world), ?_, .inl rfl, retH [20000, 20104, 20103, 20102, 20101, 20100] ?_ ?_⟩
 exact .m [0] [20000, 20001, 20103, 20003, 20105, 20005] [(20001, 20100), (20103, 20101), (20003, 20102), (20105, 20103), (20005, 20104)]
 exact rsi0
 rfl
@[go_sem] def st51 (l1 : List Int) (l2 : List TVote) (l3 : List TAttempt) (l4 : List TMail) (l5 : List TChoice) : St := ⟨[(4, .ptr 2 0), (7, .ptr 44 0)], [(2, .box [.imm 0 [] 0, .imm 0 [] 0, .imm 0 [] 0, .imm 0 [] 0, .imm 0 [] 0]), (44, .box [.ref 45 1 0 l1.length (some uC), .ref 46 3 0 l2.length (some uC), .ref 47 7 0 l3.length (some uC), .ref 48 10 0 l4.length (some uC), .ref 49 2 0 l5.length (some uC)]), (45, .arr 3 1 true (l1.map (D.int .i64))), (46, .arr 51 3 true (l2.map TVote.d)), (47, .arr 49 7 true (l3.map TAttempt.n)), (48, .arr 43 10 true (l4.map TMail.d)), (49, .arr 45 2 true (l5.map TChoice.d))], 50⟩
@[go_sem] def st52 (a1 : TMove) (v2 : TWorld) (b1 : Bool) : St := ⟨[(3, .ptr 1 0), (4, .ptr 2 0), (7, .ptr 44 0), (21, .int .u8 a1.Kind), (23, .bool b1)], [(1, .box [.int .u8 a1.Kind, .int .i64 a1.Node, .int .i64 a1.At, .str a1.Value]), (2, .box [.imm 0 [] 0, .imm 0 [] 0, .imm 0 [] 0, .imm 0 [] 0, .imm 0 [] 0]), (22, .arr 3 1 true (v2.Members.map (D.int .i64))), (23, .arr 51 3 true (v2.Votes.map TVote.d)), (24, .arr 49 7 true (v2.Tries.map TAttempt.n)), (25, .arr 43 10 true (v2.Mail.map TMail.d)), (26, .arr 45 2 true (v2.Chosen.map TChoice.d)), (44, .box [.ref 22 1 0 v2.Members.length (some uC), .ref 23 3 0 v2.Votes.length (some uC), .ref 24 7 0 v2.Tries.length (some uC), .ref 25 10 0 v2.Mail.length (some uC), .ref 26 2 0 v2.Chosen.length (some uC)])], 45⟩
@[go_sem] def st53 (a1 : TMove) (v2 : TWorld) (b2 : Bool) : St := ⟨[(3, .ptr 1 0), (4, .ptr 2 0), (7, .ptr 44 0), (58, .bool b2)], [(1, .box [.int .u8 a1.Kind, .int .i64 a1.Node, .int .i64 a1.At, .str a1.Value]), (2, .box [.imm 0 [] 0, .imm 0 [] 0, .imm 0 [] 0, .imm 0 [] 0, .imm 0 [] 0]), (22, .arr 3 1 true (v2.Members.map (D.int .i64))), (23, .arr 51 3 true (v2.Votes.map TVote.d)), (24, .arr 49 7 true (v2.Tries.map TAttempt.n)), (25, .arr 43 10 true (v2.Mail.map TMail.d)), (26, .arr 45 2 true (v2.Chosen.map TChoice.d)), (44, .box [.ref 22 1 0 v2.Members.length (some uC), .ref 23 3 0 v2.Votes.length (some uC), .ref 24 7 0 v2.Tries.length (some uC), .ref 25 10 0 v2.Mail.length (some uC), .ref 26 2 0 v2.Chosen.length (some uC)])], 45⟩
@[go_sem] def st54 (a1 : TMove) (v2 : TWorld) (l6 : List TMail) : St := ⟨[(3, .ptr 1 0), (4, .ptr 2 0), (7, .ptr 44 0), (9, .ptr 45 0)], [(1, .box [.int .u8 a1.Kind, .int .i64 a1.Node, .int .i64 a1.At, .str a1.Value]), (2, .box [.imm 0 [] 0, .imm 0 [] 0, .imm 0 [] 0, .imm 0 [] 0, .imm 0 [] 0]), (22, .arr 3 1 true (v2.Members.map (D.int .i64))), (23, .arr 51 3 true (v2.Votes.map TVote.d)), (24, .arr 49 7 true (v2.Tries.map TAttempt.n)), (26, .arr 45 2 true (v2.Chosen.map TChoice.d)), (44, .box [.ref 22 1 0 v2.Members.length (some uC), .ref 23 3 0 v2.Votes.length (some uC), .ref 24 7 0 v2.Tries.length (some uC), .ref 46 10 0 l6.length (some uC), .ref 26 2 0 v2.Chosen.length (some uC)]), (45, .box [.int .i64 ((v2.Mail.getD a1.At.toNat default).From), .int .i64 ((v2.Mail.getD a1.At.toNat default).To), .int .u8 ((v2.Mail.getD a1.At.toNat default).Kind), .int .i64 ((v2.Mail.getD a1.At.toNat default).Group), .int .i64 ((v2.Mail.getD a1.At.toNat default).Slot), .int .i64 ((v2.Mail.getD a1.At.toNat default).Ballot), .int .i64 ((v2.Mail.getD a1.At.toNat default).Prior), .str ((v2.Mail.getD a1.At.toNat default).Value), .int .i64 ((v2.Mail.getD a1.At.toNat default).Id), .int .i64 ((v2.Mail.getD a1.At.toNat default).Time)]), (46, .arr 43 10 true (l6.map TMail.d))], 47⟩
@[go_sem] def st5 (r : TWorld × Int) : St := ⟨[(4, .ptr 5 0), (5, .int .i64 r.2)], [(0, .arr 3 1 true (r.1.Members.map (D.int .i64))), (1, .arr 51 3 true (r.1.Votes.map TVote.d)), (2, .arr 49 7 true (r.1.Tries.map TAttempt.n)), (3, .arr 43 10 true (r.1.Mail.map TMail.d)), (4, .arr 45 2 true (r.1.Chosen.map TChoice.d)), (5, .box [.ref 0 1 0 r.1.Members.length (some uC), .ref 1 3 0 r.1.Votes.length (some uC), .ref 2 7 0 r.1.Tries.length (some uC), .ref 3 10 0 r.1.Mail.length (some uC), .ref 4 2 0 r.1.Chosen.length (some uC)])], 6⟩
theorem zr8 (a0 : TWorld) (a1 : TMove) (r : TWorld × Int) (h : zgk a0 a1 = some r) : zd1 Tryz.prog 6 [.agg [.imm 1 (a0.Members.map (D.int .i64)) 4, .imm 3 (a0.Votes.map TVote.d) 4, .imm 7 (a0.Tries.map TAttempt.d) 4, .imm 10 (a0.Mail.map TMail.d) 4, .imm 2 (a0.Chosen.map TChoice.d) 4], .agg [.int .u8 a1.Kind, .int .i64 a1.Node, .int .i64 a1.At, .str a1.Value]] [] (.tuple [.agg [.ref 0 1 0 r.1.Members.length (some uC), .ref 1 3 0 r.1.Votes.length (some uC), .ref 2 7 0 r.1.Tries.length (some uC), .ref 3 10 0 r.1.Mail.length (some uC), .ref 4 2 0 r.1.Chosen.length (some uC)], .int .i64 r.2]) [(0, some (.arr 3 1 true (r.1.Members.map (D.int .i64)))), (1, some (.arr 51 3 true (r.1.Votes.map TVote.d))), (2, some (.arr 49 7 true (r.1.Tries.map TAttempt.n))), (3, some (.arr 43 10 true (r.1.Mail.map TMail.d))), (4, some (.arr 45 2 true (r.1.Chosen.map TChoice.d)))] (0, 102) := by
 refine zab Tryz.tmOk Tryz.func6 rfl (by decide) (lb rfl) (by simp) ?_
 intro hwf
 unfold zgk at h
 refine .ends 0 (Nat.le_refl _) ?_
 refine .seq (.pl zS [0, 1] ?_)
 refine .seq ?_
 obtain ⟨v1, hv1, h⟩ := bind_some h
 refine .seq (.rg zS [2, 3, 4] ?_)
 refine .rn 1 ?_
 refine .cl (zk2 a0 v1 hv1) ?_
 refine .rn 1 ?_
 refine .nn ?_
 refine .seq (.pl zS [2, 3, 4, 6] ?_)
 refine .cd (fun hc1 => ?_) (fun hc1 => ?_)
 replace h := za0 h hc1
 refine .seq (.pl zS [4, 6] ?_)
 obtain rfl := sj h
 refine .ret ⟨st5 ((⟨[], [], [], [], []⟩ : TWorld), v1), ?_, .inr rfl, retH [4, 3, 2, 1, 0] ?_ ?_⟩
 refine Goes.new0 1 3 (lb rfl) ?_
 refine Goes.new0 3 51 (lb rfl) ?_
 refine Goes.new0 7 49 (lb rfl) ?_
 refine Goes.new0 10 43 (lb rfl) ?_
 refine Goes.new0 2 45 (lb rfl) ?_
 refine Goes.boxs 2 _ [.ref 3 1 0 0 (some uC), .ref 4 3 0 0 (some uC), .ref 5 7 0 0 (some uC), .ref 6 10 0 0 (some uC), .ref 7 2 0 0 (some uC)] rfl (.cons (.own0 3 _ _ _ (by decide)) (.cons (.own0 4 _ _ _ (by decide)) (.cons (.own0 5 _ _ _ (by decide)) (.cons (.own0 6 _ _ _ (by decide)) (.cons (.own0 7 _ _ _ (by decide)) (.refl _)))))) ?_
 exact .m [4, 5] [3, 4, 5, 6, 7, 2] [(3, 0), (4, 1), (5, 2), (6, 3), (7, 4), (2, 5)]
 exact rsi0
 rfl
 replace h := za1 h hc1
 refine .skip ?_
 obtain ⟨v2, hv2, h⟩ := bind_some h
 refine .seq (.rg zS [2, 3, 4] ?_)
 refine .rn 1 ?_
 refine .ncall (r := .agg [.ref 22 1 0 v2.Members.length (some uC), .ref 23 3 0 v2.Votes.length (some uC), .ref 24 7 0 v2.Tries.length (some uC), .ref 25 10 0 v2.Mail.length (some uC), .ref 26 2 0 v2.Chosen.length (some uC)]) (eff := [(22, some (.arr 3 1 true (v2.Members.map (D.int .i64)))), (23, some (.arr 51 3 true (v2.Votes.map TVote.d))), (24, some (.arr 49 7 true (v2.Tries.map TAttempt.n))), (25, some (.arr 43 10 true (v2.Mail.map TMail.d))), (26, some (.arr 45 2 true (v2.Chosen.map TChoice.d)))]) (nw := (22, 44)) [] rfl rfl rfl rfl rfl (za3 rfl zai) rfl (zez 22 (lb rfl) (zkt a0 v2 hv2)) (zb4 rfl rfl (zc5 zcd _ _ _) (zb4 rfl rfl (zc5 zly _ _ _) (zb4 rfl rfl (ztx zjw _ _ _) (zb4 rfl rfl (zc5 zlz _ _ _) (zb4 rfl rfl (zc5 zjf _ _ _) zf9))))) (by intro i hi; simp [D.ids, D.idsL] at hi <;> omega) rfl ⟨lb rfl, lb rfl⟩ ?_
 refine .rn 3 ?_
 refine .nn ?_
 obtain ⟨x1, hx1, h⟩ := bind_some h
 refine .seqM 45 (fun (j : (List Int) × (List TVote) × (List TAttempt) × (List TMail) × (List TChoice)) => st51 j.1 j.2.1 j.2.2.1 j.2.2.2.1 j.2.2.2.2) (fun j => x1 = (.inr j)) (lb rfl) ?_ ?_
 refine .seq (.pl zS [3, 4, 7] ?_)
 refine .block ?_
 obtain ⟨x2, hx2, hx1⟩ := bind_some hx1
 refine .seqM 45 (fun (j : Bool) => st52 a1 v2 j) (fun j => x2 = j) (lb rfl) ?_ ?_
 refine .seq (.pl zS [3, 4, 7, 21] ?_)
 refine .cd (fun hc2 => ?_) (fun hc2 => ?_)
 replace hx2 := za0 hx2 hc2
 refine .skip ?_
 refine ⟨_, ?_, (sj hx2).symm⟩
 exact .m [3, 4, 7, 21, 23] [1, 2, 22, 23, 24, 25, 26, 44] []
 replace hx2 := za1 hx2 hc2
 refine .pl zS [3, 4, 7, 21] ?_
 refine ⟨_, ?_, (sj hx2).symm⟩
 exact .m [3, 4, 7, 21, 23] [1, 2, 22, 23, 24, 25, 26, 44] []
 rintro b1 hj1
 subst x2
 try dsimp only at hx1
 simp only [st52]
 refine .cd (fun hc3 => ?_) (fun hc3 => ?_)
 replace hx1 := za0 hx1 hc3
 refine .seq (.seq ?_)
 obtain ⟨v3, hv3, hx1⟩ := bind_some hx1
 refine .rg zS [3, 4, 7] ?_
 refine .rn 2 ?_
 refine .cl (zgv a1.Node v3 hv3) ?_
 refine .rn 1 ?_
 refine .nn ?_
 refine .cd (fun hc4 => ?_) (fun hc4 => ?_)
 replace hx1 := za0 hx1 hc4
 refine .seq (.pl zS [4] ?_)
 have hq := sj hx1
 subst x1
 try dsimp only at h
 obtain rfl := sj h
 refine .ret ⟨st5 ((⟨[], [], [], [], []⟩ : TWorld), 2), ?_, .inr rfl, retH [4, 3, 2, 1, 0] ?_ ?_⟩
 refine Goes.new0 1 3 (lb rfl) ?_
 refine Goes.new0 3 51 (lb rfl) ?_
 refine Goes.new0 7 49 (lb rfl) ?_
 refine Goes.new0 10 43 (lb rfl) ?_
 refine Goes.new0 2 45 (lb rfl) ?_
 refine Goes.boxs 2 _ [.ref 45 1 0 0 (some uC), .ref 46 3 0 0 (some uC), .ref 47 7 0 0 (some uC), .ref 48 10 0 0 (some uC), .ref 49 2 0 0 (some uC)] rfl (.cons (.own0 45 _ _ _ (by decide)) (.cons (.own0 46 _ _ _ (by decide)) (.cons (.own0 47 _ _ _ (by decide)) (.cons (.own0 48 _ _ _ (by decide)) (.cons (.own0 49 _ _ _ (by decide)) (.refl _)))))) ?_
 exact .m [4, 5] [45, 46, 47, 48, 49, 2] [(45, 0), (46, 1), (47, 2), (48, 3), (49, 4), (2, 5)]
 exact rsi0
 rfl
 replace hx1 := za1 hx1 hc4
 refine .skip (.seq (.seq (.pl zS [3, 4, 7] ?_)))
 refine .cd (fun hc5 => ?_) (fun hc5 => ?_)
 replace hx1 := za0 hx1 hc5
 refine .seq ?_
 obtain ⟨k1, hx1⟩ := zaa hx1
 have e1 := zax TAttempt.n v2.Tries a1.Node
 replace e1 := e1 k1
 refine .rg zS [3, 4, 7] ?_
 refine .rdx 6 e1 ?_
 refine .rdx 4 e1 ?_
 refine .nd ?_
 refine .exit ?_
 refine ⟨_, ?_, (sj hx1).symm⟩
 refine Goes.arr 24 (setN (v2.Tries.map TAttempt.n) a1.Node.toNat (.agg [.int .u8 0, .int .i64 0, .imm 0 [] 0, .str [], .str [], .imm 0 [] 0, .imm 0 [] 0])) ((v2.Tries.set a1.Node.toNat (⟨0, 0, [], [], [], [], []⟩ : TAttempt)).map TAttempt.n) rfl (.set _ _ _ (.agg (.cons (.refl _) (.cons (.refl _) (.cons (.nil12 _ _ _) (.cons (.refl _) (.cons (.refl _) (.cons (.nil12 _ _ _) (.cons (.nil12 _ _ _) WkNs.nil))))))))) ?_
 exact .m [4, 7] [2, 44, 22, 23, 24, 25, 26] [(22, 45), (23, 46), (24, 47), (25, 48), (26, 49)]
 replace hx1 := za1 hx1 hc5
 refine .skip (.seq (.seq (.pl zS [3, 4, 7] ?_)))
 refine .cd (fun hc6 => ?_) (fun hc6 => ?_)
 replace hx1 := za0 hx1 hc6
 refine .seq (.pl zS [4] ?_)
 have hq := sj hx1
 subst x1
 try dsimp only at h
 obtain rfl := sj h
 refine .ret ⟨st5 ((⟨[], [], [], [], []⟩ : TWorld), 3), ?_, .inr rfl, retH [4, 3, 2, 1, 0] ?_ ?_⟩
 refine Goes.new0 1 3 (lb rfl) ?_
 refine Goes.new0 3 51 (lb rfl) ?_
 refine Goes.new0 7 49 (lb rfl) ?_
 refine Goes.new0 10 43 (lb rfl) ?_
 refine Goes.new0 2 45 (lb rfl) ?_
 refine Goes.boxs 2 _ [.ref 45 1 0 0 (some uC), .ref 46 3 0 0 (some uC), .ref 47 7 0 0 (some uC), .ref 48 10 0 0 (some uC), .ref 49 2 0 0 (some uC)] rfl (.cons (.own0 45 _ _ _ (by decide)) (.cons (.own0 46 _ _ _ (by decide)) (.cons (.own0 47 _ _ _ (by decide)) (.cons (.own0 48 _ _ _ (by decide)) (.cons (.own0 49 _ _ _ (by decide)) (.refl _)))))) ?_
 exact .m [4, 5] [45, 46, 47, 48, 49, 2] [(45, 0), (46, 1), (47, 2), (48, 3), (49, 4), (2, 5)]
 exact rsi0
 rfl
 replace hx1 := za1 hx1 hc6
 refine .skip (.seq ?_)
 obtain ⟨v4, hv4, hx1⟩ := bind_some hx1
 refine .rg zS [3, 4, 7] ?_
 refine .rn 5 ?_
 refine .hcall (H := [(44, .box [.ref 22 1 0 v2.Members.length (some uC), .ref 23 3 0 v2.Votes.length (some uC), .ref 24 7 0 v2.Tries.length (some uC), .ref 25 10 0 v2.Mail.length (some uC), .ref 26 2 0 v2.Chosen.length (some uC)]), (22, .arr 3 1 true (v2.Members.map (D.int .i64))), (23, .arr 51 3 true (v2.Votes.map TVote.d)), (24, .arr 49 7 true (v2.Tries.map TAttempt.n)), (25, .arr 43 10 true (v2.Mail.map TMail.d)), (26, .arr 45 2 true (v2.Chosen.map TChoice.d))]) (eff := [(44, some (.box [.ref 45 1 0 v4.2.World.Members.length (some uC), .ref 46 3 0 v4.2.World.Votes.length (some uC), .ref 47 7 0 v4.2.World.Tries.length (some uC), .ref 48 10 0 v4.2.World.Mail.length (some uC), .ref 49 2 0 v4.2.World.Chosen.length (some uC)])), (22, none), (23, none), (24, none), (25, none), (26, none), (45, some (.arr 3 1 true (v4.2.World.Members.map (D.int .i64)))), (46, some (.arr 51 3 true (v4.2.World.Votes.map TVote.d))), (47, some (.arr 49 7 true (v4.2.World.Tries.map TAttempt.n))), (48, some (.arr 43 10 true (v4.2.World.Mail.map TMail.d))), (49, some (.arr 45 2 true (v4.2.World.Chosen.map TChoice.d)))]) (nw := (45, 95)) (r := .int .i64 v4.1) rfl rfl rfl rfl rfl (zo8 45 (za5 20005 26 (za5 20004 25 (za5 20003 24 (za5 20002 23 (za5 20001 22 (za5 20000 44 (zks (⟨v2⟩ : Tdecree_world) a1.Node a1.Value v4 hv4)))))))) (fun id b h => zcr [44, 22, 23, 24, 25, 26] _ id b h) (by simp) (.inr ⟨lb rfl, lb rfl⟩) ?_
 refine .rn 1 ?_
 refine .nn ?_
 refine .seq (.pl zS [4, 7, 8] ?_)
 refine .cd (fun hc7 => ?_) (fun hc7 => ?_)
 replace hx1 := za0 hx1 hc7
 refine .seq (.pl zS [4, 8] ?_)
 have hq := sj hx1
 subst x1
 try dsimp only at h
 obtain rfl := sj h
 refine .ret ⟨st5 ((⟨[], [], [], [], []⟩ : TWorld), v4.1), ?_, .inr rfl, retH [4, 3, 2, 1, 0] ?_ ?_⟩
 refine Goes.new0 1 3 (lb rfl) ?_
 refine Goes.new0 3 51 (lb rfl) ?_
 refine Goes.new0 7 49 (lb rfl) ?_
 refine Goes.new0 10 43 (lb rfl) ?_
 refine Goes.new0 2 45 (lb rfl) ?_
 refine Goes.boxs 2 _ [.ref 95 1 0 0 (some uC), .ref 96 3 0 0 (some uC), .ref 97 7 0 0 (some uC), .ref 98 10 0 0 (some uC), .ref 99 2 0 0 (some uC)] rfl (.cons (.own0 95 _ _ _ (by decide)) (.cons (.own0 96 _ _ _ (by decide)) (.cons (.own0 97 _ _ _ (by decide)) (.cons (.own0 98 _ _ _ (by decide)) (.cons (.own0 99 _ _ _ (by decide)) (.refl _)))))) ?_
 exact .m [4, 5] [95, 96, 97, 98, 99, 2] [(95, 0), (96, 1), (97, 2), (98, 3), (99, 4), (2, 5)]
 exact rsi0
 rfl
 replace hx1 := za1 hx1 hc7
 refine .skip ?_
 refine ⟨_, ?_, (sj hx1).symm⟩
 exact .m [4, 7] [2, 44, 45, 46, 47, 48, 49] []
 replace hx1 := za1 hx1 hc3
 obtain ⟨x3, hx3, hx1⟩ := bind_some hx1
 refine .seqM 45 (fun (j : Bool) => st53 a1 v2 j) (fun j => x3 = j) (lb rfl) ?_ ?_
 refine .seq (.pl zS [3, 4, 7, 21] ?_)
 refine .cd (fun hc8 => ?_) (fun hc8 => ?_)
 replace hx3 := za0 hx3 hc8
 refine .skip ?_
 refine ⟨_, ?_, (sj hx3).symm⟩
 exact .m [3, 4, 7, 58] [1, 2, 22, 23, 24, 25, 26, 44] []
 replace hx3 := za1 hx3 hc8
 refine .seq (.pl zS [3, 4, 7, 21] ?_)
 refine .cd (fun hc9 => ?_) (fun hc9 => ?_)
 replace hx3 := za0 hx3 hc9
 refine .skip ?_
 refine ⟨_, ?_, (sj hx3).symm⟩
 exact .m [3, 4, 7, 58] [1, 2, 22, 23, 24, 25, 26, 44] []
 replace hx3 := za1 hx3 hc9
 refine .pl zS [3, 4, 7, 21] ?_
 refine ⟨_, ?_, (sj hx3).symm⟩
 exact .m [3, 4, 7, 58] [1, 2, 22, 23, 24, 25, 26, 44] []
 rintro b2 hj2
 subst x3
 try dsimp only at hx1
 simp only [st53]
 refine .cd (fun hc10 => ?_) (fun hc10 => ?_)
 replace hx1 := za0 hx1 hc10
 refine .seq (.seq (.rg zS [3, 4, 7] ?_))
 refine .rd 6 ?_
 refine .rd 8 ?_
 refine .nd ?_
 refine .cd (fun hc11 => ?_) (fun hc11 => ?_)
 replace hx1 := za0 hx1 hc11
 refine .seq (.pl zS [4] ?_)
 have hq := sj hx1
 subst x1
 try dsimp only at h
 obtain rfl := sj h
 refine .ret ⟨st5 ((⟨[], [], [], [], []⟩ : TWorld), 6), ?_, .inr rfl, retH [4, 3, 2, 1, 0] ?_ ?_⟩
 refine Goes.new0 1 3 (lb rfl) ?_
 refine Goes.new0 3 51 (lb rfl) ?_
 refine Goes.new0 7 49 (lb rfl) ?_
 refine Goes.new0 10 43 (lb rfl) ?_
 refine Goes.new0 2 45 (lb rfl) ?_
 refine Goes.boxs 2 _ [.ref 45 1 0 0 (some uC), .ref 46 3 0 0 (some uC), .ref 47 7 0 0 (some uC), .ref 48 10 0 0 (some uC), .ref 49 2 0 0 (some uC)] rfl (.cons (.own0 45 _ _ _ (by decide)) (.cons (.own0 46 _ _ _ (by decide)) (.cons (.own0 47 _ _ _ (by decide)) (.cons (.own0 48 _ _ _ (by decide)) (.cons (.own0 49 _ _ _ (by decide)) (.refl _)))))) ?_
 exact .m [4, 5] [45, 46, 47, 48, 49, 2] [(45, 0), (46, 1), (47, 2), (48, 3), (49, 4), (2, 5)]
 exact rsi0
 rfl
 replace hx1 := za1 hx1 hc11
 refine .skip (.seq ?_)
 obtain ⟨k2, hx1⟩ := zaa hx1
 have e2 := zax TMail.d v2.Mail a1.At
 replace e2 := e2 k2
 refine .rg zS [3, 4, 7] ?_
 refine .rdx 6 e2 ?_
 refine .rdx 5 e2 ?_
 refine .nd ?_
 obtain ⟨x4, hx4, hx1⟩ := bind_some hx1
 refine .seqM 46 (fun (j : (List TMail)) => st54 a1 v2 j) (fun j => x4 = j) (lb rfl) ?_ ?_
 refine .seq (.pl zS [3, 4, 7, 9] ?_)
 refine .cd (fun hc12 => ?_) (fun hc12 => ?_)
 replace hx4 := za0 hx4 hc12
 obtain ⟨k3, hx4⟩ := zaa hx4
 obtain ⟨k4, hx4⟩ := zaa hx4
 refine .rg zS [3, 4, 7, 9] ?_
 refine .rd 6 ?_
 refine .rd 5 ?_
 refine .hcall (r := .ref 46 10 0 ((v2.Mail.eraseIdx a1.At.toNat).length) (some uC)) rfl rfl rfl rfl rfl (ya53 25 46 (by decide) v2.Mail a1.At k3 k4) (fun id b h => zcr [25] _ id b h) (by simp) (.inr ⟨Nat.le_refl _, lb rfl⟩) ?_
 refine .rd 4 ?_
 refine .nd ?_
 refine ⟨_, ?_, (sj hx4).symm⟩
 exact .m [3, 4, 7, 9] [1, 2, 22, 23, 24, 26, 44, 45, 46] []
 replace hx4 := za1 hx4 hc12
 refine .skip ?_
 refine ⟨_, ?_, (sj hx4).symm⟩
 exact .m [3, 4, 7, 9] [1, 2, 22, 23, 24, 26, 44, 45, 25] [(25, 46)]
 rintro l6 hj3
 subst x4
 try dsimp only at hx1
 simp only [st54]
 refine .seq (.pl zS [3, 4, 7, 9] ?_)
 refine .cd (fun hc13 => ?_) (fun hc13 => ?_)
 replace hx1 := za0 hx1 hc13
 obtain ⟨v5, hv5, hx1⟩ := bind_some hx1
 refine .rg zS [4, 7, 9] ?_
 refine .rn 2 ?_
 refine .hcall (H := [(44, .box [.ref 22 1 0 v2.Members.length (some uC), .ref 23 3 0 v2.Votes.length (some uC), .ref 24 7 0 v2.Tries.length (some uC), .ref 46 10 0 l6.length (some uC), .ref 26 2 0 v2.Chosen.length (some uC)]), (22, .arr 3 1 true (v2.Members.map (D.int .i64))), (23, .arr 51 3 true (v2.Votes.map TVote.d)), (24, .arr 49 7 true (v2.Tries.map TAttempt.n)), (46, .arr 43 10 true (l6.map TMail.d)), (26, .arr 45 2 true (v2.Chosen.map TChoice.d))]) (eff := [(44, some (.box [.ref 47 1 0 v5.World.Members.length (some uC), .ref 48 3 0 v5.World.Votes.length (some uC), .ref 49 7 0 v5.World.Tries.length (some uC), .ref 50 10 0 v5.World.Mail.length (some uC), .ref 51 2 0 v5.World.Chosen.length (some uC)])), (22, none), (23, none), (24, none), (46, none), (26, none), (47, some (.arr 3 1 true (v5.World.Members.map (D.int .i64)))), (48, some (.arr 51 3 true (v5.World.Votes.map TVote.d))), (49, some (.arr 49 7 true (v5.World.Tries.map TAttempt.n))), (50, some (.arr 43 10 true (v5.World.Mail.map TMail.d))), (51, some (.arr 45 2 true (v5.World.Chosen.map TChoice.d)))]) (nw := (47, 97)) (r := .tuple []) rfl rfl rfl rfl rfl (zo8 47 (za5 20005 26 (za5 20004 46 (za5 20003 24 (za5 20002 23 (za5 20001 22 (za5 20000 44 (zli (⟨(⟨v2.Members, v2.Votes, v2.Tries, l6, v2.Chosen⟩ : TWorld)⟩ : Tdecree_world) (v2.Mail.getD a1.At.toNat default) v5 hv5)))))))) (fun id b h => zcr [44, 22, 23, 24, 46, 26] _ id b h) (by simp) (.inr ⟨lb rfl, lb rfl⟩) ?_
 refine .nn ?_
 refine ⟨_, ?_, (sj hx1).symm⟩
 exact .m [4, 7] [2, 44, 47, 48, 49, 50, 51] [(47, 45), (48, 46), (49, 47), (50, 48), (51, 49)]
 replace hx1 := za1 hx1 hc13
 refine .skip ?_
 refine ⟨_, ?_, (sj hx1).symm⟩
 exact .m [4, 7] [2, 44, 22, 23, 24, 46, 26] [(22, 45), (23, 46), (24, 47), (46, 48), (26, 49)]
 replace hx1 := za1 hx1 hc10
 refine .seq (.pl zS [4] ?_)
 have hq := sj hx1
 subst x1
 try dsimp only at h
 obtain rfl := sj h
 refine .ret ⟨st5 ((⟨[], [], [], [], []⟩ : TWorld), 2), ?_, .inr rfl, retH [4, 3, 2, 1, 0] ?_ ?_⟩
 refine Goes.new0 1 3 (lb rfl) ?_
 refine Goes.new0 3 51 (lb rfl) ?_
 refine Goes.new0 7 49 (lb rfl) ?_
 refine Goes.new0 10 43 (lb rfl) ?_
 refine Goes.new0 2 45 (lb rfl) ?_
 refine Goes.boxs 2 _ [.ref 45 1 0 0 (some uC), .ref 46 3 0 0 (some uC), .ref 47 7 0 0 (some uC), .ref 48 10 0 0 (some uC), .ref 49 2 0 0 (some uC)] rfl (.cons (.own0 45 _ _ _ (by decide)) (.cons (.own0 46 _ _ _ (by decide)) (.cons (.own0 47 _ _ _ (by decide)) (.cons (.own0 48 _ _ _ (by decide)) (.cons (.own0 49 _ _ _ (by decide)) (.refl _)))))) ?_
 exact .m [4, 5] [45, 46, 47, 48, 49, 2] [(45, 0), (46, 1), (47, 2), (48, 3), (49, 4), (2, 5)]
 exact rsi0
 rfl
 rintro ⟨l1, l2, l3, l4, l5⟩ hj4
 subst x1
 try dsimp only at h
 simp only [st51]
 refine .seq (.seq (.rg zS [4, 7] ?_))
 refine .rn 6 ?_
 refine .rn 6 ?_
 refine .rn 4 ?_
 refine .nn ?_
 refine .cd (fun hc14 => ?_) (fun hc14 => ?_)
 replace h := za0 h hc14
 refine .seq (.pl zS [4] ?_)
 obtain rfl := sj h
 refine .ret ⟨st5 ((⟨[], [], [], [], []⟩ : TWorld), 9), ?_, .inr rfl, retH [4, 3, 2, 1, 0] ?_ ?_⟩
 refine Goes.new0 1 3 (lb rfl) ?_
 refine Goes.new0 3 51 (lb rfl) ?_
 refine Goes.new0 7 49 (lb rfl) ?_
 refine Goes.new0 10 43 (lb rfl) ?_
 refine Goes.new0 2 45 (lb rfl) ?_
 refine Goes.boxs 2 _ [.ref 50 1 0 0 (some uC), .ref 51 3 0 0 (some uC), .ref 52 7 0 0 (some uC), .ref 53 10 0 0 (some uC), .ref 54 2 0 0 (some uC)] rfl (.cons (.own0 50 _ _ _ (by decide)) (.cons (.own0 51 _ _ _ (by decide)) (.cons (.own0 52 _ _ _ (by decide)) (.cons (.own0 53 _ _ _ (by decide)) (.cons (.own0 54 _ _ _ (by decide)) (.refl _)))))) ?_
 exact .m [4, 5] [50, 51, 52, 53, 54, 2] [(50, 0), (51, 1), (52, 2), (53, 3), (54, 4), (2, 5)]
 exact rsi0
 rfl
 replace h := za1 h hc14
 refine .skip (.seq (.pl zS [4, 7] ?_))
 obtain rfl := sj h
 refine .ret ⟨st5 ((⟨l1, l2, l3, l4, l5⟩ : TWorld), 0), ?_, .inr rfl, retH [4, 3, 2, 1, 0] ?_ ?_⟩
 exact .m [4, 5] [45, 46, 47, 48, 49, 2] [(45, 0), (46, 1), (47, 2), (48, 3), (49, 4), (2, 5)]
 exact rsi0
 rfl
@[go_sem] def ya3s (a0 : TWorld) (n1 : Int) : St := ⟨[(1, .ptr 0 0), (3, .int .i64 n1)], [(0, .box [.imm 1 (a0.Members.map (D.int .i64)) 4, .imm 3 (a0.Votes.map TVote.d) 4, .imm 7 (a0.Tries.map TAttempt.d) 4, .imm 10 (a0.Mail.map TMail.d) 4, .imm 2 (a0.Chosen.map TChoice.d) 4])], 1⟩
@[go_sem] def ya3o (a0 : TWorld) (n3 : Nat) (n2 : Int) : St := ⟨[(1, .ptr 0 0), (3, .int .i64 n2), (4, .int .i64 (n3 : Int))], [(0, .box [.imm 1 (a0.Members.map (D.int .i64)) 4, .imm 3 (a0.Votes.map TVote.d) 4, .imm 7 (a0.Tries.map TAttempt.d) 4, .imm 10 (a0.Mail.map TMail.d) 4, .imm 2 (a0.Chosen.map TChoice.d) 4])], 1⟩
@[go_sem] def ya3n (a0 : TWorld) (n4 : Int) : St := ⟨[(1, .ptr 0 0), (3, .int .i64 n4)], [(0, .box [.imm 1 (a0.Members.map (D.int .i64)) 4, .imm 3 (a0.Votes.map TVote.d) 4, .imm 7 (a0.Tries.map TAttempt.d) 4, .imm 10 (a0.Mail.map TMail.d) 4, .imm 2 (a0.Chosen.map TChoice.d) 4])], 1⟩
@[go_sem] def ya3m (a0 : TWorld) (n6 : Nat) (n5 : Int) : St := ⟨[(1, .ptr 0 0), (3, .int .i64 n5), (5, .int .i64 (n6 : Int))], [(0, .box [.imm 1 (a0.Members.map (D.int .i64)) 4, .imm 3 (a0.Votes.map TVote.d) 4, .imm 7 (a0.Tries.map TAttempt.d) 4, .imm 10 (a0.Mail.map TMail.d) 4, .imm 2 (a0.Chosen.map TChoice.d) 4])], 1⟩
@[go_sem] def ya3l (a0 : TWorld) (n4 : Int) : St := ⟨[(1, .ptr 0 0), (3, .int .i64 n4)], [(0, .box [.imm 1 (a0.Members.map (D.int .i64)) 4, .imm 3 (a0.Votes.map TVote.d) 4, .imm 7 (a0.Tries.map TAttempt.d) 4, .imm 10 (a0.Mail.map TMail.d) 4, .imm 2 (a0.Chosen.map TChoice.d) 4])], 1⟩
@[go_sem] def ya3r (a0 : TWorld) (n4 : Int) (n7 : Nat) : St := ⟨[(1, .ptr 0 0), (3, .int .i64 n4), (6, .int .i64 (n7 : Int))], [(0, .box [.imm 1 (a0.Members.map (D.int .i64)) 4, .imm 3 (a0.Votes.map TVote.d) 4, .imm 7 (a0.Tries.map TAttempt.d) 4, .imm 10 (a0.Mail.map TMail.d) 4, .imm 2 (a0.Chosen.map TChoice.d) 4])], 1⟩
@[go_sem] def ya3q (a0 : TWorld) (n8 : Int) : St := ⟨[(1, .ptr 0 0), (3, .int .i64 n8)], [(0, .box [.imm 1 (a0.Members.map (D.int .i64)) 4, .imm 3 (a0.Votes.map TVote.d) 4, .imm 7 (a0.Tries.map TAttempt.d) 4, .imm 10 (a0.Mail.map TMail.d) 4, .imm 2 (a0.Chosen.map TChoice.d) 4])], 1⟩
@[go_sem] def ya3p (a0 : TWorld) (n10 : Nat) (n9 : Int) : St := ⟨[(1, .ptr 0 0), (3, .int .i64 n9), (7, .int .i64 (n10 : Int))], [(0, .box [.imm 1 (a0.Members.map (D.int .i64)) 4, .imm 3 (a0.Votes.map TVote.d) 4, .imm 7 (a0.Tries.map TAttempt.d) 4, .imm 10 (a0.Mail.map TMail.d) 4, .imm 2 (a0.Chosen.map TChoice.d) 4])], 1⟩
theorem zgw (a0 : TWorld) (r : Bool) (h : zda a0 = some r) : zb7 Tryz.prog 4 [.agg [.imm 1 (a0.Members.map (D.int .i64)) 4, .imm 3 (a0.Votes.map TVote.d) 4, .imm 7 (a0.Tries.map TAttempt.d) 4, .imm 10 (a0.Mail.map TMail.d) 4, .imm 2 (a0.Chosen.map TChoice.d) 4]] (.bool r) := by
 refine za2 Tryz.tmOk 3 Tryz.func4 rfl (by decide) rfl rfl (lb rfl) ?_
 intro hwf
 unfold zda at h
 refine .seq (.pl zS [0] ?_)
 refine .seq (.pl zS [1] ?_)
 obtain ⟨x1, hx1, h⟩ := bind_some h
 refine .seqM 1 (fun (j : Int) => ya3s a0 j) (fun j => x1 = j) (lb rfl) ?_ ?_
 refine .seq (.pl zS [1, 3] ?_)
 refine .block ?_
 refine .loopG 1 (fun (j : Nat × Int) => ya3o a0 j.1 j.2) (fun j => j.1 <= a0.Mail.length /\ zbf (a0.Mail.drop j.1) j.1 j.2 = some x1) (fun j => a0.Mail.length - j.1) (0, 0) (lb rfl) ?_ ⟨Nat.zero_le _, hx1⟩ ?_
 exact .m [1, 3, 4] [0] []
 rintro ⟨n3, n2⟩ ⟨hi1, hx1⟩
 simp only [ya3o]
 simp only at hi1 hx1
 refine .wfb 0 [.imm 1 (a0.Members.map (D.int .i64)) 4, .imm 3 (a0.Votes.map TVote.d) 4, .imm 7 (a0.Tries.map TAttempt.d) 4, .imm 10 (a0.Mail.map TMail.d) 4, .imm 2 (a0.Chosen.map TChoice.d) 4] rfl ?_
 intro hln3
 replace hln3 : (a0.Mail.length : Int) <= 9223372036854775807 := by simp only [wf, wfL, IntKind.max, IntKind.min, IntKind.signed, IntKind.bits, List.length_map] at hln3; first | exact hln3.2 | exact hln3.1 | (simp at hln3; omega)
 refine .seq (.seq (.rg zS [1, 3, 4] ?_))
 refine .rn 6 ?_
 refine .rn 3 ?_
 refine .nn ?_
 refine .cd (fun hc1 => ?_) (fun hc1 => ?_)
 have h1 : n3 < a0.Mail.length := by have hq := hc1; simp at hq; omega
 have hwn3 : wr .i64 ((n3 : Int) + 1) = ((n3 + 1 : Nat) : Int) := zbx h1 hln3
 have hpn3 : wr .i64 ((n3 : Int) - 1) = (n3 : Int) - 1 := zcm h1 hln3
 rw [List.drop_eq_getElem_cons h1, zei] at hx1
 replace hx1 := za0 hx1 hc1
 refine .skip (.seq (.block ?_))
 have e1 := zbj TMail.d a0.Mail n3 h1
 refine .rg zS [1, 3, 4] ?_
 refine .rnx 6 (ai e1 hwn3) ?_
 refine .rnx 5 (ai e1 hwn3) ?_
 refine .nn ?_
 refine .plx zS hwn3 [1, 3, 4] ?_
 refine ⟨(n3 + 1, _), ?_, ⟨by omega, hx1⟩, by dsimp only; omega⟩
 exact .m [1, 3, 4] [0] []
 by_cases h2 : n3 < a0.Mail.length
 rw [List.drop_eq_getElem_cons h2, zei] at hx1
 replace hx1 := zxn hx1 (by have hq := hc1; simp at hq ⊢; first | exact hq (by omega) | omega | grind)
 refine .exit ?_
 refine ⟨_, ?_, (sj hx1).symm⟩
 exact .m [1, 3] [0] []
 rw [List.drop_of_length_le (by omega), zif] at hx1
 refine .exit ?_
 refine ⟨_, ?_, (sj hx1).symm⟩
 exact .m [1, 3] [0] []
 rintro n1 hj1
 subst x1
 try dsimp only at h
 simp only [ya3s]
 obtain ⟨x2, hx2, h⟩ := bind_some h
 refine .seqM 1 (fun (j : Int) => ya3n a0 j) (fun j => x2 = j) (lb rfl) ?_ ?_
 refine .seq (.pl zS [1, 3] ?_)
 refine .block ?_
 refine .loopG 1 (fun (j : Nat × Int) => ya3m a0 j.1 j.2) (fun j => j.1 <= a0.Chosen.length /\ zbe (a0.Chosen.drop j.1) j.1 j.2 = some x2) (fun j => a0.Chosen.length - j.1) (0, n1) (lb rfl) ?_ ⟨Nat.zero_le _, hx2⟩ ?_
 exact .m [1, 3, 5] [0] []
 rintro ⟨n6, n5⟩ ⟨hi2, hx2⟩
 simp only [ya3m]
 simp only at hi2 hx2
 refine .wfb 0 [.imm 1 (a0.Members.map (D.int .i64)) 4, .imm 3 (a0.Votes.map TVote.d) 4, .imm 7 (a0.Tries.map TAttempt.d) 4, .imm 10 (a0.Mail.map TMail.d) 4, .imm 2 (a0.Chosen.map TChoice.d) 4] rfl ?_
 intro hln6
 replace hln6 : (a0.Chosen.length : Int) <= 9223372036854775807 := by simp only [wf, wfL, IntKind.max, IntKind.min, IntKind.signed, IntKind.bits, List.length_map] at hln6; first | exact hln6.2 | exact hln6.1 | (simp at hln6; omega)
 refine .seq (.seq (.rg zS [1, 3, 5] ?_))
 refine .rn 6 ?_
 refine .rn 3 ?_
 refine .nn ?_
 refine .cd (fun hc2 => ?_) (fun hc2 => ?_)
 have h3 : n6 < a0.Chosen.length := by have hq := hc2; simp at hq; omega
 have hwn6 : wr .i64 ((n6 : Int) + 1) = ((n6 + 1 : Nat) : Int) := zbx h3 hln6
 have hpn6 : wr .i64 ((n6 : Int) - 1) = (n6 : Int) - 1 := zcm h3 hln6
 rw [List.drop_eq_getElem_cons h3, zeh] at hx2
 replace hx2 := za0 hx2 hc2
 refine .skip (.seq (.block ?_))
 have e2 := zbj TChoice.d a0.Chosen n6 h3
 refine .rg zS [1, 3, 5] ?_
 refine .rnx 6 (ai e2 hwn6) ?_
 refine .rnx 5 (ai e2 hwn6) ?_
 refine .nn ?_
 refine .plx zS hwn6 [1, 3, 5] ?_
 refine ⟨(n6 + 1, _), ?_, ⟨by omega, hx2⟩, by dsimp only; omega⟩
 exact .m [1, 3, 5] [0] []
 by_cases h4 : n6 < a0.Chosen.length
 rw [List.drop_eq_getElem_cons h4, zeh] at hx2
 replace hx2 := zxn hx2 (by have hq := hc2; simp at hq ⊢; first | exact hq (by omega) | omega | grind)
 refine .exit ?_
 refine ⟨_, ?_, (sj hx2).symm⟩
 exact .m [1, 3] [0] []
 rw [List.drop_of_length_le (by omega), zie] at hx2
 refine .exit ?_
 refine ⟨_, ?_, (sj hx2).symm⟩
 exact .m [1, 3] [0] []
 rintro n4 hj2
 subst x2
 try dsimp only at h
 simp only [ya3n]
 obtain ⟨x3, hx3, h⟩ := bind_some h
 refine .seqM 1 (fun (j : Unit) => ya3l a0 n4) (fun j => x3 = (.inr j)) (lb rfl) ?_ ?_
 refine .seq (.pl zS [1, 3] ?_)
 refine .block ?_
 refine .loopG 1 (fun (j : Nat) => ya3r a0 n4 j) (fun j => j <= a0.Tries.length /\ zay (a0.Tries.drop j) j  = some x3) (fun j => a0.Tries.length - j) (0) (lb rfl) ?_ ⟨Nat.zero_le _, hx3⟩ ?_
 exact .m [1, 3, 6] [0] []
 rintro n7 ⟨hi3, hx3⟩
 simp only [ya3r]
 refine .wfb 0 [.imm 1 (a0.Members.map (D.int .i64)) 4, .imm 3 (a0.Votes.map TVote.d) 4, .imm 7 (a0.Tries.map TAttempt.d) 4, .imm 10 (a0.Mail.map TMail.d) 4, .imm 2 (a0.Chosen.map TChoice.d) 4] rfl ?_
 intro hln7
 replace hln7 : (a0.Tries.length : Int) <= 9223372036854775807 := by simp only [wf, wfL, IntKind.max, IntKind.min, IntKind.signed, IntKind.bits, List.length_map] at hln7; first | exact hln7.2 | exact hln7.1 | (simp at hln7; omega)
 refine .seq (.seq (.rg zS [1, 3, 6] ?_))
 refine .rn 6 ?_
 refine .rn 3 ?_
 refine .nn ?_
 refine .cd (fun hc3 => ?_) (fun hc3 => ?_)
 have h5 : n7 < a0.Tries.length := by have hq := hc3; simp at hq; omega
 have hwn7 : wr .i64 ((n7 : Int) + 1) = ((n7 + 1 : Nat) : Int) := zbx h5 hln7
 have hpn7 : wr .i64 ((n7 : Int) - 1) = (n7 : Int) - 1 := zcm h5 hln7
 rw [List.drop_eq_getElem_cons h5, zay] at hx3
 replace hx3 := za0 hx3 hc3
 refine .skip (.seq (.block (.seq ?_)))
 obtain ⟨v1, hv1, hx3⟩ := bind_some hx3
 have e3 := zbj TAttempt.d a0.Tries n7 h5
 refine .rg zS [1, 3, 6] ?_
 refine .rnx 5 (ai e3 hwn7) ?_
 refine .cl (zjo (a0.Tries[n7]) v1 hv1) ?_
 refine .nn ?_
 refine .cd (fun hc4 => ?_) (fun hc4 => ?_)
 replace hx3 := za0 hx3 hc4
 refine .seq (.plx zS hwn7 [] ?_)
 have hq := sj hx3
 subst x3
 try dsimp only at h
 obtain rfl := sj h
 exact .rr
 replace hx3 := za1 hx3 hc4
 refine .skip (.plx zS hwn7 [1, 3, 6] ?_)
 refine ⟨n7 + 1, ?_, ⟨by omega, hx3⟩, by dsimp only; omega⟩
 exact .m [1, 3, 6] [0] []
 by_cases h6 : n7 < a0.Tries.length
 rw [List.drop_eq_getElem_cons h6, zay] at hx3
 replace hx3 := zxn hx3 (by have hq := hc3; simp at hq ⊢; first | exact hq (by omega) | omega | grind)
 refine .exit ?_
 refine ⟨_, ?_, (sj hx3).symm⟩
 exact .m [1, 3] [0] []
 rw [List.drop_of_length_le (by omega), zay] at hx3
 refine .exit ?_
 refine ⟨_, ?_, (sj hx3).symm⟩
 exact .m [1, 3] [0] []
 rintro ⟨⟩ hj3
 subst x3
 try dsimp only at h
 simp only [ya3l]
 obtain ⟨x4, hx4, h⟩ := bind_some h
 refine .seqM 1 (fun (j : Int) => ya3q a0 j) (fun j => x4 = j) (lb rfl) ?_ ?_
 refine .seq (.pl zS [1, 3] ?_)
 refine .block ?_
 refine .loopG 1 (fun (j : Nat × Int) => ya3p a0 j.1 j.2) (fun j => j.1 <= a0.Votes.length /\ zbd (a0.Votes.drop j.1) j.1 j.2 = some x4) (fun j => a0.Votes.length - j.1) (0, n4) (lb rfl) ?_ ⟨Nat.zero_le _, hx4⟩ ?_
 exact .m [1, 3, 7] [0] []
 rintro ⟨n10, n9⟩ ⟨hi4, hx4⟩
 simp only [ya3p]
 simp only at hi4 hx4
 refine .wfb 0 [.imm 1 (a0.Members.map (D.int .i64)) 4, .imm 3 (a0.Votes.map TVote.d) 4, .imm 7 (a0.Tries.map TAttempt.d) 4, .imm 10 (a0.Mail.map TMail.d) 4, .imm 2 (a0.Chosen.map TChoice.d) 4] rfl ?_
 intro hln10
 replace hln10 : (a0.Votes.length : Int) <= 9223372036854775807 := by simp only [wf, wfL, IntKind.max, IntKind.min, IntKind.signed, IntKind.bits, List.length_map] at hln10; first | exact hln10.2 | exact hln10.1 | (simp at hln10; omega)
 refine .seq (.seq (.rg zS [1, 3, 7] ?_))
 refine .rn 6 ?_
 refine .rn 3 ?_
 refine .nn ?_
 refine .cd (fun hc5 => ?_) (fun hc5 => ?_)
 have h7 : n10 < a0.Votes.length := by have hq := hc5; simp at hq; omega
 have hwn10 : wr .i64 ((n10 : Int) + 1) = ((n10 + 1 : Nat) : Int) := zbx h7 hln10
 have hpn10 : wr .i64 ((n10 : Int) - 1) = (n10 : Int) - 1 := zcm h7 hln10
 rw [List.drop_eq_getElem_cons h7, zeg] at hx4
 replace hx4 := za0 hx4 hc5
 refine .skip (.seq (.block ?_))
 have e4 := zbj TVote.d a0.Votes n10 h7
 refine .rg zS [1, 3, 7] ?_
 refine .rnx 6 (ai e4 hwn10) ?_
 refine .rnx 5 (ai e4 hwn10) ?_
 refine .nn ?_
 refine .plx zS hwn10 [1, 3, 7] ?_
 refine ⟨(n10 + 1, _), ?_, ⟨by omega, hx4⟩, by dsimp only; omega⟩
 exact .m [1, 3, 7] [0] []
 by_cases h8 : n10 < a0.Votes.length
 rw [List.drop_eq_getElem_cons h8, zeg] at hx4
 replace hx4 := zxn hx4 (by have hq := hc5; simp at hq ⊢; first | exact hq (by omega) | omega | grind)
 refine .exit ?_
 refine ⟨_, ?_, (sj hx4).symm⟩
 exact .m [1, 3] [0] []
 rw [List.drop_of_length_le (by omega), zid] at hx4
 refine .exit ?_
 refine ⟨_, ?_, (sj hx4).symm⟩
 exact .m [1, 3] [0] []
 rintro n8 hj4
 subst x4
 try dsimp only at h
 simp only [ya3q]
 refine .seq (.rg zS [1, 3] ?_)
 refine .rn 6 ?_
 refine .rn 6 ?_
 refine .rn 6 ?_
 refine .rn 6 ?_
 refine .rn 6 ?_
 refine .rn 3 ?_
 refine .nn ?_
 obtain rfl := sj h
 exact .rr
end Go.Proofs
