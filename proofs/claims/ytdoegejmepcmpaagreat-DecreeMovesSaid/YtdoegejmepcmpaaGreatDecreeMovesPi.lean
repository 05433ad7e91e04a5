/- Texts of the proof. -/
import Derived.Test.YtdoegejmepcmpaaGreatDecreeMovesPg
import Derived.Test.YtdoegejmepcmpaaGreatDecreeMovesPf
import Derived.Test.YtdoegejmepcmpaaGreatDecreeMovesPh
section
namespace Go.Proofs
open Go.Tm Go.RowKit Go.WideShapes
set_option maxRecDepth 100000
set_option maxHeartbeats 4000000
set_option linter.unusedSimpArgs false
set_option linter.unusedVariables false
@[go_sem] def ya45 (a0 : TAttempt) : St := ⟨[(1, .ptr 0 0)], [(0, .box [.int .u8 a0.Phase, .int .i64 a0.Ballot, .imm 1 (a0.Members.map (D.int .i64)) 4, .str a0.Wish, .str a0.Value, .imm 3 (a0.Promises.map TPromise.d) 4, .imm 1 (a0.Accepted.map (D.int .i64)) 4])], 1⟩
@[go_sem] def ya44 (a0 : TAttempt) (n1 : Nat) : St := ⟨[(1, .ptr 0 0), (3, .int .i64 (n1 : Int))], [(0, .box [.int .u8 a0.Phase, .int .i64 a0.Ballot, .imm 1 (a0.Members.map (D.int .i64)) 4, .str a0.Wish, .str a0.Value, .imm 3 (a0.Promises.map TPromise.d) 4, .imm 1 (a0.Accepted.map (D.int .i64)) 4])], 1⟩
theorem zfx (a0 : TAttempt) (r : Bool) (h : zd2 a0 = some r) : zb7 Tryz.prog 39 [.agg [.int .u8 a0.Phase, .int .i64 a0.Ballot, .imm 1 (a0.Members.map (D.int .i64)) 4, .str a0.Wish, .str a0.Value, .imm 3 (a0.Promises.map TPromise.d) 4, .imm 1 (a0.Accepted.map (D.int .i64)) 4]] (.bool r) := by
 refine za2 Tryz.tmOk 12 Tryz.func39 rfl (by decide) rfl rfl (lb rfl) ?_
 intro hwf
 unfold zd2 at h
 refine .seq (.pl zS [0] ?_)
 refine .seq (.seq (.pl zS [1] ?_))
 refine .cd (fun hc1 => ?_) (fun hc1 => ?_)
 replace h := za0 h hc1
 refine .seq (.rg zS [1] ?_)
 refine .rn 6 ?_
 refine .rn 6 ?_
 refine .rn 6 ?_
 refine .rn 6 ?_
 refine .rn 8 ?_
 refine .nn ?_
 obtain rfl := sj h
 exact .rr
 replace h := za1 h hc1
 refine .skip (.seq ?_)
 obtain ⟨v1, hv1, h⟩ := bind_some h
 obtain ⟨v2, hv2, h⟩ := bind_some h
 obtain ⟨v3, hv3, h⟩ := bind_some h
 obtain ⟨v4, hv4, h⟩ := bind_some h
 obtain ⟨v5, hv5, h⟩ := bind_some h
 refine .seq (.rg zS [1] ?_)
 refine .rd 6 ?_
 refine .gcall rfl rfl rfl rfl rfl (fun hg => ⟨[], [.int .i64 a0.Ballot], _, rfl, gd hg, rfl, (zc3 a0.Ballot v1 (za0 hv1 hg))⟩) ?_
 refine .rd 5 ?_
 refine .gcall rfl rfl rfl rfl rfl (fun hg => ⟨[], [.imm 1 (a0.Members.map (D.int .i64)) 4], _, rfl, gd hg, rfl, (zfy a0.Members v2 (za0 hv2 hg))⟩) ?_
 refine .rd 6 ?_
 refine .rd 5 ?_
 refine .gcall rfl rfl rfl rfl rfl (fun hg => ⟨[], [.imm 3 (a0.Promises.map TPromise.d) 4], _, rfl, gd hg, rfl, (zjn a0.Promises v3 (za0 hv3 hg))⟩) ?_
 refine .rd 2 ?_
 refine .gcall rfl rfl rfl rfl rfl (fun hg => ⟨[], [.imm 1 (v3.map (D.int .i64)) 13, .imm 1 (a0.Members.map (D.int .i64)) 4], _, rfl, gd hg, rfl, (zfq (WkL.cons Wk.iz (WkL.cons (Wk.refl _) (WkL.refl _))) (zgn v3 a0.Members v4 (za0 hv4 hg)))⟩) ?_
 refine .rd 7 ?_
 refine .gcall rfl rfl rfl rfl rfl (fun hg => ⟨[], [.imm 1 (a0.Accepted.map (D.int .i64)) 4, .imm 1 (a0.Members.map (D.int .i64)) 4], _, rfl, gd hg, rfl, (zgn a0.Accepted a0.Members v5 (za0 hv5 hg))⟩) ?_
 refine .rd 2 ?_
 refine .nd ?_
 refine .cd (fun hc2 => ?_) (fun hc2 => ?_)
 replace h := za0 h hc2
 refine .seq (.pl zS [] ?_)
 obtain rfl := sj h
 exact .rr
 replace h := za1 h hc2
 obtain ⟨x1, hx1, h⟩ := bind_some h
 refine .skip ?_
 refine .seqM 1 (fun (j : Unit) => ya45 a0) (fun j => x1 = (.inr j)) (lb rfl) ?_ ?_
 refine .seq (.pl zS [1] ?_)
 refine .block ?_
 refine .loopG 1 (fun (j : Nat) => ya44 a0 j) (fun j => j <= a0.Promises.length /\ zb9 a0 (a0.Promises.drop j)  = some x1) (fun j => a0.Promises.length - j) (0) (lb rfl) ?_ ⟨Nat.zero_le _, hx1⟩ ?_
 exact .m [1, 3] [0] []
 rintro n1 ⟨hi1, hx1⟩
 simp only [ya44]
 refine .wfb 0 [.int .u8 a0.Phase, .int .i64 a0.Ballot, .imm 1 (a0.Members.map (D.int .i64)) 4, .str a0.Wish, .str a0.Value, .imm 3 (a0.Promises.map TPromise.d) 4, .imm 1 (a0.Accepted.map (D.int .i64)) 4] rfl ?_
 intro hln1
 replace hln1 : (a0.Promises.length : Int) <= 9223372036854775807 := by simp only [wf, wfL, IntKind.max, IntKind.min, IntKind.signed, IntKind.bits, List.length_map] at hln1; first | exact hln1.2 | exact hln1.1 | (simp at hln1; omega)
 refine .seq (.seq (.pl zS [1, 3] ?_))
 refine .cd (fun hc3 => ?_) (fun hc3 => ?_)
 have h1 : n1 < a0.Promises.length := by simpa using hc3
 have hwn1 : wr .i64 ((n1 : Int) + 1) = ((n1 + 1 : Nat) : Int) := zbx h1 hln1
 have hpn1 : wr .i64 ((n1 : Int) - 1) = (n1 : Int) - 1 := zcm h1 hln1
 rw [List.drop_eq_getElem_cons h1, zb9] at hx1
 refine .skip (.seq (.block (.seq ?_)))
 obtain ⟨v6, hv6, hx1⟩ := bind_some hx1
 have e1 := zbj TPromise.d a0.Promises n1 h1
 refine .rg zS [1, 3] ?_
 refine .rdx 7 (ai e1 hwn1) ?_
 refine .cl (zfw (a0.Promises[n1]) a0.Ballot v6 hv6) ?_
 refine .rdx 1 (ai e1 hwn1) ?_
 refine .nd ?_
 refine .cd (fun hc4 => ?_) (fun hc4 => ?_)
 replace hx1 := za0 hx1 hc4
 refine .seq (.plx zS hwn1 [] ?_)
 have hq := sj hx1
 subst x1
 try dsimp only at h
 obtain rfl := sj h
 exact .rr
 replace hx1 := za1 hx1 hc4
 refine .skip (.plx zS hwn1 [1, 3] ?_)
 refine ⟨n1 + 1, ?_, ⟨by omega, hx1⟩, by dsimp only; omega⟩
 exact .m [1, 3] [0] []
 have h2 : n1 = a0.Promises.length := by have h2b := of_decide_eq_false hc3; omega
 rw [List.drop_of_length_le (by omega), zb9] at hx1
 refine .exit ?_
 refine ⟨_, ?_, (sj hx1).symm⟩
 exact .m [1] [0] []
 rintro ⟨⟩ hj1
 subst x1
 try dsimp only at h
 simp only [ya45]
 obtain ⟨v7, hv7, h⟩ := bind_some h
 obtain ⟨v8, hv8, h⟩ := bind_some h
 refine .seq (.rg zS [1] ?_)
 refine .rd 4 ?_
 refine .ncall (r := .ref 5 1 0 v7.length (some uC)) (eff := [(5, some (.arr 3 1 true (v7.map (D.int .i64))))]) (nw := (5, 10)) [] rfl rfl rfl rfl rfl (za3 rfl zai) rfl (zez 5 (lb rfl) (ze4 a0.Promises v7 hv7)) (zb4 rfl rfl (zc5 zcd _ _ _) zf9) (by intro i hi; simp [D.ids, D.idsL] at hi <;> omega) rfl ⟨lb rfl, lb rfl⟩ ?_
 refine .rd 0 ?_
 refine .lcall (r := .bool v8) [] rfl rfl rfl rfl rfl (za3 rfl (za3 (zfh (zen (ziq .i64) (by first | rfl | (simp only [go_sem, Nat.reduceBEq]; rfl)) (by first | rfl | (simp; done) | (simp <;> omega))) trivial) zai)) rfl (zdz a0.Members v7 v8 hv8) ?_
 refine .rd 1 ?_
 refine .nd ?_
 refine .seq (.seq (.pl zS [1, 4] ?_))
 refine .cd (fun hc5 => ?_) (fun hc5 => ?_)
 replace h := za0 h hc5
 refine .seq (.rg zS [1, 4] ?_)
 refine .rn 6 ?_
 refine .rn 8 ?_
 refine .nn ?_
 obtain rfl := sj h
 exact .rr
 replace h := za1 h hc5
 refine .skip ?_
 obtain ⟨v9, hv9, h⟩ := bind_some h
 obtain ⟨v10, hv10, h⟩ := bind_some h
 refine .seq (.rg zS [1, 4] ?_)
 refine .rd 8 ?_
 refine .gcall rfl rfl rfl rfl rfl (fun hg => ⟨[], [.imm 3 (a0.Promises.map TPromise.d) 4, .str a0.Wish], _, rfl, gd hg, rfl, (zh4 a0.Promises a0.Wish v9 (za0 hv9 hg))⟩) ?_
 refine .rd 7 ?_
 refine .gcall rfl rfl rfl rfl rfl (fun hg => ⟨[], [.imm 1 (a0.Members.map (D.int .i64)) 4, .imm 1 (a0.Accepted.map (D.int .i64)) 4], _, rfl, gd hg, rfl, (zdz a0.Members a0.Accepted v10 (za0 hv10 hg))⟩) ?_
 refine .rd 6 ?_
 refine .nd ?_
 obtain rfl := sj h
 exact .rr
theorem zm8 (a0 : TPromise) (c0 : TAttempt) (r : Bool) (h : zeb a0 c0 = some r) : zb7 Tryz.prog 66 [.agg [.int .i64 a0.Node, .int .i64 a0.Ballot, .str a0.Value], .iptr 0 [.int .u8 c0.Phase, .int .i64 c0.Ballot, .imm 1 (c0.Members.map (D.int .i64)) 4, .str c0.Wish, .str c0.Value, .imm 3 (c0.Promises.map TPromise.d) 4, .imm 1 (c0.Accepted.map (D.int .i64)) 4]] (.bool r) := by
 refine za2 Tryz.tmOk 3 Tryz.func66 rfl (by decide) rfl rfl (lb rfl) ?_
 intro hwf
 unfold zeb at h
 refine .seq (.pl zS [0, 1] ?_)
 obtain ⟨v1, hv1, h⟩ := bind_some h
 refine .seq (.rg zS [1, 2] ?_)
 refine .rn 3 ?_
 refine .cl (zkq a0 c0.Ballot v1 hv1) ?_
 refine .rn 2 ?_
 refine .nn ?_
 obtain rfl := sj h
 exact .rr
@[go_sem] def st35 (b1 : Bool) : St := ⟨[(3, .bool b1)], [], 1⟩
@[go_sem] def st36 (a0 : TAttempt) (b2 : Bool) : St := ⟨[(1, .ptr 0 0), (3, .bool b2)], [(0, .box [.int .u8 a0.Phase, .int .i64 a0.Ballot, .imm 1 (a0.Members.map (D.int .i64)) 4, .str a0.Wish, .str a0.Value, .imm 3 (a0.Promises.map TPromise.d) 4, .imm 1 (a0.Accepted.map (D.int .i64)) 4])], 1⟩
@[go_sem] def st37 (a0 : TAttempt) (b5 : Bool) : St := ⟨[(1, .ptr 0 0), (3, .bool true), (10, .bool b5)], [(0, .box [.int .u8 a0.Phase, .int .i64 a0.Ballot, .imm 1 (a0.Members.map (D.int .i64)) 4, .str a0.Wish, .str a0.Value, .imm 3 (a0.Promises.map TPromise.d) 4, .imm 1 (a0.Accepted.map (D.int .i64)) 4])], 1⟩
theorem zf7 (a0 : TAttempt) (r : Int) (h : zf6 a0 = some r) : zb7 Tryz.prog 33 [.agg [.int .u8 a0.Phase, .int .i64 a0.Ballot, .imm 1 (a0.Members.map (D.int .i64)) 4, .str a0.Wish, .str a0.Value, .imm 3 (a0.Promises.map TPromise.d) 4, .imm 1 (a0.Accepted.map (D.int .i64)) 4]] (.int .i64 r) := by
 refine za2 Tryz.tmOk 3 Tryz.func33 rfl (by decide) rfl rfl (lb rfl) ?_
 intro hwf
 unfold zf6 at h
 refine .seq (.pl zS [0] ?_)
 refine .seq (.pl zS [1] ?_)
 obtain ⟨x1, hx1, h⟩ := bind_some h
 refine .seqM 1 (fun (j : Bool) => st35 j) (fun j => x1 = j) (lb rfl) ?_ ?_
 refine .seq (.pl zS [1, 3] ?_)
 refine .block (.seq (.block ?_))
 obtain ⟨x2, hx2, hx1⟩ := bind_some hx1
 refine .seqM 1 (fun (j : Bool) => st36 a0 j) (fun j => x2 = (.inr (.inr j))) (lb rfl) ?_ ?_
 refine .block (.seq (.block (.seq (.block (.seq (.seq (.seq (.pl zS [1, 3, 5] ?_))))))))
 refine .cd (fun hc1 => ?_) (fun hc1 => ?_)
 replace hx2 := za0 hx2 hc1
 refine .exit ?_
 refine .seq ?_
 obtain ⟨v1, hv1, hx2⟩ := bind_some hx2
 refine .rg zS [1] ?_
 refine .rn 2 ?_
 refine .cl (zfq (WkL.cons (Wk.refl _) (WkL.cons (Wk.agg (WkL.cons (Wk.refl _) (WkL.cons (Wk.refl _) (WkL.cons (Wk.nil4 0 1 0 rfl) (WkL.cons (Wk.refl _) (WkL.cons (Wk.refl _) (WkL.cons (Wk.nil4 0 3 0 rfl) (WkL.cons (Wk.nil4 0 1 0 rfl) (WkL.refl _))))))))) (WkL.refl _))) (zk3 a0 (⟨0, 0, [], [], [], [], []⟩ : TAttempt) v1 hv1)) ?_
 refine .rn 1 ?_
 refine .nn ?_
 refine .exit ?_
 have hq := sj hx2
 subst x2
 try dsimp only at hx1
 refine ⟨_, ?_, (sj hx1).symm⟩
 exact .m [3] [] []
 replace hx2 := za1 hx2 hc1
 refine .skip (.seq (.seq (.pl zS [1, 3, 5] ?_)))
 refine .cd (fun hc2 => ?_) (fun hc2 => ?_)
 replace hx2 := za0 hx2 hc2
 refine .exit ?_
 refine .rg zS [1] ?_
 refine .rn 6 ?_
 refine .rn 4 ?_
 refine .nn ?_
 refine ⟨_, ?_, (sj hx2).symm⟩
 exact .m [1, 3] [0] []
 replace hx2 := za1 hx2 hc2
 refine .skip ?_
 obtain ⟨x3, hx3, hx2⟩ := bind_some hx2
 refine .seqM 1 (fun (j : Bool) => st37 a0 j) (fun j => x3 = j) (lb rfl) ?_ ?_
 refine .seq (.pl zS [1, 3, 5] ?_)
 refine .cd (fun hc3 => ?_) (fun hc3 => ?_)
 replace hx3 := za0 hx3 hc3
 refine .skip ?_
 refine ⟨_, ?_, (sj hx3).symm⟩
 exact .m [1, 3, 10] [0] []
 replace hx3 := za1 hx3 hc3
 refine .pl zS [1, 3, 5] ?_
 refine ⟨_, ?_, (sj hx3).symm⟩
 exact .m [1, 3, 10] [0] []
 rintro b5 hj1
 subst x3
 try dsimp only at hx2
 simp only [st37]
 refine .cd (fun hc4 => ?_) (fun hc4 => ?_)
 replace hx2 := za0 hx2 hc4
 refine .exit ?_
 refine ⟨_, ?_, (sj hx2).symm⟩
 exact .m [1, 3] [0] []
 replace hx2 := za1 hx2 hc4
 refine .skip ?_
 refine .exit ?_
 have hq := sj hx2
 subst x2
 try dsimp only at hx1
 refine .seq (.pl zS [] ?_)
 refine .exit ?_
 refine ⟨_, ?_, (sj hx1).symm⟩
 exact .m [3] [] []
 rintro b2 hj2
 subst x2
 try dsimp only at hx1
 simp only [st36]
 refine .seq (.seq ?_)
 obtain ⟨v2, hv2, hx1⟩ := bind_some hx1
 obtain ⟨v3, hv3, hx1⟩ := bind_some hx1
 refine .rg zS [1, 3] ?_
 refine .rn 4 ?_
 refine .gcall rfl rfl rfl rfl rfl (fun hg => ⟨[], [.int .i64 a0.Ballot], _, rfl, gd hg, rfl, (ze0 a0.Ballot v2 (za0 hv2 hg))⟩) ?_
 refine .rn 5 ?_
 refine .gcall rfl rfl rfl rfl rfl (fun hg => ⟨[], [.imm 1 (a0.Members.map (D.int .i64)) 4], _, rfl, gd hg, rfl, (zgf a0.Members v3 (za0 hv3 hg))⟩) ?_
 refine .rn 6 ?_
 refine .rn 3 ?_
 refine .nn ?_
 refine .seq ?_
 obtain ⟨v4, hv4, hx1⟩ := bind_some hx1
 obtain ⟨v5, hv5, hx1⟩ := bind_some hx1
 obtain ⟨v6, hv6, hx1⟩ := bind_some hx1
 refine .rg zS [1, 3] ?_
 refine .rd 4 ?_
 refine .gcall rfl rfl rfl rfl rfl (fun hg => ⟨[], [.imm 3 (a0.Promises.map TPromise.d) 4], _, rfl, gd hg, rfl, (zji a0.Promises v4 (za0 hv4 hg))⟩) ?_
 refine .rd 2 ?_
 refine .gcall rfl rfl rfl rfl rfl (fun hg => ⟨[], [.imm 1 (v4.map (D.int .i64)) 13, .imm 1 (a0.Members.map (D.int .i64)) 4], _, rfl, gd hg, rfl, (zfq (WkL.cons Wk.iz (WkL.cons (Wk.refl _) (WkL.refl _))) (zir v4 a0.Members v5 (za0 hv5 hg)))⟩) ?_
 refine .rd 6 ?_
 refine .gcall rfl rfl rfl rfl rfl (fun hg => ⟨[], [.imm 1 (a0.Accepted.map (D.int .i64)) 4, .imm 1 (a0.Members.map (D.int .i64)) 4], _, rfl, gd hg, rfl, (zir a0.Accepted a0.Members v6 (za0 hv6 hg))⟩) ?_
 refine .rd 2 ?_
 refine .nd ?_
 refine .seq ?_
 obtain ⟨v7, hv7, hx1⟩ := bind_some hx1
 refine .rg zS [1, 3] ?_
 refine .rn 5 ?_
 refine .glcall (r := .bool v7) [] rfl rfl rfl rfl rfl (fun hg => ⟨[], [.imm 3 (a0.Promises.map TPromise.d) 4, .fn (.func 66) [.ptr 0 0]], _, rfl, gd hg, (za3 rfl (za3 (znv (za3 (zm3 rfl (zc1 rfl (zc1 rfl (zc1 rfl (zc1 rfl (zc1 rfl (zc1 rfl (zc1 rfl zm1)))))))) zai)) zai)), rfl, (zgd a0.Promises 66 [.iptr 0 [.int .u8 a0.Phase, .int .i64 a0.Ballot, .imm 1 (a0.Members.map (D.int .i64)) 4, .str a0.Wish, .str a0.Value, .imm 3 (a0.Promises.map TPromise.d) 4, .imm 1 (a0.Accepted.map (D.int .i64)) 4]] (fun _ => rfl) (fun _ => rfl) (fun _ => rfl) (fun x0 => zeb x0 a0) (fun x0 y hy => zm8 x0 a0 y hy) v7 (za0 hv7 hg))⟩) ?_
 refine .rn 3 ?_
 refine .nn ?_
 refine .seq ?_
 obtain ⟨v8, hv8, hx1⟩ := bind_some hx1
 obtain ⟨v9, hv9, hx1⟩ := bind_some hx1
 obtain ⟨v10, hv10, hx1⟩ := bind_some hx1
 refine .rg zS [1, 3] ?_
 refine .rd 6 ?_
 refine .gcall rfl rfl rfl rfl rfl (fun hg => ⟨[], [.imm 3 (a0.Promises.map TPromise.d) 4], _, rfl, gd hg, rfl, (zji a0.Promises v8 (za0 hv8 hg))⟩) ?_
 refine .rd 0 ?_
 refine .gcall rfl rfl rfl rfl rfl (fun hg => ⟨[], [.imm 1 (a0.Members.map (D.int .i64)) 4, .imm 1 (v8.map (D.int .i64)) 13], _, rfl, gd hg, rfl, (zfq (WkL.cons (Wk.refl _) (WkL.cons Wk.iz (WkL.refl _))) (zgg a0.Members v8 v9 (za0 hv9 hg)))⟩) ?_
 refine .rd 6 ?_
 refine .rd 4 ?_
 refine .gcall rfl rfl rfl rfl rfl (fun hg => ⟨[], [.imm 1 (a0.Members.map (D.int .i64)) 4, .imm 1 (a0.Accepted.map (D.int .i64)) 4], _, rfl, gd hg, rfl, (zgg a0.Members a0.Accepted v10 (za0 hv10 hg))⟩) ?_
 refine .rd 6 ?_
 refine .nd ?_
 obtain ⟨v11, hv11, hx1⟩ := bind_some hx1
 refine .rg zS [1, 3] ?_
 refine .rd 6 ?_
 refine .rd 6 ?_
 refine .gcall rfl rfl rfl rfl rfl (fun hg => ⟨[], [.imm 3 (a0.Promises.map TPromise.d) 4, .str a0.Wish], _, rfl, gd hg, rfl, (zk4 a0.Promises a0.Wish v11 (za0 hv11 hg))⟩) ?_
 refine .rd 4 ?_
 refine .nd ?_
 refine .exit ?_
 refine ⟨_, ?_, (sj hx1).symm⟩
 exact .m [3] [] []
 rintro b1 hj3
 subst x1
 try dsimp only at h
 simp only [st35]
 refine .seq (.seq (.pl zS [3] ?_))
 refine .cd (fun hc5 => ?_) (fun hc5 => ?_)
 replace h := za0 h hc5
 refine .seq (.pl zS [] ?_)
 obtain rfl := sj h
 exact .rr
 replace h := za1 h hc5
 refine .skip (.seq (.pl zS [] ?_))
 obtain rfl := sj h
 exact .rr
@[go_sem] def ya47 (a0 : TAttempt) (n1 : Int) : St := ⟨[(1, .ptr 0 0), (3, .int .i64 n1)], [(0, .box [.int .u8 a0.Phase, .int .i64 a0.Ballot, .imm 1 (a0.Members.map (D.int .i64)) 4, .str a0.Wish, .str a0.Value, .imm 3 (a0.Promises.map TPromise.d) 4, .imm 1 (a0.Accepted.map (D.int .i64)) 4])], 1⟩
@[go_sem] def ya46 (a0 : TAttempt) (n3 : Nat) (n2 : Int) : St := ⟨[(1, .ptr 0 0), (3, .int .i64 n2), (4, .int .i64 (n3 : Int))], [(0, .box [.int .u8 a0.Phase, .int .i64 a0.Ballot, .imm 1 (a0.Members.map (D.int .i64)) 4, .str a0.Wish, .str a0.Value, .imm 3 (a0.Promises.map TPromise.d) 4, .imm 1 (a0.Accepted.map (D.int .i64)) 4])], 1⟩
theorem zjo (a0 : TAttempt) (r : Bool) (h : ze7 a0 = some r) : zb7 Tryz.prog 14 [.agg [.int .u8 a0.Phase, .int .i64 a0.Ballot, .imm 1 (a0.Members.map (D.int .i64)) 4, .str a0.Wish, .str a0.Value, .imm 3 (a0.Promises.map TPromise.d) 4, .imm 1 (a0.Accepted.map (D.int .i64)) 4]] (.bool r) := by
 refine za2 Tryz.tmOk 3 Tryz.func14 rfl (by decide) rfl rfl (lb rfl) ?_
 intro hwf
 unfold ze7 at h
 refine .seq (.pl zS [0] ?_)
 refine .seq (.pl zS [1] ?_)
 obtain ⟨x1, hx1, h⟩ := bind_some h
 refine .seqM 1 (fun (j : Int) => ya47 a0 j) (fun j => x1 = j) (lb rfl) ?_ ?_
 refine .seq (.pl zS [1, 3] ?_)
 refine .block ?_
 refine .loopG 1 (fun (j : Nat × Int) => ya46 a0 j.1 j.2) (fun j => j.1 <= a0.Promises.length /\ zbg (a0.Promises.drop j.1) j.1 j.2 = some x1) (fun j => a0.Promises.length - j.1) (0, (wr .i64 ((a0.Wish.length : Int) + (a0.Value.length : Int)))) (lb rfl) ?_ ⟨Nat.zero_le _, hx1⟩ ?_
 exact .m [1, 3, 4] [0] []
 rintro ⟨n3, n2⟩ ⟨hi1, hx1⟩
 simp only [ya46]
 simp only at hi1 hx1
 refine .wfb 0 [.int .u8 a0.Phase, .int .i64 a0.Ballot, .imm 1 (a0.Members.map (D.int .i64)) 4, .str a0.Wish, .str a0.Value, .imm 3 (a0.Promises.map TPromise.d) 4, .imm 1 (a0.Accepted.map (D.int .i64)) 4] rfl ?_
 intro hln3
 replace hln3 : (a0.Promises.length : Int) <= 9223372036854775807 := by simp only [wf, wfL, IntKind.max, IntKind.min, IntKind.signed, IntKind.bits, List.length_map] at hln3; first | exact hln3.2 | exact hln3.1 | (simp at hln3; omega)
 refine .seq (.seq (.rg zS [1, 3, 4] ?_))
 refine .rn 6 ?_
 refine .rn 3 ?_
 refine .nn ?_
 refine .cd (fun hc1 => ?_) (fun hc1 => ?_)
 have h1 : n3 < a0.Promises.length := by have hq := hc1; simp at hq; omega
 have hwn3 : wr .i64 ((n3 : Int) + 1) = ((n3 + 1 : Nat) : Int) := zbx h1 hln3
 have hpn3 : wr .i64 ((n3 : Int) - 1) = (n3 : Int) - 1 := zcm h1 hln3
 rw [List.drop_eq_getElem_cons h1, zek] at hx1
 replace hx1 := za0 hx1 hc1
 refine .skip (.seq (.block ?_))
 have e1 := zbj TPromise.d a0.Promises n3 h1
 refine .rg zS [1, 3, 4] ?_
 refine .rnx 6 (ai e1 hwn3) ?_
 refine .rnx 5 (ai e1 hwn3) ?_
 refine .nn ?_
 refine .plx zS hwn3 [1, 3, 4] ?_
 refine ⟨(n3 + 1, _), ?_, ⟨by omega, hx1⟩, by dsimp only; omega⟩
 exact .m [1, 3, 4] [0] []
 by_cases h2 : n3 < a0.Promises.length
 rw [List.drop_eq_getElem_cons h2, zek] at hx1
 replace hx1 := zxn hx1 (by have hq := hc1; simp at hq ⊢; first | exact hq (by omega) | omega | grind)
 refine .exit ?_
 refine ⟨_, ?_, (sj hx1).symm⟩
 exact .m [1, 3] [0] []
 rw [List.drop_of_length_le (by omega), zg0] at hx1
 refine .exit ?_
 refine ⟨_, ?_, (sj hx1).symm⟩
 exact .m [1, 3] [0] []
 rintro n1 hj1
 subst x1
 try dsimp only at h
 simp only [ya47]
 refine .seq (.rg zS [1, 3] ?_)
 refine .rn 6 ?_
 refine .rn 6 ?_
 refine .rn 6 ?_
 refine .rn 3 ?_
 refine .nn ?_
 obtain rfl := sj h
 exact .rr
end Go.Proofs
end
section
namespace Go.Proofs
open Go.Tm
set_option linter.unusedVariables false
def zaw (a0 : List Int) : Option ((List Int)) :=
 if a0.length * 8 <= 140737488355328 then
 some a0
 else none
def zd6 (a0 : List TPromise) : Option ((List TPromise)) :=
 if a0.length * 32 <= 140737488355328 then
 some a0
 else none
def zf2 (a0 : TAttempt) : Option TAttempt :=
 Option.bind (zaw a0.Members) fun v1 =>
 Option.bind (zd6 a0.Promises) fun v2 =>
 Option.bind (zaw a0.Accepted) fun v3 =>
 some (⟨a0.Phase, a0.Ballot, v1, a0.Wish, a0.Value, v2, v3⟩ : TAttempt)
def zft (a0 : List Int) (a1 : Int) (a2 : List UInt8) : Option (TAttempt × Int) :=
 Option.bind (zcv a0) fun v1 =>
 if ¬ (v1 = 0) then
 some ((⟨0, 0, [], [], [], [], []⟩ : TAttempt), v1)
 else
 Option.bind (zcw a1) fun v2 =>
 if ¬ (v2 = 0) then
 some ((⟨0, 0, [], [], [], [], []⟩ : TAttempt), v2)
 else
 if (a2.length : Int) > 1024 then
 some ((⟨0, 0, [], [], [], [], []⟩ : TAttempt), 3)
 else
 Option.bind (zaw a0) fun v3 =>
 some ((⟨1, a1, v3, a2, [], [], []⟩ : TAttempt), 0)
end Go.Proofs
end
section
namespace Go.Proofs
open Go.Tm Go.RowKit Go.WideShapes
set_option maxRecDepth 100000
set_option maxHeartbeats 4000000
set_option linter.unusedSimpArgs false
set_option linter.unusedVariables false
@[go_sem] def st17 (r : (List Int)) : St := ⟨[(2, .ref 0 1 0 r.length (some uC))], [(0, .arr 3 1 true (r.map (D.int .i64)))], 1⟩
theorem ze5 (a0 : List Int) (r : (List Int)) (h : zaw a0 = some r) : zd1 Tryz.prog 23 [.imm 1 (a0.map (D.int .i64)) 4] [] (.ref 0 1 0 r.length (some uC)) [(0, some (.arr 3 1 true (r.map (D.int .i64))))] (0, 3) := by
 refine zab Tryz.tmOk Tryz.func23 rfl (by decide) (lb rfl) (by simp) ?_
 intro hwf
 unfold zaw at h
 refine .ends 0 (Nat.le_refl _) ?_
 refine .nil4 0 1 (a0.map (D.int .i64)) rfl ?_ (fun hl => ?_)
 refine .seq (.pl zS [0] ?_)
 refine .seq (.seq (.pl zS [0] ?_))
 refine .cond rfl rfl (fun hc => by cases hc) (fun hc => ?_)
 obtain ⟨k1, h⟩ := zaa h
 refine .skip ?_
 refine .seqM 0 (fun (_ : Unit) => ⟨[(2, .ref 0 1 0 a0.length (some uC))], [(0, .arr 3 1 true (a0.map (D.int .i64)))], 1⟩) (fun _ => True) (lb rfl) ?_ (fun _ _ => ?_)
 rcases zb5 a0 with hE1 | ⟨y, ys, hE1⟩
 have hM1 : a0.map (D.int .i64) = [] := by rw [hE1]; simp
 refine .px zS (apn hM1) [0] ?_
 refine ⟨(), ?_, trivial⟩
 refine Goes.new0 1 3 (lb rfl) ?_
 refine Goes.wk 2 _ (.ref 0 1 0 0 (some uC)) rfl (.own0 0 _ _ _ (by decide)) ?_
 exact .mx hE1 [2] [0] []
 have hM1 : a0.map (D.int .i64) ≠ [] := by rw [hE1]; simp
 refine .px zS (apc hM1) [0] ?_
 refine ⟨(), ?_, trivial⟩
 refine Goes.wk 2 _ (.ref 0 1 0 a0.length (some uC)) rfl (.unk _ _ _ _ _) ?_
 exact .mx hE1 [2] [0] []
 obtain rfl := sj h
 refine .ret ⟨st17 a0, ?_, .inr rfl, retH [0] ?_ ?_⟩
 exact .m [2] [0] []
 exact rsi0
 rfl
 have hE0 : a0 = [] := by simpa using hl
 obtain ⟨k1, h⟩ := zaa h
 refine .seq (.pl zS [0] ?_)
 refine .seq (.seq (.pl zS [0] ?_))
 refine .cond rfl rfl (fun hc => ?_) (fun hc => by cases hc)
 refine .seq (.pl zS [] ?_)
 obtain rfl := sj h
 refine .ret ⟨st17 a0, ?_, .inr rfl, retH [0] ?_ ?_⟩
 refine Goes.new0 1 3 (lb rfl) ?_
 refine Goes.wk 2 _ (.ref 0 1 0 0 (some uC)) rfl (.own0 0 _ _ _ (by decide)) ?_
 exact .mx hE0 [2] [0] []
 exact rsi0
 rfl
@[go_sem] def st15 (r : (List TPromise)) : St := ⟨[(2, .ref 0 3 0 r.length (some uC))], [(0, .arr 83 3 true (r.map TPromise.d))], 1⟩
theorem zhj (a0 : List TPromise) (r : (List TPromise)) (h : zd6 a0 = some r) : zd1 Tryz.prog 61 [.imm 3 (a0.map TPromise.d) 4] [] (.ref 0 3 0 r.length (some uC)) [(0, some (.arr 83 3 true (r.map TPromise.d)))] (0, 3) := by
 refine zab Tryz.tmOk Tryz.func61 rfl (by decide) (lb rfl) (by simp) ?_
 intro hwf
 unfold zd6 at h
 refine .ends 0 (Nat.le_refl _) ?_
 refine .nil4 0 3 (a0.map TPromise.d) rfl ?_ (fun hl => ?_)
 refine .seq (.pl zS [0] ?_)
 refine .seq (.seq (.pl zS [0] ?_))
 refine .cond rfl rfl (fun hc => by cases hc) (fun hc => ?_)
 obtain ⟨k1, h⟩ := zaa h
 refine .skip ?_
 refine .seqM 0 (fun (_ : Unit) => ⟨[(2, .ref 0 3 0 a0.length (some uC))], [(0, .arr 83 3 true (a0.map TPromise.d))], 1⟩) (fun _ => True) (lb rfl) ?_ (fun _ _ => ?_)
 rcases zb5 a0 with hE1 | ⟨y, ys, hE1⟩
 have hM1 : a0.map TPromise.d = [] := by rw [hE1]; simp
 refine .px zS (apn hM1) [0] ?_
 refine ⟨(), ?_, trivial⟩
 refine Goes.new0 3 83 (lb rfl) ?_
 refine Goes.wk 2 _ (.ref 0 3 0 0 (some uC)) rfl (.own0 0 _ _ _ (by decide)) ?_
 exact .mx hE1 [2] [0] []
 have hM1 : a0.map TPromise.d ≠ [] := by rw [hE1]; simp
 refine .px zS (apc hM1) [0] ?_
 refine ⟨(), ?_, trivial⟩
 refine Goes.wk 2 _ (.ref 0 3 0 a0.length (some uC)) rfl (.unk _ _ _ _ _) ?_
 exact .mx hE1 [2] [0] []
 obtain rfl := sj h
 refine .ret ⟨st15 a0, ?_, .inr rfl, retH [0] ?_ ?_⟩
 exact .m [2] [0] []
 exact rsi0
 rfl
 have hE0 : a0 = [] := by simpa using hl
 obtain ⟨k1, h⟩ := zaa h
 refine .seq (.pl zS [0] ?_)
 refine .seq (.seq (.pl zS [0] ?_))
 refine .cond rfl rfl (fun hc => ?_) (fun hc => by cases hc)
 refine .seq (.pl zS [] ?_)
 obtain rfl := sj h
 refine .ret ⟨st15 a0, ?_, .inr rfl, retH [0] ?_ ?_⟩
 refine Goes.new0 3 83 (lb rfl) ?_
 refine Goes.wk 2 _ (.ref 0 3 0 0 (some uC)) rfl (.own0 0 _ _ _ (by decide)) ?_
 exact .mx hE0 [2] [0] []
 exact rsi0
 rfl
@[go_sem] def st3 (r : TAttempt) : St := ⟨[(2, .ptr 3 0)], [(0, .arr 3 1 true (r.Members.map (D.int .i64))), (1, .arr 83 3 true (r.Promises.map TPromise.d)), (2, .arr 3 1 true (r.Accepted.map (D.int .i64))), (3, .box [.int .u8 r.Phase, .int .i64 r.Ballot, .ref 0 1 0 r.Members.length (some uC), .str r.Wish, .str r.Value, .ref 1 3 0 r.Promises.length (some uC), .ref 2 1 0 r.Accepted.length (some uC)])], 4⟩
theorem zht (a0 : TAttempt) (r : TAttempt) (h : zf2 a0 = some r) : zd1 Tryz.prog 28 [.agg [.int .u8 a0.Phase, .int .i64 a0.Ballot, .imm 1 (a0.Members.map (D.int .i64)) 4, .str a0.Wish, .str a0.Value, .imm 3 (a0.Promises.map TPromise.d) 4, .imm 1 (a0.Accepted.map (D.int .i64)) 4]] [] (.agg [.int .u8 r.Phase, .int .i64 r.Ballot, .ref 0 1 0 r.Members.length (some uC), .str r.Wish, .str r.Value, .ref 1 3 0 r.Promises.length (some uC), .ref 2 1 0 r.Accepted.length (some uC)]) [(0, some (.arr 3 1 true (r.Members.map (D.int .i64)))), (1, some (.arr 83 3 true (r.Promises.map TPromise.d))), (2, some (.arr 3 1 true (r.Accepted.map (D.int .i64))))] (0, 14) := by
 refine zab Tryz.tmOk Tryz.func28 rfl (by decide) (lb rfl) (by simp) ?_
 intro hwf
 unfold zf2 at h
 refine .ends 0 (Nat.le_refl _) ?_
 refine .seq (.pl zS [0] ?_)
 obtain ⟨v1, hv1, h⟩ := bind_some h
 obtain ⟨v2, hv2, h⟩ := bind_some h
 obtain ⟨v3, hv3, h⟩ := bind_some h
 refine .seq (.rg zS [1, 2] ?_)
 refine .rd 2 ?_
 refine .ncall (r := .ref 3 1 0 v1.length (some uC)) (eff := [(3, some (.arr 3 1 true (v1.map (D.int .i64))))]) (nw := (3, 6)) [] rfl rfl rfl rfl rfl (za3 rfl zai) rfl (zez 3 (lb rfl) (ze5 a0.Members v1 hv1)) (zb4 rfl rfl (zc5 zcd _ _ _) zf9) (by intro i hi; simp [D.ids, D.idsL] at hi <;> omega) rfl ⟨lb rfl, lb rfl⟩ ?_
 refine .rd 2 ?_
 refine .ncall (r := .ref 6 3 0 v2.length (some uC)) (eff := [(6, some (.arr 83 3 true (v2.map TPromise.d)))]) (nw := (6, 9)) [] rfl rfl rfl rfl rfl (za3 rfl zai) rfl (zez 6 (lb rfl) (zhj a0.Promises v2 hv2)) (zb4 rfl rfl (zc5 zdk _ _ _) zf9) (by intro i hi; simp [D.ids, D.idsL] at hi <;> omega) rfl ⟨lb rfl, lb rfl⟩ ?_
 refine .rd 2 ?_
 refine .ncall (r := .ref 9 1 0 v3.length (some uC)) (eff := [(9, some (.arr 3 1 true (v3.map (D.int .i64))))]) (nw := (9, 12)) [] rfl rfl rfl rfl rfl (za3 rfl zai) rfl (zez 9 (lb rfl) (ze5 a0.Accepted v3 hv3)) (zb4 rfl rfl (zc5 zcd _ _ _) zf9) (by intro i hi; simp [D.ids, D.idsL] at hi <;> omega) rfl ⟨lb rfl, lb rfl⟩ ?_
 refine .rd 6 ?_
 refine .nd ?_
 refine .seq (.pl zS [1, 2] ?_)
 obtain rfl := sj h
 refine .ret ⟨st3 (⟨a0.Phase, a0.Ballot, v1, a0.Wish, a0.Value, v2, v3⟩ : TAttempt), ?_, .inr rfl, retH [2, 1, 0] ?_ ?_⟩
 exact .m [2] [3, 6, 9, 1] [(3, 0), (6, 1), (9, 2), (1, 3)]
 exact rsi0
 rfl
theorem zo6 (a0 : TAttempt) (r : TAttempt) (h : zf2 a0 = some r) : zb7 Tryz.prog 28 [.agg [.int .u8 a0.Phase, .int .i64 a0.Ballot, .imm 1 (a0.Members.map (D.int .i64)) 4, .str a0.Wish, .str a0.Value, .imm 3 (a0.Promises.map TPromise.d) 4, .imm 1 (a0.Accepted.map (D.int .i64)) 4]] (.agg [.int .u8 r.Phase, .int .i64 r.Ballot, .imm 1 (r.Members.map (D.int .i64)) 13, .str r.Wish, .str r.Value, .imm 3 (r.Promises.map TPromise.d) 13, .imm 1 (r.Accepted.map (D.int .i64)) 13]) :=
 zg8 (zk8 (za4 rfl (za4 rfl (za4 (zbw zcd rfl rfl) (za4 rfl (za4 rfl (za4 (zbw zdk rfl rfl) (za4 (zbw zcd rfl rfl) zfi)))))))) (zht a0 r h)
@[go_sem] def st1 (r : TAttempt × Int) : St := ⟨[(6, .ptr 3 0), (7, .int .i64 r.2)], [(0, .arr 3 1 true (r.1.Members.map (D.int .i64))), (1, .arr 83 3 true (r.1.Promises.map TPromise.d)), (2, .arr 3 1 true (r.1.Accepted.map (D.int .i64))), (3, .box [.int .u8 r.1.Phase, .int .i64 r.1.Ballot, .ref 0 1 0 r.1.Members.length (some uC), .str r.1.Wish, .str r.1.Value, .ref 1 3 0 r.1.Promises.length (some uC), .ref 2 1 0 r.1.Accepted.length (some uC)])], 4⟩
theorem zne (a0 : List Int) (a1 : Int) (a2 : List UInt8) (r : TAttempt × Int) (h : zft a0 a1 a2 = some r) : zd1 Tryz.prog 48 [.imm 1 (a0.map (D.int .i64)) 4, .int .i64 a1, .str a2] [] (.tuple [.agg [.int .u8 r.1.Phase, .int .i64 r.1.Ballot, .ref 0 1 0 r.1.Members.length (some uC), .str r.1.Wish, .str r.1.Value, .ref 1 3 0 r.1.Promises.length (some uC), .ref 2 1 0 r.1.Accepted.length (some uC)], .int .i64 r.2]) [(0, some (.arr 3 1 true (r.1.Members.map (D.int .i64)))), (1, some (.arr 83 3 true (r.1.Promises.map TPromise.d))), (2, some (.arr 3 1 true (r.1.Accepted.map (D.int .i64))))] (0, 10) := by
 refine zab Tryz.tmOk Tryz.func48 rfl (by decide) (lb rfl) (by simp) ?_
 intro hwf
 unfold zft at h
 refine .ends 0 (Nat.le_refl _) ?_
 refine .seq (.pl zS [0, 1, 2] ?_)
 refine .seq ?_
 obtain ⟨v1, hv1, h⟩ := bind_some h
 refine .seq (.rg zS [0, 1, 2, 6] ?_)
 refine .rn 1 ?_
 refine .cl (zgf a0 v1 hv1) ?_
 refine .rn 1 ?_
 refine .nn ?_
 refine .seq (.pl zS [0, 1, 2, 6, 8] ?_)
 refine .cd (fun hc1 => ?_) (fun hc1 => ?_)
 replace h := za0 h hc1
 refine .seq (.pl zS [6, 8] ?_)
 obtain rfl := sj h
 refine .ret ⟨st1 ((⟨0, 0, [], [], [], [], []⟩ : TAttempt), v1), ?_, .inr rfl, retH [2, 1, 0] ?_ ?_⟩
 refine Goes.new0 1 3 (lb rfl) ?_
 refine Goes.new0 3 83 (lb rfl) ?_
 refine Goes.new0 1 3 (lb rfl) ?_
 refine Goes.boxs 0 _ [.int .u8 0, .int .i64 0, .ref 1 1 0 0 (some uC), .str [], .str [], .ref 2 3 0 0 (some uC), .ref 3 1 0 0 (some uC)] rfl (.keep (.keep (.cons (.own0 1 _ _ _ (by decide)) (.keep (.keep (.cons (.own0 2 _ _ _ (by decide)) (.cons (.own0 3 _ _ _ (by decide)) (.refl _)))))))) ?_
 exact .m [6, 7] [1, 2, 3, 0] [(1, 0), (2, 1), (3, 2), (0, 3)]
 exact rsi0
 rfl
 replace h := za1 h hc1
 refine .skip (.seq ?_)
 obtain ⟨v2, hv2, h⟩ := bind_some h
 refine .seq (.rg zS [0, 1, 2, 6] ?_)
 refine .rn 1 ?_
 refine .cl (ze0 a1 v2 hv2) ?_
 refine .rn 1 ?_
 refine .nn ?_
 refine .seq (.pl zS [0, 1, 2, 6, 9] ?_)
 refine .cd (fun hc2 => ?_) (fun hc2 => ?_)
 replace h := za0 h hc2
 refine .seq (.pl zS [6, 9] ?_)
 obtain rfl := sj h
 refine .ret ⟨st1 ((⟨0, 0, [], [], [], [], []⟩ : TAttempt), v2), ?_, .inr rfl, retH [2, 1, 0] ?_ ?_⟩
 refine Goes.new0 1 3 (lb rfl) ?_
 refine Goes.new0 3 83 (lb rfl) ?_
 refine Goes.new0 1 3 (lb rfl) ?_
 refine Goes.boxs 0 _ [.int .u8 0, .int .i64 0, .ref 1 1 0 0 (some uC), .str [], .str [], .ref 2 3 0 0 (some uC), .ref 3 1 0 0 (some uC)] rfl (.keep (.keep (.cons (.own0 1 _ _ _ (by decide)) (.keep (.keep (.cons (.own0 2 _ _ _ (by decide)) (.cons (.own0 3 _ _ _ (by decide)) (.refl _)))))))) ?_
 exact .m [6, 7] [1, 2, 3, 0] [(1, 0), (2, 1), (3, 2), (0, 3)]
 exact rsi0
 rfl
 replace h := za1 h hc2
 refine .skip (.seq (.seq (.pl zS [0, 1, 2, 6] ?_)))
 refine .cd (fun hc3 => ?_) (fun hc3 => ?_)
 replace h := za0 h hc3
 refine .seq (.pl zS [6] ?_)
 obtain rfl := sj h
 refine .ret ⟨st1 ((⟨0, 0, [], [], [], [], []⟩ : TAttempt), 3), ?_, .inr rfl, retH [2, 1, 0] ?_ ?_⟩
 refine Goes.new0 1 3 (lb rfl) ?_
 refine Goes.new0 3 83 (lb rfl) ?_
 refine Goes.new0 1 3 (lb rfl) ?_
 refine Goes.boxs 0 _ [.int .u8 0, .int .i64 0, .ref 1 1 0 0 (some uC), .str [], .str [], .ref 2 3 0 0 (some uC), .ref 3 1 0 0 (some uC)] rfl (.keep (.keep (.cons (.own0 1 _ _ _ (by decide)) (.keep (.keep (.cons (.own0 2 _ _ _ (by decide)) (.cons (.own0 3 _ _ _ (by decide)) (.refl _)))))))) ?_
 exact .m [6, 7] [1, 2, 3, 0] [(1, 0), (2, 1), (3, 2), (0, 3)]
 exact rsi0
 rfl
 replace h := za1 h hc3
 refine .skip ?_
 obtain ⟨v3, hv3, h⟩ := bind_some h
 refine .seq (.rg zS [0, 1, 2, 6] ?_)
 refine .rn 2 ?_
 refine .ncall (r := .ref 3 1 0 v3.length (some uC)) (eff := [(3, some (.arr 3 1 true (v3.map (D.int .i64))))]) (nw := (3, 6)) [] rfl rfl rfl rfl rfl (za3 rfl zai) rfl (zez 3 (lb rfl) (ze5 a0 v3 hv3)) (zb4 rfl rfl (zc5 zcd _ _ _) zf9) (by intro i hi; simp [D.ids, D.idsL] at hi <;> omega) rfl ⟨lb rfl, lb rfl⟩ ?_
 refine .rn 4 ?_
 refine .nn ?_
 obtain rfl := sj h
 refine .ret ⟨st1 ((⟨1, a1, v3, a2, [], [], []⟩ : TAttempt), 0), ?_, .inr rfl, retH [2, 1, 0] ?_ ?_⟩
 refine Goes.new0 3 83 (lb rfl) ?_
 refine Goes.new0 1 3 (lb rfl) ?_
 refine Goes.boxs 0 _ [.int .u8 1, .int .i64 a1, .ref 3 1 0 v3.length (some uC), .str a2, .str [], .ref 6 3 0 0 (some uC), .ref 7 1 0 0 (some uC)] rfl (.keep (.keep (.keep (.keep (.keep (.cons (.own0 6 _ _ _ (by decide)) (.cons (.own0 7 _ _ _ (by decide)) (.refl _)))))))) ?_
 exact .m [6, 7] [3, 6, 7, 0] [(3, 0), (6, 1), (7, 2), (0, 3)]
 exact rsi0
 rfl
theorem znd (a0 : List Int) (a1 : Int) (a2 : List UInt8) (r : TAttempt × Int) (h : zft a0 a1 a2 = some r) : zb7 Tryz.prog 48 [.imm 1 (a0.map (D.int .i64)) 4, .int .i64 a1, .str a2] (.tuple [.agg [.int .u8 r.1.Phase, .int .i64 r.1.Ballot, .imm 1 (r.1.Members.map (D.int .i64)) 13, .str r.1.Wish, .str r.1.Value, .imm 3 (r.1.Promises.map TPromise.d) 13, .imm 1 (r.1.Accepted.map (D.int .i64)) 13], .int .i64 r.2]) :=
 zg8 (zn7 (za4 (zk8 (za4 rfl (za4 rfl (za4 (zbw zcd rfl rfl) (za4 rfl (za4 rfl (za4 (zbw zdk rfl rfl) (za4 (zbw zcd rfl rfl) zfi)))))))) (za4 rfl zfi))) (zne a0 a1 a2 r h)
end Go.Proofs
end
section
namespace Go.Proofs
open Go.Tm
set_option linter.unusedVariables false
def zam (a : TAttempt) (p : TPromise) : Nat -> Int -> Option (Int)
 | 0, _ => none
 | fu1 + 1, n2 =>
  if (n2 < (a.Promises.length : Int)) -> (0 <= n2 /\ n2 < (a.Promises.length : Int)) then
  if (n2 < (a.Promises.length : Int)) /\ ((a.Promises.getD n2.toNat default).Node < p.Node) then
  zam a p fu1 (wr .i64 (n2 + 1))
  else
  some n2
  else none
def zcf (a : TAttempt) (ballot : Int) (p : TPromise) : Option (TAttempt × Int) :=
 Option.bind (zd2 a) fun v1 =>
 if ¬ (v1 = true) then
 some ((⟨0, 0, [], [], [], [], []⟩ : TAttempt), 8)
 else
 Option.bind (if ¬ ((¬ (a.Phase = 1)) \/ (¬ (ballot = a.Ballot))) then zbb a.Members p.Node else some default) fun v2 =>
 if ((¬ (a.Phase = 1)) \/ (¬ (ballot = a.Ballot))) \/ (¬ (v2 = true)) then
 some ((⟨0, 0, [], [], [], [], []⟩ : TAttempt), 6)
 else
 Option.bind (zc0 p ballot) fun v3 =>
 if ¬ (v3 = true) then
 some ((⟨0, 0, [], [], [], [], []⟩ : TAttempt), 8)
 else
 Option.bind (zc8 a) fun v4 =>
 Option.bind (zbq a.Promises) fun v5 =>
 Option.bind (zbb v5 p.Node) fun v6 =>
 if v6 = true then
 some (v4, 0)
 else
 Option.bind (α := Int) (zam a p (a.Promises.length + 1) 0) fun n1 =>
 if (0 <= n1 /\ n1 <= (a.Promises.length : Int)) then
 if (a.Promises.take n1.toNat).length * 32 <= 140737488355328 then
 if (a.Promises.take n1.toNat).length + [p].length < 1000000 then
 if (0 <= n1 /\ n1 <= (a.Promises.length : Int)) then
 if ((a.Promises.take n1.toNat) ++ [p]).length + (a.Promises.drop n1.toNat).length < 1000000 then
 Option.bind (α := Int × (List UInt8)) (Option.bind (zbq (((a.Promises.take n1.toNat) ++ [p]) ++ (a.Promises.drop n1.toNat))) fun v7 =>
 Option.bind (zbt a.Members v7) fun v8 =>
 if v8 = true then
 Option.bind (zdl (((a.Promises.take n1.toNat) ++ [p]) ++ (a.Promises.drop n1.toNat)) v4.Wish) fun v9 =>
 some (2, v9)
 else
 some (v4.Phase, v4.Value)) fun (n3, s1) =>
 some ((⟨n3, v4.Ballot, v4.Members, v4.Wish, s1, (((a.Promises.take n1.toNat) ++ [p]) ++ (a.Promises.drop n1.toNat)), v4.Accepted⟩ : TAttempt), 0)
 else none
 else none
 else none
 else none
 else none
def zan (a : TAttempt) (node : Int) : Nat -> Int -> Option (Int)
 | 0, _ => none
 | fu1 + 1, n2 =>
  if (n2 < (a.Accepted.length : Int)) -> (0 <= n2 /\ n2 < (a.Accepted.length : Int)) then
  if (n2 < (a.Accepted.length : Int)) /\ ((a.Accepted.getD n2.toNat default) < node) then
  zan a node fu1 (wr .i64 (n2 + 1))
  else
  some n2
  else none
def zbv (a : TAttempt) (ballot : Int) (node : Int) : Option (TAttempt × Int) :=
 Option.bind (zd2 a) fun v1 =>
 if ¬ (v1 = true) then
 some ((⟨0, 0, [], [], [], [], []⟩ : TAttempt), 8)
 else
 Option.bind (if ¬ ((a.Phase < 2) \/ (¬ (ballot = a.Ballot))) then zbb a.Members node else some default) fun v2 =>
 if ((a.Phase < 2) \/ (¬ (ballot = a.Ballot))) \/ (¬ (v2 = true)) then
 some ((⟨0, 0, [], [], [], [], []⟩ : TAttempt), 6)
 else
 Option.bind (zc8 a) fun v3 =>
 Option.bind (zbb a.Accepted node) fun v4 =>
 if v4 = true then
 some (v3, 0)
 else
 Option.bind (α := Int) (zan a node (a.Accepted.length + 1) 0) fun n1 =>
 if (0 <= n1 /\ n1 <= (a.Accepted.length : Int)) then
 if (a.Accepted.take n1.toNat).length * 8 <= 140737488355328 then
 if (a.Accepted.take n1.toNat).length + [node].length < 1000000 then
 if (0 <= n1 /\ n1 <= (a.Accepted.length : Int)) then
 if ((a.Accepted.take n1.toNat) ++ [node]).length + (a.Accepted.drop n1.toNat).length < 1000000 then
 Option.bind (α := Int) (Option.bind (zbt a.Members (((a.Accepted.take n1.toNat) ++ [node]) ++ (a.Accepted.drop n1.toNat))) fun v5 =>
 if v5 = true then
 some 3
 else
 some v3.Phase) fun n3 =>
 some ((⟨n3, v3.Ballot, v3.Members, v3.Wish, v3.Value, v3.Promises, (((a.Accepted.take n1.toNat) ++ [node]) ++ (a.Accepted.drop n1.toNat))⟩ : TAttempt), 0)
 else none
 else none
 else none
 else none
 else none
end Go.Proofs
end
section
namespace Go.Proofs
open Go.Tm Go.RowKit Go.WideShapes
set_option maxRecDepth 100000
set_option maxHeartbeats 4000000
set_option linter.unusedSimpArgs false
set_option linter.unusedVariables false
@[go_sem] def ya43 (a : TAttempt) (p : TPromise) (v4 : TAttempt) (n1 : Int) : St := ⟨[(3, .ptr 0 0), (5, .ptr 1 0), (6, .ptr 2 0), (8, .ptr 16 0), (9, .int .i64 n1)], [(0, .box [.int .u8 a.Phase, .int .i64 a.Ballot, .imm 1 (a.Members.map (D.int .i64)) 4, .str a.Wish, .str a.Value, .imm 3 (a.Promises.map TPromise.d) 4, .imm 1 (a.Accepted.map (D.int .i64)) 4]), (1, .box [.int .i64 p.Node, .int .i64 p.Ballot, .str p.Value]), (2, .box [.int .u8 0, .int .i64 0, .imm 0 [] 0, .str [], .str [], .imm 0 [] 0, .imm 0 [] 0]), (8, .arr 3 1 true (v4.Members.map (D.int .i64))), (9, .arr 83 3 true (v4.Promises.map TPromise.d)), (10, .arr 3 1 true (v4.Accepted.map (D.int .i64))), (16, .box [.int .u8 v4.Phase, .int .i64 v4.Ballot, .ref 8 1 0 v4.Members.length (some uC), .str v4.Wish, .str v4.Value, .ref 9 3 0 v4.Promises.length (some uC), .ref 10 1 0 v4.Accepted.length (some uC)])], 22⟩
@[go_sem] def ya42 (a : TAttempt) (p : TPromise) (v4 : TAttempt) (n2 : Int) : St := ⟨[(3, .ptr 0 0), (5, .ptr 1 0), (6, .ptr 2 0), (8, .ptr 16 0), (9, .int .i64 n2)], [(0, .box [.int .u8 a.Phase, .int .i64 a.Ballot, .imm 1 (a.Members.map (D.int .i64)) 4, .str a.Wish, .str a.Value, .imm 3 (a.Promises.map TPromise.d) 4, .imm 1 (a.Accepted.map (D.int .i64)) 4]), (1, .box [.int .i64 p.Node, .int .i64 p.Ballot, .str p.Value]), (2, .box [.int .u8 0, .int .i64 0, .imm 0 [] 0, .str [], .str [], .imm 0 [] 0, .imm 0 [] 0]), (8, .arr 3 1 true (v4.Members.map (D.int .i64))), (9, .arr 83 3 true (v4.Promises.map TPromise.d)), (10, .arr 3 1 true (v4.Accepted.map (D.int .i64))), (16, .box [.int .u8 v4.Phase, .int .i64 v4.Ballot, .ref 8 1 0 v4.Members.length (some uC), .str v4.Wish, .str v4.Value, .ref 9 3 0 v4.Promises.length (some uC), .ref 10 1 0 v4.Accepted.length (some uC)])], 22⟩
@[go_sem] def ya41 (a : TAttempt) (p : TPromise) (v4 : TAttempt) (n1 : Int) (n3 : Int) (s1 : List UInt8) : St := ⟨[(6, .ptr 2 0), (8, .ptr 16 0)], [(2, .box [.int .u8 0, .int .i64 0, .imm 0 [] 0, .str [], .str [], .imm 0 [] 0, .imm 0 [] 0]), (8, .arr 3 1 true (v4.Members.map (D.int .i64))), (10, .arr 3 1 true (v4.Accepted.map (D.int .i64))), (16, .box [.int .u8 n3, .int .i64 v4.Ballot, .ref 8 1 0 v4.Members.length (some uC), .str v4.Wish, .str s1, .ref 25 3 0 ((((a.Promises.take n1.toNat) ++ [p]) ++ (a.Promises.drop n1.toNat)).length) (some uC), .ref 10 1 0 v4.Accepted.length (some uC)]), (25, .arr 83 3 true ((((a.Promises.take n1.toNat) ++ [p]) ++ (a.Promises.drop n1.toNat)).map TPromise.d))], 26⟩
@[go_sem] def st20 (r : TAttempt × Int) : St := ⟨[(6, .ptr 3 0), (7, .int .i64 r.2)], [(0, .arr 3 1 true (r.1.Members.map (D.int .i64))), (1, .arr 83 3 true (r.1.Promises.map TPromise.d)), (2, .arr 3 1 true (r.1.Accepted.map (D.int .i64))), (3, .box [.int .u8 r.1.Phase, .int .i64 r.1.Ballot, .ref 0 1 0 r.1.Members.length (some uC), .str r.1.Wish, .str r.1.Value, .ref 1 3 0 r.1.Promises.length (some uC), .ref 2 1 0 r.1.Accepted.length (some uC)])], 4⟩
theorem zin (a : TAttempt) (ballot : Int) (p : TPromise) (r : TAttempt × Int) (h : zcf a ballot p = some r) : zd1 Tryz.prog 85 [.agg [.int .u8 a.Phase, .int .i64 a.Ballot, .imm 1 (a.Members.map (D.int .i64)) 4, .str a.Wish, .str a.Value, .imm 3 (a.Promises.map TPromise.d) 4, .imm 1 (a.Accepted.map (D.int .i64)) 4], .int .i64 ballot, .agg [.int .i64 p.Node, .int .i64 p.Ballot, .str p.Value]] [] (.tuple [.agg [.int .u8 r.1.Phase, .int .i64 r.1.Ballot, .ref 0 1 0 r.1.Members.length (some uC), .str r.1.Wish, .str r.1.Value, .ref 1 3 0 r.1.Promises.length (some uC), .ref 2 1 0 r.1.Accepted.length (some uC)], .int .i64 r.2]) [(0, some (.arr 3 1 true (r.1.Members.map (D.int .i64)))), (1, some (.arr 83 3 true (r.1.Promises.map TPromise.d))), (2, some (.arr 3 1 true (r.1.Accepted.map (D.int .i64))))] (0, 33) := by
 refine zab Tryz.tmOk Tryz.func85 rfl (by decide) (lb rfl) (by simp) ?_
 intro hwf
 unfold zcf at h
 refine .ends 0 (Nat.le_refl _) ?_
 refine .seq (.pl zS [0, 1, 2] ?_)
 refine .seq ?_
 obtain ⟨v1, hv1, h⟩ := bind_some h
 refine .seq (.rg zS [1, 3, 5, 6] ?_)
 refine .rn 1 ?_
 refine .cl (zfx a v1 hv1) ?_
 refine .rn 1 ?_
 refine .nn ?_
 refine .cd (fun hc1 => ?_) (fun hc1 => ?_)
 replace h := za0 h hc1
 refine .seq (.pl zS [6] ?_)
 obtain rfl := sj h
 refine .ret ⟨st20 ((⟨0, 0, [], [], [], [], []⟩ : TAttempt), 8), ?_, .inr rfl, retH [2, 1, 0] ?_ ?_⟩
 refine Goes.new0 1 3 (lb rfl) ?_
 refine Goes.new0 3 83 (lb rfl) ?_
 refine Goes.new0 1 3 (lb rfl) ?_
 refine Goes.boxs 2 _ [.int .u8 0, .int .i64 0, .ref 3 1 0 0 (some uC), .str [], .str [], .ref 4 3 0 0 (some uC), .ref 5 1 0 0 (some uC)] rfl (.keep (.keep (.cons (.own0 3 _ _ _ (by decide)) (.keep (.keep (.cons (.own0 4 _ _ _ (by decide)) (.cons (.own0 5 _ _ _ (by decide)) (.refl _)))))))) ?_
 exact .m [6, 7] [3, 4, 5, 2] [(3, 0), (4, 1), (5, 2), (2, 3)]
 exact rsi0
 rfl
 replace h := za1 h hc1
 refine .skip (.seq ?_)
 obtain ⟨v2, hv2, h⟩ := bind_some h
 refine .seq (.rg zS [1, 3, 5, 6] ?_)
 refine .rn 6 ?_
 refine .rn 8 ?_
 refine .gcall rfl rfl rfl rfl rfl (fun hg => ⟨[], [.imm 1 (a.Members.map (D.int .i64)) 4, .int .i64 p.Node], _, rfl, gd hg, rfl, (zc2 a.Members p.Node v2 (za0 hv2 hg))⟩) ?_
 refine .rn 2 ?_
 refine .nn ?_
 refine .cd (fun hc2 => ?_) (fun hc2 => ?_)
 replace h := za0 h hc2
 refine .seq (.pl zS [6] ?_)
 obtain rfl := sj h
 refine .ret ⟨st20 ((⟨0, 0, [], [], [], [], []⟩ : TAttempt), 6), ?_, .inr rfl, retH [2, 1, 0] ?_ ?_⟩
 refine Goes.new0 1 3 (lb rfl) ?_
 refine Goes.new0 3 83 (lb rfl) ?_
 refine Goes.new0 1 3 (lb rfl) ?_
 refine Goes.boxs 2 _ [.int .u8 0, .int .i64 0, .ref 3 1 0 0 (some uC), .str [], .str [], .ref 4 3 0 0 (some uC), .ref 5 1 0 0 (some uC)] rfl (.keep (.keep (.cons (.own0 3 _ _ _ (by decide)) (.keep (.keep (.cons (.own0 4 _ _ _ (by decide)) (.cons (.own0 5 _ _ _ (by decide)) (.refl _)))))))) ?_
 exact .m [6, 7] [3, 4, 5, 2] [(3, 0), (4, 1), (5, 2), (2, 3)]
 exact rsi0
 rfl
 replace h := za1 h hc2
 refine .skip (.seq ?_)
 obtain ⟨v3, hv3, h⟩ := bind_some h
 refine .seq (.rg zS [1, 3, 5, 6] ?_)
 refine .rn 2 ?_
 refine .cl (zfw p ballot v3 hv3) ?_
 refine .rn 1 ?_
 refine .nn ?_
 refine .cd (fun hc3 => ?_) (fun hc3 => ?_)
 replace h := za0 h hc3
 refine .seq (.pl zS [6] ?_)
 obtain rfl := sj h
 refine .ret ⟨st20 ((⟨0, 0, [], [], [], [], []⟩ : TAttempt), 8), ?_, .inr rfl, retH [2, 1, 0] ?_ ?_⟩
 refine Goes.new0 1 3 (lb rfl) ?_
 refine Goes.new0 3 83 (lb rfl) ?_
 refine Goes.new0 1 3 (lb rfl) ?_
 refine Goes.boxs 2 _ [.int .u8 0, .int .i64 0, .ref 3 1 0 0 (some uC), .str [], .str [], .ref 4 3 0 0 (some uC), .ref 5 1 0 0 (some uC)] rfl (.keep (.keep (.cons (.own0 3 _ _ _ (by decide)) (.keep (.keep (.cons (.own0 4 _ _ _ (by decide)) (.cons (.own0 5 _ _ _ (by decide)) (.refl _)))))))) ?_
 exact .m [6, 7] [3, 4, 5, 2] [(3, 0), (4, 1), (5, 2), (2, 3)]
 exact rsi0
 rfl
 replace h := za1 h hc3
 refine .skip ?_
 obtain ⟨v4, hv4, h⟩ := bind_some h
 refine .seq (.rg zS [3, 5, 6] ?_)
 refine .rn 1 ?_
 refine .ncall (r := .agg [.int .u8 v4.Phase, .int .i64 v4.Ballot, .ref 8 1 0 v4.Members.length (some uC), .str v4.Wish, .str v4.Value, .ref 9 3 0 v4.Promises.length (some uC), .ref 10 1 0 v4.Accepted.length (some uC)]) (eff := [(8, some (.arr 3 1 true (v4.Members.map (D.int .i64)))), (9, some (.arr 83 3 true (v4.Promises.map TPromise.d))), (10, some (.arr 3 1 true (v4.Accepted.map (D.int .i64))))]) (nw := (8, 16)) [] rfl rfl rfl rfl rfl (za3 rfl zai) rfl (zez 8 (lb rfl) (zfo a v4 hv4)) (zb4 rfl rfl (zc5 zcd _ _ _) (zb4 rfl rfl (zc5 zdk _ _ _) (zb4 rfl rfl (zc5 zcd _ _ _) zf9))) (by intro i hi; simp [D.ids, D.idsL] at hi <;> omega) rfl ⟨lb rfl, lb rfl⟩ ?_
 refine .rn 2 ?_
 refine .nn ?_
 refine .seq ?_
 obtain ⟨v5, hv5, h⟩ := bind_some h
 obtain ⟨v6, hv6, h⟩ := bind_some h
 refine .seq (.rg zS [3, 5, 6, 8] ?_)
 refine .rd 2 ?_
 refine .ncall (r := .ref 17 1 0 v5.length (some uC)) (eff := [(17, some (.arr 3 1 true (v5.map (D.int .i64))))]) (nw := (17, 22)) [] rfl rfl rfl rfl rfl (za3 rfl zai) rfl (zez 17 (lb rfl) (ze4 a.Promises v5 hv5)) (zb4 rfl rfl (zc5 zcd _ _ _) zf9) (by intro i hi; simp [D.ids, D.idsL] at hi <;> omega) rfl ⟨lb rfl, lb rfl⟩ ?_
 refine .rd 2 ?_
 refine .lcall (r := .bool v6) [] rfl rfl rfl rfl rfl (za3 (zfh (zen (ziq .i64) (by first | rfl | (simp only [go_sem, Nat.reduceBEq]; rfl)) (by first | rfl | (simp; done) | (simp <;> omega))) trivial) (za3 rfl zai)) rfl (zc2 v5 p.Node v6 hv6) ?_
 refine .nd ?_
 refine .cd (fun hc4 => ?_) (fun hc4 => ?_)
 replace h := za0 h hc4
 refine .seq (.pl zS [6, 8] ?_)
 obtain rfl := sj h
 refine .ret ⟨st20 (v4, 0), ?_, .inr rfl, retH [2, 1, 0] ?_ ?_⟩
 exact .m [6, 7] [8, 9, 10, 2] [(8, 0), (9, 1), (10, 2), (2, 3)]
 exact rsi0
 rfl
 replace h := za1 h hc4
 refine .skip (.seq (.pl zS [3, 5, 6, 8] ?_))
 obtain ⟨x1, hx1, h⟩ := bind_some h
 refine .seqM 22 (fun (j : Int) => ya43 a p v4 j) (fun j => x1 = j) (lb rfl) ?_ ?_
 refine .block ?_
 refine .loopG 22 (fun (j : Nat × Int) => ya42 a p v4 j.2) (fun j => zam a p j.1 j.2 = some x1) (fun j => j.1) (a.Promises.length + 1, 0) (lb rfl) ?_ hx1 ?_
 exact .m [3, 5, 6, 8, 9] [0, 1, 2, 8, 9, 10, 16] []
 rintro ⟨fu1, n2⟩ hx1
 simp only [ya42]
 try simp only at hx1
 obtain ⟨fu1, rfl⟩ : ∃ k, fu1 = k + 1 := by cases fu1 with | zero => (rw [zam] at hx1; cases hx1) | succ k => exact ⟨k, rfl⟩
 rw [zam] at hx1
 refine .seq ?_
 obtain ⟨k2, hx1⟩ := zaa hx1
 refine .seqM 22 (fun (_ : Unit) => ⟨[(3, .ptr 0 0), (5, .ptr 1 0), (6, .ptr 2 0), (8, .ptr 16 0), (9, .int .i64 n2), (61, .bool ((decide (n2 < (a.Promises.length : Int))) && (decide ((a.Promises.getD n2.toNat default).Node < p.Node))))], [(0, .box [.int .u8 a.Phase, .int .i64 a.Ballot, .imm 1 (a.Members.map (D.int .i64)) 4, .str a.Wish, .str a.Value, .imm 3 (a.Promises.map TPromise.d) 4, .imm 1 (a.Accepted.map (D.int .i64)) 4]), (1, .box [.int .i64 p.Node, .int .i64 p.Ballot, .str p.Value]), (2, .box [.int .u8 0, .int .i64 0, .imm 0 [] 0, .str [], .str [], .imm 0 [] 0, .imm 0 [] 0]), (8, .arr 3 1 true (v4.Members.map (D.int .i64))), (9, .arr 83 3 true (v4.Promises.map TPromise.d)), (10, .arr 3 1 true (v4.Accepted.map (D.int .i64))), (16, .box [.int .u8 v4.Phase, .int .i64 v4.Ballot, .ref 8 1 0 v4.Members.length (some uC), .str v4.Wish, .str v4.Value, .ref 9 3 0 v4.Promises.length (some uC), .ref 10 1 0 v4.Accepted.length (some uC)])], 22⟩) (fun _ => True) (lb rfl) ?_ (fun _ _ => ?_)
 by_cases hgd : n2 < (a.Promises.length : Int)
 have eg10 := zax TPromise.d a.Promises n2 (k2 hgd)
 refine .rg zS [3, 5, 6, 8, 9] ?_
 refine .rdx 6 eg10 ?_
 refine .rdx 6 eg10 ?_
 refine .rdx 4 eg10 ?_
 refine .nd ?_
 refine ⟨(), ?_, trivial⟩
 exact .m [3, 5, 6, 8, 9, 61] [0, 1, 2, 8, 9, 10, 16] []
 have hgf1 : (decide (n2 < (a.Promises.length : Int))) = false := by first | simpa using hgd | (simp at hgd ⊢; omega) | grind
 rcases zqf TPromise.d a.Promises n2.toNat with eg10 | eg10
 refine .rg zS [3, 5, 6, 8, 9] ?_
 refine .rdx 6 (ai eg10 hgf1) ?_
 refine .rdx 6 (ai eg10 hgf1) ?_
 refine .rdx 4 (ai eg10 hgf1) ?_
 refine .nd ?_
 refine ⟨(), ?_, trivial⟩
 exact .mx hgf1 [3, 5, 6, 8, 9, 61] [0, 1, 2, 8, 9, 10, 16] []
 refine .rg zS [3, 5, 6, 8, 9] ?_
 refine .rdx 6 (ai eg10 hgf1) ?_
 refine .rdx 6 (ai eg10 hgf1) ?_
 refine .rdx 4 (ai eg10 hgf1) ?_
 refine .nd ?_
 refine ⟨(), ?_, trivial⟩
 exact .mx hgf1 [3, 5, 6, 8, 9, 61] [0, 1, 2, 8, 9, 10, 16] []
 refine .cd (fun hc5 => ?_) (fun hc5 => ?_)
 replace hx1 := za0 hx1 hc5
 refine .skip (.block (.pl zS [3, 5, 6, 8, 9] ?_))
 refine ⟨(fu1, _), ?_, hx1, by dsimp only; omega⟩
 exact .m [3, 5, 6, 8, 9] [0, 1, 2, 8, 9, 10, 16] []
 replace hx1 := za1 hx1 hc5
 refine .exit ?_
 refine ⟨_, ?_, (sj hx1).symm⟩
 exact .m [3, 5, 6, 8, 9] [0, 1, 2, 8, 9, 10, 16] []
 rintro n1 hj1
 subst x1
 try dsimp only at h
 simp only [ya43]
 obtain ⟨k3, h⟩ := zaa h
 obtain ⟨k4, h⟩ := zaa h
 refine .seqM 22 (fun (_ : Unit) => ⟨[(3, .ptr 0 0), (5, .ptr 1 0), (6, .ptr 2 0), (8, .ptr 16 0), (9, .int .i64 n1)], [(0, .box [.int .u8 a.Phase, .int .i64 a.Ballot, .imm 1 (a.Members.map (D.int .i64)) 4, .str a.Wish, .str a.Value, .imm 3 (a.Promises.map TPromise.d) 4, .imm 1 (a.Accepted.map (D.int .i64)) 4]), (1, .box [.int .i64 p.Node, .int .i64 p.Ballot, .str p.Value]), (2, .box [.int .u8 0, .int .i64 0, .imm 0 [] 0, .str [], .str [], .imm 0 [] 0, .imm 0 [] 0]), (8, .arr 3 1 true (v4.Members.map (D.int .i64))), (10, .arr 3 1 true (v4.Accepted.map (D.int .i64))), (16, .box [.int .u8 v4.Phase, .int .i64 v4.Ballot, .ref 8 1 0 v4.Members.length (some uC), .str v4.Wish, .str v4.Value, .ref 22 3 0 ((a.Promises.take n1.toNat).length) (some uC), .ref 10 1 0 v4.Accepted.length (some uC)]), (22, .arr 83 3 true ((a.Promises.take n1.toNat).map TPromise.d))], 23⟩) (fun _ => True) (lb rfl) ?_ (fun _ _ => ?_)
 rcases zb5 (a.Promises.take n1.toNat) with hE1 | ⟨y, ys, hE1⟩
 have hM1 : (a.Promises.take n1.toNat).map TPromise.d = [] := by rw [hE1]; simp
 refine .pp zS [3, 5, 6, 8, 9] (by intro q hq; simp only [go_sem, Nat.reduceSub, Int.reduceEq, Nat.reduceLT, Nat.reduceDiv, Nat.reduceAdd, Nat.reduceBEq, Nat.reduceLeDiff, reduceCtorEq, Nat.reduceEqDiff, Nat.reduceMod, Nat.reduceMul, Tryz.tm_47, Tryz.tm_49, zk0, zit, zia, List.take_length, Int.toNat_zero, znf hM1, TAttempt.d, TPromise.d]; exact hq) ?_
 refine ⟨(), ?_, trivial⟩
 refine Goes.new0 3 83 (lb rfl) ?_
 refine Goes.boxs 16 _ [.int .u8 v4.Phase, .int .i64 v4.Ballot, .ref 8 1 0 v4.Members.length (some uC), .str v4.Wish, .str v4.Value, .ref 22 3 0 0 (some uC), .ref 10 1 0 v4.Accepted.length (some uC)] rfl (.keep (.keep (.keep (.keep (.keep (.cons (.own0 22 _ _ _ (by decide)) (.refl _))))))) ?_
 exact .mx hE1 [3, 5, 6, 8, 9] [0, 1, 2, 8, 10, 16, 22] []
 have hM1 : (a.Promises.take n1.toNat).map TPromise.d ≠ [] := by rw [hE1]; simp
 refine .pp zS [3, 5, 6, 8, 9] (by intro q hq; simp only [go_sem, Nat.reduceSub, Int.reduceEq, Nat.reduceLT, Nat.reduceDiv, Nat.reduceAdd, Nat.reduceBEq, Nat.reduceLeDiff, reduceCtorEq, Nat.reduceEqDiff, Nat.reduceMod, Nat.reduceMul, Tryz.tm_47, Tryz.tm_49, zk0, zit, zia, List.take_length, Int.toNat_zero, zma hM1, TAttempt.d, TPromise.d]; exact hq) ?_
 refine ⟨(), ?_, trivial⟩
 refine Goes.boxs 16 _ [.int .u8 v4.Phase, .int .i64 v4.Ballot, .ref 8 1 0 v4.Members.length (some uC), .str v4.Wish, .str v4.Value, .ref 22 3 0 ((a.Promises.take n1.toNat).length) (some uC), .ref 10 1 0 v4.Accepted.length (some uC)] rfl (.keep (.keep (.keep (.keep (.keep (.cons (.unk _ _ _ _ _) (.refl _))))))) ?_
 exact .mx hE1 [3, 5, 6, 8, 9] [0, 1, 2, 8, 10, 16, 22] []
 obtain ⟨k5, h⟩ := zaa h
 refine .seq (.pl zS [3, 5, 6, 8, 9] ?_)
 obtain ⟨k6, h⟩ := zaa h
 obtain ⟨k7, h⟩ := zaa h
 refine .seq (.rg zS [3, 6, 8, 9] ?_)
 refine .rd 6 ?_
 refine .rd 3 ?_
 refine .nd ?_
 obtain ⟨x2, hx2, h⟩ := bind_some h
 refine .seqM 26 (fun (j : Int × (List UInt8)) => ya41 a p v4 n1 j.1 j.2) (fun j => x2 = j) (lb rfl) ?_ ?_
 refine .seq ?_
 obtain ⟨v7, hv7, hx2⟩ := bind_some hx2
 obtain ⟨v8, hv8, hx2⟩ := bind_some hx2
 refine .rg zS [3, 6, 8] ?_
 refine .rd 4 ?_
 refine .ncall (r := .ref 26 1 0 v7.length (some uC)) (eff := [(26, some (.arr 3 1 true (v7.map (D.int .i64))))]) (nw := (26, 31)) [] rfl rfl rfl rfl rfl (za3 (zfh (zen zi4 (by first | rfl | (simp only [go_sem, Nat.reduceBEq]; rfl)) (by first | rfl | (simp; done) | (simp <;> omega))) trivial) zai) rfl (zez 26 (lb rfl) (ze4 (((a.Promises.take n1.toNat) ++ [p]) ++ (a.Promises.drop n1.toNat)) v7 hv7)) (zb4 rfl rfl (zc5 zcd _ _ _) zf9) (by intro i hi; simp [D.ids, D.idsL] at hi <;> omega) rfl ⟨lb rfl, lb rfl⟩ ?_
 refine .rd 0 ?_
 refine .lcall (r := .bool v8) [] rfl rfl rfl rfl rfl (za3 rfl (za3 (zfh (zen (ziq .i64) (by first | rfl | (simp only [go_sem, Nat.reduceBEq]; rfl)) (by first | rfl | (simp; done) | (simp <;> omega))) trivial) zai)) rfl (zdz a.Members v7 v8 hv8) ?_
 refine .nd ?_
 refine .cd (fun hc6 => ?_) (fun hc6 => ?_)
 replace hx2 := za0 hx2 hc6
 refine .seq (.pl zS [6, 8] ?_)
 obtain ⟨v9, hv9, hx2⟩ := bind_some hx2
 refine .rg zS [6, 8] ?_
 refine .rn 4 ?_
 refine .lcall (r := .str v9) [] rfl rfl rfl rfl rfl (za3 (zfh (zen zi4 (by first | rfl | (simp only [go_sem, Nat.reduceBEq]; rfl)) (by first | rfl | (simp; done) | (simp <;> omega))) trivial) (za3 rfl zai)) rfl (zh4 (((a.Promises.take n1.toNat) ++ [p]) ++ (a.Promises.drop n1.toNat)) v4.Wish v9 hv9) ?_
 refine .rn 2 ?_
 refine .nn ?_
 refine ⟨_, ?_, (sj hx2).symm⟩
 exact .m [6, 8] [2, 8, 10, 16, 25] []
 replace hx2 := za1 hx2 hc6
 refine .skip ?_
 refine ⟨_, ?_, (sj hx2).symm⟩
 exact .m [6, 8] [2, 8, 10, 16, 25] []
 rintro ⟨n3, s1⟩ hj2
 subst x2
 try dsimp only at h
 simp only [ya41]
 refine .seq (.pl zS [6, 8] ?_)
 obtain rfl := sj h
 refine .ret ⟨st20 ((⟨n3, v4.Ballot, v4.Members, v4.Wish, s1, (((a.Promises.take n1.toNat) ++ [p]) ++ (a.Promises.drop n1.toNat)), v4.Accepted⟩ : TAttempt), 0), ?_, .inr rfl, retH [2, 1, 0] ?_ ?_⟩
 exact .m [6, 7] [8, 25, 10, 2] [(8, 0), (25, 1), (10, 2), (2, 3)]
 exact rsi0
 rfl
theorem zil (a : TAttempt) (ballot : Int) (p : TPromise) (r : TAttempt × Int) (h : zcf a ballot p = some r) : zb7 Tryz.prog 85 [.agg [.int .u8 a.Phase, .int .i64 a.Ballot, .imm 1 (a.Members.map (D.int .i64)) 4, .str a.Wish, .str a.Value, .imm 3 (a.Promises.map TPromise.d) 4, .imm 1 (a.Accepted.map (D.int .i64)) 4], .int .i64 ballot, .agg [.int .i64 p.Node, .int .i64 p.Ballot, .str p.Value]] (.tuple [.agg [.int .u8 r.1.Phase, .int .i64 r.1.Ballot, .imm 1 (r.1.Members.map (D.int .i64)) 13, .str r.1.Wish, .str r.1.Value, .imm 3 (r.1.Promises.map TPromise.d) 13, .imm 1 (r.1.Accepted.map (D.int .i64)) 13], .int .i64 r.2]) :=
 zg8 (zn7 (za4 (zk8 (za4 rfl (za4 rfl (za4 (zbw zcd rfl rfl) (za4 rfl (za4 rfl (za4 (zbw zdk rfl rfl) (za4 (zbw zcd rfl rfl) zfi)))))))) (za4 rfl zfi))) (zin a ballot p r h)
@[go_sem] def st97 (a : TAttempt) (node : Int) (v3 : TAttempt) (n1 : Int) : St := ⟨[(2, .int .i64 node), (3, .ptr 0 0), (6, .ptr 1 0), (8, .ptr 16 0), (9, .int .i64 n1)], [(0, .box [.int .u8 a.Phase, .int .i64 a.Ballot, .imm 1 (a.Members.map (D.int .i64)) 4, .str a.Wish, .str a.Value, .imm 3 (a.Promises.map TPromise.d) 4, .imm 1 (a.Accepted.map (D.int .i64)) 4]), (1, .box [.int .u8 0, .int .i64 0, .imm 0 [] 0, .str [], .str [], .imm 0 [] 0, .imm 0 [] 0]), (8, .arr 3 1 true (v3.Members.map (D.int .i64))), (9, .arr 83 3 true (v3.Promises.map TPromise.d)), (10, .arr 3 1 true (v3.Accepted.map (D.int .i64))), (16, .box [.int .u8 v3.Phase, .int .i64 v3.Ballot, .ref 8 1 0 v3.Members.length (some uC), .str v3.Wish, .str v3.Value, .ref 9 3 0 v3.Promises.length (some uC), .ref 10 1 0 v3.Accepted.length (some uC)])], 17⟩
@[go_sem] def st98 (a : TAttempt) (node : Int) (v3 : TAttempt) (n2 : Int) : St := ⟨[(2, .int .i64 node), (3, .ptr 0 0), (6, .ptr 1 0), (8, .ptr 16 0), (9, .int .i64 n2)], [(0, .box [.int .u8 a.Phase, .int .i64 a.Ballot, .imm 1 (a.Members.map (D.int .i64)) 4, .str a.Wish, .str a.Value, .imm 3 (a.Promises.map TPromise.d) 4, .imm 1 (a.Accepted.map (D.int .i64)) 4]), (1, .box [.int .u8 0, .int .i64 0, .imm 0 [] 0, .str [], .str [], .imm 0 [] 0, .imm 0 [] 0]), (8, .arr 3 1 true (v3.Members.map (D.int .i64))), (9, .arr 83 3 true (v3.Promises.map TPromise.d)), (10, .arr 3 1 true (v3.Accepted.map (D.int .i64))), (16, .box [.int .u8 v3.Phase, .int .i64 v3.Ballot, .ref 8 1 0 v3.Members.length (some uC), .str v3.Wish, .str v3.Value, .ref 9 3 0 v3.Promises.length (some uC), .ref 10 1 0 v3.Accepted.length (some uC)])], 17⟩
@[go_sem] def st99 (a : TAttempt) (node : Int) (v3 : TAttempt) (n1 : Int) (n3 : Int) : St := ⟨[(6, .ptr 1 0), (8, .ptr 16 0)], [(1, .box [.int .u8 0, .int .i64 0, .imm 0 [] 0, .str [], .str [], .imm 0 [] 0, .imm 0 [] 0]), (8, .arr 3 1 true (v3.Members.map (D.int .i64))), (9, .arr 83 3 true (v3.Promises.map TPromise.d)), (16, .box [.int .u8 n3, .int .i64 v3.Ballot, .ref 8 1 0 v3.Members.length (some uC), .str v3.Wish, .str v3.Value, .ref 9 3 0 v3.Promises.length (some uC), .ref 20 1 0 ((((a.Accepted.take n1.toNat) ++ [node]) ++ (a.Accepted.drop n1.toNat)).length) (some uC)]), (20, .arr 3 1 true ((((a.Accepted.take n1.toNat) ++ [node]) ++ (a.Accepted.drop n1.toNat)).map (D.int .i64)))], 21⟩
@[go_sem] def st18 (r : TAttempt × Int) : St := ⟨[(6, .ptr 3 0), (7, .int .i64 r.2)], [(0, .arr 3 1 true (r.1.Members.map (D.int .i64))), (1, .arr 83 3 true (r.1.Promises.map TPromise.d)), (2, .arr 3 1 true (r.1.Accepted.map (D.int .i64))), (3, .box [.int .u8 r.1.Phase, .int .i64 r.1.Ballot, .ref 0 1 0 r.1.Members.length (some uC), .str r.1.Wish, .str r.1.Value, .ref 1 3 0 r.1.Promises.length (some uC), .ref 2 1 0 r.1.Accepted.length (some uC)])], 4⟩
theorem zio (a : TAttempt) (ballot : Int) (node : Int) (r : TAttempt × Int) (h : zbv a ballot node = some r) : zd1 Tryz.prog 59 [.agg [.int .u8 a.Phase, .int .i64 a.Ballot, .imm 1 (a.Members.map (D.int .i64)) 4, .str a.Wish, .str a.Value, .imm 3 (a.Promises.map TPromise.d) 4, .imm 1 (a.Accepted.map (D.int .i64)) 4], .int .i64 ballot, .int .i64 node] [] (.tuple [.agg [.int .u8 r.1.Phase, .int .i64 r.1.Ballot, .ref 0 1 0 r.1.Members.length (some uC), .str r.1.Wish, .str r.1.Value, .ref 1 3 0 r.1.Promises.length (some uC), .ref 2 1 0 r.1.Accepted.length (some uC)], .int .i64 r.2]) [(0, some (.arr 3 1 true (r.1.Members.map (D.int .i64)))), (1, some (.arr 83 3 true (r.1.Promises.map TPromise.d))), (2, some (.arr 3 1 true (r.1.Accepted.map (D.int .i64))))] (0, 23) := by
 refine zab Tryz.tmOk Tryz.func59 rfl (by decide) (lb rfl) (by simp) ?_
 intro hwf
 unfold zbv at h
 refine .ends 0 (Nat.le_refl _) ?_
 refine .seq (.pl zS [0, 1, 2] ?_)
 refine .seq ?_
 obtain ⟨v1, hv1, h⟩ := bind_some h
 refine .seq (.rg zS [1, 2, 3, 6] ?_)
 refine .rn 1 ?_
 refine .cl (zfx a v1 hv1) ?_
 refine .rn 1 ?_
 refine .nn ?_
 refine .cd (fun hc1 => ?_) (fun hc1 => ?_)
 replace h := za0 h hc1
 refine .seq (.pl zS [6] ?_)
 obtain rfl := sj h
 refine .ret ⟨st18 ((⟨0, 0, [], [], [], [], []⟩ : TAttempt), 8), ?_, .inr rfl, retH [2, 1, 0] ?_ ?_⟩
 refine Goes.new0 1 3 (lb rfl) ?_
 refine Goes.new0 3 83 (lb rfl) ?_
 refine Goes.new0 1 3 (lb rfl) ?_
 refine Goes.boxs 1 _ [.int .u8 0, .int .i64 0, .ref 2 1 0 0 (some uC), .str [], .str [], .ref 3 3 0 0 (some uC), .ref 4 1 0 0 (some uC)] rfl (.keep (.keep (.cons (.own0 2 _ _ _ (by decide)) (.keep (.keep (.cons (.own0 3 _ _ _ (by decide)) (.cons (.own0 4 _ _ _ (by decide)) (.refl _)))))))) ?_
 exact .m [6, 7] [2, 3, 4, 1] [(2, 0), (3, 1), (4, 2), (1, 3)]
 exact rsi0
 rfl
 replace h := za1 h hc1
 refine .skip (.seq ?_)
 obtain ⟨v2, hv2, h⟩ := bind_some h
 refine .seq (.rg zS [1, 2, 3, 6] ?_)
 refine .rn 6 ?_
 refine .rn 7 ?_
 refine .gcall rfl rfl rfl rfl rfl (fun hg => ⟨[], [.imm 1 (a.Members.map (D.int .i64)) 4, .int .i64 node], _, rfl, gd hg, rfl, (zc2 a.Members node v2 (za0 hv2 hg))⟩) ?_
 refine .rn 2 ?_
 refine .nn ?_
 refine .cd (fun hc2 => ?_) (fun hc2 => ?_)
 replace h := za0 h hc2
 refine .seq (.pl zS [6] ?_)
 obtain rfl := sj h
 refine .ret ⟨st18 ((⟨0, 0, [], [], [], [], []⟩ : TAttempt), 6), ?_, .inr rfl, retH [2, 1, 0] ?_ ?_⟩
 refine Goes.new0 1 3 (lb rfl) ?_
 refine Goes.new0 3 83 (lb rfl) ?_
 refine Goes.new0 1 3 (lb rfl) ?_
 refine Goes.boxs 1 _ [.int .u8 0, .int .i64 0, .ref 2 1 0 0 (some uC), .str [], .str [], .ref 3 3 0 0 (some uC), .ref 4 1 0 0 (some uC)] rfl (.keep (.keep (.cons (.own0 2 _ _ _ (by decide)) (.keep (.keep (.cons (.own0 3 _ _ _ (by decide)) (.cons (.own0 4 _ _ _ (by decide)) (.refl _)))))))) ?_
 exact .m [6, 7] [2, 3, 4, 1] [(2, 0), (3, 1), (4, 2), (1, 3)]
 exact rsi0
 rfl
 replace h := za1 h hc2
 refine .skip ?_
 obtain ⟨v3, hv3, h⟩ := bind_some h
 refine .seq (.rg zS [2, 3, 6] ?_)
 refine .rn 1 ?_
 refine .ncall (r := .agg [.int .u8 v3.Phase, .int .i64 v3.Ballot, .ref 8 1 0 v3.Members.length (some uC), .str v3.Wish, .str v3.Value, .ref 9 3 0 v3.Promises.length (some uC), .ref 10 1 0 v3.Accepted.length (some uC)]) (eff := [(8, some (.arr 3 1 true (v3.Members.map (D.int .i64)))), (9, some (.arr 83 3 true (v3.Promises.map TPromise.d))), (10, some (.arr 3 1 true (v3.Accepted.map (D.int .i64))))]) (nw := (8, 16)) [] rfl rfl rfl rfl rfl (za3 rfl zai) rfl (zez 8 (lb rfl) (zfo a v3 hv3)) (zb4 rfl rfl (zc5 zcd _ _ _) (zb4 rfl rfl (zc5 zdk _ _ _) (zb4 rfl rfl (zc5 zcd _ _ _) zf9))) (by intro i hi; simp [D.ids, D.idsL] at hi <;> omega) rfl ⟨lb rfl, lb rfl⟩ ?_
 refine .rn 2 ?_
 refine .nn ?_
 refine .seq ?_
 obtain ⟨v4, hv4, h⟩ := bind_some h
 refine .seq (.rg zS [2, 3, 6, 8] ?_)
 refine .rn 3 ?_
 refine .cl (zc2 a.Accepted node v4 hv4) ?_
 refine .nn ?_
 refine .cd (fun hc3 => ?_) (fun hc3 => ?_)
 replace h := za0 h hc3
 refine .seq (.pl zS [6, 8] ?_)
 obtain rfl := sj h
 refine .ret ⟨st18 (v3, 0), ?_, .inr rfl, retH [2, 1, 0] ?_ ?_⟩
 exact .m [6, 7] [8, 9, 10, 1] [(8, 0), (9, 1), (10, 2), (1, 3)]
 exact rsi0
 rfl
 replace h := za1 h hc3
 refine .skip (.seq (.pl zS [2, 3, 6, 8] ?_))
 obtain ⟨x1, hx1, h⟩ := bind_some h
 refine .seqM 17 (fun (j : Int) => st97 a node v3 j) (fun j => x1 = j) (lb rfl) ?_ ?_
 refine .block ?_
 refine .loopG 17 (fun (j : Nat × Int) => st98 a node v3 j.2) (fun j => zan a node j.1 j.2 = some x1) (fun j => j.1) (a.Accepted.length + 1, 0) (lb rfl) ?_ hx1 ?_
 exact .m [2, 3, 6, 8, 9] [0, 1, 8, 9, 10, 16] []
 rintro ⟨fu1, n2⟩ hx1
 simp only [st98]
 try simp only at hx1
 obtain ⟨fu1, rfl⟩ : ∃ k, fu1 = k + 1 := by cases fu1 with | zero => (rw [zan] at hx1; cases hx1) | succ k => exact ⟨k, rfl⟩
 rw [zan] at hx1
 refine .seq ?_
 obtain ⟨k2, hx1⟩ := zaa hx1
 refine .seqM 17 (fun (_ : Unit) => ⟨[(2, .int .i64 node), (3, .ptr 0 0), (6, .ptr 1 0), (8, .ptr 16 0), (9, .int .i64 n2), (51, .bool ((decide (n2 < (a.Accepted.length : Int))) && (decide ((a.Accepted.getD n2.toNat default) < node))))], [(0, .box [.int .u8 a.Phase, .int .i64 a.Ballot, .imm 1 (a.Members.map (D.int .i64)) 4, .str a.Wish, .str a.Value, .imm 3 (a.Promises.map TPromise.d) 4, .imm 1 (a.Accepted.map (D.int .i64)) 4]), (1, .box [.int .u8 0, .int .i64 0, .imm 0 [] 0, .str [], .str [], .imm 0 [] 0, .imm 0 [] 0]), (8, .arr 3 1 true (v3.Members.map (D.int .i64))), (9, .arr 83 3 true (v3.Promises.map TPromise.d)), (10, .arr 3 1 true (v3.Accepted.map (D.int .i64))), (16, .box [.int .u8 v3.Phase, .int .i64 v3.Ballot, .ref 8 1 0 v3.Members.length (some uC), .str v3.Wish, .str v3.Value, .ref 9 3 0 v3.Promises.length (some uC), .ref 10 1 0 v3.Accepted.length (some uC)])], 17⟩) (fun _ => True) (lb rfl) ?_ (fun _ _ => ?_)
 by_cases hgd : n2 < (a.Accepted.length : Int)
 have eg10 := zax (D.int .i64) a.Accepted n2 (k2 hgd)
 refine .rg zS [2, 3, 6, 8, 9] ?_
 refine .rnx 6 eg10 ?_
 refine .rnx 8 eg10 ?_
 refine .nn ?_
 refine ⟨(), ?_, trivial⟩
 exact .m [2, 3, 6, 8, 9, 51] [0, 1, 8, 9, 10, 16] []
 have hgf1 : (decide (n2 < (a.Accepted.length : Int))) = false := by first | simpa using hgd | (simp at hgd ⊢; omega) | grind
 rcases zqf (D.int .i64) a.Accepted n2.toNat with eg10 | eg10
 refine .rg zS [2, 3, 6, 8, 9] ?_
 refine .rnx 6 (ai eg10 hgf1) ?_
 refine .rnx 8 (ai eg10 hgf1) ?_
 refine .nn ?_
 refine ⟨(), ?_, trivial⟩
 exact .mx hgf1 [2, 3, 6, 8, 9, 51] [0, 1, 8, 9, 10, 16] []
 refine .rg zS [2, 3, 6, 8, 9] ?_
 refine .rnx 6 (ai eg10 hgf1) ?_
 refine .rnx 8 (ai eg10 hgf1) ?_
 refine .nn ?_
 refine ⟨(), ?_, trivial⟩
 exact .mx hgf1 [2, 3, 6, 8, 9, 51] [0, 1, 8, 9, 10, 16] []
 refine .cd (fun hc4 => ?_) (fun hc4 => ?_)
 replace hx1 := za0 hx1 hc4
 refine .skip (.block (.pl zS [2, 3, 6, 8, 9] ?_))
 refine ⟨(fu1, _), ?_, hx1, by dsimp only; omega⟩
 exact .m [2, 3, 6, 8, 9] [0, 1, 8, 9, 10, 16] []
 replace hx1 := za1 hx1 hc4
 refine .exit ?_
 refine ⟨_, ?_, (sj hx1).symm⟩
 exact .m [2, 3, 6, 8, 9] [0, 1, 8, 9, 10, 16] []
 rintro n1 hj1
 subst x1
 try dsimp only at h
 simp only [st97]
 obtain ⟨k3, h⟩ := zaa h
 obtain ⟨k4, h⟩ := zaa h
 refine .seqM 17 (fun (_ : Unit) => ⟨[(2, .int .i64 node), (3, .ptr 0 0), (6, .ptr 1 0), (8, .ptr 16 0), (9, .int .i64 n1)], [(0, .box [.int .u8 a.Phase, .int .i64 a.Ballot, .imm 1 (a.Members.map (D.int .i64)) 4, .str a.Wish, .str a.Value, .imm 3 (a.Promises.map TPromise.d) 4, .imm 1 (a.Accepted.map (D.int .i64)) 4]), (1, .box [.int .u8 0, .int .i64 0, .imm 0 [] 0, .str [], .str [], .imm 0 [] 0, .imm 0 [] 0]), (8, .arr 3 1 true (v3.Members.map (D.int .i64))), (9, .arr 83 3 true (v3.Promises.map TPromise.d)), (16, .box [.int .u8 v3.Phase, .int .i64 v3.Ballot, .ref 8 1 0 v3.Members.length (some uC), .str v3.Wish, .str v3.Value, .ref 9 3 0 v3.Promises.length (some uC), .ref 17 1 0 ((a.Accepted.take n1.toNat).length) (some uC)]), (17, .arr 3 1 true ((a.Accepted.take n1.toNat).map (D.int .i64)))], 18⟩) (fun _ => True) (lb rfl) ?_ (fun _ _ => ?_)
 rcases zb5 (a.Accepted.take n1.toNat) with hE1 | ⟨y, ys, hE1⟩
 have hM1 : (a.Accepted.take n1.toNat).map (D.int .i64) = [] := by rw [hE1]; simp
 refine .pp zS [2, 3, 6, 8, 9] (by intro q hq; simp only [go_sem, Nat.reduceSub, Int.reduceEq, Nat.reduceLT, Nat.reduceDiv, Nat.reduceAdd, Nat.reduceBEq, Nat.reduceLeDiff, reduceCtorEq, Nat.reduceEqDiff, Nat.reduceMod, Nat.reduceMul, Tryz.tm_22, Tryz.tm_49, zk0, zit, zia, List.take_length, Int.toNat_zero, znf hM1, TAttempt.d]; exact hq) ?_
 refine ⟨(), ?_, trivial⟩
 refine Goes.new0 1 3 (lb rfl) ?_
 refine Goes.boxs 16 _ [.int .u8 v3.Phase, .int .i64 v3.Ballot, .ref 8 1 0 v3.Members.length (some uC), .str v3.Wish, .str v3.Value, .ref 9 3 0 v3.Promises.length (some uC), .ref 17 1 0 0 (some uC)] rfl (.keep (.keep (.keep (.keep (.keep (.keep (.cons (.own0 17 _ _ _ (by decide)) (.refl _)))))))) ?_
 exact .mx hE1 [2, 3, 6, 8, 9] [0, 1, 8, 9, 16, 17] []
 have hM1 : (a.Accepted.take n1.toNat).map (D.int .i64) ≠ [] := by rw [hE1]; simp
 refine .pp zS [2, 3, 6, 8, 9] (by intro q hq; simp only [go_sem, Nat.reduceSub, Int.reduceEq, Nat.reduceLT, Nat.reduceDiv, Nat.reduceAdd, Nat.reduceBEq, Nat.reduceLeDiff, reduceCtorEq, Nat.reduceEqDiff, Nat.reduceMod, Nat.reduceMul, Tryz.tm_22, Tryz.tm_49, zk0, zit, zia, List.take_length, Int.toNat_zero, zma hM1, TAttempt.d]; exact hq) ?_
 refine ⟨(), ?_, trivial⟩
 refine Goes.boxs 16 _ [.int .u8 v3.Phase, .int .i64 v3.Ballot, .ref 8 1 0 v3.Members.length (some uC), .str v3.Wish, .str v3.Value, .ref 9 3 0 v3.Promises.length (some uC), .ref 17 1 0 ((a.Accepted.take n1.toNat).length) (some uC)] rfl (.keep (.keep (.keep (.keep (.keep (.keep (.cons (.unk _ _ _ _ _) (.refl _)))))))) ?_
 exact .mx hE1 [2, 3, 6, 8, 9] [0, 1, 8, 9, 16, 17] []
 obtain ⟨k5, h⟩ := zaa h
 refine .seq (.pl zS [2, 3, 6, 8, 9] ?_)
 obtain ⟨k6, h⟩ := zaa h
 obtain ⟨k7, h⟩ := zaa h
 refine .seq (.rg zS [3, 6, 8, 9] ?_)
 refine .rd 6 ?_
 refine .rd 3 ?_
 refine .nd ?_
 obtain ⟨x2, hx2, h⟩ := bind_some h
 refine .seqM 21 (fun (j : Int) => st99 a node v3 n1 j) (fun j => x2 = j) (lb rfl) ?_ ?_
 refine .seq ?_
 obtain ⟨v5, hv5, hx2⟩ := bind_some hx2
 refine .rg zS [3, 6, 8] ?_
 refine .rn 4 ?_
 refine .lcall (r := .bool v5) [] rfl rfl rfl rfl rfl (za3 rfl (za3 (zfh (zen (ziq .i64) (by first | rfl | (simp only [go_sem, Nat.reduceBEq]; rfl)) (by first | rfl | (simp; done) | (simp <;> omega))) trivial) zai)) rfl (zdz a.Members (((a.Accepted.take n1.toNat) ++ [node]) ++ (a.Accepted.drop n1.toNat)) v5 hv5) ?_
 refine .nn ?_
 refine .cd (fun hc5 => ?_) (fun hc5 => ?_)
 replace hx2 := za0 hx2 hc5
 refine .pl zS [6, 8] ?_
 refine ⟨_, ?_, (sj hx2).symm⟩
 exact .m [6, 8] [1, 8, 9, 16, 20] []
 replace hx2 := za1 hx2 hc5
 refine .skip ?_
 refine ⟨_, ?_, (sj hx2).symm⟩
 exact .m [6, 8] [1, 8, 9, 16, 20] []
 rintro n3 hj2
 subst x2
 try dsimp only at h
 simp only [st99]
 refine .seq (.pl zS [6, 8] ?_)
 obtain rfl := sj h
 refine .ret ⟨st18 ((⟨n3, v3.Ballot, v3.Members, v3.Wish, v3.Value, v3.Promises, (((a.Accepted.take n1.toNat) ++ [node]) ++ (a.Accepted.drop n1.toNat))⟩ : TAttempt), 0), ?_, .inr rfl, retH [2, 1, 0] ?_ ?_⟩
 exact .m [6, 7] [8, 9, 20, 1] [(8, 0), (9, 1), (20, 2), (1, 3)]
 exact rsi0
 rfl
theorem zg7 (a : TAttempt) (ballot : Int) (node : Int) (r : TAttempt × Int) (h : zbv a ballot node = some r) : zb7 Tryz.prog 59 [.agg [.int .u8 a.Phase, .int .i64 a.Ballot, .imm 1 (a.Members.map (D.int .i64)) 4, .str a.Wish, .str a.Value, .imm 3 (a.Promises.map TPromise.d) 4, .imm 1 (a.Accepted.map (D.int .i64)) 4], .int .i64 ballot, .int .i64 node] (.tuple [.agg [.int .u8 r.1.Phase, .int .i64 r.1.Ballot, .imm 1 (r.1.Members.map (D.int .i64)) 13, .str r.1.Wish, .str r.1.Value, .imm 3 (r.1.Promises.map TPromise.d) 13, .imm 1 (r.1.Accepted.map (D.int .i64)) 13], .int .i64 r.2]) :=
 zg8 (zn7 (za4 (zk8 (za4 rfl (za4 rfl (za4 (zbw zcd rfl rfl) (za4 rfl (za4 rfl (za4 (zbw zdk rfl rfl) (za4 (zbw zcd rfl rfl) zfi)))))))) (za4 rfl zfi))) (zio a ballot node r h)
end Go.Proofs
end
section
namespace Go.Proofs
open Go.Tm
theorem ya4v (i j k : Nat) (hij : i ≠ j) (hik : i ≠ k) (hjk : j ≠ k) (l : List TPromise) (x : TPromise) (at' : Int) (h : 0 <= at' /\ at' <= (l.length : Int)) (hl : l.length < 1000000) :
  zd1 Tryz.prog 92 [.ref i 3 0 l.length (some uC), .int .i64 at', .ref j 3 0 1 (some 1)] [(i, .arr 83 3 true (l.map TPromise.d)), (j, .arr 83 3 true [x.d])] (.ref k 3 0 (l.take at'.toNat ++ x :: l.drop at'.toNat).length (some uC)) [(k, some (.arr 83 3 true ((l.take at'.toNat ++ x :: l.drop at'.toNat).map TPromise.d))), (i, none)] (k, k + 1) := by
 have t := ya5x i j k hij hik hjk (l.map TPromise.d) x.d true true at'.toNat (by rw [List.length_map]; omega) (by rw [List.length_map]; exact hl)
 rw [Int.toNat_of_nonneg h.1, List.length_map, zit, zk0, <- List.map_cons, <- List.map_append] at t
 have e : l.length + 1 = (l.take at'.toNat ++ x :: l.drop at'.toNat).length := by simp; omega
 rw [e] at t
 exact t
theorem ya4u (i j k : Nat) (hij : i ≠ j) (hik : i ≠ k) (hjk : j ≠ k) (l : List Int) (x : Int) (at' : Int) (h : 0 <= at' /\ at' <= (l.length : Int)) (hl : l.length < 1000000) :
  zd1 Tryz.prog 95 [.ref i 1 0 l.length (some uC), .int .i64 at', .ref j 1 0 1 (some 1)] [(i, .arr 3 1 true (l.map (D.int .i64))), (j, .arr 3 1 true [(D.int .i64 x)])] (.ref k 1 0 (l.take at'.toNat ++ x :: l.drop at'.toNat).length (some uC)) [(k, some (.arr 3 1 true ((l.take at'.toNat ++ x :: l.drop at'.toNat).map (D.int .i64)))), (i, none)] (k, k + 1) := by
 have t := ya5w i j k hij hik hjk (l.map (D.int .i64)) (D.int .i64 x) true true at'.toNat (by rw [List.length_map]; omega) (by rw [List.length_map]; exact hl)
 rw [Int.toNat_of_nonneg h.1, List.length_map, zit, zk0, <- List.map_cons, <- List.map_append] at t
 have e : l.length + 1 = (l.take at'.toNat ++ x :: l.drop at'.toNat).length := by simp; omega
 rw [e] at t
 exact t
end Go.Proofs
end
section
namespace Go.Proofs
open Go.Tm
set_option linter.unusedVariables false
def ze1 (a0 : Int) (c0 : TAttempt) (c1 : TPromise) : Option Bool :=
 if (0 <= a0 /\ a0 < (c0.Promises.length : Int)) then
 some (decide ((c0.Promises.getD a0.toNat default).Node >= c1.Node))
 else none
def zdw (a : TAttempt) (b : Int) (p : TPromise) : Option (TAttempt × Int) :=
 Option.bind (zf6 a) fun v1 =>
 if ¬ (v1 = 0) then
 some ((⟨0, 0, [], [], [], [], []⟩ : TAttempt), v1)
 else
 Option.bind (if ¬ ((¬ (a.Phase = 1)) \/ (¬ (b = a.Ballot))) then zfg a.Members p.Node else some default) fun v2 =>
 if ((¬ (a.Phase = 1)) \/ (¬ (b = a.Ballot))) \/ (¬ (v2 = true)) then
 some ((⟨0, 0, [], [], [], [], []⟩ : TAttempt), 6)
 else
 Option.bind (zgs p b) fun v3 =>
 if ¬ (v3 = true) then
 some ((⟨0, 0, [], [], [], [], []⟩ : TAttempt), 8)
 else
 Option.bind (zf2 a) fun v4 =>
 Option.bind (zg4 (v4.Promises.length : Int) (fun x0 => ze1 x0 v4 p)) fun v5 =>
 if (v5 < (v4.Promises.length : Int)) -> (0 <= v5 /\ v5 < (v4.Promises.length : Int)) then
 if (v5 < (v4.Promises.length : Int)) /\ ((v4.Promises.getD v5.toNat default).Node = p.Node) then
 some (v4, 0)
 else
 if 0 <= v5 /\ v5 <= (v4.Promises.length : Int) then
 if v4.Promises.length < 1000000 then
 Option.bind (α := Int × (List UInt8)) (Option.bind (zdd ((v4.Promises.take v5.toNat) ++ (p :: (v4.Promises.drop v5.toNat)))) fun v6 =>
 Option.bind (zde v4.Members v6) fun v7 =>
 if v7 = true then
 Option.bind (zfm ((v4.Promises.take v5.toNat) ++ (p :: (v4.Promises.drop v5.toNat))) v4.Wish) fun v8 =>
 some (2, v8)
 else
 some (v4.Phase, v4.Value)) fun (n1, s1) =>
 some ((⟨n1, v4.Ballot, v4.Members, v4.Wish, s1, ((v4.Promises.take v5.toNat) ++ (p :: (v4.Promises.drop v5.toNat))), v4.Accepted⟩ : TAttempt), 0)
 else none
 else none
 else none
def zdx (a : TAttempt) (b : Int) (node : Int) : Option (TAttempt × Int) :=
 Option.bind (zf6 a) fun v1 =>
 if ¬ (v1 = 0) then
 some ((⟨0, 0, [], [], [], [], []⟩ : TAttempt), v1)
 else
 Option.bind (if ¬ ((a.Phase < 2) \/ (¬ (b = a.Ballot))) then zfg a.Members node else some default) fun v2 =>
 if ((a.Phase < 2) \/ (¬ (b = a.Ballot))) \/ (¬ (v2 = true)) then
 some ((⟨0, 0, [], [], [], [], []⟩ : TAttempt), 6)
 else
 Option.bind (zf2 a) fun v3 =>
 Option.bind (zfs v3.Accepted node) fun v4 =>
 Option.bind (α := (List Int)) (if (¬ (v4 = (v3.Accepted.length : Int))) -> (0 <= v4 /\ v4 < (v3.Accepted.length : Int)) then
 if (v4 = (v3.Accepted.length : Int)) \/ (¬ ((v3.Accepted.getD v4.toNat default) = node)) then
 if 0 <= v4 /\ v4 <= (v3.Accepted.length : Int) then
 if v3.Accepted.length < 1000000 then
 some ((v3.Accepted.take v4.toNat) ++ (node :: (v3.Accepted.drop v4.toNat)))
 else none
 else none
 else
 some v3.Accepted
 else none) fun l1 =>
 Option.bind (α := Int) (Option.bind (zde v3.Members l1) fun v5 =>
 if v5 = true then
 some 3
 else
 some v3.Phase) fun n1 =>
 some ((⟨n1, v3.Ballot, v3.Members, v3.Wish, v3.Value, v3.Promises, l1⟩ : TAttempt), 0)
end Go.Proofs
end
section
namespace Go.Proofs
open Go.Tm Go.RowKit Go.WideShapes
set_option maxRecDepth 100000
set_option maxHeartbeats 4000000
set_option linter.unusedSimpArgs false
set_option linter.unusedVariables false
theorem zkr (a0 : Int) (c0 : TAttempt) (c1 : TPromise) (r : Bool) (h : ze1 a0 c0 c1 = some r) : zb7 Tryz.prog 91 [.int .i64 a0, .iptr 0 [.int .u8 c0.Phase, .int .i64 c0.Ballot, .imm 1 (c0.Members.map (D.int .i64)) 4, .str c0.Wish, .str c0.Value, .imm 3 (c0.Promises.map TPromise.d) 4, .imm 1 (c0.Accepted.map (D.int .i64)) 4], .iptr 0 [.int .i64 c1.Node, .int .i64 c1.Ballot, .str c1.Value]] (.bool r) := by
 refine za2 Tryz.tmOk 2 Tryz.func91 rfl (by decide) rfl rfl (lb rfl) ?_
 intro hwf
 unfold ze1 at h
 refine .seq (.pl zS [0, 1, 2] ?_)
 refine .seq ?_
 obtain ⟨k1, h⟩ := zaa h
 have e1 := zax TPromise.d c0.Promises a0
 replace e1 := e1 k1
 refine .rg zS [0, 1, 2] ?_
 refine .rdx 6 e1 ?_
 refine .rdx 4 e1 ?_
 refine .nd ?_
 obtain rfl := sj h
 exact .rr
@[go_sem] def st38 (p : TPromise) (v4 : TAttempt) (v5 : Int) (n1 : Int) (s1 : List UInt8) : St := ⟨[(3, .ptr 0 0), (6, .ptr 2 0)], [(0, .box [.int .u8 n1, .int .i64 v4.Ballot, .ref 14 1 0 v4.Members.length (some uC), .str v4.Wish, .str s1, .ref 29 3 0 (((v4.Promises.take v5.toNat) ++ (p :: (v4.Promises.drop v5.toNat))).length) (some uC), .ref 16 1 0 v4.Accepted.length (some uC)]), (2, .box [.int .u8 0, .int .i64 0, .imm 0 [] 0, .str [], .str [], .imm 0 [] 0, .imm 0 [] 0]), (14, .arr 3 1 true (v4.Members.map (D.int .i64))), (16, .arr 3 1 true (v4.Accepted.map (D.int .i64))), (29, .arr 83 3 true (((v4.Promises.take v5.toNat) ++ (p :: (v4.Promises.drop v5.toNat))).map TPromise.d))], 30⟩
@[go_sem] def st2 (r : TAttempt × Int) : St := ⟨[(6, .ptr 3 0), (7, .int .i64 r.2)], [(0, .arr 3 1 true (r.1.Members.map (D.int .i64))), (1, .arr 83 3 true (r.1.Promises.map TPromise.d)), (2, .arr 3 1 true (r.1.Accepted.map (D.int .i64))), (3, .box [.int .u8 r.1.Phase, .int .i64 r.1.Ballot, .ref 0 1 0 r.1.Members.length (some uC), .str r.1.Wish, .str r.1.Value, .ref 1 3 0 r.1.Promises.length (some uC), .ref 2 1 0 r.1.Accepted.length (some uC)])], 4⟩
theorem zlq (a : TAttempt) (b : Int) (p : TPromise) (r : TAttempt × Int) (h : zdw a b p = some r) : zd1 Tryz.prog 79 [.agg [.int .u8 a.Phase, .int .i64 a.Ballot, .imm 1 (a.Members.map (D.int .i64)) 4, .str a.Wish, .str a.Value, .imm 3 (a.Promises.map TPromise.d) 4, .imm 1 (a.Accepted.map (D.int .i64)) 4], .int .i64 b, .agg [.int .i64 p.Node, .int .i64 p.Ballot, .str p.Value]] [] (.tuple [.agg [.int .u8 r.1.Phase, .int .i64 r.1.Ballot, .ref 0 1 0 r.1.Members.length (some uC), .str r.1.Wish, .str r.1.Value, .ref 1 3 0 r.1.Promises.length (some uC), .ref 2 1 0 r.1.Accepted.length (some uC)], .int .i64 r.2]) [(0, some (.arr 3 1 true (r.1.Members.map (D.int .i64)))), (1, some (.arr 83 3 true (r.1.Promises.map TPromise.d))), (2, some (.arr 3 1 true (r.1.Accepted.map (D.int .i64))))] (0, 38) := by
 refine zab Tryz.tmOk Tryz.func79 rfl (by decide) (lb rfl) (by simp) ?_
 intro hwf
 unfold zdw at h
 refine .ends 0 (Nat.le_refl _) ?_
 refine .seq (.pl zS [0, 1, 2] ?_)
 refine .seq ?_
 obtain ⟨v1, hv1, h⟩ := bind_some h
 refine .seq (.rg zS [1, 3, 5, 6] ?_)
 refine .rn 1 ?_
 refine .cl (zf7 a v1 hv1) ?_
 refine .rn 1 ?_
 refine .nn ?_
 refine .seq (.pl zS [1, 3, 5, 6, 8] ?_)
 refine .cd (fun hc1 => ?_) (fun hc1 => ?_)
 replace h := za0 h hc1
 refine .seq (.pl zS [6, 8] ?_)
 obtain rfl := sj h
 refine .ret ⟨st2 ((⟨0, 0, [], [], [], [], []⟩ : TAttempt), v1), ?_, .inr rfl, retH [2, 1, 0] ?_ ?_⟩
 refine Goes.new0 1 3 (lb rfl) ?_
 refine Goes.new0 3 83 (lb rfl) ?_
 refine Goes.new0 1 3 (lb rfl) ?_
 refine Goes.boxs 2 _ [.int .u8 0, .int .i64 0, .ref 3 1 0 0 (some uC), .str [], .str [], .ref 4 3 0 0 (some uC), .ref 5 1 0 0 (some uC)] rfl (.keep (.keep (.cons (.own0 3 _ _ _ (by decide)) (.keep (.keep (.cons (.own0 4 _ _ _ (by decide)) (.cons (.own0 5 _ _ _ (by decide)) (.refl _)))))))) ?_
 exact .m [6, 7] [3, 4, 5, 2] [(3, 0), (4, 1), (5, 2), (2, 3)]
 exact rsi0
 rfl
 replace h := za1 h hc1
 refine .skip (.seq ?_)
 obtain ⟨v2, hv2, h⟩ := bind_some h
 refine .seq (.rg zS [1, 3, 5, 6] ?_)
 refine .rn 6 ?_
 refine .rn 8 ?_
 refine .gcall rfl rfl rfl rfl rfl (fun hg => ⟨[], [.imm 1 (a.Members.map (D.int .i64)) 4, .int .i64 p.Node], _, rfl, gd hg, rfl, (zh7 a.Members p.Node v2 (za0 hv2 hg))⟩) ?_
 refine .rn 2 ?_
 refine .nn ?_
 refine .cd (fun hc2 => ?_) (fun hc2 => ?_)
 replace h := za0 h hc2
 refine .seq (.pl zS [6] ?_)
 obtain rfl := sj h
 refine .ret ⟨st2 ((⟨0, 0, [], [], [], [], []⟩ : TAttempt), 6), ?_, .inr rfl, retH [2, 1, 0] ?_ ?_⟩
 refine Goes.new0 1 3 (lb rfl) ?_
 refine Goes.new0 3 83 (lb rfl) ?_
 refine Goes.new0 1 3 (lb rfl) ?_
 refine Goes.boxs 2 _ [.int .u8 0, .int .i64 0, .ref 3 1 0 0 (some uC), .str [], .str [], .ref 4 3 0 0 (some uC), .ref 5 1 0 0 (some uC)] rfl (.keep (.keep (.cons (.own0 3 _ _ _ (by decide)) (.keep (.keep (.cons (.own0 4 _ _ _ (by decide)) (.cons (.own0 5 _ _ _ (by decide)) (.refl _)))))))) ?_
 exact .m [6, 7] [3, 4, 5, 2] [(3, 0), (4, 1), (5, 2), (2, 3)]
 exact rsi0
 rfl
 replace h := za1 h hc2
 refine .skip (.seq ?_)
 obtain ⟨v3, hv3, h⟩ := bind_some h
 refine .seq (.rg zS [1, 3, 5, 6] ?_)
 refine .rn 2 ?_
 refine .cl (zkq p b v3 hv3) ?_
 refine .rn 1 ?_
 refine .nn ?_
 refine .cd (fun hc3 => ?_) (fun hc3 => ?_)
 replace h := za0 h hc3
 refine .seq (.pl zS [6] ?_)
 obtain rfl := sj h
 refine .ret ⟨st2 ((⟨0, 0, [], [], [], [], []⟩ : TAttempt), 8), ?_, .inr rfl, retH [2, 1, 0] ?_ ?_⟩
 refine Goes.new0 1 3 (lb rfl) ?_
 refine Goes.new0 3 83 (lb rfl) ?_
 refine Goes.new0 1 3 (lb rfl) ?_
 refine Goes.boxs 2 _ [.int .u8 0, .int .i64 0, .ref 3 1 0 0 (some uC), .str [], .str [], .ref 4 3 0 0 (some uC), .ref 5 1 0 0 (some uC)] rfl (.keep (.keep (.cons (.own0 3 _ _ _ (by decide)) (.keep (.keep (.cons (.own0 4 _ _ _ (by decide)) (.cons (.own0 5 _ _ _ (by decide)) (.refl _)))))))) ?_
 exact .m [6, 7] [3, 4, 5, 2] [(3, 0), (4, 1), (5, 2), (2, 3)]
 exact rsi0
 rfl
 replace h := za1 h hc3
 refine .skip ?_
 obtain ⟨v4, hv4, h⟩ := bind_some h
 refine .seq (.rg zS [3, 5, 6] ?_)
 refine .rn 1 ?_
 refine .ncall (r := .agg [.int .u8 v4.Phase, .int .i64 v4.Ballot, .ref 14 1 0 v4.Members.length (some uC), .str v4.Wish, .str v4.Value, .ref 15 3 0 v4.Promises.length (some uC), .ref 16 1 0 v4.Accepted.length (some uC)]) (eff := [(14, some (.arr 3 1 true (v4.Members.map (D.int .i64)))), (15, some (.arr 83 3 true (v4.Promises.map TPromise.d))), (16, some (.arr 3 1 true (v4.Accepted.map (D.int .i64))))]) (nw := (14, 28)) [] rfl rfl rfl rfl rfl (za3 rfl zai) rfl (zez 14 (lb rfl) (zht a v4 hv4)) (zb4 rfl rfl (zc5 zcd _ _ _) (zb4 rfl rfl (zc5 zdk _ _ _) (zb4 rfl rfl (zc5 zcd _ _ _) zf9))) (by intro i hi; simp [D.ids, D.idsL] at hi <;> omega) rfl ⟨lb rfl, lb rfl⟩ ?_
 refine .rn 1 ?_
 refine .nn ?_
 obtain ⟨v5, hv5, h⟩ := bind_some h
 refine .seq (.rg zS [3, 5, 6] ?_)
 refine .rn 4 ?_
 refine .lcall (r := .int .i64 v5) [14, 15, 16] rfl rfl rfl rfl rfl (za3 rfl (za3 (znv (za3 (zm3 rfl (zc1 rfl (zc1 rfl (zc1 (zen (ziq .i64) (by first | rfl | (simp only [go_sem, Nat.reduceBEq]; rfl)) (by first | rfl | (simp; done) | (simp <;> omega))) (zc1 rfl (zc1 rfl (zc1 (zen zi4 (by first | rfl | (simp only [go_sem, Nat.reduceBEq]; rfl)) (by first | rfl | (simp; done) | (simp <;> omega))) (zc1 (zen (ziq .i64) (by first | rfl | (simp only [go_sem, Nat.reduceBEq]; rfl)) (by first | rfl | (simp; done) | (simp <;> omega))) zm1)))))))) (za3 (zm3 rfl (zc1 rfl (zc1 rfl (zc1 rfl zm1)))) zai))) zai)) rfl (zko (v4.Promises.length : Int) 91 [.iptr 0 [.int .u8 v4.Phase, .int .i64 v4.Ballot, .imm 1 (v4.Members.map (D.int .i64)) 4, .str v4.Wish, .str v4.Value, .imm 3 (v4.Promises.map TPromise.d) 4, .imm 1 (v4.Accepted.map (D.int .i64)) 4], .iptr 0 [.int .i64 p.Node, .int .i64 p.Ballot, .str p.Value]] (fun _ => rfl) (fun _ => rfl) (fun _ => rfl) (fun x0 => ze1 x0 v4 p) (fun x0 y hy => zkr x0 v4 p y hy) v5 hv5) ?_
 refine .rn 1 ?_
 refine .nn ?_
 obtain ⟨k1, h⟩ := zaa h
 refine .seq ?_
 refine .seqM 28 (fun (_ : Unit) => ⟨[(3, .ptr 0 0), (5, .ptr 1 0), (6, .ptr 2 0), (9, .int .i64 v5), (61, .bool ((decide (v5 < (v4.Promises.length : Int))) && ((v4.Promises.getD v5.toNat default).Node == p.Node)))], [(0, .box [.int .u8 v4.Phase, .int .i64 v4.Ballot, .ref 14 1 0 v4.Members.length (some uC), .str v4.Wish, .str v4.Value, .ref 15 3 0 v4.Promises.length (some uC), .ref 16 1 0 v4.Accepted.length (some uC)]), (1, .box [.int .i64 p.Node, .int .i64 p.Ballot, .str p.Value]), (2, .box [.int .u8 0, .int .i64 0, .imm 0 [] 0, .str [], .str [], .imm 0 [] 0, .imm 0 [] 0]), (14, .arr 3 1 true (v4.Members.map (D.int .i64))), (15, .arr 83 3 true (v4.Promises.map TPromise.d)), (16, .arr 3 1 true (v4.Accepted.map (D.int .i64)))], 28⟩) (fun _ => True) (lb rfl) ?_ (fun _ _ => ?_)
 by_cases hgd : v5 < (v4.Promises.length : Int)
 have eg10 := zax TPromise.d v4.Promises v5 (k1 hgd)
 refine .rg zS [3, 5, 6, 9] ?_
 refine .rdx 6 eg10 ?_
 refine .rdx 6 eg10 ?_
 refine .rdx 4 eg10 ?_
 refine .nd ?_
 refine ⟨(), ?_, trivial⟩
 exact .m [3, 5, 6, 9, 61] [0, 1, 2, 14, 15, 16] []
 have hgf1 : (decide (v5 < (v4.Promises.length : Int))) = false := by first | simpa using hgd | (simp at hgd ⊢; omega) | grind
 rcases zqf TPromise.d v4.Promises v5.toNat with eg10 | eg10
 refine .rg zS [3, 5, 6, 9] ?_
 refine .rdx 6 (ai eg10 hgf1) ?_
 refine .rdx 6 (ai eg10 hgf1) ?_
 refine .rdx 4 (ai eg10 hgf1) ?_
 refine .nd ?_
 refine ⟨(), ?_, trivial⟩
 exact .mx hgf1 [3, 5, 6, 9, 61] [0, 1, 2, 14, 15, 16] []
 refine .rg zS [3, 5, 6, 9] ?_
 refine .rdx 6 (ai eg10 hgf1) ?_
 refine .rdx 6 (ai eg10 hgf1) ?_
 refine .rdx 4 (ai eg10 hgf1) ?_
 refine .nd ?_
 refine ⟨(), ?_, trivial⟩
 exact .mx hgf1 [3, 5, 6, 9, 61] [0, 1, 2, 14, 15, 16] []
 refine .cd (fun hc4 => ?_) (fun hc4 => ?_)
 replace h := za0 h hc4
 refine .seq (.pl zS [3, 6] ?_)
 obtain rfl := sj h
 refine .ret ⟨st2 (v4, 0), ?_, .inr rfl, retH [2, 1, 0] ?_ ?_⟩
 exact .m [6, 7] [14, 15, 16, 2] [(14, 0), (15, 1), (16, 2), (2, 3)]
 exact rsi0
 rfl
 replace h := za1 h hc4
 refine .skip ?_
 obtain ⟨k2, h⟩ := zaa h
 obtain ⟨k3, h⟩ := zaa h
 refine .seq (.rg zS [3, 5, 6, 9] ?_)
 refine .rn 5 ?_
 refine .hcall (r := .ref 29 3 0 (((v4.Promises.take v5.toNat) ++ (p :: (v4.Promises.drop v5.toNat))).length) (some uC)) rfl rfl rfl rfl rfl (ya4v 15 28 29 (by decide) (by decide) (by decide) v4.Promises p v5 k2 k3) (fun id b h => zcr [15, 28] _ id b h) (by simp) (.inr ⟨Nat.le_refl _, lb rfl⟩) ?_
 refine .rn 2 ?_
 refine .nn ?_
 obtain ⟨x1, hx1, h⟩ := bind_some h
 refine .seqM 30 (fun (j : Int × (List UInt8)) => st38 p v4 v5 j.1 j.2) (fun j => x1 = j) (lb rfl) ?_ ?_
 refine .seq ?_
 obtain ⟨v6, hv6, hx1⟩ := bind_some hx1
 obtain ⟨v7, hv7, hx1⟩ := bind_some hx1
 refine .rg zS [3, 6] ?_
 refine .rd 4 ?_
 refine .ncall (r := .ref 30 1 0 v6.length (some uC)) (eff := [(30, some (.arr 3 1 true (v6.map (D.int .i64))))]) (nw := (30, 36)) [] rfl rfl rfl rfl rfl (za3 (zfh (zen zi4 (by first | rfl | (simp only [go_sem, Nat.reduceBEq]; rfl)) (by first | rfl | (simp; done) | (simp <;> omega))) trivial) zai) rfl (zez 30 (lb rfl) (zjk ((v4.Promises.take v5.toNat) ++ (p :: (v4.Promises.drop v5.toNat))) v6 hv6)) (zb4 rfl rfl (zc5 zcd _ _ _) zf9) (by intro i hi; simp [D.ids, D.idsL] at hi <;> omega) rfl ⟨lb rfl, lb rfl⟩ ?_
 refine .rd 0 ?_
 refine .lcall (r := .bool v7) [] rfl rfl rfl rfl rfl (za3 (zfh (zen (ziq .i64) (by first | rfl | (simp only [go_sem, Nat.reduceBEq]; rfl)) (by first | rfl | (simp; done) | (simp <;> omega))) trivial) (za3 (zfh (zen (ziq .i64) (by first | rfl | (simp only [go_sem, Nat.reduceBEq]; rfl)) (by first | rfl | (simp; done) | (simp <;> omega))) trivial) zai)) rfl (zgg v4.Members v6 v7 hv7) ?_
 refine .nd ?_
 refine .cd (fun hc5 => ?_) (fun hc5 => ?_)
 replace hx1 := za0 hx1 hc5
 obtain ⟨v8, hv8, hx1⟩ := bind_some hx1
 refine .rg zS [3, 6] ?_
 refine .rn 4 ?_
 refine .lcall (r := .str v8) [] rfl rfl rfl rfl rfl (za3 (zfh (zen zi4 (by first | rfl | (simp only [go_sem, Nat.reduceBEq]; rfl)) (by first | rfl | (simp; done) | (simp <;> omega))) trivial) (za3 rfl zai)) rfl (zk4 ((v4.Promises.take v5.toNat) ++ (p :: (v4.Promises.drop v5.toNat))) v4.Wish v8 hv8) ?_
 refine .rn 4 ?_
 refine .nn ?_
 refine ⟨_, ?_, (sj hx1).symm⟩
 exact .m [3, 6] [0, 2, 14, 16, 29] []
 replace hx1 := za1 hx1 hc5
 refine .skip ?_
 refine ⟨_, ?_, (sj hx1).symm⟩
 exact .m [3, 6] [0, 2, 14, 16, 29] []
 rintro ⟨n1, s1⟩ hj1
 subst x1
 try dsimp only at h
 simp only [st38]
 refine .seq (.pl zS [3, 6] ?_)
 obtain rfl := sj h
 refine .ret ⟨st2 ((⟨n1, v4.Ballot, v4.Members, v4.Wish, s1, ((v4.Promises.take v5.toNat) ++ (p :: (v4.Promises.drop v5.toNat))), v4.Accepted⟩ : TAttempt), 0), ?_, .inr rfl, retH [2, 1, 0] ?_ ?_⟩
 exact .m [6, 7] [14, 29, 16, 2] [(14, 0), (29, 1), (16, 2), (2, 3)]
 exact rsi0
 rfl
theorem zlo (a : TAttempt) (b : Int) (p : TPromise) (r : TAttempt × Int) (h : zdw a b p = some r) : zb7 Tryz.prog 79 [.agg [.int .u8 a.Phase, .int .i64 a.Ballot, .imm 1 (a.Members.map (D.int .i64)) 4, .str a.Wish, .str a.Value, .imm 3 (a.Promises.map TPromise.d) 4, .imm 1 (a.Accepted.map (D.int .i64)) 4], .int .i64 b, .agg [.int .i64 p.Node, .int .i64 p.Ballot, .str p.Value]] (.tuple [.agg [.int .u8 r.1.Phase, .int .i64 r.1.Ballot, .imm 1 (r.1.Members.map (D.int .i64)) 13, .str r.1.Wish, .str r.1.Value, .imm 3 (r.1.Promises.map TPromise.d) 13, .imm 1 (r.1.Accepted.map (D.int .i64)) 13], .int .i64 r.2]) :=
 zg8 (zn7 (za4 (zk8 (za4 rfl (za4 rfl (za4 (zbw zcd rfl rfl) (za4 rfl (za4 rfl (za4 (zbw zdk rfl rfl) (za4 (zbw zcd rfl rfl) zfi)))))))) (za4 rfl zfi))) (zlq a b p r h)
@[go_sem] def st30 (v3 : TAttempt) (l1 : List Int) : St := ⟨[(3, .ptr 0 0), (6, .ptr 1 0)], [(0, .box [.int .u8 v3.Phase, .int .i64 v3.Ballot, .ref 14 1 0 v3.Members.length (some uC), .str v3.Wish, .str v3.Value, .ref 15 3 0 v3.Promises.length (some uC), .ref 28 1 0 l1.length (some uC)]), (1, .box [.int .u8 0, .int .i64 0, .imm 0 [] 0, .str [], .str [], .imm 0 [] 0, .imm 0 [] 0]), (14, .arr 3 1 true (v3.Members.map (D.int .i64))), (15, .arr 83 3 true (v3.Promises.map TPromise.d)), (28, .arr 3 1 true (l1.map (D.int .i64)))], 29⟩
@[go_sem] def st31 (v3 : TAttempt) (l1 : List Int) (n1 : Int) : St := ⟨[(3, .ptr 0 0), (6, .ptr 1 0)], [(0, .box [.int .u8 n1, .int .i64 v3.Ballot, .ref 14 1 0 v3.Members.length (some uC), .str v3.Wish, .str v3.Value, .ref 15 3 0 v3.Promises.length (some uC), .ref 28 1 0 l1.length (some uC)]), (1, .box [.int .u8 0, .int .i64 0, .imm 0 [] 0, .str [], .str [], .imm 0 [] 0, .imm 0 [] 0]), (14, .arr 3 1 true (v3.Members.map (D.int .i64))), (15, .arr 83 3 true (v3.Promises.map TPromise.d)), (28, .arr 3 1 true (l1.map (D.int .i64)))], 29⟩
@[go_sem] def st0 (r : TAttempt × Int) : St := ⟨[(6, .ptr 3 0), (7, .int .i64 r.2)], [(0, .arr 3 1 true (r.1.Members.map (D.int .i64))), (1, .arr 83 3 true (r.1.Promises.map TPromise.d)), (2, .arr 3 1 true (r.1.Accepted.map (D.int .i64))), (3, .box [.int .u8 r.1.Phase, .int .i64 r.1.Ballot, .ref 0 1 0 r.1.Members.length (some uC), .str r.1.Wish, .str r.1.Value, .ref 1 3 0 r.1.Promises.length (some uC), .ref 2 1 0 r.1.Accepted.length (some uC)])], 4⟩
theorem zlr (a : TAttempt) (b : Int) (node : Int) (r : TAttempt × Int) (h : zdx a b node = some r) : zd1 Tryz.prog 81 [.agg [.int .u8 a.Phase, .int .i64 a.Ballot, .imm 1 (a.Members.map (D.int .i64)) 4, .str a.Wish, .str a.Value, .imm 3 (a.Promises.map TPromise.d) 4, .imm 1 (a.Accepted.map (D.int .i64)) 4], .int .i64 b, .int .i64 node] [] (.tuple [.agg [.int .u8 r.1.Phase, .int .i64 r.1.Ballot, .ref 0 1 0 r.1.Members.length (some uC), .str r.1.Wish, .str r.1.Value, .ref 1 3 0 r.1.Promises.length (some uC), .ref 2 1 0 r.1.Accepted.length (some uC)], .int .i64 r.2]) [(0, some (.arr 3 1 true (r.1.Members.map (D.int .i64)))), (1, some (.arr 83 3 true (r.1.Promises.map TPromise.d))), (2, some (.arr 3 1 true (r.1.Accepted.map (D.int .i64))))] (0, 32) := by
 refine zab Tryz.tmOk Tryz.func81 rfl (by decide) (lb rfl) (by simp) ?_
 intro hwf
 unfold zdx at h
 refine .ends 0 (Nat.le_refl _) ?_
 refine .seq (.pl zS [0, 1, 2] ?_)
 refine .seq ?_
 obtain ⟨v1, hv1, h⟩ := bind_some h
 refine .seq (.rg zS [1, 2, 3, 6] ?_)
 refine .rn 1 ?_
 refine .cl (zf7 a v1 hv1) ?_
 refine .rn 1 ?_
 refine .nn ?_
 refine .seq (.pl zS [1, 2, 3, 6, 8] ?_)
 refine .cd (fun hc1 => ?_) (fun hc1 => ?_)
 replace h := za0 h hc1
 refine .seq (.pl zS [6, 8] ?_)
 obtain rfl := sj h
 refine .ret ⟨st0 ((⟨0, 0, [], [], [], [], []⟩ : TAttempt), v1), ?_, .inr rfl, retH [2, 1, 0] ?_ ?_⟩
 refine Goes.new0 1 3 (lb rfl) ?_
 refine Goes.new0 3 83 (lb rfl) ?_
 refine Goes.new0 1 3 (lb rfl) ?_
 refine Goes.boxs 1 _ [.int .u8 0, .int .i64 0, .ref 2 1 0 0 (some uC), .str [], .str [], .ref 3 3 0 0 (some uC), .ref 4 1 0 0 (some uC)] rfl (.keep (.keep (.cons (.own0 2 _ _ _ (by decide)) (.keep (.keep (.cons (.own0 3 _ _ _ (by decide)) (.cons (.own0 4 _ _ _ (by decide)) (.refl _)))))))) ?_
 exact .m [6, 7] [2, 3, 4, 1] [(2, 0), (3, 1), (4, 2), (1, 3)]
 exact rsi0
 rfl
 replace h := za1 h hc1
 refine .skip (.seq ?_)
 obtain ⟨v2, hv2, h⟩ := bind_some h
 refine .seq (.rg zS [1, 2, 3, 6] ?_)
 refine .rn 6 ?_
 refine .rn 7 ?_
 refine .gcall rfl rfl rfl rfl rfl (fun hg => ⟨[], [.imm 1 (a.Members.map (D.int .i64)) 4, .int .i64 node], _, rfl, gd hg, rfl, (zh7 a.Members node v2 (za0 hv2 hg))⟩) ?_
 refine .rn 2 ?_
 refine .nn ?_
 refine .cd (fun hc2 => ?_) (fun hc2 => ?_)
 replace h := za0 h hc2
 refine .seq (.pl zS [6] ?_)
 obtain rfl := sj h
 refine .ret ⟨st0 ((⟨0, 0, [], [], [], [], []⟩ : TAttempt), 6), ?_, .inr rfl, retH [2, 1, 0] ?_ ?_⟩
 refine Goes.new0 1 3 (lb rfl) ?_
 refine Goes.new0 3 83 (lb rfl) ?_
 refine Goes.new0 1 3 (lb rfl) ?_
 refine Goes.boxs 1 _ [.int .u8 0, .int .i64 0, .ref 2 1 0 0 (some uC), .str [], .str [], .ref 3 3 0 0 (some uC), .ref 4 1 0 0 (some uC)] rfl (.keep (.keep (.cons (.own0 2 _ _ _ (by decide)) (.keep (.keep (.cons (.own0 3 _ _ _ (by decide)) (.cons (.own0 4 _ _ _ (by decide)) (.refl _)))))))) ?_
 exact .m [6, 7] [2, 3, 4, 1] [(2, 0), (3, 1), (4, 2), (1, 3)]
 exact rsi0
 rfl
 replace h := za1 h hc2
 refine .skip ?_
 obtain ⟨v3, hv3, h⟩ := bind_some h
 refine .seq (.rg zS [2, 3, 6] ?_)
 refine .rn 1 ?_
 refine .ncall (r := .agg [.int .u8 v3.Phase, .int .i64 v3.Ballot, .ref 14 1 0 v3.Members.length (some uC), .str v3.Wish, .str v3.Value, .ref 15 3 0 v3.Promises.length (some uC), .ref 16 1 0 v3.Accepted.length (some uC)]) (eff := [(14, some (.arr 3 1 true (v3.Members.map (D.int .i64)))), (15, some (.arr 83 3 true (v3.Promises.map TPromise.d))), (16, some (.arr 3 1 true (v3.Accepted.map (D.int .i64))))]) (nw := (14, 28)) [] rfl rfl rfl rfl rfl (za3 rfl zai) rfl (zez 14 (lb rfl) (zht a v3 hv3)) (zb4 rfl rfl (zc5 zcd _ _ _) (zb4 rfl rfl (zc5 zdk _ _ _) (zb4 rfl rfl (zc5 zcd _ _ _) zf9))) (by intro i hi; simp [D.ids, D.idsL] at hi <;> omega) rfl ⟨lb rfl, lb rfl⟩ ?_
 refine .rn 1 ?_
 refine .nn ?_
 obtain ⟨v4, hv4, h⟩ := bind_some h
 refine .seq (.rg zS [2, 3, 6] ?_)
 refine .rn 3 ?_
 refine .lcall (r := .int .i64 v4) [] rfl rfl rfl rfl rfl (za3 (zfh (zen (ziq .i64) (by first | rfl | (simp only [go_sem, Nat.reduceBEq]; rfl)) (by first | rfl | (simp; done) | (simp <;> omega))) trivial) (za3 rfl zai)) rfl (zm6 v3.Accepted node v4 hv4) ?_
 refine .rn 1 ?_
 refine .nn ?_
 obtain ⟨x1, hx1, h⟩ := bind_some h
 refine .seqM 28 (fun (j : (List Int)) => st30 v3 j) (fun j => x1 = j) (lb rfl) ?_ ?_
 obtain ⟨k1, hx1⟩ := zaa hx1
 refine .seqM 28 (fun (_ : Unit) => ⟨[(2, .int .i64 node), (3, .ptr 0 0), (6, .ptr 1 0), (9, .int .i64 v4), (52, .bool ((v4 == (v3.Accepted.length : Int)) || ((v3.Accepted.getD v4.toNat default) != node)))], [(0, .box [.int .u8 v3.Phase, .int .i64 v3.Ballot, .ref 14 1 0 v3.Members.length (some uC), .str v3.Wish, .str v3.Value, .ref 15 3 0 v3.Promises.length (some uC), .ref 16 1 0 v3.Accepted.length (some uC)]), (1, .box [.int .u8 0, .int .i64 0, .imm 0 [] 0, .str [], .str [], .imm 0 [] 0, .imm 0 [] 0]), (14, .arr 3 1 true (v3.Members.map (D.int .i64))), (15, .arr 83 3 true (v3.Promises.map TPromise.d)), (16, .arr 3 1 true (v3.Accepted.map (D.int .i64)))], 28⟩) (fun _ => True) (lb rfl) ?_ (fun _ _ => ?_)
 by_cases hgd : ¬ (v4 = (v3.Accepted.length : Int))
 have eg10 := zax (D.int .i64) v3.Accepted v4 (k1 hgd)
 refine .rg zS [2, 3, 6, 9] ?_
 refine .rnx 6 eg10 ?_
 refine .rnx 8 eg10 ?_
 refine .nn ?_
 refine ⟨(), ?_, trivial⟩
 exact .m [2, 3, 6, 9, 52] [0, 1, 14, 15, 16] []
 have hgf1 : (!(v4 == (v3.Accepted.length : Int))) = false := by first | simpa using hgd | (simp at hgd ⊢; omega) | grind
 have hgf1t : (v4 == (v3.Accepted.length : Int)) = true := by first | simpa using hgf1 | grind
 rcases zqf (D.int .i64) v3.Accepted v4.toNat with eg10 | eg10
 refine .rg zS [2, 3, 6, 9] ?_
 refine .rnx 6 (ai eg10 (ai hgf1 hgf1t)) ?_
 refine .rnx 8 (ai eg10 (ai hgf1 hgf1t)) ?_
 refine .nn ?_
 refine ⟨(), ?_, trivial⟩
 exact .mx (ai hgf1 hgf1t) [2, 3, 6, 9, 52] [0, 1, 14, 15, 16] []
 refine .rg zS [2, 3, 6, 9] ?_
 refine .rnx 6 (ai eg10 (ai hgf1 hgf1t)) ?_
 refine .rnx 8 (ai eg10 (ai hgf1 hgf1t)) ?_
 refine .nn ?_
 refine ⟨(), ?_, trivial⟩
 exact .mx (ai hgf1 hgf1t) [2, 3, 6, 9, 52] [0, 1, 14, 15, 16] []
 refine .cd (fun hc3 => ?_) (fun hc3 => ?_)
 replace hx1 := za0 hx1 hc3
 obtain ⟨k2, hx1⟩ := zaa hx1
 obtain ⟨k3, hx1⟩ := zaa hx1
 refine .rg zS [2, 3, 6, 9] ?_
 refine .rn 5 ?_
 refine .hcall (r := .ref 29 1 0 (((v3.Accepted.take v4.toNat) ++ (node :: (v3.Accepted.drop v4.toNat))).length) (some uC)) rfl rfl rfl rfl rfl (ya4u 16 28 29 (by decide) (by decide) (by decide) v3.Accepted node v4 k2 k3) (fun id b h => zcr [16, 28] _ id b h) (by simp) (.inr ⟨Nat.le_refl _, lb rfl⟩) ?_
 refine .rn 2 ?_
 refine .nn ?_
 refine ⟨_, ?_, (sj hx1).symm⟩
 exact .m [3, 6] [0, 1, 14, 15, 29] [(29, 28)]
 replace hx1 := za1 hx1 hc3
 refine .skip ?_
 refine ⟨_, ?_, (sj hx1).symm⟩
 exact .m [3, 6] [0, 1, 14, 15, 16] [(16, 28)]
 rintro l1 hj1
 subst x1
 try dsimp only at h
 simp only [st30]
 obtain ⟨x2, hx2, h⟩ := bind_some h
 refine .seqM 29 (fun (j : Int) => st31 v3 l1 j) (fun j => x2 = j) (lb rfl) ?_ ?_
 refine .seq ?_
 obtain ⟨v5, hv5, hx2⟩ := bind_some hx2
 refine .rg zS [3, 6] ?_
 refine .rn 4 ?_
 refine .lcall (r := .bool v5) [] rfl rfl rfl rfl rfl (za3 (zfh (zen (ziq .i64) (by first | rfl | (simp only [go_sem, Nat.reduceBEq]; rfl)) (by first | rfl | (simp; done) | (simp <;> omega))) trivial) (za3 (zfh (zen (ziq .i64) (by first | rfl | (simp only [go_sem, Nat.reduceBEq]; rfl)) (by first | rfl | (simp; done) | (simp <;> omega))) trivial) zai)) rfl (zgg v3.Members l1 v5 hv5) ?_
 refine .nn ?_
 refine .cd (fun hc4 => ?_) (fun hc4 => ?_)
 replace hx2 := za0 hx2 hc4
 refine .pl zS [3, 6] ?_
 refine ⟨_, ?_, (sj hx2).symm⟩
 exact .m [3, 6] [0, 1, 14, 15, 28] []
 replace hx2 := za1 hx2 hc4
 refine .skip ?_
 refine ⟨_, ?_, (sj hx2).symm⟩
 exact .m [3, 6] [0, 1, 14, 15, 28] []
 rintro n1 hj2
 subst x2
 try dsimp only at h
 simp only [st31]
 refine .seq (.pl zS [3, 6] ?_)
 obtain rfl := sj h
 refine .ret ⟨st0 ((⟨n1, v3.Ballot, v3.Members, v3.Wish, v3.Value, v3.Promises, l1⟩ : TAttempt), 0), ?_, .inr rfl, retH [2, 1, 0] ?_ ?_⟩
 exact .m [6, 7] [14, 15, 28, 1] [(14, 0), (15, 1), (28, 2), (1, 3)]
 exact rsi0
 rfl
theorem zlp (a : TAttempt) (b : Int) (node : Int) (r : TAttempt × Int) (h : zdx a b node = some r) : zb7 Tryz.prog 81 [.agg [.int .u8 a.Phase, .int .i64 a.Ballot, .imm 1 (a.Members.map (D.int .i64)) 4, .str a.Wish, .str a.Value, .imm 3 (a.Promises.map TPromise.d) 4, .imm 1 (a.Accepted.map (D.int .i64)) 4], .int .i64 b, .int .i64 node] (.tuple [.agg [.int .u8 r.1.Phase, .int .i64 r.1.Ballot, .imm 1 (r.1.Members.map (D.int .i64)) 13, .str r.1.Wish, .str r.1.Value, .imm 3 (r.1.Promises.map TPromise.d) 13, .imm 1 (r.1.Accepted.map (D.int .i64)) 13], .int .i64 r.2]) :=
 zg8 (zn7 (za4 (zk8 (za4 rfl (za4 rfl (za4 (zbw zcd rfl rfl) (za4 rfl (za4 rfl (za4 (zbw zdk rfl rfl) (za4 (zbw zcd rfl rfl) zfi)))))))) (za4 rfl zfi))) (zlr a b node r h)
end Go.Proofs
end
section
namespace Go.Proofs
open Go.Tm
theorem ya53 (i k : Nat) (hik : i ≠ k) (l : List TMail) (at' : Int) (h : 0 <= at' /\ at' < (l.length : Int)) (hl : l.length < 1000000) :
  zd1 Tryz.prog 18 [.ref i 10 0 l.length (some uC), .int .i64 at', .int .i64 (wr .i64 (at' + 1))] [(i, .arr 43 10 true (l.map TMail.d))] (.ref k 10 0 (l.eraseIdx at'.toNat).length (some uC)) [(k, some (.arr 43 10 true ((l.eraseIdx at'.toNat).map TMail.d))), (i, none)] (k, k + 1) := by
 have t := ya5z i k hik (l.map TMail.d) true at'.toNat (by rw [List.length_map]; omega) (by rw [List.length_map]; exact hl)
 have hw : wr .i64 (at' + 1) = ((at'.toNat + 1 : Nat) : Int) := by
  rw [zis _ _ (by show (-9223372036854775808 : Int) <= _; omega) (by show _ <= (9223372036854775807 : Int); omega)]
  omega
 rw [Int.toNat_of_nonneg h.1, List.length_map, zit, zk0, <- List.map_append, <- List.eraseIdx_eq_take_drop_succ, <- hw] at t
 have e : l.length - 1 = (l.eraseIdx at'.toNat).length := by rw [List.length_eraseIdx_of_lt (by omega)]
 rw [e] at t
 exact t
end Go.Proofs
end
