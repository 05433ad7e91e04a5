/- Texts of the proof. -/
import Derived.Test.YtdoegejmepcmpaaGreatDecreeMovesPg
import Derived.Test.YtdoegejmepcmpaaGreatDecreeMovesPf
import Derived.Test.YtdoegejmepcmpaaGreatDecreeMovesPh
import Derived.Test.YtdoegejmepcmpaaGreatDecreeMovesPi
import Derived.Test.YtdoegejmepcmpaaGreatDecreeMovesPk
import Derived.Test.YtdoegejmepcmpaaGreatDecreeMovesPl
namespace Go.Proofs
open Go.Tm Go.RowKit Go.WideShapes
set_option maxRecDepth 100000
set_option maxHeartbeats 4000000
set_option linter.unusedSimpArgs false
set_option linter.unusedVariables false
theorem zhg (a0 : TVote) (r : Bool) (h : zch a0 = some r) : zb7 Tryz.prog 38 [.agg [.int .i64 a0.Promised, .int .i64 a0.Ballot, .str a0.Value]] (.bool r) := by
 refine za2 Tryz.tmOk 3 Tryz.func38 rfl (by decide) rfl rfl (lb rfl) ?_
 intro hwf
 unfold zch at h
 refine .seq (.pl zS [0] ?_)
 refine .seq ?_
 obtain ⟨v1, hv1, h⟩ := bind_some h
 refine .seq (.rg zS [1] ?_)
 refine .rn 6 ?_
 refine .gcall rfl rfl rfl rfl rfl (fun hg => ⟨[], [.int .i64 a0.Promised], _, rfl, gd hg, rfl, (zc3 a0.Promised v1 (za0 hv1 hg))⟩) ?_
 refine .rn 2 ?_
 refine .nn ?_
 refine .cd (fun hc1 => ?_) (fun hc1 => ?_)
 replace h := za0 h hc1
 refine .seq (.pl zS [] ?_)
 obtain rfl := sj h
 exact .rr
 replace h := za1 h hc1
 refine .skip (.seq (.seq (.pl zS [1] ?_)))
 refine .cd (fun hc2 => ?_) (fun hc2 => ?_)
 replace h := za0 h hc2
 refine .seq (.pl zS [1] ?_)
 obtain rfl := sj h
 exact .rr
 replace h := za1 h hc2
 refine .skip ?_
 obtain ⟨v2, hv2, h⟩ := bind_some h
 refine .seq (.rg zS [1] ?_)
 refine .rn 2 ?_
 refine .cl (zc3 a0.Ballot v2 hv2) ?_
 refine .rn 6 ?_
 refine .rn 8 ?_
 refine .nn ?_
 obtain rfl := sj h
 exact .rr
theorem zdf (a0 : Int) (r : Bool) (h : zbh a0 = some r) : zb7 Tryz.prog 20 [.int .i64 a0] (.bool r) := by
 refine za2 Tryz.tmOk 2 Tryz.func20 rfl (by decide) rfl rfl (lb rfl) ?_
 intro hwf
 unfold zbh at h
 refine .seq (.pl zS [0] ?_)
 refine .seq (.pl zS [0] ?_)
 obtain rfl := sj h
 exact .rr
theorem zjr (a0 : Int) (r : Int) (h : zfa a0 = some r) : zb7 Tryz.prog 84 [.int .i64 a0] (.int .i64 r) := by
 refine za2 Tryz.tmOk 2 Tryz.func84 rfl (by decide) rfl rfl (lb rfl) ?_
 intro hwf
 unfold zfa at h
 refine .seq (.pl zS [0] ?_)
 refine .seq ?_
 obtain ⟨v1, hv1, h⟩ := bind_some h
 refine .seq (.rg zS [0] ?_)
 refine .rn 1 ?_
 refine .cl (zc3 a0 v1 hv1) ?_
 refine .rn 1 ?_
 refine .nn ?_
 refine .cd (fun hc1 => ?_) (fun hc1 => ?_)
 replace h := za0 h hc1
 refine .seq (.pl zS [] ?_)
 obtain rfl := sj h
 exact .rr
 replace h := za1 h hc1
 refine .skip (.seq (.pl zS [] ?_))
 obtain rfl := sj h
 exact .rr
@[go_sem] def st87 (a1 : Int) (n1 : Int) : St := ⟨[(1, .int .i64 a1), (6, .int .i64 n1)], [], 0⟩
theorem zkd (a0 : Int) (a1 : Int) (r : Int × Int) (h : zdm a0 a1 = some r) : zb7 Tryz.prog 53 [.int .i64 a0, .int .i64 a1] (.tuple [.int .i64 r.1, .int .i64 r.2]) := by
 refine za2 Tryz.tmOk 2 Tryz.func53 rfl (by decide) rfl rfl (lb rfl) ?_
 intro hwf
 unfold zdm at h
 refine .seq (.pl zS [0, 1] ?_)
 refine .seq ?_
 obtain ⟨v1, hv1, h⟩ := bind_some h
 refine .seq (.rg zS [0, 1] ?_)
 refine .rn 1 ?_
 refine .cl (zdf a1 v1 hv1) ?_
 refine .rn 6 ?_
 refine .rn 3 ?_
 refine .nn ?_
 refine .cd (fun hc1 => ?_) (fun hc1 => ?_)
 replace h := za0 h hc1
 refine .seq (.pl zS [] ?_)
 obtain rfl := sj h
 exact .rr
 replace h := za1 h hc1
 refine .skip (.seq (.pl zS [0, 1] ?_))
 obtain ⟨x1, hx1, h⟩ := bind_some h
 refine .seqM 0 (fun (j : Int) => st87 a1 j) (fun j => x1 = j) (lb rfl) ?_ ?_
 refine .seq (.pl zS [0, 1, 6] ?_)
 refine .cd (fun hc2 => ?_) (fun hc2 => ?_)
 replace hx1 := za0 hx1 hc2
 refine .pl zS [1, 6] ?_
 refine ⟨_, ?_, (sj hx1).symm⟩
 exact .m [1, 6] [] []
 replace hx1 := za1 hx1 hc2
 refine .skip ?_
 refine ⟨_, ?_, (sj hx1).symm⟩
 exact .m [1, 6] [] []
 rintro n1 hj1
 subst x1
 try dsimp only at h
 simp only [st87]
 refine .seq (.pl zS [1, 6] ?_)
 refine .seq (.seq (.pl zS [1, 6] ?_))
 refine .cd (fun hc3 => ?_) (fun hc3 => ?_)
 replace h := za0 h hc3
 refine .seq (.pl zS [] ?_)
 obtain rfl := sj h
 exact .rr
 replace h := za1 h hc3
 refine .skip (.seq (.pl zS [1, 6] ?_))
 obtain rfl := sj h
 exact .rr
@[go_sem] def ya4c (a0 : List Int) (a1 : Int) (a2 : List UInt8) (n1 : Int) : St := ⟨[(0, .imm 1 (a0.map (D.int .i64)) 4), (1, .int .i64 a1), (2, .str a2), (6, .ptr 0 0), (8, .int .i64 n1)], [(0, .box [.int .u8 0, .int .i64 0, .imm 0 [] 0, .str [], .str [], .imm 0 [] 0, .imm 0 [] 0])], 1⟩
@[go_sem] def ya4b (a0 : List Int) (a1 : Int) (a2 : List UInt8) (n2 : Int) : St := ⟨[(0, .imm 1 (a0.map (D.int .i64)) 4), (1, .int .i64 a1), (2, .str a2), (6, .ptr 0 0), (8, .int .i64 n2)], [(0, .box [.int .u8 0, .int .i64 0, .imm 0 [] 0, .str [], .str [], .imm 0 [] 0, .imm 0 [] 0])], 1⟩
@[go_sem] def st19 (r : TAttempt × Int) : St := ⟨[(6, .ptr 3 0), (7, .int .i64 r.2)], [(0, .arr 3 1 true (r.1.Members.map (D.int .i64))), (1, .arr 83 3 true (r.1.Promises.map TPromise.d)), (2, .arr 3 1 true (r.1.Accepted.map (D.int .i64))), (3, .box [.int .u8 r.1.Phase, .int .i64 r.1.Ballot, .ref 0 1 0 r.1.Members.length (some uC), .str r.1.Wish, .str r.1.Value, .ref 1 3 0 r.1.Promises.length (some uC), .ref 2 1 0 r.1.Accepted.length (some uC)])], 4⟩
theorem zju (a0 : List Int) (a1 : Int) (a2 : List UInt8) (r : TAttempt × Int) (h : zdb a0 a1 a2 = some r) : zd1 Tryz.prog 55 [.imm 1 (a0.map (D.int .i64)) 4, .int .i64 a1, .str a2] [] (.tuple [.agg [.int .u8 r.1.Phase, .int .i64 r.1.Ballot, .ref 0 1 0 r.1.Members.length (some uC), .str r.1.Wish, .str r.1.Value, .ref 1 3 0 r.1.Promises.length (some uC), .ref 2 1 0 r.1.Accepted.length (some uC)], .int .i64 r.2]) [(0, some (.arr 3 1 true (r.1.Members.map (D.int .i64)))), (1, some (.arr 83 3 true (r.1.Promises.map TPromise.d))), (2, some (.arr 3 1 true (r.1.Accepted.map (D.int .i64))))] (0, 6) := by
 refine zab Tryz.tmOk Tryz.func55 rfl (by decide) (lb rfl) (by simp) ?_
 intro hwf
 unfold zdb at h
 refine .ends 0 (Nat.le_refl _) ?_
 refine .seq (.pl zS [0, 1, 2] ?_)
 obtain ⟨v1, hv1, h⟩ := bind_some h
 refine .seq (.rg zS [0, 1, 2, 6] ?_)
 refine .rn 1 ?_
 refine .cl (zjq a0 v1 hv1) ?_
 refine .rn 1 ?_
 refine .nn ?_
 obtain ⟨x1, hx1, h⟩ := bind_some h
 refine .seqM 1 (fun (j : Int) => ya4c a0 a1 a2 j) (fun j => x1 = j) (lb rfl) ?_ ?_
 refine .seq (.pl zS [0, 1, 2, 6, 8] ?_)
 refine .cd (fun hc1 => ?_) (fun hc1 => ?_)
 replace hx1 := za0 hx1 hc1
 obtain ⟨v2, hv2, hx1⟩ := bind_some hx1
 refine .rg zS [0, 1, 2, 6] ?_
 refine .rn 1 ?_
 refine .cl (zjr a1 v2 hv2) ?_
 refine .rn 1 ?_
 refine .nn ?_
 refine ⟨_, ?_, (sj hx1).symm⟩
 exact .m [0, 1, 2, 6, 8] [0] []
 replace hx1 := za1 hx1 hc1
 refine .skip ?_
 refine ⟨_, ?_, (sj hx1).symm⟩
 exact .m [0, 1, 2, 6, 8] [0] []
 rintro n1 hj1
 subst x1
 try dsimp only at h
 simp only [ya4c]
 obtain ⟨x2, hx2, h⟩ := bind_some h
 refine .seqM 1 (fun (j : Int) => ya4b a0 a1 a2 j) (fun j => x2 = j) (lb rfl) ?_ ?_
 refine .seq (.pl zS [0, 1, 2, 6, 8] ?_)
 refine .cd (fun hc2 => ?_) (fun hc2 => ?_)
 replace hx2 := za0 hx2 hc2
 refine .pl zS [0, 1, 2, 6] ?_
 refine ⟨_, ?_, (sj hx2).symm⟩
 exact .m [0, 1, 2, 6, 8] [0] []
 replace hx2 := za1 hx2 hc2
 refine .skip ?_
 refine ⟨_, ?_, (sj hx2).symm⟩
 exact .m [0, 1, 2, 6, 8] [0] []
 rintro n2 hj2
 subst x2
 try dsimp only at h
 simp only [ya4b]
 refine .seq (.seq (.pl zS [0, 1, 2, 6, 8] ?_))
 refine .cd (fun hc3 => ?_) (fun hc3 => ?_)
 replace h := za0 h hc3
 refine .seq (.pl zS [6, 8] ?_)
 obtain rfl := sj h
 refine .ret ⟨st19 ((⟨0, 0, [], [], [], [], []⟩ : TAttempt), n2), ?_, .inr rfl, retH [2, 1, 0] ?_ ?_⟩
 refine Goes.new0 1 3 (lb rfl) ?_
 refine Goes.new0 3 83 (lb rfl) ?_
 refine Goes.new0 1 3 (lb rfl) ?_
 refine Goes.boxs 0 _ [.int .u8 0, .int .i64 0, .ref 1 1 0 0 (some uC), .str [], .str [], .ref 2 3 0 0 (some uC), .ref 3 1 0 0 (some uC)] rfl (.keep (.keep (.cons (.own0 1 _ _ _ (by decide)) (.keep (.keep (.cons (.own0 2 _ _ _ (by decide)) (.cons (.own0 3 _ _ _ (by decide)) (.refl _)))))))) ?_
 exact .m [6, 7] [1, 2, 3, 0] [(1, 0), (2, 1), (3, 2), (0, 3)]
 exact rsi0
 rfl
 replace h := za1 h hc3
 obtain ⟨k1, h⟩ := zaa h
 refine .skip ?_
 refine .seqM 1 (fun (_ : Unit) => ⟨[(6, .ptr 0 0), (7, .int .i64 0)], [(0, .box [.int .u8 1, .int .i64 a1, .ref 1 1 0 a0.length (some uC), .str a2, .str [], .imm 0 [] 0, .imm 0 [] 0]), (1, .arr 3 1 true (a0.map (D.int .i64)))], 2⟩) (fun _ => True) (lb rfl) ?_ (fun _ _ => ?_)
 rcases zb5 a0 with hE1 | ⟨y, ys, hE1⟩
 have hM1 : a0.map (D.int .i64) = [] := by rw [hE1]; simp
 refine .px zS (apn hM1) [0, 1, 2, 6] ?_
 refine ⟨(), ?_, trivial⟩
 refine Goes.new0 1 3 (lb rfl) ?_
 refine Goes.boxs 0 _ [.int .u8 1, .int .i64 a1, .ref 1 1 0 0 (some uC), .str a2, .str [], .imm 0 [] 0, .imm 0 [] 0] rfl (.keep (.keep (.cons (.own0 1 _ _ _ (by decide)) (.refl _)))) ?_
 exact .mx hE1 [6, 7] [0, 1] []
 have hM1 : a0.map (D.int .i64) ≠ [] := by rw [hE1]; simp
 refine .px zS (apc hM1) [0, 1, 2, 6] ?_
 refine ⟨(), ?_, trivial⟩
 refine Goes.boxs 0 _ [.int .u8 1, .int .i64 a1, .ref 1 1 0 a0.length (some uC), .str a2, .str [], .imm 0 [] 0, .imm 0 [] 0] rfl (.keep (.keep (.cons (.unk _ _ _ _ _) (.refl _)))) ?_
 exact .mx hE1 [6, 7] [0, 1] []
 obtain rfl := sj h
 refine .ret ⟨st19 ((⟨1, a1, a0, a2, [], [], []⟩ : TAttempt), 0), ?_, .inr rfl, retH [2, 1, 0] ?_ ?_⟩
 refine Goes.new0 3 83 (lb rfl) ?_
 refine Goes.new0 1 3 (lb rfl) ?_
 refine Goes.boxs 0 _ [.int .u8 1, .int .i64 a1, .ref 1 1 0 a0.length (some uC), .str a2, .str [], .ref 2 3 0 0 (some uC), .ref 3 1 0 0 (some uC)] rfl (.keep (.keep (.keep (.keep (.keep (.cons (.own0 2 _ _ _ (by decide)) (.cons (.own0 3 _ _ _ (by decide)) (.refl _)))))))) ?_
 exact .m [6, 7] [1, 2, 3, 0] [(1, 0), (2, 1), (3, 2), (0, 3)]
 exact rsi0
 rfl
theorem zjp (a0 : List Int) (a1 : Int) (a2 : List UInt8) (r : TAttempt × Int) (h : zdb a0 a1 a2 = some r) : zb7 Tryz.prog 55 [.imm 1 (a0.map (D.int .i64)) 4, .int .i64 a1, .str a2] (.tuple [.agg [.int .u8 r.1.Phase, .int .i64 r.1.Ballot, .imm 1 (r.1.Members.map (D.int .i64)) 13, .str r.1.Wish, .str r.1.Value, .imm 3 (r.1.Promises.map TPromise.d) 13, .imm 1 (r.1.Accepted.map (D.int .i64)) 13], .int .i64 r.2]) :=
 zg8 (zn7 (za4 (zk8 (za4 rfl (za4 rfl (za4 (zbw zcd rfl rfl) (za4 rfl (za4 rfl (za4 (zbw zdk rfl rfl) (za4 (zbw zcd rfl rfl) zfi)))))))) (za4 rfl zfi))) (zju a0 a1 a2 r h)
theorem ziy (a0 : TMail) (r : Bool) (h : zbz a0 = some r) : zb7 Tryz.prog 40 [.agg [.int .i64 a0.From, .int .i64 a0.To, .int .u8 a0.Kind, .int .i64 a0.Group, .int .i64 a0.Slot, .int .i64 a0.Ballot, .int .i64 a0.Prior, .str a0.Value, .int .i64 a0.Id, .int .i64 a0.Time]] (.bool r) := by
 refine za2 Tryz.tmOk 4 Tryz.func40 rfl (by decide) rfl rfl (lb rfl) ?_
 intro hwf
 unfold zbz at h
 refine .seq (.pl zS [0] ?_)
 refine .seq (.rg zS [1] ?_)
 refine .rn 6 ?_
 refine .rn 6 ?_
 refine .rn 3 ?_
 refine .nn ?_
 obtain ⟨v1, hv1, h⟩ := bind_some h
 obtain ⟨v2, hv2, h⟩ := bind_some h
 obtain ⟨v3, hv3, h⟩ := bind_some h
 refine .seq (.rg zS [1, 3] ?_)
 refine .rn 6 ?_
 refine .gcall rfl rfl rfl rfl rfl (fun hg => ⟨[], [.int .i64 a0.From], _, rfl, gd hg, rfl, (zdf a0.From v1 (za0 hv1 hg))⟩) ?_
 refine .rn 4 ?_
 refine .gcall rfl rfl rfl rfl rfl (fun hg => ⟨[], [.int .i64 a0.To], _, rfl, gd hg, rfl, (zdf a0.To v2 (za0 hv2 hg))⟩) ?_
 refine .rn 6 ?_
 refine .rn 8 ?_
 refine .gcall rfl rfl rfl rfl rfl (fun hg => ⟨[], [.int .i64 a0.Ballot], _, rfl, gd hg, rfl, (zc3 a0.Ballot v3 (za0 hv3 hg))⟩) ?_
 refine .rn 6 ?_
 refine .rn 7 ?_
 refine .nn ?_
 obtain rfl := sj h
 exact .rr
@[go_sem] def ya3k (a0 : TWorld) : St := ⟨[(1, .ptr 0 0)], [(0, .box [.imm 1 (a0.Members.map (D.int .i64)) 4, .imm 3 (a0.Votes.map TVote.d) 4, .imm 7 (a0.Tries.map TAttempt.d) 4, .imm 10 (a0.Mail.map TMail.d) 4, .imm 2 (a0.Chosen.map TChoice.d) 4])], 1⟩
@[go_sem] def ya3i (a0 : TWorld) (n1 : Int) : St := ⟨[(1, .ptr 0 0), (3, .int .i64 n1)], [(0, .box [.imm 1 (a0.Members.map (D.int .i64)) 4, .imm 3 (a0.Votes.map TVote.d) 4, .imm 7 (a0.Tries.map TAttempt.d) 4, .imm 10 (a0.Mail.map TMail.d) 4, .imm 2 (a0.Chosen.map TChoice.d) 4])], 1⟩
@[go_sem] def ya3h (a0 : TWorld) : St := ⟨[(1, .ptr 0 0)], [(0, .box [.imm 1 (a0.Members.map (D.int .i64)) 4, .imm 3 (a0.Votes.map TVote.d) 4, .imm 7 (a0.Tries.map TAttempt.d) 4, .imm 10 (a0.Mail.map TMail.d) 4, .imm 2 (a0.Chosen.map TChoice.d) 4])], 1⟩
@[go_sem] def ya3g (a0 : TWorld) (n2 : Nat) : St := ⟨[(1, .ptr 0 0), (5, .int .i64 (n2 : Int))], [(0, .box [.imm 1 (a0.Members.map (D.int .i64)) 4, .imm 3 (a0.Votes.map TVote.d) 4, .imm 7 (a0.Tries.map TAttempt.d) 4, .imm 10 (a0.Mail.map TMail.d) 4, .imm 2 (a0.Chosen.map TChoice.d) 4])], 1⟩
@[go_sem] def ya3f : St := ⟨[], [], 1⟩
@[go_sem] def ya3j (a0 : TWorld) (n3 : Nat) : St := ⟨[(1, .ptr 0 0), (6, .int .i64 (n3 : Int))], [(0, .box [.imm 1 (a0.Members.map (D.int .i64)) 4, .imm 3 (a0.Votes.map TVote.d) 4, .imm 7 (a0.Tries.map TAttempt.d) 4, .imm 10 (a0.Mail.map TMail.d) 4, .imm 2 (a0.Chosen.map TChoice.d) 4])], 1⟩
theorem zhf (a0 : TWorld) (r : Bool) (h : zcg a0 = some r) : zb7 Tryz.prog 11 [.agg [.imm 1 (a0.Members.map (D.int .i64)) 4, .imm 3 (a0.Votes.map TVote.d) 4, .imm 7 (a0.Tries.map TAttempt.d) 4, .imm 10 (a0.Mail.map TMail.d) 4, .imm 2 (a0.Chosen.map TChoice.d) 4]] (.bool r) := by
 refine za2 Tryz.tmOk 4 Tryz.func11 rfl (by decide) rfl rfl (lb rfl) ?_
 intro hwf
 unfold zcg at h
 refine .seq (.pl zS [0] ?_)
 refine .seq ?_
 obtain ⟨v1, hv1, h⟩ := bind_some h
 refine .seq (.rg zS [1] ?_)
 refine .rn 2 ?_
 refine .cl (zfy a0.Members v1 hv1) ?_
 refine .rn 6 ?_
 refine .rn 6 ?_
 refine .rn 6 ?_
 refine .rn 7 ?_
 refine .nn ?_
 refine .cd (fun hc1 => ?_) (fun hc1 => ?_)
 replace h := za0 h hc1
 refine .seq (.pl zS [] ?_)
 obtain rfl := sj h
 exact .rr
 replace h := za1 h hc1
 obtain ⟨x1, hx1, h⟩ := bind_some h
 refine .skip ?_
 refine .seqM 1 (fun (j : Unit) => ya3k a0) (fun j => x1 = (.inr j)) (lb rfl) ?_ ?_
 refine .seq (.pl zS [1] ?_)
 refine .block ?_
 refine .loopG 1 (fun (j : Nat × Int) => ya3i a0 j.2) (fun j => zad a0 j.1 j.2 = some x1) (fun j => j.1) (7, 0) (lb rfl) ?_ hx1 ?_
 exact .m [1, 3] [0] []
 rintro ⟨fu1, n1⟩ hx1
 simp only [ya3i]
 try simp only at hx1
 obtain ⟨fu1, rfl⟩ : ∃ k, fu1 = k + 1 := by cases fu1 with | zero => (rw [zad] at hx1; cases hx1) | succ k => exact ⟨k, rfl⟩
 rw [zad] at hx1
 refine .seq (.seq (.pl zS [1, 3] ?_))
 refine .cd (fun hc2 => ?_) (fun hc2 => ?_)
 replace hx1 := za0 hx1 hc2
 refine .skip (.seq (.block (.seq ?_)))
 obtain ⟨k1, hx1⟩ := zaa hx1
 have e1 := zax TAttempt.d a0.Tries n1
 replace e1 := e1 k1
 refine .plx zS e1 [1, 3] ?_
 refine .seq ?_
 obtain ⟨k2, hx1⟩ := zaa hx1
 obtain ⟨v2, hv2, hx1⟩ := bind_some hx1
 obtain ⟨v3, hv3, hx1⟩ := bind_some hx1
 obtain ⟨v4, hv4, hx1⟩ := bind_some hx1
 have e2 := zax TVote.d a0.Votes n1
 replace e2 := e2 k2
 refine .rg zS [1, 3, 4] ?_
 refine .rnx 5 e2 ?_
 refine .cl (zhg (a0.Votes.getD n1.toNat default) v2 hv2) ?_
 refine .rnx 3 e2 ?_
 refine .gcall rfl rfl rfl rfl rfl (fun hg => ⟨[], [.agg [.int .u8 ((a0.Tries.getD n1.toNat default).Phase), .int .i64 ((a0.Tries.getD n1.toNat default).Ballot), .imm 1 (((a0.Tries.getD n1.toNat default).Members).map (D.int .i64)) 4, .str ((a0.Tries.getD n1.toNat default).Wish), .str ((a0.Tries.getD n1.toNat default).Value), .imm 3 (((a0.Tries.getD n1.toNat default).Promises).map TPromise.d) 4, .imm 1 (((a0.Tries.getD n1.toNat default).Accepted).map (D.int .i64)) 4]], _, rfl, gd hg, rfl, (zfx (a0.Tries.getD n1.toNat default) v3 (za0 hv3 hg))⟩) ?_
 refine .rnx 6 e2 ?_
 refine .rnx 6 e2 ?_
 refine .rnx 5 e2 ?_
 refine .gcall rfl rfl rfl rfl rfl (fun hg => ⟨[], [.imm 1 (((a0.Tries.getD n1.toNat default).Members).map (D.int .i64)) 4, .imm 1 (a0.Members.map (D.int .i64)) 4], _, rfl, gd hg, rfl, (zdh ((a0.Tries.getD n1.toNat default).Members) a0.Members v4 (za0 hv4 hg))⟩) ?_
 refine .rnx 4 e2 ?_
 refine .nn ?_
 refine .cd (fun hc3 => ?_) (fun hc3 => ?_)
 replace hx1 := za0 hx1 hc3
 refine .seq (.pl zS [] ?_)
 have hq := sj hx1
 subst x1
 try dsimp only at h
 obtain rfl := sj h
 exact .rr
 replace hx1 := za1 hx1 hc3
 refine .skip (.pl zS [1, 3] ?_)
 refine ⟨(fu1, _), ?_, hx1, by dsimp only; omega⟩
 exact .m [1, 3] [0] []
 replace hx1 := za1 hx1 hc2
 refine .exit ?_
 refine ⟨_, ?_, (sj hx1).symm⟩
 exact .m [1] [0] []
 rintro ⟨⟩ hj1
 subst x1
 try dsimp only at h
 simp only [ya3k]
 obtain ⟨x2, hx2, h⟩ := bind_some h
 refine .seqM 1 (fun (j : Unit) => ya3h a0) (fun j => x2 = (.inr j)) (lb rfl) ?_ ?_
 refine .seq (.pl zS [1] ?_)
 refine .block ?_
 refine .loopG 1 (fun (j : Nat) => ya3g a0 j) (fun j => j <= a0.Mail.length /\ zal (a0.Mail.drop j)  = some x2) (fun j => a0.Mail.length - j) (0) (lb rfl) ?_ ⟨Nat.zero_le _, hx2⟩ ?_
 exact .m [1, 5] [0] []
 rintro n2 ⟨hi1, hx2⟩
 simp only [ya3g]
 refine .wfb 0 [.imm 1 (a0.Members.map (D.int .i64)) 4, .imm 3 (a0.Votes.map TVote.d) 4, .imm 7 (a0.Tries.map TAttempt.d) 4, .imm 10 (a0.Mail.map TMail.d) 4, .imm 2 (a0.Chosen.map TChoice.d) 4] rfl ?_
 intro hln2
 replace hln2 : (a0.Mail.length : Int) <= 9223372036854775807 := by simp only [wf, wfL, IntKind.max, IntKind.min, IntKind.signed, IntKind.bits, List.length_map] at hln2; first | exact hln2.2 | exact hln2.1 | (simp at hln2; omega)
 refine .seq (.seq (.pl zS [1, 5] ?_))
 refine .cd (fun hc4 => ?_) (fun hc4 => ?_)
 have h1 : n2 < a0.Mail.length := by simpa using hc4
 have hwn2 : wr .i64 ((n2 : Int) + 1) = ((n2 + 1 : Nat) : Int) := zbx h1 hln2
 have hpn2 : wr .i64 ((n2 : Int) - 1) = (n2 : Int) - 1 := zcm h1 hln2
 rw [List.drop_eq_getElem_cons h1, zal] at hx2
 refine .skip (.seq (.block (.seq ?_)))
 obtain ⟨v5, hv5, hx2⟩ := bind_some hx2
 have e3 := zbj TMail.d a0.Mail n2 h1
 refine .rg zS [1, 5] ?_
 refine .rnx 5 (ai e3 hwn2) ?_
 refine .cl (ziy (a0.Mail[n2]) v5 hv5) ?_
 refine .rnx 1 (ai e3 hwn2) ?_
 refine .nn ?_
 refine .cd (fun hc5 => ?_) (fun hc5 => ?_)
 replace hx2 := za0 hx2 hc5
 refine .seq (.plx zS hwn2 [] ?_)
 have hq := sj hx2
 subst x2
 try dsimp only at h
 obtain rfl := sj h
 exact .rr
 replace hx2 := za1 hx2 hc5
 refine .skip (.plx zS hwn2 [1, 5] ?_)
 refine ⟨n2 + 1, ?_, ⟨by omega, hx2⟩, by dsimp only; omega⟩
 exact .m [1, 5] [0] []
 have h2 : n2 = a0.Mail.length := by have h2b := of_decide_eq_false hc4; omega
 rw [List.drop_of_length_le (by omega), zal] at hx2
 refine .exit ?_
 refine ⟨_, ?_, (sj hx2).symm⟩
 exact .m [1] [0] []
 rintro ⟨⟩ hj2
 subst x2
 try dsimp only at h
 simp only [ya3h]
 obtain ⟨x3, hx3, h⟩ := bind_some h
 refine .seqM 1 (fun (j : Unit) => ya3f) (fun j => x3 = (.inr j)) (lb rfl) ?_ ?_
 refine .seq (.pl zS [1] ?_)
 refine .block ?_
 refine .loopG 1 (fun (j : Nat) => ya3j a0 j) (fun j => j <= a0.Chosen.length /\ zb8 (a0.Chosen.drop j)  = some x3) (fun j => a0.Chosen.length - j) (0) (lb rfl) ?_ ⟨Nat.zero_le _, hx3⟩ ?_
 exact .m [1, 6] [0] []
 rintro n3 ⟨hi2, hx3⟩
 simp only [ya3j]
 refine .wfb 0 [.imm 1 (a0.Members.map (D.int .i64)) 4, .imm 3 (a0.Votes.map TVote.d) 4, .imm 7 (a0.Tries.map TAttempt.d) 4, .imm 10 (a0.Mail.map TMail.d) 4, .imm 2 (a0.Chosen.map TChoice.d) 4] rfl ?_
 intro hln3
 replace hln3 : (a0.Chosen.length : Int) <= 9223372036854775807 := by simp only [wf, wfL, IntKind.max, IntKind.min, IntKind.signed, IntKind.bits, List.length_map] at hln3; first | exact hln3.2 | exact hln3.1 | (simp at hln3; omega)
 refine .seq (.seq (.pl zS [1, 6] ?_))
 refine .cd (fun hc6 => ?_) (fun hc6 => ?_)
 have h3 : n3 < a0.Chosen.length := by simpa using hc6
 have hwn3 : wr .i64 ((n3 : Int) + 1) = ((n3 + 1 : Nat) : Int) := zbx h3 hln3
 have hpn3 : wr .i64 ((n3 : Int) - 1) = (n3 : Int) - 1 := zcm h3 hln3
 rw [List.drop_eq_getElem_cons h3, zet] at hx3
 refine .skip (.seq (.block (.seq ?_)))
 obtain ⟨v6, hv6, hx3⟩ := bind_some hx3
 have e4 := zbj TChoice.d a0.Chosen n3 h3
 have e5 := zbj TChoice.d a0.Chosen n3 h3
 refine .rg zS [1, 6] ?_
 refine .rnx 6 (ai e4 (ai e5 hwn3)) ?_
 refine .cl (zdf (a0.Chosen[n3].Node) v6 hv6) ?_
 refine .rnx 6 (ai e4 (ai e5 hwn3)) ?_
 refine .rnx 5 (ai e4 (ai e5 hwn3)) ?_
 refine .nn ?_
 refine .cd (fun hc7 => ?_) (fun hc7 => ?_)
 replace hx3 := za0 hx3 hc7
 refine .seq (.plx zS hwn3 [] ?_)
 have hq := sj hx3
 subst x3
 try dsimp only at h
 obtain rfl := sj h
 exact .rr
 replace hx3 := za1 hx3 hc7
 refine .skip (.plx zS hwn3 [1, 6] ?_)
 refine ⟨n3 + 1, ?_, ⟨by omega, hx3⟩, by dsimp only; omega⟩
 exact .m [1, 6] [0] []
 have h4 : n3 = a0.Chosen.length := by have h4b := of_decide_eq_false hc6; omega
 rw [List.drop_of_length_le (by omega), zes] at hx3
 refine .exit ?_
 refine ⟨_, ?_, (sj hx3).symm⟩
 exact .m [] [] []
 rintro ⟨⟩ hj3
 subst x3
 try dsimp only at h
 simp only [ya3f]
 refine .seq (.pl zS [] ?_)
 obtain rfl := sj h
 exact .rr
@[go_sem] def ya36 (a0 : TWorld) (l1 : List TAttempt) : St := ⟨[(2, .ptr 1 0), (3, .ptr 6 0)], [(1, .box [.imm 0 [] 0, .imm 0 [] 0, .imm 0 [] 0, .imm 0 [] 0, .imm 0 [] 0]), (2, .arr 3 1 true (a0.Members.map (D.int .i64))), (3, .arr 51 3 true (a0.Votes.map TVote.d)), (4, .arr 43 10 true (a0.Mail.map TMail.d)), (5, .arr 45 2 true (a0.Chosen.map TChoice.d)), (6, .box [.ref 2 1 0 a0.Members.length (some uC), .ref 3 3 0 a0.Votes.length (some uC), .ref 7 7 0 l1.length (some uC), .ref 4 10 0 a0.Mail.length (some uC), .ref 5 2 0 a0.Chosen.length (some uC)]), (7, .arr 49 7 true (l1.map TAttempt.n))], 8⟩
@[go_sem] def ya35 (a0 : TWorld) (l2 : List TAttempt) (n1 : Int) : St := ⟨[(1, .ptr 0 0), (2, .ptr 1 0), (3, .ptr 6 0), (4, .int .i64 n1)], [(0, .box [.imm 1 (a0.Members.map (D.int .i64)) 4, .imm 3 (a0.Votes.map TVote.d) 4, .imm 7 (a0.Tries.map TAttempt.d) 4, .imm 10 (a0.Mail.map TMail.d) 4, .imm 2 (a0.Chosen.map TChoice.d) 4]), (1, .box [.imm 0 [] 0, .imm 0 [] 0, .imm 0 [] 0, .imm 0 [] 0, .imm 0 [] 0]), (2, .arr 3 1 true (a0.Members.map (D.int .i64))), (3, .arr 51 3 true (a0.Votes.map TVote.d)), (4, .arr 43 10 true (a0.Mail.map TMail.d)), (5, .arr 45 2 true (a0.Chosen.map TChoice.d)), (6, .box [.ref 2 1 0 a0.Members.length (some uC), .ref 3 3 0 a0.Votes.length (some uC), .ref 7 7 0 l2.length (some uC), .ref 4 10 0 a0.Mail.length (some uC), .ref 5 2 0 a0.Chosen.length (some uC)]), (7, .arr 49 7 true (l2.map TAttempt.n))], 8⟩
@[go_sem] def st24 (r : TWorld) : St := ⟨[(2, .ptr 5 0)], [(0, .arr 3 1 true (r.Members.map (D.int .i64))), (1, .arr 51 3 true (r.Votes.map TVote.d)), (2, .arr 49 7 true (r.Tries.map TAttempt.n)), (3, .arr 43 10 true (r.Mail.map TMail.d)), (4, .arr 45 2 true (r.Chosen.map TChoice.d)), (5, .box [.ref 0 1 0 r.Members.length (some uC), .ref 1 3 0 r.Votes.length (some uC), .ref 2 7 0 r.Tries.length (some uC), .ref 3 10 0 r.Mail.length (some uC), .ref 4 2 0 r.Chosen.length (some uC)])], 6⟩
theorem zh5 (a0 : TWorld) (r : TWorld) (h : zb1 a0 = some r) : zd1 Tryz.prog 5 [.agg [.imm 1 (a0.Members.map (D.int .i64)) 4, .imm 3 (a0.Votes.map TVote.d) 4, .imm 7 (a0.Tries.map TAttempt.d) 4, .imm 10 (a0.Mail.map TMail.d) 4, .imm 2 (a0.Chosen.map TChoice.d) 4]] [] (.agg [.ref 0 1 0 r.Members.length (some uC), .ref 1 3 0 r.Votes.length (some uC), .ref 2 7 0 r.Tries.length (some uC), .ref 3 10 0 r.Mail.length (some uC), .ref 4 2 0 r.Chosen.length (some uC)]) [(0, some (.arr 3 1 true (r.Members.map (D.int .i64)))), (1, some (.arr 51 3 true (r.Votes.map TVote.d))), (2, some (.arr 49 7 true (r.Tries.map TAttempt.n))), (3, some (.arr 43 10 true (r.Mail.map TMail.d))), (4, some (.arr 45 2 true (r.Chosen.map TChoice.d)))] (0, 12) := by
 refine zab Tryz.tmOk Tryz.func5 rfl (by decide) (lb rfl) (by simp) ?_
 intro hwf
 unfold zb1 at h
 refine .ends 0 (Nat.le_refl _) ?_
 refine .seq (.pl zS [0] ?_)
 obtain ⟨k1, h⟩ := zaa h
 obtain ⟨k2, h⟩ := zaa h
 obtain ⟨k3, h⟩ := zaa h
 obtain ⟨k4, h⟩ := zaa h
 refine .seqM 2 (fun (_ : Unit) => ⟨[(1, .ptr 0 0), (2, .ptr 1 0), (3, .ptr 6 0)], [(0, .box [.imm 1 (a0.Members.map (D.int .i64)) 4, .imm 3 (a0.Votes.map TVote.d) 4, .imm 7 (a0.Tries.map TAttempt.d) 4, .imm 10 (a0.Mail.map TMail.d) 4, .imm 2 (a0.Chosen.map TChoice.d) 4]), (1, .box [.imm 0 [] 0, .imm 0 [] 0, .imm 0 [] 0, .imm 0 [] 0, .imm 0 [] 0]), (2, .arr 3 1 true (a0.Members.map (D.int .i64))), (3, .arr 51 3 true (a0.Votes.map TVote.d)), (4, .arr 43 10 true (a0.Mail.map TMail.d)), (5, .arr 45 2 true (a0.Chosen.map TChoice.d)), (6, .box [.ref 2 1 0 a0.Members.length (some uC), .ref 3 3 0 a0.Votes.length (some uC), .imm 0 [] 0, .ref 4 10 0 a0.Mail.length (some uC), .ref 5 2 0 a0.Chosen.length (some uC)])], 7⟩) (fun _ => True) (lb rfl) ?_ (fun _ _ => ?_)
 rcases zb5 a0.Members with hE1 | ⟨y, ys, hE1⟩
 have hM1 : a0.Members.map (D.int .i64) = [] := by rw [hE1]; simp
 rcases zb5 a0.Votes with hE2 | ⟨y, ys, hE2⟩
 have hM2 : a0.Votes.map TVote.d = [] := by rw [hE2]; simp
 rcases zb5 a0.Mail with hE3 | ⟨y, ys, hE3⟩
 have hM3 : a0.Mail.map TMail.d = [] := by rw [hE3]; simp
 rcases zb5 a0.Chosen with hE4 | ⟨y, ys, hE4⟩
 have hM4 : a0.Chosen.map TChoice.d = [] := by rw [hE4]; simp
 refine .rg zS [1, 2] ?_
 refine .rx 6 (apn hM1) (apn hM2) (apn hM3) (apn hM4) ?_
 refine .rx 6 (apn hM1) (apn hM2) (apn hM3) (apn hM4) ?_
 refine .rx 3 (apn hM1) (apn hM2) (apn hM3) (apn hM4) ?_
 refine .nd ?_
 refine ⟨(), ?_, trivial⟩
 refine Goes.new0 1 3 (lb rfl) ?_
 refine Goes.new0 3 51 (lb rfl) ?_
 refine Goes.new0 10 43 (lb rfl) ?_
 refine Goes.new0 2 45 (lb rfl) ?_
 refine Goes.boxs 2 _ [.ref 3 1 0 0 (some uC), .ref 4 3 0 0 (some uC), .imm 0 [] 0, .ref 5 10 0 0 (some uC), .ref 6 2 0 0 (some uC)] rfl (.cons (.own0 3 _ _ _ (by decide)) (.cons (.own0 4 _ _ _ (by decide)) (.keep (.cons (.own0 5 _ _ _ (by decide)) (.cons (.own0 6 _ _ _ (by decide)) (.refl _)))))) ?_
 exact .mx (ai hE1 (ai hE2 (ai hE3 hE4))) [1, 2, 3] [0, 1, 3, 4, 5, 6, 2] [(3, 2), (4, 3), (5, 4), (6, 5), (2, 6)]
 have hM4 : a0.Chosen.map TChoice.d ≠ [] := by rw [hE4]; simp
 refine .rg zS [1, 2] ?_
 refine .rx 6 (apn hM1) (apn hM2) (apn hM3) (apc hM4) ?_
 refine .rx 6 (apn hM1) (apn hM2) (apn hM3) (apc hM4) ?_
 refine .rx 3 (apn hM1) (apn hM2) (apn hM3) (apc hM4) ?_
 refine .nd ?_
 refine ⟨(), ?_, trivial⟩
 refine Goes.new0 1 3 (lb rfl) ?_
 refine Goes.new0 3 51 (lb rfl) ?_
 refine Goes.new0 10 43 (lb rfl) ?_
 refine Goes.boxs 3 _ [.ref 4 1 0 0 (some uC), .ref 5 3 0 0 (some uC), .imm 0 [] 0, .ref 6 10 0 0 (some uC), .ref 2 2 0 a0.Chosen.length (some uC)] rfl (.cons (.own0 4 _ _ _ (by decide)) (.cons (.own0 5 _ _ _ (by decide)) (.keep (.cons (.own0 6 _ _ _ (by decide)) (.cons (.unk _ _ _ _ _) (.refl _)))))) ?_
 exact .mx (ai hE1 (ai hE2 (ai hE3 hE4))) [1, 2, 3] [0, 1, 4, 5, 6, 2, 3] [(4, 2), (5, 3), (6, 4), (2, 5), (3, 6)]
 have hM3 : a0.Mail.map TMail.d ≠ [] := by rw [hE3]; simp
 rcases zb5 a0.Chosen with hE5 | ⟨y, ys, hE5⟩
 have hM5 : a0.Chosen.map TChoice.d = [] := by rw [hE5]; simp
 refine .rg zS [1, 2] ?_
 refine .rx 6 (apn hM1) (apn hM2) (apc hM3) (apn hM5) ?_
 refine .rx 6 (apn hM1) (apn hM2) (apc hM3) (apn hM5) ?_
 refine .rx 3 (apn hM1) (apn hM2) (apc hM3) (apn hM5) ?_
 refine .nd ?_
 refine ⟨(), ?_, trivial⟩
 refine Goes.new0 1 3 (lb rfl) ?_
 refine Goes.new0 3 51 (lb rfl) ?_
 refine Goes.new0 2 45 (lb rfl) ?_
 refine Goes.boxs 3 _ [.ref 4 1 0 0 (some uC), .ref 5 3 0 0 (some uC), .imm 0 [] 0, .ref 2 10 0 a0.Mail.length (some uC), .ref 6 2 0 0 (some uC)] rfl (.cons (.own0 4 _ _ _ (by decide)) (.cons (.own0 5 _ _ _ (by decide)) (.keep (.cons (.unk _ _ _ _ _) (.cons (.own0 6 _ _ _ (by decide)) (.refl _)))))) ?_
 exact .mx (ai hE1 (ai hE2 (ai hE3 hE5))) [1, 2, 3] [0, 1, 4, 5, 2, 6, 3] [(4, 2), (5, 3), (2, 4), (6, 5), (3, 6)]
 have hM5 : a0.Chosen.map TChoice.d ≠ [] := by rw [hE5]; simp
 refine .rg zS [1, 2] ?_
 refine .rx 6 (apn hM1) (apn hM2) (apc hM3) (apc hM5) ?_
 refine .rx 6 (apn hM1) (apn hM2) (apc hM3) (apc hM5) ?_
 refine .rx 3 (apn hM1) (apn hM2) (apc hM3) (apc hM5) ?_
 refine .nd ?_
 refine ⟨(), ?_, trivial⟩
 refine Goes.new0 1 3 (lb rfl) ?_
 refine Goes.new0 3 51 (lb rfl) ?_
 refine Goes.boxs 4 _ [.ref 5 1 0 0 (some uC), .ref 6 3 0 0 (some uC), .imm 0 [] 0, .ref 2 10 0 a0.Mail.length (some uC), .ref 3 2 0 a0.Chosen.length (some uC)] rfl (.cons (.own0 5 _ _ _ (by decide)) (.cons (.own0 6 _ _ _ (by decide)) (.keep (.cons (.unk _ _ _ _ _) (.cons (.unk _ _ _ _ _) (.refl _)))))) ?_
 exact .mx (ai hE1 (ai hE2 (ai hE3 hE5))) [1, 2, 3] [0, 1, 5, 6, 2, 3, 4] [(5, 2), (6, 3), (2, 4), (3, 5), (4, 6)]
 have hM2 : a0.Votes.map TVote.d ≠ [] := by rw [hE2]; simp
 rcases zb5 a0.Mail with hE6 | ⟨y, ys, hE6⟩
 have hM6 : a0.Mail.map TMail.d = [] := by rw [hE6]; simp
 rcases zb5 a0.Chosen with hE7 | ⟨y, ys, hE7⟩
 have hM7 : a0.Chosen.map TChoice.d = [] := by rw [hE7]; simp
 refine .rg zS [1, 2] ?_
 refine .rx 6 (apn hM1) (apc hM2) (apn hM6) (apn hM7) ?_
 refine .rx 6 (apn hM1) (apc hM2) (apn hM6) (apn hM7) ?_
 refine .rx 3 (apn hM1) (apc hM2) (apn hM6) (apn hM7) ?_
 refine .nd ?_
 refine ⟨(), ?_, trivial⟩
 refine Goes.new0 1 3 (lb rfl) ?_
 refine Goes.new0 10 43 (lb rfl) ?_
 refine Goes.new0 2 45 (lb rfl) ?_
 refine Goes.boxs 3 _ [.ref 4 1 0 0 (some uC), .ref 2 3 0 a0.Votes.length (some uC), .imm 0 [] 0, .ref 5 10 0 0 (some uC), .ref 6 2 0 0 (some uC)] rfl (.cons (.own0 4 _ _ _ (by decide)) (.cons (.unk _ _ _ _ _) (.keep (.cons (.own0 5 _ _ _ (by decide)) (.cons (.own0 6 _ _ _ (by decide)) (.refl _)))))) ?_
 exact .mx (ai hE1 (ai hE2 (ai hE6 hE7))) [1, 2, 3] [0, 1, 4, 2, 5, 6, 3] [(4, 2), (2, 3), (5, 4), (6, 5), (3, 6)]
 have hM7 : a0.Chosen.map TChoice.d ≠ [] := by rw [hE7]; simp
 refine .rg zS [1, 2] ?_
 refine .rx 6 (apn hM1) (apc hM2) (apn hM6) (apc hM7) ?_
 refine .rx 6 (apn hM1) (apc hM2) (apn hM6) (apc hM7) ?_
 refine .rx 3 (apn hM1) (apc hM2) (apn hM6) (apc hM7) ?_
 refine .nd ?_
 refine ⟨(), ?_, trivial⟩
 refine Goes.new0 1 3 (lb rfl) ?_
 refine Goes.new0 10 43 (lb rfl) ?_
 refine Goes.boxs 4 _ [.ref 5 1 0 0 (some uC), .ref 2 3 0 a0.Votes.length (some uC), .imm 0 [] 0, .ref 6 10 0 0 (some uC), .ref 3 2 0 a0.Chosen.length (some uC)] rfl (.cons (.own0 5 _ _ _ (by decide)) (.cons (.unk _ _ _ _ _) (.keep (.cons (.own0 6 _ _ _ (by decide)) (.cons (.unk _ _ _ _ _) (.refl _)))))) ?_
 exact .mx (ai hE1 (ai hE2 (ai hE6 hE7))) [1, 2, 3] [0, 1, 5, 2, 6, 3, 4] [(5, 2), (2, 3), (6, 4), (3, 5), (4, 6)]
 have hM6 : a0.Mail.map TMail.d ≠ [] := by rw [hE6]; simp
 rcases zb5 a0.Chosen with hE8 | ⟨y, ys, hE8⟩
 have hM8 : a0.Chosen.map TChoice.d = [] := by rw [hE8]; simp
 refine .rg zS [1, 2] ?_
 refine .rx 6 (apn hM1) (apc hM2) (apc hM6) (apn hM8) ?_
 refine .rx 6 (apn hM1) (apc hM2) (apc hM6) (apn hM8) ?_
 refine .rx 3 (apn hM1) (apc hM2) (apc hM6) (apn hM8) ?_
 refine .nd ?_
 refine ⟨(), ?_, trivial⟩
 refine Goes.new0 1 3 (lb rfl) ?_
 refine Goes.new0 2 45 (lb rfl) ?_
 refine Goes.boxs 4 _ [.ref 5 1 0 0 (some uC), .ref 2 3 0 a0.Votes.length (some uC), .imm 0 [] 0, .ref 3 10 0 a0.Mail.length (some uC), .ref 6 2 0 0 (some uC)] rfl (.cons (.own0 5 _ _ _ (by decide)) (.cons (.unk _ _ _ _ _) (.keep (.cons (.unk _ _ _ _ _) (.cons (.own0 6 _ _ _ (by decide)) (.refl _)))))) ?_
 exact .mx (ai hE1 (ai hE2 (ai hE6 hE8))) [1, 2, 3] [0, 1, 5, 2, 3, 6, 4] [(5, 2), (2, 3), (3, 4), (6, 5), (4, 6)]
 have hM8 : a0.Chosen.map TChoice.d ≠ [] := by rw [hE8]; simp
 refine .rg zS [1, 2] ?_
 refine .rx 6 (apn hM1) (apc hM2) (apc hM6) (apc hM8) ?_
 refine .rx 6 (apn hM1) (apc hM2) (apc hM6) (apc hM8) ?_
 refine .rx 3 (apn hM1) (apc hM2) (apc hM6) (apc hM8) ?_
 refine .nd ?_
 refine ⟨(), ?_, trivial⟩
 refine Goes.new0 1 3 (lb rfl) ?_
 refine Goes.boxs 5 _ [.ref 6 1 0 0 (some uC), .ref 2 3 0 a0.Votes.length (some uC), .imm 0 [] 0, .ref 3 10 0 a0.Mail.length (some uC), .ref 4 2 0 a0.Chosen.length (some uC)] rfl (.cons (.own0 6 _ _ _ (by decide)) (.cons (.unk _ _ _ _ _) (.keep (.cons (.unk _ _ _ _ _) (.cons (.unk _ _ _ _ _) (.refl _)))))) ?_
 exact .mx (ai hE1 (ai hE2 (ai hE6 hE8))) [1, 2, 3] [0, 1, 6, 2, 3, 4, 5] [(6, 2), (2, 3), (3, 4), (4, 5), (5, 6)]
 have hM1 : a0.Members.map (D.int .i64) ≠ [] := by rw [hE1]; simp
 rcases zb5 a0.Votes with hE9 | ⟨y, ys, hE9⟩
 have hM9 : a0.Votes.map TVote.d = [] := by rw [hE9]; simp
 rcases zb5 a0.Mail with hE10 | ⟨y, ys, hE10⟩
 have hM10 : a0.Mail.map TMail.d = [] := by rw [hE10]; simp
 rcases zb5 a0.Chosen with hE11 | ⟨y, ys, hE11⟩
 have hM11 : a0.Chosen.map TChoice.d = [] := by rw [hE11]; simp
 refine .rg zS [1, 2] ?_
 refine .rx 6 (apc hM1) (apn hM9) (apn hM10) (apn hM11) ?_
 refine .rx 6 (apc hM1) (apn hM9) (apn hM10) (apn hM11) ?_
 refine .rx 3 (apc hM1) (apn hM9) (apn hM10) (apn hM11) ?_
 refine .nd ?_
 refine ⟨(), ?_, trivial⟩
 refine Goes.new0 3 51 (lb rfl) ?_
 refine Goes.new0 10 43 (lb rfl) ?_
 refine Goes.new0 2 45 (lb rfl) ?_
 refine Goes.boxs 3 _ [.ref 2 1 0 a0.Members.length (some uC), .ref 4 3 0 0 (some uC), .imm 0 [] 0, .ref 5 10 0 0 (some uC), .ref 6 2 0 0 (some uC)] rfl (.cons (.unk _ _ _ _ _) (.cons (.own0 4 _ _ _ (by decide)) (.keep (.cons (.own0 5 _ _ _ (by decide)) (.cons (.own0 6 _ _ _ (by decide)) (.refl _)))))) ?_
 exact .mx (ai hE1 (ai hE9 (ai hE10 hE11))) [1, 2, 3] [0, 1, 2, 4, 5, 6, 3] [(4, 3), (5, 4), (6, 5), (3, 6)]
 have hM11 : a0.Chosen.map TChoice.d ≠ [] := by rw [hE11]; simp
 refine .rg zS [1, 2] ?_
 refine .rx 6 (apc hM1) (apn hM9) (apn hM10) (apc hM11) ?_
 refine .rx 6 (apc hM1) (apn hM9) (apn hM10) (apc hM11) ?_
 refine .rx 3 (apc hM1) (apn hM9) (apn hM10) (apc hM11) ?_
 refine .nd ?_
 refine ⟨(), ?_, trivial⟩
 refine Goes.new0 3 51 (lb rfl) ?_
 refine Goes.new0 10 43 (lb rfl) ?_
 refine Goes.boxs 4 _ [.ref 2 1 0 a0.Members.length (some uC), .ref 5 3 0 0 (some uC), .imm 0 [] 0, .ref 6 10 0 0 (some uC), .ref 3 2 0 a0.Chosen.length (some uC)] rfl (.cons (.unk _ _ _ _ _) (.cons (.own0 5 _ _ _ (by decide)) (.keep (.cons (.own0 6 _ _ _ (by decide)) (.cons (.unk _ _ _ _ _) (.refl _)))))) ?_
 exact .mx (ai hE1 (ai hE9 (ai hE10 hE11))) [1, 2, 3] [0, 1, 2, 5, 6, 3, 4] [(5, 3), (6, 4), (3, 5), (4, 6)]
 have hM10 : a0.Mail.map TMail.d ≠ [] := by rw [hE10]; simp
 rcases zb5 a0.Chosen with hE12 | ⟨y, ys, hE12⟩
 have hM12 : a0.Chosen.map TChoice.d = [] := by rw [hE12]; simp
 refine .rg zS [1, 2] ?_
 refine .rx 6 (apc hM1) (apn hM9) (apc hM10) (apn hM12) ?_
 refine .rx 6 (apc hM1) (apn hM9) (apc hM10) (apn hM12) ?_
 refine .rx 3 (apc hM1) (apn hM9) (apc hM10) (apn hM12) ?_
 refine .nd ?_
 refine ⟨(), ?_, trivial⟩
 refine Goes.new0 3 51 (lb rfl) ?_
 refine Goes.new0 2 45 (lb rfl) ?_
 refine Goes.boxs 4 _ [.ref 2 1 0 a0.Members.length (some uC), .ref 5 3 0 0 (some uC), .imm 0 [] 0, .ref 3 10 0 a0.Mail.length (some uC), .ref 6 2 0 0 (some uC)] rfl (.cons (.unk _ _ _ _ _) (.cons (.own0 5 _ _ _ (by decide)) (.keep (.cons (.unk _ _ _ _ _) (.cons (.own0 6 _ _ _ (by decide)) (.refl _)))))) ?_
 exact .mx (ai hE1 (ai hE9 (ai hE10 hE12))) [1, 2, 3] [0, 1, 2, 5, 3, 6, 4] [(5, 3), (3, 4), (6, 5), (4, 6)]
 have hM12 : a0.Chosen.map TChoice.d ≠ [] := by rw [hE12]; simp
 refine .rg zS [1, 2] ?_
 refine .rx 6 (apc hM1) (apn hM9) (apc hM10) (apc hM12) ?_
 refine .rx 6 (apc hM1) (apn hM9) (apc hM10) (apc hM12) ?_
 refine .rx 3 (apc hM1) (apn hM9) (apc hM10) (apc hM12) ?_
 refine .nd ?_
 refine ⟨(), ?_, trivial⟩
 refine Goes.new0 3 51 (lb rfl) ?_
 refine Goes.boxs 5 _ [.ref 2 1 0 a0.Members.length (some uC), .ref 6 3 0 0 (some uC), .imm 0 [] 0, .ref 3 10 0 a0.Mail.length (some uC), .ref 4 2 0 a0.Chosen.length (some uC)] rfl (.cons (.unk _ _ _ _ _) (.cons (.own0 6 _ _ _ (by decide)) (.keep (.cons (.unk _ _ _ _ _) (.cons (.unk _ _ _ _ _) (.refl _)))))) ?_
 exact .mx (ai hE1 (ai hE9 (ai hE10 hE12))) [1, 2, 3] [0, 1, 2, 6, 3, 4, 5] [(6, 3), (3, 4), (4, 5), (5, 6)]
 have hM9 : a0.Votes.map TVote.d ≠ [] := by rw [hE9]; simp
 rcases zb5 a0.Mail with hE13 | ⟨y, ys, hE13⟩
 have hM13 : a0.Mail.map TMail.d = [] := by rw [hE13]; simp
 rcases zb5 a0.Chosen with hE14 | ⟨y, ys, hE14⟩
 have hM14 : a0.Chosen.map TChoice.d = [] := by rw [hE14]; simp
 refine .rg zS [1, 2] ?_
 refine .rx 6 (apc hM1) (apc hM9) (apn hM13) (apn hM14) ?_
 refine .rx 6 (apc hM1) (apc hM9) (apn hM13) (apn hM14) ?_
 refine .rx 3 (apc hM1) (apc hM9) (apn hM13) (apn hM14) ?_
 refine .nd ?_
 refine ⟨(), ?_, trivial⟩
 refine Goes.new0 10 43 (lb rfl) ?_
 refine Goes.new0 2 45 (lb rfl) ?_
 refine Goes.boxs 4 _ [.ref 2 1 0 a0.Members.length (some uC), .ref 3 3 0 a0.Votes.length (some uC), .imm 0 [] 0, .ref 5 10 0 0 (some uC), .ref 6 2 0 0 (some uC)] rfl (.cons (.unk _ _ _ _ _) (.cons (.unk _ _ _ _ _) (.keep (.cons (.own0 5 _ _ _ (by decide)) (.cons (.own0 6 _ _ _ (by decide)) (.refl _)))))) ?_
 exact .mx (ai hE1 (ai hE9 (ai hE13 hE14))) [1, 2, 3] [0, 1, 2, 3, 5, 6, 4] [(5, 4), (6, 5), (4, 6)]
 have hM14 : a0.Chosen.map TChoice.d ≠ [] := by rw [hE14]; simp
 refine .rg zS [1, 2] ?_
 refine .rx 6 (apc hM1) (apc hM9) (apn hM13) (apc hM14) ?_
 refine .rx 6 (apc hM1) (apc hM9) (apn hM13) (apc hM14) ?_
 refine .rx 3 (apc hM1) (apc hM9) (apn hM13) (apc hM14) ?_
 refine .nd ?_
 refine ⟨(), ?_, trivial⟩
 refine Goes.new0 10 43 (lb rfl) ?_
 refine Goes.boxs 5 _ [.ref 2 1 0 a0.Members.length (some uC), .ref 3 3 0 a0.Votes.length (some uC), .imm 0 [] 0, .ref 6 10 0 0 (some uC), .ref 4 2 0 a0.Chosen.length (some uC)] rfl (.cons (.unk _ _ _ _ _) (.cons (.unk _ _ _ _ _) (.keep (.cons (.own0 6 _ _ _ (by decide)) (.cons (.unk _ _ _ _ _) (.refl _)))))) ?_
 exact .mx (ai hE1 (ai hE9 (ai hE13 hE14))) [1, 2, 3] [0, 1, 2, 3, 6, 4, 5] [(6, 4), (4, 5), (5, 6)]
 have hM13 : a0.Mail.map TMail.d ≠ [] := by rw [hE13]; simp
 rcases zb5 a0.Chosen with hE15 | ⟨y, ys, hE15⟩
 have hM15 : a0.Chosen.map TChoice.d = [] := by rw [hE15]; simp
 refine .rg zS [1, 2] ?_
 refine .rx 6 (apc hM1) (apc hM9) (apc hM13) (apn hM15) ?_
 refine .rx 6 (apc hM1) (apc hM9) (apc hM13) (apn hM15) ?_
 refine .rx 3 (apc hM1) (apc hM9) (apc hM13) (apn hM15) ?_
 refine .nd ?_
 refine ⟨(), ?_, trivial⟩
 refine Goes.new0 2 45 (lb rfl) ?_
 refine Goes.boxs 5 _ [.ref 2 1 0 a0.Members.length (some uC), .ref 3 3 0 a0.Votes.length (some uC), .imm 0 [] 0, .ref 4 10 0 a0.Mail.length (some uC), .ref 6 2 0 0 (some uC)] rfl (.cons (.unk _ _ _ _ _) (.cons (.unk _ _ _ _ _) (.keep (.cons (.unk _ _ _ _ _) (.cons (.own0 6 _ _ _ (by decide)) (.refl _)))))) ?_
 exact .mx (ai hE1 (ai hE9 (ai hE13 hE15))) [1, 2, 3] [0, 1, 2, 3, 4, 6, 5] [(6, 5), (5, 6)]
 have hM15 : a0.Chosen.map TChoice.d ≠ [] := by rw [hE15]; simp
 refine .rg zS [1, 2] ?_
 refine .rx 6 (apc hM1) (apc hM9) (apc hM13) (apc hM15) ?_
 refine .rx 6 (apc hM1) (apc hM9) (apc hM13) (apc hM15) ?_
 refine .rx 3 (apc hM1) (apc hM9) (apc hM13) (apc hM15) ?_
 refine .nd ?_
 refine ⟨(), ?_, trivial⟩
 refine Goes.boxs 6 _ [.ref 2 1 0 a0.Members.length (some uC), .ref 3 3 0 a0.Votes.length (some uC), .imm 0 [] 0, .ref 4 10 0 a0.Mail.length (some uC), .ref 5 2 0 a0.Chosen.length (some uC)] rfl (.cons (.unk _ _ _ _ _) (.cons (.unk _ _ _ _ _) (.keep (.cons (.unk _ _ _ _ _) (.cons (.unk _ _ _ _ _) (.refl _)))))) ?_
 exact .mx (ai hE1 (ai hE9 (ai hE13 hE15))) [1, 2, 3] [0, 1, 2, 3, 4, 5, 6] []
 obtain ⟨x1, hx1, h⟩ := bind_some h
 refine .seqM 7 (fun (j : (List TAttempt)) => ya36 a0 j) (fun j => x1 = j) (lb rfl) ?_ ?_
 refine .seq (.pl zS [1, 2, 3] ?_)
 refine .block ?_
 refine .loopG 7 (fun (j : Nat × (List TAttempt) × Int) => ya35 a0 j.2.1 j.2.2) (fun j => zah a0 j.1 j.2.1 j.2.2 = some x1) (fun j => j.1) (a0.Tries.length + 1, [], 0) (lb rfl) ?_ hx1 ?_
 refine Goes.new0 7 49 (lb rfl) ?_
 refine Goes.boxs 6 _ [.ref 2 1 0 a0.Members.length (some uC), .ref 3 3 0 a0.Votes.length (some uC), .ref 7 7 0 0 (some uC), .ref 4 10 0 a0.Mail.length (some uC), .ref 5 2 0 a0.Chosen.length (some uC)] rfl (.keep (.keep (.cons (.own0 7 _ _ _ (by decide)) (.refl _)))) ?_
 exact .m [1, 2, 3, 4] [0, 1, 2, 3, 4, 5, 6, 7] []
 rintro ⟨fu1, l2, n1⟩ hx1
 simp only [ya35]
 try simp only at hx1
 obtain ⟨fu1, rfl⟩ : ∃ k, fu1 = k + 1 := by cases fu1 with | zero => (rw [zah] at hx1; cases hx1) | succ k => exact ⟨k, rfl⟩
 rw [zah] at hx1
 refine .seq (.seq (.pl zS [1, 2, 3, 4] ?_))
 refine .cd (fun hc1 => ?_) (fun hc1 => ?_)
 replace hx1 := za0 hx1 hc1
 refine .skip (.seq (.block ?_))
 obtain ⟨k5, hx1⟩ := zaa hx1
 obtain ⟨v1, hv1, hx1⟩ := bind_some hx1
 obtain ⟨k6, hx1⟩ := zaa hx1
 have e1 := zax TAttempt.d a0.Tries n1
 replace e1 := e1 k5
 refine .rg zS [1, 2, 3, 4] ?_
 refine .rdx 7 e1 ?_
 refine .cl (zkb (a0.Tries.getD n1.toNat default) v1 hv1) ?_
 refine .rdx 4 e1 ?_
 refine .nd ?_
 refine .pl zS [1, 2, 3, 4] ?_
 refine ⟨(fu1, _, _), ?_, hx1, by dsimp only; omega⟩
 exact .m [1, 2, 3, 4] [0, 1, 2, 3, 4, 5, 6, 9] [(9, 7)]
 replace hx1 := za1 hx1 hc1
 refine .exit ?_
 refine ⟨_, ?_, (sj hx1).symm⟩
 exact .m [2, 3] [1, 2, 3, 4, 5, 6, 7] []
 rintro l1 hj1
 subst x1
 try dsimp only at h
 simp only [ya36]
 refine .seq (.pl zS [2, 3] ?_)
 obtain rfl := sj h
 refine .ret ⟨st24 (⟨a0.Members, a0.Votes, l1, a0.Mail, a0.Chosen⟩ : TWorld), ?_, .inr rfl, retH [4, 3, 2, 1, 0] ?_ ?_⟩
 exact .m [2] [2, 3, 7, 4, 5, 1] [(2, 0), (3, 1), (7, 2), (4, 3), (5, 4), (1, 5)]
 exact rsi0
 rfl
theorem zka (a0 : TWorld) (r : TWorld) (h : zb1 a0 = some r) : zb7 Tryz.prog 5 [.agg [.imm 1 (a0.Members.map (D.int .i64)) 4, .imm 3 (a0.Votes.map TVote.d) 4, .imm 7 (a0.Tries.map TAttempt.d) 4, .imm 10 (a0.Mail.map TMail.d) 4, .imm 2 (a0.Chosen.map TChoice.d) 4]] (.agg [.imm 1 (r.Members.map (D.int .i64)) 13, .imm 3 (r.Votes.map TVote.d) 13, .imm 7 (r.Tries.map TAttempt.d) 13, .imm 10 (r.Mail.map TMail.d) 13, .imm 2 (r.Chosen.map TChoice.d) 13]) :=
 zg8 (zk8 (za4 (zbw zcd rfl rfl) (za4 (zbw zly rfl rfl) (za4 (zwl zjw rfl rfl) (za4 (zbw zlz rfl rfl) (za4 (zbw zjf rfl rfl) zfi)))))) (zh5 a0 r h)
@[go_sem] def ya3e (a0 : TWorld) (a1 : TWorld) : St := ⟨[(2, .ptr 0 0), (3, .ptr 1 0)], [(0, .box [.imm 1 (a0.Members.map (D.int .i64)) 4, .imm 3 (a0.Votes.map TVote.d) 4, .imm 7 (a0.Tries.map TAttempt.d) 4, .imm 10 (a0.Mail.map TMail.d) 4, .imm 2 (a0.Chosen.map TChoice.d) 4]), (1, .box [.imm 1 (a1.Members.map (D.int .i64)) 4, .imm 3 (a1.Votes.map TVote.d) 4, .imm 7 (a1.Tries.map TAttempt.d) 4, .imm 10 (a1.Mail.map TMail.d) 4, .imm 2 (a1.Chosen.map TChoice.d) 4])], 2⟩
@[go_sem] def ya3a (a0 : TWorld) (a1 : TWorld) (n1 : Nat) : St := ⟨[(2, .ptr 0 0), (3, .ptr 1 0), (5, .int .i64 (n1 : Int))], [(0, .box [.imm 1 (a0.Members.map (D.int .i64)) 4, .imm 3 (a0.Votes.map TVote.d) 4, .imm 7 (a0.Tries.map TAttempt.d) 4, .imm 10 (a0.Mail.map TMail.d) 4, .imm 2 (a0.Chosen.map TChoice.d) 4]), (1, .box [.imm 1 (a1.Members.map (D.int .i64)) 4, .imm 3 (a1.Votes.map TVote.d) 4, .imm 7 (a1.Tries.map TAttempt.d) 4, .imm 10 (a1.Mail.map TMail.d) 4, .imm 2 (a1.Chosen.map TChoice.d) 4])], 2⟩
@[go_sem] def ya39 (a0 : TWorld) (a1 : TWorld) : St := ⟨[(2, .ptr 0 0), (3, .ptr 1 0)], [(0, .box [.imm 1 (a0.Members.map (D.int .i64)) 4, .imm 3 (a0.Votes.map TVote.d) 4, .imm 7 (a0.Tries.map TAttempt.d) 4, .imm 10 (a0.Mail.map TMail.d) 4, .imm 2 (a0.Chosen.map TChoice.d) 4]), (1, .box [.imm 1 (a1.Members.map (D.int .i64)) 4, .imm 3 (a1.Votes.map TVote.d) 4, .imm 7 (a1.Tries.map TAttempt.d) 4, .imm 10 (a1.Mail.map TMail.d) 4, .imm 2 (a1.Chosen.map TChoice.d) 4])], 2⟩
@[go_sem] def ya38 (a0 : TWorld) (a1 : TWorld) (n2 : Nat) : St := ⟨[(2, .ptr 0 0), (3, .ptr 1 0), (6, .int .i64 (n2 : Int))], [(0, .box [.imm 1 (a0.Members.map (D.int .i64)) 4, .imm 3 (a0.Votes.map TVote.d) 4, .imm 7 (a0.Tries.map TAttempt.d) 4, .imm 10 (a0.Mail.map TMail.d) 4, .imm 2 (a0.Chosen.map TChoice.d) 4]), (1, .box [.imm 1 (a1.Members.map (D.int .i64)) 4, .imm 3 (a1.Votes.map TVote.d) 4, .imm 7 (a1.Tries.map TAttempt.d) 4, .imm 10 (a1.Mail.map TMail.d) 4, .imm 2 (a1.Chosen.map TChoice.d) 4])], 2⟩
@[go_sem] def ya37 (a0 : TWorld) (a1 : TWorld) : St := ⟨[(2, .ptr 0 0), (3, .ptr 1 0)], [(0, .box [.imm 1 (a0.Members.map (D.int .i64)) 4, .imm 3 (a0.Votes.map TVote.d) 4, .imm 7 (a0.Tries.map TAttempt.d) 4, .imm 10 (a0.Mail.map TMail.d) 4, .imm 2 (a0.Chosen.map TChoice.d) 4]), (1, .box [.imm 1 (a1.Members.map (D.int .i64)) 4, .imm 3 (a1.Votes.map TVote.d) 4, .imm 7 (a1.Tries.map TAttempt.d) 4, .imm 10 (a1.Mail.map TMail.d) 4, .imm 2 (a1.Chosen.map TChoice.d) 4])], 2⟩
@[go_sem] def ya3d (a0 : TWorld) (a1 : TWorld) (n3 : Nat) : St := ⟨[(2, .ptr 0 0), (3, .ptr 1 0), (7, .int .i64 (n3 : Int))], [(0, .box [.imm 1 (a0.Members.map (D.int .i64)) 4, .imm 3 (a0.Votes.map TVote.d) 4, .imm 7 (a0.Tries.map TAttempt.d) 4, .imm 10 (a0.Mail.map TMail.d) 4, .imm 2 (a0.Chosen.map TChoice.d) 4]), (1, .box [.imm 1 (a1.Members.map (D.int .i64)) 4, .imm 3 (a1.Votes.map TVote.d) 4, .imm 7 (a1.Tries.map TAttempt.d) 4, .imm 10 (a1.Mail.map TMail.d) 4, .imm 2 (a1.Chosen.map TChoice.d) 4])], 2⟩
@[go_sem] def ya3c : St := ⟨[], [], 2⟩
@[go_sem] def ya3b (a0 : TWorld) (a1 : TWorld) (n4 : Nat) : St := ⟨[(2, .ptr 0 0), (3, .ptr 1 0), (8, .int .i64 (n4 : Int))], [(0, .box [.imm 1 (a0.Members.map (D.int .i64)) 4, .imm 3 (a0.Votes.map TVote.d) 4, .imm 7 (a0.Tries.map TAttempt.d) 4, .imm 10 (a0.Mail.map TMail.d) 4, .imm 2 (a0.Chosen.map TChoice.d) 4]), (1, .box [.imm 1 (a1.Members.map (D.int .i64)) 4, .imm 3 (a1.Votes.map TVote.d) 4, .imm 7 (a1.Tries.map TAttempt.d) 4, .imm 10 (a1.Mail.map TMail.d) 4, .imm 2 (a1.Chosen.map TChoice.d) 4])], 2⟩
theorem zef (a0 : TWorld) (a1 : TWorld) (r : Bool) (h : zc7 a0 a1 = some r) : zb7 Tryz.prog 9 [.agg [.imm 1 (a0.Members.map (D.int .i64)) 4, .imm 3 (a0.Votes.map TVote.d) 4, .imm 7 (a0.Tries.map TAttempt.d) 4, .imm 10 (a0.Mail.map TMail.d) 4, .imm 2 (a0.Chosen.map TChoice.d) 4], .agg [.imm 1 (a1.Members.map (D.int .i64)) 4, .imm 3 (a1.Votes.map TVote.d) 4, .imm 7 (a1.Tries.map TAttempt.d) 4, .imm 10 (a1.Mail.map TMail.d) 4, .imm 2 (a1.Chosen.map TChoice.d) 4]] (.bool r) := by
 refine za2 Tryz.tmOk 4 Tryz.func9 rfl (by decide) rfl rfl (lb rfl) ?_
 intro hwf
 unfold zc7 at h
 refine .seq (.pl zS [0, 1] ?_)
 refine .seq ?_
 obtain ⟨v1, hv1, h⟩ := bind_some h
 refine .seq (.rg zS [2, 3] ?_)
 refine .rn 4 ?_
 refine .cl (zdh a0.Members a1.Members v1 hv1) ?_
 refine .rn 6 ?_
 refine .rn 6 ?_
 refine .rn 6 ?_
 refine .rn 6 ?_
 refine .rn 6 ?_
 refine .rn 7 ?_
 refine .nn ?_
 refine .cd (fun hc1 => ?_) (fun hc1 => ?_)
 replace h := za0 h hc1
 refine .seq (.pl zS [] ?_)
 obtain rfl := sj h
 exact .rr
 replace h := za1 h hc1
 obtain ⟨x1, hx1, h⟩ := bind_some h
 refine .skip ?_
 refine .seqM 2 (fun (j : Unit) => ya3e a0 a1) (fun j => x1 = (.inr j)) (lb rfl) ?_ ?_
 refine .seq (.pl zS [2, 3] ?_)
 refine .block ?_
 refine .loopG 2 (fun (j : Nat) => ya3a a0 a1 j) (fun j => j <= a0.Votes.length /\ zbn a1 (a0.Votes.drop j) j  = some x1) (fun j => a0.Votes.length - j) (0) (lb rfl) ?_ ⟨Nat.zero_le _, hx1⟩ ?_
 exact .m [2, 3, 5] [0, 1] []
 rintro n1 ⟨hi1, hx1⟩
 simp only [ya3a]
 refine .wfb 0 [.imm 1 (a0.Members.map (D.int .i64)) 4, .imm 3 (a0.Votes.map TVote.d) 4, .imm 7 (a0.Tries.map TAttempt.d) 4, .imm 10 (a0.Mail.map TMail.d) 4, .imm 2 (a0.Chosen.map TChoice.d) 4] rfl ?_
 intro hln1
 replace hln1 : (a0.Votes.length : Int) <= 9223372036854775807 := by simp only [wf, wfL, IntKind.max, IntKind.min, IntKind.signed, IntKind.bits, List.length_map] at hln1; first | exact hln1.2 | exact hln1.1 | (simp at hln1; omega)
 refine .seq (.seq (.pl zS [2, 3, 5] ?_))
 refine .cd (fun hc2 => ?_) (fun hc2 => ?_)
 have h1 : n1 < a0.Votes.length := by simpa using hc2
 have hwn1 : wr .i64 ((n1 : Int) + 1) = ((n1 + 1 : Nat) : Int) := zbx h1 hln1
 have hpn1 : wr .i64 ((n1 : Int) - 1) = (n1 : Int) - 1 := zcm h1 hln1
 rw [List.drop_eq_getElem_cons h1, zbn] at hx1
 refine .skip (.seq (.block (.seq ?_)))
 obtain ⟨k1, hx1⟩ := zaa hx1
 have e1 := zbj TVote.d a0.Votes n1 h1
 have e2 := zf8 TVote.d a1.Votes n1
 replace e2 := e2 k1
 refine .rg zS [2, 3, 5] ?_
 refine .rdx 6 (ai e1 (ai e2 hwn1)) ?_
 refine .rdx 5 (ai e1 (ai e2 hwn1)) ?_
 refine .nd ?_
 refine .cd (fun hc3 => ?_) (fun hc3 => ?_)
 replace hx1 := za0 hx1 hc3
 refine .seq (.plx zS hwn1 [] ?_)
 have hq := sj hx1
 subst x1
 try dsimp only at h
 obtain rfl := sj h
 exact .rr
 replace hx1 := za1 hx1 hc3
 refine .skip (.plx zS hwn1 [2, 3, 5] ?_)
 refine ⟨n1 + 1, ?_, ⟨by omega, hx1⟩, by dsimp only; omega⟩
 exact .m [2, 3, 5] [0, 1] []
 have h2 : n1 = a0.Votes.length := by have h2b := of_decide_eq_false hc2; omega
 rw [List.drop_of_length_le (by omega), zbn] at hx1
 refine .exit ?_
 refine ⟨_, ?_, (sj hx1).symm⟩
 exact .m [2, 3] [0, 1] []
 rintro ⟨⟩ hj1
 subst x1
 try dsimp only at h
 simp only [ya3e]
 obtain ⟨x2, hx2, h⟩ := bind_some h
 refine .seqM 2 (fun (j : Unit) => ya39 a0 a1) (fun j => x2 = (.inr j)) (lb rfl) ?_ ?_
 refine .seq (.pl zS [2, 3] ?_)
 refine .block ?_
 refine .loopG 2 (fun (j : Nat) => ya38 a0 a1 j) (fun j => j <= a0.Tries.length /\ zbm a1 (a0.Tries.drop j) j  = some x2) (fun j => a0.Tries.length - j) (0) (lb rfl) ?_ ⟨Nat.zero_le _, hx2⟩ ?_
 exact .m [2, 3, 6] [0, 1] []
 rintro n2 ⟨hi2, hx2⟩
 simp only [ya38]
 refine .wfb 0 [.imm 1 (a0.Members.map (D.int .i64)) 4, .imm 3 (a0.Votes.map TVote.d) 4, .imm 7 (a0.Tries.map TAttempt.d) 4, .imm 10 (a0.Mail.map TMail.d) 4, .imm 2 (a0.Chosen.map TChoice.d) 4] rfl ?_
 intro hln2
 replace hln2 : (a0.Tries.length : Int) <= 9223372036854775807 := by simp only [wf, wfL, IntKind.max, IntKind.min, IntKind.signed, IntKind.bits, List.length_map] at hln2; first | exact hln2.2 | exact hln2.1 | (simp at hln2; omega)
 refine .seq (.seq (.pl zS [2, 3, 6] ?_))
 refine .cd (fun hc4 => ?_) (fun hc4 => ?_)
 have h3 : n2 < a0.Tries.length := by simpa using hc4
 have hwn2 : wr .i64 ((n2 : Int) + 1) = ((n2 + 1 : Nat) : Int) := zbx h3 hln2
 have hpn2 : wr .i64 ((n2 : Int) - 1) = (n2 : Int) - 1 := zcm h3 hln2
 rw [List.drop_eq_getElem_cons h3, zbm] at hx2
 refine .skip (.seq (.block (.seq ?_)))
 obtain ⟨k2, hx2⟩ := zaa hx2
 obtain ⟨v2, hv2, hx2⟩ := bind_some hx2
 have e3 := zbj TAttempt.d a0.Tries n2 h3
 have e4 := zf8 TAttempt.d a1.Tries n2
 replace e4 := e4 k2
 refine .rg zS [2, 3, 6] ?_
 refine .rdx 6 (ai e3 (ai e4 hwn2)) ?_
 refine .rdx 4 (ai e3 (ai e4 hwn2)) ?_
 refine .cl (zkc (a0.Tries[n2]) (a1.Tries.getD n2 default) v2 hv2) ?_
 refine .rdx 1 (ai e3 (ai e4 hwn2)) ?_
 refine .nd ?_
 refine .cd (fun hc5 => ?_) (fun hc5 => ?_)
 replace hx2 := za0 hx2 hc5
 refine .seq (.plx zS hwn2 [] ?_)
 have hq := sj hx2
 subst x2
 try dsimp only at h
 obtain rfl := sj h
 exact .rr
 replace hx2 := za1 hx2 hc5
 refine .skip (.plx zS hwn2 [2, 3, 6] ?_)
 refine ⟨n2 + 1, ?_, ⟨by omega, hx2⟩, by dsimp only; omega⟩
 exact .m [2, 3, 6] [0, 1] []
 have h4 : n2 = a0.Tries.length := by have h4b := of_decide_eq_false hc4; omega
 rw [List.drop_of_length_le (by omega), zbm] at hx2
 refine .exit ?_
 refine ⟨_, ?_, (sj hx2).symm⟩
 exact .m [2, 3] [0, 1] []
 rintro ⟨⟩ hj2
 subst x2
 try dsimp only at h
 simp only [ya39]
 obtain ⟨x3, hx3, h⟩ := bind_some h
 refine .seqM 2 (fun (j : Unit) => ya37 a0 a1) (fun j => x3 = (.inr j)) (lb rfl) ?_ ?_
 refine .seq (.pl zS [2, 3] ?_)
 refine .block ?_
 refine .loopG 2 (fun (j : Nat) => ya3d a0 a1 j) (fun j => j <= a0.Mail.length /\ zbl a1 (a0.Mail.drop j) j  = some x3) (fun j => a0.Mail.length - j) (0) (lb rfl) ?_ ⟨Nat.zero_le _, hx3⟩ ?_
 exact .m [2, 3, 7] [0, 1] []
 rintro n3 ⟨hi3, hx3⟩
 simp only [ya3d]
 refine .wfb 0 [.imm 1 (a0.Members.map (D.int .i64)) 4, .imm 3 (a0.Votes.map TVote.d) 4, .imm 7 (a0.Tries.map TAttempt.d) 4, .imm 10 (a0.Mail.map TMail.d) 4, .imm 2 (a0.Chosen.map TChoice.d) 4] rfl ?_
 intro hln3
 replace hln3 : (a0.Mail.length : Int) <= 9223372036854775807 := by simp only [wf, wfL, IntKind.max, IntKind.min, IntKind.signed, IntKind.bits, List.length_map] at hln3; first | exact hln3.2 | exact hln3.1 | (simp at hln3; omega)
 refine .seq (.seq (.pl zS [2, 3, 7] ?_))
 refine .cd (fun hc6 => ?_) (fun hc6 => ?_)
 have h5 : n3 < a0.Mail.length := by simpa using hc6
 have hwn3 : wr .i64 ((n3 : Int) + 1) = ((n3 + 1 : Nat) : Int) := zbx h5 hln3
 have hpn3 : wr .i64 ((n3 : Int) - 1) = (n3 : Int) - 1 := zcm h5 hln3
 rw [List.drop_eq_getElem_cons h5, zbl] at hx3
 refine .skip (.seq (.block (.seq ?_)))
 obtain ⟨k3, hx3⟩ := zaa hx3
 have e5 := zbj TMail.d a0.Mail n3 h5
 have e6 := zf8 TMail.d a1.Mail n3
 replace e6 := e6 k3
 refine .rg zS [2, 3, 7] ?_
 refine .rdx 6 (ai e5 (ai e6 hwn3)) ?_
 refine .rdx 5 (ai e5 (ai e6 hwn3)) ?_
 refine .nd ?_
 refine .cd (fun hc7 => ?_) (fun hc7 => ?_)
 replace hx3 := za0 hx3 hc7
 refine .seq (.plx zS hwn3 [] ?_)
 have hq := sj hx3
 subst x3
 try dsimp only at h
 obtain rfl := sj h
 exact .rr
 replace hx3 := za1 hx3 hc7
 refine .skip (.plx zS hwn3 [2, 3, 7] ?_)
 refine ⟨n3 + 1, ?_, ⟨by omega, hx3⟩, by dsimp only; omega⟩
 exact .m [2, 3, 7] [0, 1] []
 have h6 : n3 = a0.Mail.length := by have h6b := of_decide_eq_false hc6; omega
 rw [List.drop_of_length_le (by omega), zbl] at hx3
 refine .exit ?_
 refine ⟨_, ?_, (sj hx3).symm⟩
 exact .m [2, 3] [0, 1] []
 rintro ⟨⟩ hj3
 subst x3
 try dsimp only at h
 simp only [ya37]
 obtain ⟨x4, hx4, h⟩ := bind_some h
 refine .seqM 2 (fun (j : Unit) => ya3c) (fun j => x4 = (.inr j)) (lb rfl) ?_ ?_
 refine .seq (.pl zS [2, 3] ?_)
 refine .block ?_
 refine .loopG 2 (fun (j : Nat) => ya3b a0 a1 j) (fun j => j <= a0.Chosen.length /\ zbk a1 (a0.Chosen.drop j) j  = some x4) (fun j => a0.Chosen.length - j) (0) (lb rfl) ?_ ⟨Nat.zero_le _, hx4⟩ ?_
 exact .m [2, 3, 8] [0, 1] []
 rintro n4 ⟨hi4, hx4⟩
 simp only [ya3b]
 refine .wfb 0 [.imm 1 (a0.Members.map (D.int .i64)) 4, .imm 3 (a0.Votes.map TVote.d) 4, .imm 7 (a0.Tries.map TAttempt.d) 4, .imm 10 (a0.Mail.map TMail.d) 4, .imm 2 (a0.Chosen.map TChoice.d) 4] rfl ?_
 intro hln4
 replace hln4 : (a0.Chosen.length : Int) <= 9223372036854775807 := by simp only [wf, wfL, IntKind.max, IntKind.min, IntKind.signed, IntKind.bits, List.length_map] at hln4; first | exact hln4.2 | exact hln4.1 | (simp at hln4; omega)
 refine .seq (.seq (.pl zS [2, 3, 8] ?_))
 refine .cd (fun hc8 => ?_) (fun hc8 => ?_)
 have h7 : n4 < a0.Chosen.length := by simpa using hc8
 have hwn4 : wr .i64 ((n4 : Int) + 1) = ((n4 + 1 : Nat) : Int) := zbx h7 hln4
 have hpn4 : wr .i64 ((n4 : Int) - 1) = (n4 : Int) - 1 := zcm h7 hln4
 rw [List.drop_eq_getElem_cons h7, zbk] at hx4
 refine .skip (.seq (.block (.seq ?_)))
 obtain ⟨k4, hx4⟩ := zaa hx4
 have e7 := zbj TChoice.d a0.Chosen n4 h7
 have e8 := zf8 TChoice.d a1.Chosen n4
 replace e8 := e8 k4
 refine .rg zS [2, 3, 8] ?_
 refine .rdx 6 (ai e7 (ai e8 hwn4)) ?_
 refine .rdx 5 (ai e7 (ai e8 hwn4)) ?_
 refine .nd ?_
 refine .cd (fun hc9 => ?_) (fun hc9 => ?_)
 replace hx4 := za0 hx4 hc9
 refine .seq (.plx zS hwn4 [] ?_)
 have hq := sj hx4
 subst x4
 try dsimp only at h
 obtain rfl := sj h
 exact .rr
 replace hx4 := za1 hx4 hc9
 refine .skip (.plx zS hwn4 [2, 3, 8] ?_)
 refine ⟨n4 + 1, ?_, ⟨by omega, hx4⟩, by dsimp only; omega⟩
 exact .m [2, 3, 8] [0, 1] []
 have h8 : n4 = a0.Chosen.length := by have h8b := of_decide_eq_false hc8; omega
 rw [List.drop_of_length_le (by omega), zbk] at hx4
 refine .exit ?_
 refine ⟨_, ?_, (sj hx4).symm⟩
 exact .m [] [] []
 rintro ⟨⟩ hj4
 subst x4
 try dsimp only at h
 simp only [ya3c]
 refine .seq (.pl zS [] ?_)
 obtain rfl := sj h
 exact .rr
@[go_sem] def ya31 (a0 : TWorld) (a1 : TMail) (l1 : List TMail) (n1 : Int) (n2 : Int) : St := ⟨[(0, .ptr 20000 0), (3, .ptr 20100 0), (4, .int .i64 n2)], [(20000, .box [.ref 20001 1 0 a0.Members.length (some uC), .ref 20002 3 0 a0.Votes.length (some uC), .ref 20003 7 0 a0.Tries.length (some uC), .ref 20101 10 0 l1.length (some uC), .ref 20005 2 0 a0.Chosen.length (some uC)]), (20001, .arr 3 1 true (a0.Members.map (D.int .i64))), (20002, .arr 51 3 true (a0.Votes.map TVote.d)), (20003, .arr 49 7 true (a0.Tries.map TAttempt.n)), (20005, .arr 45 2 true (a0.Chosen.map TChoice.d)), (20100, .box [.int .i64 a1.From, .int .i64 n1, .int .u8 a1.Kind, .int .i64 a1.Group, .int .i64 a1.Slot, .int .i64 a1.Ballot, .int .i64 a1.Prior, .str a1.Value, .int .i64 a1.Id, .int .i64 a1.Time]), (20101, .arr 43 10 true (l1.map TMail.d))], 20102⟩
@[go_sem] def ya30 (a0 : TWorld) (a1 : TMail) (n2 : Int) (l2 : List TMail) (n3 : Int) : St := ⟨[(0, .ptr 20000 0), (3, .ptr 20100 0), (4, .int .i64 n2)], [(20000, .box [.ref 20001 1 0 a0.Members.length (some uC), .ref 20002 3 0 a0.Votes.length (some uC), .ref 20003 7 0 a0.Tries.length (some uC), .ref 20102 10 0 l2.length (some uC), .ref 20005 2 0 a0.Chosen.length (some uC)]), (20001, .arr 3 1 true (a0.Members.map (D.int .i64))), (20002, .arr 51 3 true (a0.Votes.map TVote.d)), (20003, .arr 49 7 true (a0.Tries.map TAttempt.n)), (20005, .arr 45 2 true (a0.Chosen.map TChoice.d)), (20100, .box [.int .i64 a1.From, .int .i64 n3, .int .u8 a1.Kind, .int .i64 a1.Group, .int .i64 a1.Slot, .int .i64 a1.Ballot, .int .i64 a1.Prior, .str a1.Value, .int .i64 a1.Id, .int .i64 a1.Time]), (20102, .arr 43 10 true (l2.map TMail.d))], 20103⟩
@[go_sem] def st28 (r : TWorld) : St := ⟨[(0, .ptr 20000 0)], [(20000, .box [.ref 20100 1 0 r.Members.length (some uC), .ref 20101 3 0 r.Votes.length (some uC), .ref 20102 7 0 r.Tries.length (some uC), .ref 20103 10 0 r.Mail.length (some uC), .ref 20104 2 0 r.Chosen.length (some uC)]), (20100, .arr 3 1 true (r.Members.map (D.int .i64))), (20101, .arr 51 3 true (r.Votes.map TVote.d)), (20102, .arr 49 7 true (r.Tries.map TAttempt.n)), (20103, .arr 43 10 true (r.Mail.map TMail.d)), (20104, .arr 45 2 true (r.Chosen.map TChoice.d))], 20105⟩
theorem zgp (a0 : TWorld) (a1 : TMail) (r : TWorld) (h : zcx a0 a1 = some r) : zd1 Tryz.prog 56 [.ptr 20000 0, .agg [.int .i64 a1.From, .int .i64 a1.To, .int .u8 a1.Kind, .int .i64 a1.Group, .int .i64 a1.Slot, .int .i64 a1.Ballot, .int .i64 a1.Prior, .str a1.Value, .int .i64 a1.Id, .int .i64 a1.Time]] [(20000, .box [.ref 20001 1 0 a0.Members.length (some uC), .ref 20002 3 0 a0.Votes.length (some uC), .ref 20003 7 0 a0.Tries.length (some uC), .ref 20004 10 0 a0.Mail.length (some uC), .ref 20005 2 0 a0.Chosen.length (some uC)]), (20001, .arr 3 1 true (a0.Members.map (D.int .i64))), (20002, .arr 51 3 true (a0.Votes.map TVote.d)), (20003, .arr 49 7 true (a0.Tries.map TAttempt.n)), (20004, .arr 43 10 true (a0.Mail.map TMail.d)), (20005, .arr 45 2 true (a0.Chosen.map TChoice.d))] (.tuple []) [(20000, some (.box [.ref 20100 1 0 r.Members.length (some uC), .ref 20101 3 0 r.Votes.length (some uC), .ref 20102 7 0 r.Tries.length (some uC), .ref 20103 10 0 r.Mail.length (some uC), .ref 20104 2 0 r.Chosen.length (some uC)])), (20001, none), (20002, none), (20003, none), (20004, none), (20005, none), (20100, some (.arr 3 1 true (r.Members.map (D.int .i64)))), (20101, some (.arr 51 3 true (r.Votes.map TVote.d))), (20102, some (.arr 49 7 true (r.Tries.map TAttempt.n))), (20103, some (.arr 43 10 true (r.Mail.map TMail.d))), (20104, some (.arr 45 2 true (r.Chosen.map TChoice.d)))] (20100, 20107) := by
 refine zab Tryz.tmOk Tryz.func56 rfl (by decide) (lb rfl) (by simp) ?_
 intro hwf
 unfold zcx at h
 refine .ends 20100 (Nat.le_refl _) ?_
 refine .seq (.pl zS [0, 1] ?_)
 refine .seq (.pl zS [0, 3] ?_)
 refine .block ?_
 refine .loopG 20101 (fun (j : Nat × (List TMail) × Int × Int) => ya31 a0 a1 j.2.1 j.2.2.1 j.2.2.2) (fun j => zat a0 a1 j.1 j.2.1 j.2.2.1 j.2.2.2 = some r) (fun j => j.1) (a0.Members.length + 1, a0.Mail, a1.To, 0) (lb rfl) ?_ h ?_
 exact .m [0, 3, 4] [20000, 20001, 20002, 20003, 20005, 20100, 20004] [(20004, 20101)]
 rintro ⟨fu1, l1, n1, n2⟩ h
 simp only [ya31]
 try simp only at h
 obtain ⟨fu1, rfl⟩ : ∃ k, fu1 = k + 1 := by cases fu1 with | zero => (rw [zat] at h; cases h) | succ k => exact ⟨k, rfl⟩
 rw [zat] at h
 refine .seq (.seq (.pl zS [0, 3, 4] ?_))
 refine .cd (fun hc1 => ?_) (fun hc1 => ?_)
 replace h := za0 h hc1
 obtain ⟨x1, hx1, h⟩ := bind_some h
 refine .skip ?_
 refine .seqM 20102 (fun (j : (List TMail) × Int) => ya30 a0 a1 n2 j.1 j.2) (fun j => x1 = j) (lb rfl) ?_ ?_
 refine .block (.seq ?_)
 obtain ⟨k1, hx1⟩ := zaa hx1
 have e1 := zax (D.int .i64) a0.Members n2
 replace e1 := e1 k1
 refine .rg zS [0, 3, 4] ?_
 refine .rdx 6 e1 ?_
 refine .rdx 4 e1 ?_
 refine .nd ?_
 refine .cd (fun hc2 => ?_) (fun hc2 => ?_)
 replace hx1 := za0 hx1 hc2
 refine .seq ?_
 obtain ⟨k2, hx1⟩ := zaa hx1
 have e2 := zax (D.int .i64) a0.Members n2
 replace e2 := e2 k2
 refine .rg zS [0, 3, 4] ?_
 refine .rnx 6 e2 ?_
 refine .rnx 3 e2 ?_
 refine .nn ?_
 obtain ⟨k3, hx1⟩ := zaa hx1
 refine .rg zS [0, 3, 4] ?_
 refine .rd 6 ?_
 refine .rd 5 ?_
 refine .nd ?_
 refine ⟨_, ?_, (sj hx1).symm⟩
 exact .m [0, 3, 4] [20000, 20001, 20002, 20003, 20005, 20100, 20103] [(20103, 20102)]
 replace hx1 := za1 hx1 hc2
 refine .skip ?_
 refine ⟨_, ?_, (sj hx1).symm⟩
 exact .m [0, 3, 4] [20000, 20001, 20002, 20003, 20005, 20100, 20101] [(20101, 20102)]
 rintro ⟨l2, n3⟩ hj1
 subst x1
 try dsimp only at h
 simp only [ya30]
 refine .pl zS [0, 3, 4] ?_
 refine ⟨(fu1, _, _, _), ?_, h, by dsimp only; omega⟩
 exact .m [0, 3, 4] [20000, 20001, 20002, 20003, 20005, 20100, 20102] [(20102, 20101)]
 replace h := za1 h hc1
 refine .exit ?_
 obtain rfl := sj h
 refine ⟨st28 (⟨a0.Members, a0.Votes, a0.Tries, l1, a0.Chosen⟩ : TWorld), ?_, .inl rfl, retH [20000, 20104, 20103, 20102, 20101, 20100] ?_ ?_⟩
 exact .m [0] [20000, 20001, 20002, 20003, 20101, 20005] [(20001, 20100), (20002, 20101), (20003, 20102), (20101, 20103), (20005, 20104)]
 exact rsi0
 rfl
@[go_sem] def st27 (r : TWorld) : St := ⟨[(0, .ptr 20000 0)], [(20000, .box [.ref 20100 1 0 r.Members.length (some uC), .ref 20101 3 0 r.Votes.length (some uC), .ref 20102 7 0 r.Tries.length (some uC), .ref 20103 10 0 r.Mail.length (some uC), .ref 20104 2 0 r.Chosen.length (some uC)]), (20100, .arr 3 1 true (r.Members.map (D.int .i64))), (20101, .arr 51 3 true (r.Votes.map TVote.d)), (20102, .arr 49 7 true (r.Tries.map TAttempt.n)), (20103, .arr 43 10 true (r.Mail.map TMail.d)), (20104, .arr 45 2 true (r.Chosen.map TChoice.d))], 20105⟩
theorem zgz (a0 : TWorld) (a1 : Int) (a2 : Int) (r : TWorld) (h : zd9 a0 a1 a2 = some r) : zd1 Tryz.prog 60 [.ptr 20000 0, .int .i64 a1, .int .u8 a2] [(20000, .box [.ref 20001 1 0 a0.Members.length (some uC), .ref 20002 3 0 a0.Votes.length (some uC), .ref 20003 7 0 a0.Tries.length (some uC), .ref 20004 10 0 a0.Mail.length (some uC), .ref 20005 2 0 a0.Chosen.length (some uC)]), (20001, .arr 3 1 true (a0.Members.map (D.int .i64))), (20002, .arr 51 3 true (a0.Votes.map TVote.d)), (20003, .arr 49 7 true (a0.Tries.map TAttempt.n)), (20004, .arr 43 10 true (a0.Mail.map TMail.d)), (20005, .arr 45 2 true (a0.Chosen.map TChoice.d))] (.tuple []) [(20000, some (.box [.ref 20100 1 0 r.Members.length (some uC), .ref 20101 3 0 r.Votes.length (some uC), .ref 20102 7 0 r.Tries.length (some uC), .ref 20103 10 0 r.Mail.length (some uC), .ref 20104 2 0 r.Chosen.length (some uC)])), (20001, none), (20002, none), (20003, none), (20004, none), (20005, none), (20100, some (.arr 3 1 true (r.Members.map (D.int .i64)))), (20101, some (.arr 51 3 true (r.Votes.map TVote.d))), (20102, some (.arr 49 7 true (r.Tries.map TAttempt.n))), (20103, some (.arr 43 10 true (r.Mail.map TMail.d))), (20104, some (.arr 45 2 true (r.Chosen.map TChoice.d)))] (20100, 20107) := by
 refine zab Tryz.tmOk Tryz.func60 rfl (by decide) (lb rfl) (by simp) ?_
 intro hwf
 unfold zd9 at h
 refine .ends 20100 (Nat.le_refl _) ?_
 obtain ⟨k1, h⟩ := zaa h
 refine .seqM 20100 (fun (_ : Unit) => ⟨[(0, .ptr 20000 0), (1, .int .i64 a1), (18, .bool ((a2 != 3) && ((a0.Tries.getD a1.toNat default).Phase == 3)))], [(20000, .box [.ref 20001 1 0 a0.Members.length (some uC), .ref 20002 3 0 a0.Votes.length (some uC), .ref 20003 7 0 a0.Tries.length (some uC), .ref 20004 10 0 a0.Mail.length (some uC), .ref 20005 2 0 a0.Chosen.length (some uC)]), (20001, .arr 3 1 true (a0.Members.map (D.int .i64))), (20002, .arr 51 3 true (a0.Votes.map TVote.d)), (20003, .arr 49 7 true (a0.Tries.map TAttempt.n)), (20004, .arr 43 10 true (a0.Mail.map TMail.d)), (20005, .arr 45 2 true (a0.Chosen.map TChoice.d))], 20100⟩) (fun _ => True) (lb rfl) ?_ (fun _ _ => ?_)
 by_cases hgd : ¬ (a2 = 3)
 have eg10 := zax TAttempt.n a0.Tries a1 (k1 hgd)
 refine .rg zS [0, 1, 2] ?_
 refine .rnx 6 eg10 ?_
 refine .rnx 7 eg10 ?_
 refine .nn ?_
 refine ⟨(), ?_, trivial⟩
 exact .m [0, 1, 18] [20000, 20001, 20002, 20003, 20004, 20005] []
 have hgf1 : (a2 != 3) = false := by first | simpa using hgd | (simp at hgd ⊢; omega) | grind
 rcases zqf TAttempt.n a0.Tries a1.toNat with eg10 | eg10
 refine .rg zS [0, 1, 2] ?_
 refine .rnx 6 (ai eg10 hgf1) ?_
 refine .rnx 7 (ai eg10 hgf1) ?_
 refine .nn ?_
 refine ⟨(), ?_, trivial⟩
 exact .mx hgf1 [0, 1, 18] [20000, 20001, 20002, 20003, 20004, 20005] []
 refine .rg zS [0, 1, 2] ?_
 refine .rnx 6 (ai eg10 hgf1) ?_
 refine .rnx 7 (ai eg10 hgf1) ?_
 refine .nn ?_
 refine ⟨(), ?_, trivial⟩
 exact .mx hgf1 [0, 1, 18] [20000, 20001, 20002, 20003, 20004, 20005] []
 refine .cd (fun hc1 => ?_) (fun hc1 => ?_)
 replace h := za0 h hc1
 obtain ⟨k2, h⟩ := zaa h
 obtain ⟨k3, h⟩ := zaa h
 have e1 := zax TAttempt.n a0.Tries a1
 replace e1 := e1 k2
 refine .rg zS [0, 1] ?_
 refine .rdx 6 e1 ?_
 refine .rdx 6 e1 ?_
 refine .rdx 8 e1 ?_
 refine .nd ?_
 obtain rfl := sj h
 refine ⟨st27 (⟨a0.Members, a0.Votes, a0.Tries, a0.Mail, (a0.Chosen ++ [(⟨a1, (a0.Tries.getD a1.toNat default).Value⟩ : TChoice)])⟩ : TWorld), ?_, .inl rfl, retH [20000, 20104, 20103, 20102, 20101, 20100] ?_ ?_⟩
 exact .m [0] [20000, 20001, 20002, 20003, 20004, 20101] [(20001, 20100), (20002, 20101), (20003, 20102), (20004, 20103), (20101, 20104)]
 exact rsi0
 rfl
 replace h := za1 h hc1
 refine .skip ?_
 obtain rfl := sj h
 refine ⟨st27 a0, ?_, .inl rfl, retH [20000, 20104, 20103, 20102, 20101, 20100] ?_ ?_⟩
 exact .m [0] [20000, 20001, 20002, 20003, 20004, 20005] [(20001, 20100), (20002, 20101), (20003, 20102), (20004, 20103), (20005, 20104)]
 exact rsi0
 rfl
theorem zgx (a0 : TVote) (a1 : Int) (r : Int) (h : zdc a0 a1 = some r) : zb7 Tryz.prog 82 [.agg [.int .i64 a0.Promised, .int .i64 a0.Ballot, .str a0.Value], .int .i64 a1] (.int .i64 r) := by
 refine za2 Tryz.tmOk 3 Tryz.func82 rfl (by decide) rfl rfl (lb rfl) ?_
 intro hwf
 unfold zdc at h
 refine .seq (.pl zS [0, 1] ?_)
 refine .seq ?_
 obtain ⟨v1, hv1, h⟩ := bind_some h
 refine .seq (.rg zS [1, 2] ?_)
 refine .rn 1 ?_
 refine .cl (zhg a0 v1 hv1) ?_
 refine .rn 1 ?_
 refine .nn ?_
 refine .cd (fun hc1 => ?_) (fun hc1 => ?_)
 replace h := za0 h hc1
 refine .seq (.pl zS [] ?_)
 obtain rfl := sj h
 exact .rr
 replace h := za1 h hc1
 refine .skip (.seq ?_)
 obtain ⟨v2, hv2, h⟩ := bind_some h
 refine .seq (.rg zS [1] ?_)
 refine .rn 1 ?_
 refine .cl (zc3 a1 v2 hv2) ?_
 refine .rn 1 ?_
 refine .nn ?_
 refine .cd (fun hc2 => ?_) (fun hc2 => ?_)
 replace h := za0 h hc2
 refine .seq (.pl zS [] ?_)
 obtain rfl := sj h
 exact .rr
 replace h := za1 h hc2
 refine .skip (.seq (.pl zS [] ?_))
 obtain rfl := sj h
 exact .rr
theorem zge (a0 : TVote) (a1 : Int) (r : TVote × Int) (h : zcs a0 a1 = some r) : zb7 Tryz.prog 54 [.agg [.int .i64 a0.Promised, .int .i64 a0.Ballot, .str a0.Value], .int .i64 a1] (.tuple [.agg [.int .i64 r.1.Promised, .int .i64 r.1.Ballot, .str r.1.Value], .int .i64 r.2]) := by
 refine za2 Tryz.tmOk 4 Tryz.func54 rfl (by decide) rfl rfl (lb rfl) ?_
 intro hwf
 unfold zcs at h
 refine .seq (.pl zS [0, 1] ?_)
 obtain ⟨v1, hv1, h⟩ := bind_some h
 refine .seq (.rg zS [1, 2, 4] ?_)
 refine .rn 2 ?_
 refine .cl (zgx a0 a1 v1 hv1) ?_
 refine .rn 1 ?_
 refine .nn ?_
 refine .seq (.seq (.pl zS [1, 2, 4, 6] ?_))
 refine .cd (fun hc1 => ?_) (fun hc1 => ?_)
 replace h := za0 h hc1
 refine .seq (.pl zS [4, 6] ?_)
 obtain rfl := sj h
 exact .rr
 replace h := za1 h hc1
 refine .skip (.seq (.seq (.pl zS [1, 2, 4] ?_)))
 refine .cd (fun hc2 => ?_) (fun hc2 => ?_)
 replace h := za0 h hc2
 refine .seq (.pl zS [4] ?_)
 obtain rfl := sj h
 exact .rr
 replace h := za1 h hc2
 refine .skip (.seq (.pl zS [1, 2, 4] ?_))
 refine .seq (.pl zS [2, 4] ?_)
 obtain rfl := sj h
 exact .rr
theorem zgo (a0 : TVote) (a1 : Int) (a2 : List UInt8) (r : TVote × Int) (h : zcz a0 a1 a2 = some r) : zb7 Tryz.prog 58 [.agg [.int .i64 a0.Promised, .int .i64 a0.Ballot, .str a0.Value], .int .i64 a1, .str a2] (.tuple [.agg [.int .i64 r.1.Promised, .int .i64 r.1.Ballot, .str r.1.Value], .int .i64 r.2]) := by
 refine za2 Tryz.tmOk 4 Tryz.func58 rfl (by decide) rfl rfl (lb rfl) ?_
 intro hwf
 unfold zcz at h
 refine .seq (.pl zS [0, 1, 2] ?_)
 obtain ⟨v1, hv1, h⟩ := bind_some h
 refine .seq (.rg zS [1, 2, 3, 6] ?_)
 refine .rn 2 ?_
 refine .cl (zgx a0 a1 v1 hv1) ?_
 refine .rn 1 ?_
 refine .nn ?_
 refine .seq (.seq (.pl zS [1, 2, 3, 6, 8] ?_))
 refine .cd (fun hc1 => ?_) (fun hc1 => ?_)
 replace h := za0 h hc1
 refine .seq (.pl zS [6, 8] ?_)
 obtain rfl := sj h
 exact .rr
 replace h := za1 h hc1
 refine .skip (.seq (.seq (.pl zS [1, 2, 3, 6] ?_)))
 refine .cd (fun hc2 => ?_) (fun hc2 => ?_)
 replace h := za0 h hc2
 refine .seq (.pl zS [6] ?_)
 obtain rfl := sj h
 exact .rr
 replace h := za1 h hc2
 refine .skip (.seq (.seq (.pl zS [1, 2, 3, 6] ?_)))
 refine .cd (fun hc3 => ?_) (fun hc3 => ?_)
 replace h := za0 h hc3
 refine .seq (.pl zS [6] ?_)
 obtain rfl := sj h
 exact .rr
 replace h := za1 h hc3
 refine .skip (.seq (.pl zS [1, 2, 6] ?_))
 obtain rfl := sj h
 exact .rr
@[go_sem] def st29 (r : TWorld) : St := ⟨[(0, .ptr 20000 0)], [(20000, .box [.ref 20100 1 0 r.Members.length (some uC), .ref 20101 3 0 r.Votes.length (some uC), .ref 20102 7 0 r.Tries.length (some uC), .ref 20103 10 0 r.Mail.length (some uC), .ref 20104 2 0 r.Chosen.length (some uC)]), (20100, .arr 3 1 true (r.Members.map (D.int .i64))), (20101, .arr 51 3 true (r.Votes.map TVote.d)), (20102, .arr 49 7 true (r.Tries.map TAttempt.n)), (20103, .arr 43 10 true (r.Mail.map TMail.d)), (20104, .arr 45 2 true (r.Chosen.map TChoice.d))], 20105⟩
theorem zgy (a0 : TWorld) (a1 : Int) (a2 : Int) (a3 : TPromise) (r : TWorld) (h : zd8 a0 a1 a2 a3 = some r) : zd1 Tryz.prog 57 [.ptr 20000 0, .int .i64 a1, .int .i64 a2, .agg [.int .i64 a3.Node, .int .i64 a3.Ballot, .str a3.Value]] [(20000, .box [.ref 20001 1 0 a0.Members.length (some uC), .ref 20002 3 0 a0.Votes.length (some uC), .ref 20003 7 0 a0.Tries.length (some uC), .ref 20004 10 0 a0.Mail.length (some uC), .ref 20005 2 0 a0.Chosen.length (some uC)]), (20001, .arr 3 1 true (a0.Members.map (D.int .i64))), (20002, .arr 51 3 true (a0.Votes.map TVote.d)), (20003, .arr 49 7 true (a0.Tries.map TAttempt.n)), (20004, .arr 43 10 true (a0.Mail.map TMail.d)), (20005, .arr 45 2 true (a0.Chosen.map TChoice.d))] (.tuple []) [(20000, some (.box [.ref 20100 1 0 r.Members.length (some uC), .ref 20101 3 0 r.Votes.length (some uC), .ref 20102 7 0 r.Tries.length (some uC), .ref 20103 10 0 r.Mail.length (some uC), .ref 20104 2 0 r.Chosen.length (some uC)])), (20001, none), (20002, none), (20003, none), (20004, none), (20005, none), (20100, some (.arr 3 1 true (r.Members.map (D.int .i64)))), (20101, some (.arr 51 3 true (r.Votes.map TVote.d))), (20102, some (.arr 49 7 true (r.Tries.map TAttempt.n))), (20103, some (.arr 43 10 true (r.Mail.map TMail.d))), (20104, some (.arr 45 2 true (r.Chosen.map TChoice.d)))] (20100, 20125) := by
 refine zab Tryz.tmOk Tryz.func57 rfl (by decide) (lb rfl) (by simp) ?_
 intro hwf
 unfold zd8 at h
 refine .ends 20100 (Nat.le_refl _) ?_
 refine .seq (.pl zS [0, 1, 2, 3] ?_)
 refine .seq ?_
 obtain ⟨k1, h⟩ := zaa h
 obtain ⟨v1, hv1, h⟩ := bind_some h
 have e1 := zax TAttempt.n a0.Tries a1
 replace e1 := e1 k1
 refine .rg zS [0, 1, 2, 7] ?_
 refine .rdx 6 e1 ?_
 refine .rdx 3 e1 ?_
 refine .call rfl rfl rfl rfl rfl rfl (zfq (WkL.cons (Wk.agg (WkL.cons (Wk.refl _) (WkL.cons (Wk.refl _) (WkL.cons Wk.iz (WkL.cons (Wk.refl _) (WkL.cons (Wk.refl _) (WkL.cons Wk.iz (WkL.cons Wk.iz (WkL.refl _))))))))) (WkL.cons (Wk.refl _) (WkL.cons (Wk.refl _) (WkL.refl _)))) (zil (a0.Tries.getD a1.toNat default) a2 a3 v1 hv1)) ?_
 refine .rdx 6 e1 ?_
 refine .nd ?_
 refine .seq (.seq (.pl zS [0, 1, 8, 9] ?_))
 refine .cd (fun hc1 => ?_) (fun hc1 => ?_)
 replace h := za0 h hc1
 obtain rfl := sj h
 refine .ret ⟨st29 a0, ?_, .inr rfl, retH [20000, 20104, 20103, 20102, 20101, 20100] ?_ ?_⟩
 exact .m [0] [20000, 20001, 20002, 20003, 20004, 20005] [(20001, 20100), (20002, 20101), (20003, 20102), (20004, 20103), (20005, 20104)]
 exact rsi0
 rfl
 replace h := za1 h hc1
 refine .skip (.seq ?_)
 obtain ⟨k2, h⟩ := zaa h
 have e2 := zax TAttempt.n a0.Tries a1
 have es1 := zgr TAttempt.n a0.Tries a1.toNat v1.1
 replace e2 := e2 k2
 replace es1 : setN (a0.Tries.map TAttempt.n) a1.toNat (.agg [.int .u8 v1.1.Phase, .int .i64 v1.1.Ballot, .imm 1 (v1.1.Members.map (D.int .i64)) 13, .str v1.1.Wish, .str v1.1.Value, .imm 3 (v1.1.Promises.map TPromise.d) 13, .imm 1 (v1.1.Accepted.map (D.int .i64)) 13]) = (a0.Tries.set a1.toNat v1.1).map TAttempt.n := es1
 refine .drx zS (ai e2 es1) [0, 1, 8] ?_
 refine .seq (.seq (.pl zS [0, 1, 8] ?_))
 refine .cd (fun hc2 => ?_) (fun hc2 => ?_)
 replace h := za0 h hc2
 obtain rfl := sj h
 refine .ret ⟨st29 (⟨a0.Members, a0.Votes, (a0.Tries.set a1.toNat v1.1), a0.Mail, a0.Chosen⟩ : TWorld), ?_, .inr rfl, retH [20000, 20104, 20103, 20102, 20101, 20100] ?_ ?_⟩
 exact .m [0] [20000, 20001, 20002, 20003, 20004, 20005] [(20001, 20100), (20002, 20101), (20003, 20102), (20004, 20103), (20005, 20104)]
 exact rsi0
 rfl
 replace h := za1 h hc2
 refine .skip ?_
 obtain ⟨v2, hv2, h⟩ := bind_some h
 refine .seq (.rg zS [0, 1, 8] ?_)
 refine .rn 7 ?_
 refine .hcall (H := [(20000, .box [.ref 20001 1 0 a0.Members.length (some uC), .ref 20002 3 0 a0.Votes.length (some uC), .ref 20003 7 0 a0.Tries.length (some uC), .ref 20004 10 0 a0.Mail.length (some uC), .ref 20005 2 0 a0.Chosen.length (some uC)]), (20001, .arr 3 1 true (a0.Members.map (D.int .i64))), (20002, .arr 51 3 true (a0.Votes.map TVote.d)), (20003, .arr 49 7 true ((a0.Tries.set a1.toNat v1.1).map TAttempt.n)), (20004, .arr 43 10 true (a0.Mail.map TMail.d)), (20005, .arr 45 2 true (a0.Chosen.map TChoice.d))]) (eff := [(20000, some (.box [.ref 20107 1 0 v2.Members.length (some uC), .ref 20108 3 0 v2.Votes.length (some uC), .ref 20109 7 0 v2.Tries.length (some uC), .ref 20110 10 0 v2.Mail.length (some uC), .ref 20111 2 0 v2.Chosen.length (some uC)])), (20001, none), (20002, none), (20003, none), (20004, none), (20005, none), (20107, some (.arr 3 1 true (v2.Members.map (D.int .i64)))), (20108, some (.arr 51 3 true (v2.Votes.map TVote.d))), (20109, some (.arr 49 7 true (v2.Tries.map TAttempt.n))), (20110, some (.arr 43 10 true (v2.Mail.map TMail.d))), (20111, some (.arr 45 2 true (v2.Chosen.map TChoice.d)))]) (nw := (20107, 20114)) (r := .tuple []) rfl rfl rfl rfl rfl (by have t := (za5 20005 20005 (za5 20004 20004 (za5 20003 20003 (za5 20002 20002 (za5 20001 20001 (za5 20000 20000 (zfe 20107 (zgp (⟨a0.Members, a0.Votes, (a0.Tries.set a1.toNat v1.1), a0.Mail, a0.Chosen⟩ : TWorld) (⟨a1, 0, 3, 0, 0, v1.1.Ballot, 0, v1.1.Value, 0, 0⟩ : TMail) v2 hv2)))))))); simp only [List.length_set] at t; exact t) (fun id b h => zcr [20000, 20001, 20002, 20003, 20004, 20005] _ id b h) (by simp) (.inr ⟨lb rfl, lb rfl⟩) ?_
 refine .nn ?_
 refine .seq ?_
 obtain ⟨v3, hv3, h⟩ := bind_some h
 refine .seq (.rg zS [0, 1, 8] ?_)
 refine .rn 5 ?_
 refine .lcall (r := .bool v3) [] rfl rfl rfl rfl rfl (za3 (zfh (zen (ziq .i64) (by first | rfl | (simp only [go_sem, Nat.reduceBEq]; rfl)) (by first | rfl | (simp; done) | (simp <;> omega))) trivial) (za3 rfl zai)) rfl (zc2 v2.Members a1 v3 hv3) ?_
 refine .rn 1 ?_
 refine .nn ?_
 refine .cd (fun hc3 => ?_) (fun hc3 => ?_)
 replace h := za0 h hc3
 obtain rfl := sj h
 refine .ret ⟨st29 v2, ?_, .inr rfl, retH [20000, 20104, 20103, 20102, 20101, 20100] ?_ ?_⟩
 exact .m [0] [20000, 20107, 20108, 20109, 20110, 20111] [(20107, 20100), (20108, 20101), (20109, 20102), (20110, 20103), (20111, 20104)]
 exact rsi0
 rfl
 replace h := za1 h hc3
 refine .skip (.seq ?_)
 obtain ⟨k3, h⟩ := zaa h
 obtain ⟨v4, hv4, h⟩ := bind_some h
 have e3 := zax TVote.d v2.Votes a1
 replace e3 := e3 k3
 refine .rg zS [0, 1, 8] ?_
 refine .rdx 6 e3 ?_
 refine .rdx 5 e3 ?_
 refine .cl (zgo (v2.Votes.getD a1.toNat default) v1.1.Ballot v1.1.Value v4 hv4) ?_
 refine .rdx 6 e3 ?_
 refine .nd ?_
 refine .seq (.seq (.pl zS [0, 1, 8, 9, 10] ?_))
 refine .cd (fun hc4 => ?_) (fun hc4 => ?_)
 replace h := za0 h hc4
 obtain rfl := sj h
 refine .ret ⟨st29 v2, ?_, .inr rfl, retH [20000, 20104, 20103, 20102, 20101, 20100] ?_ ?_⟩
 exact .m [0] [20000, 20107, 20108, 20109, 20110, 20111] [(20107, 20100), (20108, 20101), (20109, 20102), (20110, 20103), (20111, 20104)]
 exact rsi0
 rfl
 replace h := za1 h hc4
 refine .skip (.seq ?_)
 obtain ⟨k4, h⟩ := zaa h
 have e4 := zax TVote.d v2.Votes a1
 have es2 := zgr TVote.d v2.Votes a1.toNat v4.1
 replace e4 := e4 k4
 replace es2 : setN (v2.Votes.map TVote.d) a1.toNat (.agg [.int .i64 v4.1.Promised, .int .i64 v4.1.Ballot, .str v4.1.Value]) = (v2.Votes.set a1.toNat v4.1).map TVote.d := es2
 refine .drx zS (ai e4 es2) [0, 1, 8, 10] ?_
 obtain ⟨v5, hv5, h⟩ := bind_some h
 refine .seq (.rg zS [0, 1, 8] ?_)
 refine .rn 4 ?_
 refine .call rfl rfl rfl rfl rfl rfl (zfq (WkL.cons (Wk.agg (WkL.cons (Wk.refl _) (WkL.cons (Wk.refl _) (WkL.cons Wk.iz (WkL.cons (Wk.refl _) (WkL.cons (Wk.refl _) (WkL.cons Wk.iz (WkL.cons Wk.iz (WkL.refl _))))))))) (WkL.cons (Wk.refl _) (WkL.cons (Wk.refl _) (WkL.refl _)))) (zg7 v1.1 v1.1.Ballot a1 v5 hv5)) ?_
 refine .rn 6 ?_
 refine .nn ?_
 refine .seq ?_
 obtain ⟨k5, h⟩ := zaa h
 have e5 := zax TAttempt.n v2.Tries a1
 have es3 := zgr TAttempt.n v2.Tries a1.toNat v5.1
 replace e5 := e5 k5
 replace es3 : setN (v2.Tries.map TAttempt.n) a1.toNat (.agg [.int .u8 v5.1.Phase, .int .i64 v5.1.Ballot, .imm 1 (v5.1.Members.map (D.int .i64)) 13, .str v5.1.Wish, .str v5.1.Value, .imm 3 (v5.1.Promises.map TPromise.d) 13, .imm 1 (v5.1.Accepted.map (D.int .i64)) 13]) = (v2.Tries.set a1.toNat v5.1).map TAttempt.n := es3
 refine .drx zS (ai e5 es3) [0, 1, 8, 11] ?_
 obtain ⟨v6, hv6, h⟩ := bind_some h
 refine .rg zS [0, 1, 8] ?_
 refine .rn 4 ?_
 refine .hcall (H := [(20000, .box [.ref 20107 1 0 v2.Members.length (some uC), .ref 20108 3 0 v2.Votes.length (some uC), .ref 20109 7 0 v2.Tries.length (some uC), .ref 20110 10 0 v2.Mail.length (some uC), .ref 20111 2 0 v2.Chosen.length (some uC)]), (20107, .arr 3 1 true (v2.Members.map (D.int .i64))), (20108, .arr 51 3 true ((v2.Votes.set a1.toNat v4.1).map TVote.d)), (20109, .arr 49 7 true ((v2.Tries.set a1.toNat v5.1).map TAttempt.n)), (20110, .arr 43 10 true (v2.Mail.map TMail.d)), (20111, .arr 45 2 true (v2.Chosen.map TChoice.d))]) (eff := [(20000, some (.box [.ref 20116 1 0 v6.Members.length (some uC), .ref 20117 3 0 v6.Votes.length (some uC), .ref 20118 7 0 v6.Tries.length (some uC), .ref 20119 10 0 v6.Mail.length (some uC), .ref 20120 2 0 v6.Chosen.length (some uC)])), (20107, none), (20108, none), (20109, none), (20110, none), (20111, none), (20116, some (.arr 3 1 true (v6.Members.map (D.int .i64)))), (20117, some (.arr 51 3 true (v6.Votes.map TVote.d))), (20118, some (.arr 49 7 true (v6.Tries.map TAttempt.n))), (20119, some (.arr 43 10 true (v6.Mail.map TMail.d))), (20120, some (.arr 45 2 true (v6.Chosen.map TChoice.d)))]) (nw := (20116, 20123)) (r := .tuple []) rfl rfl rfl rfl rfl (by have t := (za5 20005 20111 (za5 20004 20110 (za5 20003 20109 (za5 20002 20108 (za5 20001 20107 (za5 20000 20000 (zfe 20116 (zgz (⟨v2.Members, (v2.Votes.set a1.toNat v4.1), (v2.Tries.set a1.toNat v5.1), v2.Mail, v2.Chosen⟩ : TWorld) a1 v1.1.Phase v6 hv6)))))))); simp only [List.length_set] at t; exact t) (fun id b h => zcr [20000, 20107, 20108, 20109, 20110, 20111] _ id b h) (by simp) (.inr ⟨lb rfl, lb rfl⟩) ?_
 refine .nn ?_
 obtain rfl := sj h
 refine ⟨st29 v6, ?_, .inl rfl, retH [20000, 20104, 20103, 20102, 20101, 20100] ?_ ?_⟩
 exact .m [0] [20000, 20116, 20117, 20118, 20119, 20120] [(20116, 20100), (20117, 20101), (20118, 20102), (20119, 20103), (20120, 20104)]
 exact rsi0
 rfl
@[go_sem] def st25 (r : Int × TWorld) : St := ⟨[(0, .ptr 20000 0), (6, .int .i64 r.1)], [(20000, .box [.ref 20100 1 0 r.2.Members.length (some uC), .ref 20101 3 0 r.2.Votes.length (some uC), .ref 20102 7 0 r.2.Tries.length (some uC), .ref 20103 10 0 r.2.Mail.length (some uC), .ref 20104 2 0 r.2.Chosen.length (some uC)]), (20100, .arr 3 1 true (r.2.Members.map (D.int .i64))), (20101, .arr 51 3 true (r.2.Votes.map TVote.d)), (20102, .arr 49 7 true (r.2.Tries.map TAttempt.n)), (20103, .arr 43 10 true (r.2.Mail.map TMail.d)), (20104, .arr 45 2 true (r.2.Chosen.map TChoice.d))], 20105⟩
theorem zjj (a0 : TWorld) (a1 : Int) (a2 : List UInt8) (r : Int × TWorld) (h : zdt a0 a1 a2 = some r) : zd1 Tryz.prog 21 [.ptr 20000 0, .int .i64 a1, .str a2] [(20000, .box [.ref 20001 1 0 a0.Members.length (some uC), .ref 20002 3 0 a0.Votes.length (some uC), .ref 20003 7 0 a0.Tries.length (some uC), .ref 20004 10 0 a0.Mail.length (some uC), .ref 20005 2 0 a0.Chosen.length (some uC)]), (20001, .arr 3 1 true (a0.Members.map (D.int .i64))), (20002, .arr 51 3 true (a0.Votes.map TVote.d)), (20003, .arr 49 7 true (a0.Tries.map TAttempt.n)), (20004, .arr 43 10 true (a0.Mail.map TMail.d)), (20005, .arr 45 2 true (a0.Chosen.map TChoice.d))] (.int .i64 r.1) [(20000, some (.box [.ref 20100 1 0 r.2.Members.length (some uC), .ref 20101 3 0 r.2.Votes.length (some uC), .ref 20102 7 0 r.2.Tries.length (some uC), .ref 20103 10 0 r.2.Mail.length (some uC), .ref 20104 2 0 r.2.Chosen.length (some uC)])), (20001, none), (20002, none), (20003, none), (20004, none), (20005, none), (20100, some (.arr 3 1 true (r.2.Members.map (D.int .i64)))), (20101, some (.arr 51 3 true (r.2.Votes.map TVote.d))), (20102, some (.arr 49 7 true (r.2.Tries.map TAttempt.n))), (20103, some (.arr 43 10 true (r.2.Mail.map TMail.d))), (20104, some (.arr 45 2 true (r.2.Chosen.map TChoice.d)))] (20100, 20152) := by
 refine zab Tryz.tmOk Tryz.func21 rfl (by decide) (lb rfl) (by simp) ?_
 intro hwf
 unfold zdt at h
 refine .ends 20100 (Nat.le_refl _) ?_
 refine .seq (.pl zS [0, 1, 2] ?_)
 refine .seq ?_
 obtain ⟨k1, h⟩ := zaa h
 have e1 := zax TVote.d a0.Votes a1
 replace e1 := e1 k1
 refine .rg zS [0, 1, 2] ?_
 refine .rnx 6 e1 ?_
 refine .rnx 3 e1 ?_
 refine .nn ?_
 obtain ⟨v1, hv1, h⟩ := bind_some h
 refine .seq (.rg zS [0, 1, 2, 7] ?_)
 refine .rn 3 ?_
 refine .cl (zkd ((a0.Votes.getD a1.toNat default).Promised) a1 v1 hv1) ?_
 refine .rn 5 ?_
 refine .nn ?_
 refine .seq (.seq (.pl zS [0, 1, 2, 7, 8, 9] ?_))
 refine .cd (fun hc1 => ?_) (fun hc1 => ?_)
 replace h := za0 h hc1
 refine .seq (.pl zS [0, 9] ?_)
 obtain rfl := sj h
 refine .ret ⟨st25 (v1.2, a0), ?_, .inr rfl, retH [20000, 20104, 20103, 20102, 20101, 20100] ?_ ?_⟩
 exact .m [0, 6] [20000, 20001, 20002, 20003, 20004, 20005] [(20001, 20100), (20002, 20101), (20003, 20102), (20004, 20103), (20005, 20104)]
 exact rsi0
 rfl
 replace h := za1 h hc1
 refine .skip ?_
 obtain ⟨v2, hv2, h⟩ := bind_some h
 refine .seq (.rg zS [0, 1, 2, 7, 8] ?_)
 refine .rn 2 ?_
 refine .cl (zge (a0.Votes.getD a1.toNat default) v1.1 v2 hv2) ?_
 refine .rn 6 ?_
 refine .nn ?_
 obtain ⟨v3, hv3, h⟩ := bind_some h
 refine .seq (.rg zS [0, 1, 2, 7, 8, 10] ?_)
 refine .rn 6 ?_
 refine .lcall (r := .tuple [.agg [.int .u8 v3.1.Phase, .int .i64 v3.1.Ballot, .imm 1 (v3.1.Members.map (D.int .i64)) 13, .str v3.1.Wish, .str v3.1.Value, .imm 3 (v3.1.Promises.map TPromise.d) 13, .imm 1 (v3.1.Accepted.map (D.int .i64)) 13], .int .i64 v3.2]) [] rfl rfl rfl rfl rfl (za3 (zfh (zen (ziq .i64) (by first | rfl | (simp only [go_sem, Nat.reduceBEq]; rfl)) (by first | rfl | (simp; done) | (simp <;> omega))) trivial) (za3 rfl (za3 rfl zai))) rfl (zjp a0.Members v1.1 a2 v3 hv3) ?_
 refine .rn 6 ?_
 refine .nn ?_
 refine .seq ?_
 obtain ⟨k2, h⟩ := zaa h
 have e2 := zax TVote.d a0.Votes a1
 have es1 := zgr TVote.d a0.Votes a1.toNat v2.1
 replace e2 := e2 k2
 replace es1 : setN (a0.Votes.map TVote.d) a1.toNat (.agg [.int .i64 v2.1.Promised, .int .i64 v2.1.Ballot, .str v2.1.Value]) = (a0.Votes.set a1.toNat v2.1).map TVote.d := es1
 refine .drx zS (ai e2 es1) [0, 1, 7, 8, 10, 12] ?_
 refine .seq ?_
 obtain ⟨k3, h⟩ := zaa h
 have e3 := zax TAttempt.n a0.Tries a1
 have es2 := zgr TAttempt.n a0.Tries a1.toNat v3.1
 replace e3 := e3 k3
 replace es2 : setN (a0.Tries.map TAttempt.n) a1.toNat (.agg [.int .u8 v3.1.Phase, .int .i64 v3.1.Ballot, .imm 1 (v3.1.Members.map (D.int .i64)) 13, .str v3.1.Wish, .str v3.1.Value, .imm 3 (v3.1.Promises.map TPromise.d) 13, .imm 1 (v3.1.Accepted.map (D.int .i64)) 13]) = (a0.Tries.set a1.toNat v3.1).map TAttempt.n := es2
 refine .drx zS (ai e3 es2) [0, 1, 7, 8, 12] ?_
 obtain ⟨v4, hv4, h⟩ := bind_some h
 refine .seq (.rg zS [0, 1, 7, 8] ?_)
 refine .rn 4 ?_
 refine .hcall (H := [(20000, .box [.ref 20001 1 0 a0.Members.length (some uC), .ref 20002 3 0 a0.Votes.length (some uC), .ref 20003 7 0 a0.Tries.length (some uC), .ref 20004 10 0 a0.Mail.length (some uC), .ref 20005 2 0 a0.Chosen.length (some uC)]), (20001, .arr 3 1 true (a0.Members.map (D.int .i64))), (20002, .arr 51 3 true ((a0.Votes.set a1.toNat v2.1).map TVote.d)), (20003, .arr 49 7 true ((a0.Tries.set a1.toNat v3.1).map TAttempt.n)), (20004, .arr 43 10 true (a0.Mail.map TMail.d)), (20005, .arr 45 2 true (a0.Chosen.map TChoice.d))]) (eff := [(20000, some (.box [.ref 20107 1 0 v4.Members.length (some uC), .ref 20108 3 0 v4.Votes.length (some uC), .ref 20109 7 0 v4.Tries.length (some uC), .ref 20110 10 0 v4.Mail.length (some uC), .ref 20111 2 0 v4.Chosen.length (some uC)])), (20001, none), (20002, none), (20003, none), (20004, none), (20005, none), (20107, some (.arr 3 1 true (v4.Members.map (D.int .i64)))), (20108, some (.arr 51 3 true (v4.Votes.map TVote.d))), (20109, some (.arr 49 7 true (v4.Tries.map TAttempt.n))), (20110, some (.arr 43 10 true (v4.Mail.map TMail.d))), (20111, some (.arr 45 2 true (v4.Chosen.map TChoice.d)))]) (nw := (20107, 20114)) (r := .tuple []) rfl rfl rfl rfl rfl (by have t := (za5 20005 20005 (za5 20004 20004 (za5 20003 20003 (za5 20002 20002 (za5 20001 20001 (za5 20000 20000 (zfe 20107 (zgp (⟨a0.Members, (a0.Votes.set a1.toNat v2.1), (a0.Tries.set a1.toNat v3.1), a0.Mail, a0.Chosen⟩ : TWorld) (⟨a1, 0, 1, 0, 0, v1.1, 0, [], 0, 0⟩ : TMail) v4 hv4)))))))); simp only [List.length_set] at t; exact t) (fun id b h => zcr [20000, 20001, 20002, 20003, 20004, 20005] _ id b h) (by simp) (.inr ⟨lb rfl, lb rfl⟩) ?_
 refine .nn ?_
 obtain ⟨v5, hv5, h⟩ := bind_some h
 refine .seq (.rg zS [0, 1, 7, 8] ?_)
 refine .rn 6 ?_
 refine .rn 3 ?_
 refine .hcall (H := [(20000, .box [.ref 20107 1 0 v4.Members.length (some uC), .ref 20108 3 0 v4.Votes.length (some uC), .ref 20109 7 0 v4.Tries.length (some uC), .ref 20110 10 0 v4.Mail.length (some uC), .ref 20111 2 0 v4.Chosen.length (some uC)]), (20107, .arr 3 1 true (v4.Members.map (D.int .i64))), (20108, .arr 51 3 true (v4.Votes.map TVote.d)), (20109, .arr 49 7 true (v4.Tries.map TAttempt.n)), (20110, .arr 43 10 true (v4.Mail.map TMail.d)), (20111, .arr 45 2 true (v4.Chosen.map TChoice.d))]) (eff := [(20000, some (.box [.ref 20125 1 0 v5.Members.length (some uC), .ref 20126 3 0 v5.Votes.length (some uC), .ref 20127 7 0 v5.Tries.length (some uC), .ref 20128 10 0 v5.Mail.length (some uC), .ref 20129 2 0 v5.Chosen.length (some uC)])), (20107, none), (20108, none), (20109, none), (20110, none), (20111, none), (20125, some (.arr 3 1 true (v5.Members.map (D.int .i64)))), (20126, some (.arr 51 3 true (v5.Votes.map TVote.d))), (20127, some (.arr 49 7 true (v5.Tries.map TAttempt.n))), (20128, some (.arr 43 10 true (v5.Mail.map TMail.d))), (20129, some (.arr 45 2 true (v5.Chosen.map TChoice.d)))]) (nw := (20125, 20150)) (r := .tuple []) rfl rfl rfl rfl rfl (za5 20005 20111 (za5 20004 20110 (za5 20003 20109 (za5 20002 20108 (za5 20001 20107 (za5 20000 20000 (zfe 20125 (zgy v4 a1 v1.1 (⟨a1, (a0.Votes.getD a1.toNat default).Ballot, (a0.Votes.getD a1.toNat default).Value⟩ : TPromise) v5 hv5)))))))) (fun id b h => zcr [20000, 20107, 20108, 20109, 20110, 20111] _ id b h) (by simp) (.inr ⟨lb rfl, lb rfl⟩) ?_
 refine .nn ?_
 refine .seq (.pl zS [0] ?_)
 obtain rfl := sj h
 refine .ret ⟨st25 (0, v5), ?_, .inr rfl, retH [20000, 20104, 20103, 20102, 20101, 20100] ?_ ?_⟩
 exact .m [0, 6] [20000, 20125, 20126, 20127, 20128, 20129] [(20125, 20100), (20126, 20101), (20127, 20102), (20128, 20103), (20129, 20104)]
 exact rsi0
 rfl
@[go_sem] def ya34 (a0 : TWorld) (a1 : TMail) (b1 : Bool) : St := ⟨[(0, .ptr 20000 0), (3, .ptr 20100 0), (4, .int .i64 a1.To), (5, .ptr 20101 0), (6, .ptr 20102 0), (28, .int .u8 a1.Kind), (29, .bool b1)], [(20000, .box [.ref 20001 1 0 a0.Members.length (some uC), .ref 20002 3 0 a0.Votes.length (some uC), .ref 20003 7 0 a0.Tries.length (some uC), .ref 20004 10 0 a0.Mail.length (some uC), .ref 20005 2 0 a0.Chosen.length (some uC)]), (20001, .arr 3 1 true (a0.Members.map (D.int .i64))), (20002, .arr 51 3 true (a0.Votes.map TVote.d)), (20003, .arr 49 7 true (a0.Tries.map TAttempt.n)), (20004, .arr 43 10 true (a0.Mail.map TMail.d)), (20005, .arr 45 2 true (a0.Chosen.map TChoice.d)), (20100, .box [.int .i64 a1.From, .int .i64 a1.To, .int .u8 a1.Kind, .int .i64 a1.Group, .int .i64 a1.Slot, .int .i64 a1.Ballot, .int .i64 a1.Prior, .str a1.Value, .int .i64 a1.Id, .int .i64 a1.Time]), (20101, .box [.int .i64 a1.To, .int .i64 a1.From, .int .u8 0, .int .i64 0, .int .i64 0, .int .i64 a1.Ballot, .int .i64 0, .str [], .int .i64 0, .int .i64 0]), (20102, .box [.int .i64 ((a0.Votes.getD a1.To.toNat default).Promised), .int .i64 ((a0.Votes.getD a1.To.toNat default).Ballot), .str ((a0.Votes.getD a1.To.toNat default).Value)])], 20103⟩
@[go_sem] def ya33 (a0 : TWorld) (a1 : TMail) (n1 : Int) (n2 : Int) (s1 : List UInt8) (n3 : Int) (n4 : Int) (s2 : List UInt8) (n5 : Int) : St := ⟨[(0, .ptr 20000 0), (4, .int .i64 a1.To), (5, .ptr 20101 0), (6, .ptr 20102 0), (7, .ptr 20103 0), (8, .int .i64 n5)], [(20000, .box [.ref 20001 1 0 a0.Members.length (some uC), .ref 20002 3 0 a0.Votes.length (some uC), .ref 20003 7 0 a0.Tries.length (some uC), .ref 20004 10 0 a0.Mail.length (some uC), .ref 20005 2 0 a0.Chosen.length (some uC)]), (20001, .arr 3 1 true (a0.Members.map (D.int .i64))), (20002, .arr 51 3 true (a0.Votes.map TVote.d)), (20003, .arr 49 7 true (a0.Tries.map TAttempt.n)), (20004, .arr 43 10 true (a0.Mail.map TMail.d)), (20005, .arr 45 2 true (a0.Chosen.map TChoice.d)), (20101, .box [.int .i64 a1.To, .int .i64 a1.From, .int .u8 n1, .int .i64 0, .int .i64 0, .int .i64 a1.Ballot, .int .i64 n2, .str s1, .int .i64 0, .int .i64 0]), (20102, .box [.int .i64 ((a0.Votes.getD a1.To.toNat default).Promised), .int .i64 ((a0.Votes.getD a1.To.toNat default).Ballot), .str ((a0.Votes.getD a1.To.toNat default).Value)]), (20103, .box [.int .i64 n3, .int .i64 n4, .str s2])], 20104⟩
@[go_sem] def ya32 (a0 : TWorld) (a1 : TMail) (n6 : Int) (n7 : Int) (s3 : List UInt8) (n8 : Int) (n9 : Int) (s4 : List UInt8) : St := ⟨[(0, .ptr 20000 0), (4, .int .i64 a1.To), (5, .ptr 20101 0), (7, .ptr 20103 0)], [(20000, .box [.ref 20001 1 0 a0.Members.length (some uC), .ref 20002 3 0 a0.Votes.length (some uC), .ref 20003 7 0 a0.Tries.length (some uC), .ref 20004 10 0 a0.Mail.length (some uC), .ref 20005 2 0 a0.Chosen.length (some uC)]), (20001, .arr 3 1 true (a0.Members.map (D.int .i64))), (20002, .arr 51 3 true (a0.Votes.map TVote.d)), (20003, .arr 49 7 true (a0.Tries.map TAttempt.n)), (20004, .arr 43 10 true (a0.Mail.map TMail.d)), (20005, .arr 45 2 true (a0.Chosen.map TChoice.d)), (20101, .box [.int .i64 a1.To, .int .i64 a1.From, .int .u8 n6, .int .i64 0, .int .i64 0, .int .i64 a1.Ballot, .int .i64 n7, .str s3, .int .i64 0, .int .i64 0]), (20103, .box [.int .i64 n8, .int .i64 n9, .str s4])], 20104⟩
@[go_sem] def st26 (r : TWorld) : St := ⟨[(0, .ptr 20000 0)], [(20000, .box [.ref 20100 1 0 r.Members.length (some uC), .ref 20101 3 0 r.Votes.length (some uC), .ref 20102 7 0 r.Tries.length (some uC), .ref 20103 10 0 r.Mail.length (some uC), .ref 20104 2 0 r.Chosen.length (some uC)]), (20100, .arr 3 1 true (r.Members.map (D.int .i64))), (20101, .arr 51 3 true (r.Votes.map TVote.d)), (20102, .arr 49 7 true (r.Tries.map TAttempt.n)), (20103, .arr 43 10 true (r.Mail.map TMail.d)), (20104, .arr 45 2 true (r.Chosen.map TChoice.d))], 20105⟩
theorem zjt (a0 : TWorld) (a1 : TMail) (r : TWorld) (h : ze6 a0 a1 = some r) : zd1 Tryz.prog 22 [.ptr 20000 0, .agg [.int .i64 a1.From, .int .i64 a1.To, .int .u8 a1.Kind, .int .i64 a1.Group, .int .i64 a1.Slot, .int .i64 a1.Ballot, .int .i64 a1.Prior, .str a1.Value, .int .i64 a1.Id, .int .i64 a1.Time]] [(20000, .box [.ref 20001 1 0 a0.Members.length (some uC), .ref 20002 3 0 a0.Votes.length (some uC), .ref 20003 7 0 a0.Tries.length (some uC), .ref 20004 10 0 a0.Mail.length (some uC), .ref 20005 2 0 a0.Chosen.length (some uC)]), (20001, .arr 3 1 true (a0.Members.map (D.int .i64))), (20002, .arr 51 3 true (a0.Votes.map TVote.d)), (20003, .arr 49 7 true (a0.Tries.map TAttempt.n)), (20004, .arr 43 10 true (a0.Mail.map TMail.d)), (20005, .arr 45 2 true (a0.Chosen.map TChoice.d))] (.tuple []) [(20000, some (.box [.ref 20100 1 0 r.Members.length (some uC), .ref 20101 3 0 r.Votes.length (some uC), .ref 20102 7 0 r.Tries.length (some uC), .ref 20103 10 0 r.Mail.length (some uC), .ref 20104 2 0 r.Chosen.length (some uC)])), (20001, none), (20002, none), (20003, none), (20004, none), (20005, none), (20100, some (.arr 3 1 true (r.Members.map (D.int .i64)))), (20101, some (.arr 51 3 true (r.Votes.map TVote.d))), (20102, some (.arr 49 7 true (r.Tries.map TAttempt.n))), (20103, some (.arr 43 10 true (r.Mail.map TMail.d))), (20104, some (.arr 45 2 true (r.Chosen.map TChoice.d)))] (20100, 20152) := by
 refine zab Tryz.tmOk Tryz.func22 rfl (by decide) (lb rfl) (by simp) ?_
 intro hwf
 unfold ze6 at h
 refine .ends 20100 (Nat.le_refl _) ?_
 refine .seq (.pl zS [0, 1] ?_)
 refine .seq (.pl zS [0, 3] ?_)
 refine .seq (.pl zS [0, 3, 4] ?_)
 refine .seq ?_
 obtain ⟨k1, h⟩ := zaa h
 have e1 := zax TVote.d a0.Votes a1.To
 replace e1 := e1 k1
 refine .rg zS [0, 3, 4, 5] ?_
 refine .rnx 6 e1 ?_
 refine .rnx 3 e1 ?_
 refine .nn ?_
 refine .seq (.pl zS [0, 3, 4, 5, 6] ?_)
 obtain ⟨x1, hx1, h⟩ := bind_some h
 refine .block ?_
 refine .seqM 20103 (fun (j : Bool) => ya34 a0 a1 j) (fun j => x1 = j) (lb rfl) ?_ ?_
 refine .seq (.pl zS [0, 3, 4, 5, 6, 28] ?_)
 refine .cd (fun hc1 => ?_) (fun hc1 => ?_)
 replace hx1 := za0 hx1 hc1
 refine .skip ?_
 refine ⟨_, ?_, (sj hx1).symm⟩
 exact .m [0, 3, 4, 5, 6, 28, 29] [20000, 20001, 20002, 20003, 20004, 20005, 20100, 20101, 20102] []
 replace hx1 := za1 hx1 hc1
 refine .pl zS [0, 3, 4, 5, 6, 28] ?_
 refine ⟨_, ?_, (sj hx1).symm⟩
 exact .m [0, 3, 4, 5, 6, 28, 29] [20000, 20001, 20002, 20003, 20004, 20005, 20100, 20101, 20102] []
 rintro b1 hj1
 subst x1
 try dsimp only at h
 simp only [ya34]
 refine .cd (fun hc2 => ?_) (fun hc2 => ?_)
 replace h := za0 h hc2
 obtain ⟨v1, hv1, h⟩ := bind_some h
 refine .seq (.rg zS [0, 3, 4, 5, 6] ?_)
 refine .rn 3 ?_
 refine .cl (zge (a0.Votes.getD a1.To.toNat default) a1.Ballot v1 hv1) ?_
 refine .rn 6 ?_
 refine .nn ?_
 refine .seq (.rg zS [0, 3, 4, 5, 6, 7, 8] ?_)
 refine .rd 6 ?_
 refine .rd 4 ?_
 refine .nd ?_
 obtain ⟨x2, hx2, h⟩ := bind_some h
 refine .seqM 20104 (fun (j : Int × Int × (List UInt8) × Int × Int × (List UInt8) × Int) => ya33 a0 a1 j.1 j.2.1 j.2.2.1 j.2.2.2.1 j.2.2.2.2.1 j.2.2.2.2.2.1 j.2.2.2.2.2.2) (fun j => x2 = j) (lb rfl) ?_ ?_
 refine .seq (.pl zS [0, 3, 4, 5, 6, 7, 8] ?_)
 refine .cd (fun hc3 => ?_) (fun hc3 => ?_)
 replace hx2 := za0 hx2 hc3
 refine .seq ?_
 obtain ⟨v2, hv2, hx2⟩ := bind_some hx2
 refine .rg zS [0, 3, 4, 5, 6, 7] ?_
 refine .rn 5 ?_
 refine .cl (zgo (a0.Votes.getD a1.To.toNat default) a1.Ballot a1.Value v2 hv2) ?_
 refine .rn 5 ?_
 refine .nn ?_
 refine .pl zS [0, 4, 5, 6, 7, 8] ?_
 refine ⟨_, ?_, (sj hx2).symm⟩
 exact .m [0, 4, 5, 6, 7, 8] [20000, 20001, 20002, 20003, 20004, 20005, 20101, 20102, 20103] []
 replace hx2 := za1 hx2 hc3
 refine .skip ?_
 refine ⟨_, ?_, (sj hx2).symm⟩
 exact .m [0, 4, 5, 6, 7, 8] [20000, 20001, 20002, 20003, 20004, 20005, 20101, 20102, 20103] []
 rintro ⟨n1, n2, s1, n3, n4, s2, n5⟩ hj2
 subst x2
 try dsimp only at h
 simp only [ya33]
 obtain ⟨x3, hx3, h⟩ := bind_some h
 refine .seqM 20104 (fun (j : Int × Int × (List UInt8) × Int × Int × (List UInt8)) => ya32 a0 a1 j.1 j.2.1 j.2.2.1 j.2.2.2.1 j.2.2.2.2.1 j.2.2.2.2.2) (fun j => x3 = j) (lb rfl) ?_ ?_
 refine .seq (.pl zS [0, 4, 5, 6, 7, 8] ?_)
 refine .cd (fun hc4 => ?_) (fun hc4 => ?_)
 replace hx3 := za0 hx3 hc4
 refine .seq ?_
 refine .dr zS [0, 4, 5, 6, 7] ?_
 refine .pl zS [0, 4, 5, 6, 7] ?_
 refine ⟨_, ?_, (sj hx3).symm⟩
 exact .m [0, 4, 5, 7] [20000, 20001, 20002, 20003, 20004, 20005, 20101, 20103] []
 replace hx3 := za1 hx3 hc4
 refine .skip ?_
 refine ⟨_, ?_, (sj hx3).symm⟩
 exact .m [0, 4, 5, 7] [20000, 20001, 20002, 20003, 20004, 20005, 20101, 20103] []
 rintro ⟨n6, n7, s3, n8, n9, s4⟩ hj3
 subst x3
 try dsimp only at h
 simp only [ya32]
 refine .seq ?_
 obtain ⟨k2, h⟩ := zaa h
 have e2 := zax TVote.d a0.Votes a1.To
 have es1 := zgr TVote.d a0.Votes a1.To.toNat (⟨n8, n9, s4⟩ : TVote)
 replace e2 := e2 k2
 replace es1 : setN (a0.Votes.map TVote.d) a1.To.toNat (.agg [.int .i64 n8, .int .i64 n9, .str s4]) = (a0.Votes.set a1.To.toNat (⟨n8, n9, s4⟩ : TVote)).map TVote.d := es1
 refine .drx zS (ai e2 es1) [0, 4, 5, 7] ?_
 obtain ⟨k3, h⟩ := zaa h
 refine .rg zS [0, 5] ?_
 refine .rd 6 ?_
 refine .rd 5 ?_
 refine .nd ?_
 obtain rfl := sj h
 refine ⟨st26 (⟨a0.Members, (a0.Votes.set a1.To.toNat (⟨n8, n9, s4⟩ : TVote)), a0.Tries, (a0.Mail ++ [(⟨a1.To, a1.From, n6, 0, 0, a1.Ballot, n7, s3, 0, 0⟩ : TMail)]), a0.Chosen⟩ : TWorld), ?_, .inl rfl, retH [20000, 20104, 20103, 20102, 20101, 20100] ?_ ?_⟩
 exact .m [0] [20000, 20001, 20002, 20003, 20105, 20005] [(20001, 20100), (20002, 20101), (20003, 20102), (20105, 20103), (20005, 20104)]
 exact rsi0
 rfl
 replace h := za1 h hc2
 refine .seq (.pl zS [0, 3, 4, 28] ?_)
 refine .cd (fun hc5 => ?_) (fun hc5 => ?_)
 replace h := za0 h hc5
 obtain ⟨v3, hv3, h⟩ := bind_some h
 refine .rg zS [0, 3, 4] ?_
 refine .rn 6 ?_
 refine .rn 5 ?_
 refine .hcall (H := [(20000, .box [.ref 20001 1 0 a0.Members.length (some uC), .ref 20002 3 0 a0.Votes.length (some uC), .ref 20003 7 0 a0.Tries.length (some uC), .ref 20004 10 0 a0.Mail.length (some uC), .ref 20005 2 0 a0.Chosen.length (some uC)]), (20001, .arr 3 1 true (a0.Members.map (D.int .i64))), (20002, .arr 51 3 true (a0.Votes.map TVote.d)), (20003, .arr 49 7 true (a0.Tries.map TAttempt.n)), (20004, .arr 43 10 true (a0.Mail.map TMail.d)), (20005, .arr 45 2 true (a0.Chosen.map TChoice.d))]) (eff := [(20000, some (.box [.ref 20125 1 0 v3.Members.length (some uC), .ref 20126 3 0 v3.Votes.length (some uC), .ref 20127 7 0 v3.Tries.length (some uC), .ref 20128 10 0 v3.Mail.length (some uC), .ref 20129 2 0 v3.Chosen.length (some uC)])), (20001, none), (20002, none), (20003, none), (20004, none), (20005, none), (20125, some (.arr 3 1 true (v3.Members.map (D.int .i64)))), (20126, some (.arr 51 3 true (v3.Votes.map TVote.d))), (20127, some (.arr 49 7 true (v3.Tries.map TAttempt.n))), (20128, some (.arr 43 10 true (v3.Mail.map TMail.d))), (20129, some (.arr 45 2 true (v3.Chosen.map TChoice.d)))]) (nw := (20125, 20150)) (r := .tuple []) rfl rfl rfl rfl rfl (za5 20005 20005 (za5 20004 20004 (za5 20003 20003 (za5 20002 20002 (za5 20001 20001 (za5 20000 20000 (zfe 20125 (zgy a0 a1.To a1.Ballot (⟨a1.From, a1.Prior, a1.Value⟩ : TPromise) v3 hv3)))))))) (fun id b h => zcr [20000, 20001, 20002, 20003, 20004, 20005] _ id b h) (by simp) (.inr ⟨lb rfl, lb rfl⟩) ?_
 refine .nn ?_
 obtain rfl := sj h
 refine ⟨st26 v3, ?_, .inl rfl, retH [20000, 20104, 20103, 20102, 20101, 20100] ?_ ?_⟩
 exact .m [0] [20000, 20125, 20126, 20127, 20128, 20129] [(20125, 20100), (20126, 20101), (20127, 20102), (20128, 20103), (20129, 20104)]
 exact rsi0
 rfl
 replace h := za1 h hc5
 refine .seq (.pl zS [0, 3, 4, 28] ?_)
 refine .cd (fun hc6 => ?_) (fun hc6 => ?_)
 replace h := za0 h hc6
 refine .seq ?_
 obtain ⟨k4, h⟩ := zaa h
 obtain ⟨v4, hv4, h⟩ := bind_some h
 have e3 := zax TAttempt.n a0.Tries a1.To
 replace e3 := e3 k4
 refine .rg zS [0, 3, 4] ?_
 refine .rdx 6 e3 ?_
 refine .rdx 5 e3 ?_
 refine .call rfl rfl rfl rfl rfl rfl (zfq (WkL.cons (Wk.agg (WkL.cons (Wk.refl _) (WkL.cons (Wk.refl _) (WkL.cons Wk.iz (WkL.cons (Wk.refl _) (WkL.cons (Wk.refl _) (WkL.cons Wk.iz (WkL.cons Wk.iz (WkL.refl _))))))))) (WkL.cons (Wk.refl _) (WkL.cons (Wk.refl _) (WkL.refl _)))) (zg7 (a0.Tries.getD a1.To.toNat default) a1.Ballot a1.From v4 hv4)) ?_
 refine .rdx 6 e3 ?_
 refine .nd ?_
 refine .seq (.pl zS [0, 4, 9, 10] ?_)
 refine .cd (fun hc7 => ?_) (fun hc7 => ?_)
 replace h := za0 h hc7
 refine .seq ?_
 obtain ⟨k5, h⟩ := zaa h
 have e4 := zax TAttempt.n a0.Tries a1.To
 replace e4 := e4 k5
 refine .rg zS [0, 4, 9] ?_
 refine .rnx 6 e4 ?_
 refine .rnx 3 e4 ?_
 refine .nn ?_
 refine .seq ?_
 obtain ⟨k6, h⟩ := zaa h
 have e5 := zax TAttempt.n a0.Tries a1.To
 have es2 := zgr TAttempt.n a0.Tries a1.To.toNat v4.1
 replace e5 := e5 k6
 replace es2 : setN (a0.Tries.map TAttempt.n) a1.To.toNat (.agg [.int .u8 v4.1.Phase, .int .i64 v4.1.Ballot, .imm 1 (v4.1.Members.map (D.int .i64)) 13, .str v4.1.Wish, .str v4.1.Value, .imm 3 (v4.1.Promises.map TPromise.d) 13, .imm 1 (v4.1.Accepted.map (D.int .i64)) 13]) = (a0.Tries.set a1.To.toNat v4.1).map TAttempt.n := es2
 refine .drx zS (ai e5 es2) [0, 4, 9, 11] ?_
 obtain ⟨v5, hv5, h⟩ := bind_some h
 refine .rg zS [0, 4, 11] ?_
 refine .rn 3 ?_
 refine .hcall (H := [(20000, .box [.ref 20001 1 0 a0.Members.length (some uC), .ref 20002 3 0 a0.Votes.length (some uC), .ref 20003 7 0 a0.Tries.length (some uC), .ref 20004 10 0 a0.Mail.length (some uC), .ref 20005 2 0 a0.Chosen.length (some uC)]), (20001, .arr 3 1 true (a0.Members.map (D.int .i64))), (20002, .arr 51 3 true (a0.Votes.map TVote.d)), (20003, .arr 49 7 true ((a0.Tries.set a1.To.toNat v4.1).map TAttempt.n)), (20004, .arr 43 10 true (a0.Mail.map TMail.d)), (20005, .arr 45 2 true (a0.Chosen.map TChoice.d))]) (eff := [(20000, some (.box [.ref 20107 1 0 v5.Members.length (some uC), .ref 20108 3 0 v5.Votes.length (some uC), .ref 20109 7 0 v5.Tries.length (some uC), .ref 20110 10 0 v5.Mail.length (some uC), .ref 20111 2 0 v5.Chosen.length (some uC)])), (20001, none), (20002, none), (20003, none), (20004, none), (20005, none), (20107, some (.arr 3 1 true (v5.Members.map (D.int .i64)))), (20108, some (.arr 51 3 true (v5.Votes.map TVote.d))), (20109, some (.arr 49 7 true (v5.Tries.map TAttempt.n))), (20110, some (.arr 43 10 true (v5.Mail.map TMail.d))), (20111, some (.arr 45 2 true (v5.Chosen.map TChoice.d)))]) (nw := (20107, 20114)) (r := .tuple []) rfl rfl rfl rfl rfl (by have t := (za5 20005 20005 (za5 20004 20004 (za5 20003 20003 (za5 20002 20002 (za5 20001 20001 (za5 20000 20000 (zfe 20107 (zgz (⟨a0.Members, a0.Votes, (a0.Tries.set a1.To.toNat v4.1), a0.Mail, a0.Chosen⟩ : TWorld) a1.To ((a0.Tries.getD a1.To.toNat default).Phase) v5 hv5)))))))); simp only [List.length_set] at t; exact t) (fun id b h => zcr [20000, 20001, 20002, 20003, 20004, 20005] _ id b h) (by simp) (.inr ⟨lb rfl, lb rfl⟩) ?_
 refine .nn ?_
 obtain rfl := sj h
 refine ⟨st26 v5, ?_, .inl rfl, retH [20000, 20104, 20103, 20102, 20101, 20100] ?_ ?_⟩
 exact .m [0] [20000, 20107, 20108, 20109, 20110, 20111] [(20107, 20100), (20108, 20101), (20109, 20102), (20110, 20103), (20111, 20104)]
 exact rsi0
 rfl
 replace h := za1 h hc7
 refine .skip ?_
 obtain rfl := sj h
 refine ⟨st26 a0, ?_, .inl rfl, retH [20000, 20104, 20103, 20102, 20101, 20100] ?_ ?_⟩
 exact .m [0] [20000, 20001, 20002, 20003, 20004, 20005] [(20001, 20100), (20002, 20101), (20003, 20102), (20004, 20103), (20005, 20104)]
 exact rsi0
 rfl
 replace h := za1 h hc6
 refine .skip ?_
 obtain rfl := sj h
 refine ⟨st26 a0, ?_, .inl rfl, retH [20000, 20104, 20103, 20102, 20101, 20100] ?_ ?_⟩
 exact .m [0] [20000, 20001, 20002, 20003, 20004, 20005] [(20001, 20100), (20002, 20101), (20003, 20102), (20004, 20103), (20005, 20104)]
 exact rsi0
 rfl
end Go.Proofs
