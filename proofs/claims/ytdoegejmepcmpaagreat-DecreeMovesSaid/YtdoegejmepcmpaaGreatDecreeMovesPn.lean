/- Texts of the proof. -/
import Derived.Test.YtdoegejmepcmpaaGreatDecreeMovesPg
import Derived.Test.YtdoegejmepcmpaaGreatDecreeMovesPf
import Derived.Test.YtdoegejmepcmpaaGreatDecreeMovesPh
import Derived.Test.YtdoegejmepcmpaaGreatDecreeMovesPi
import Derived.Test.YtdoegejmepcmpaaGreatDecreeMovesPk
import Derived.Test.YtdoegejmepcmpaaGreatDecreeMovesPm
import Derived.Test.YtdoegejmepcmpaaGreatDecreeMovesPl
import Derived.Test.YtdoegejmepcmpaaGreatDecreeMovesPj
section
namespace Go.Proofs
open Go.Tm Go.RowKit Go.WideShapes
set_option maxRecDepth 100000
set_option maxHeartbeats 4000000
set_option linter.unusedSimpArgs false
set_option linter.unusedVariables false
theorem zwz {a v : TWorld} (h : zb1 a = some v) : v.Mail = a.Mail := by
 unfold zb1 at h
 obtain ⟨_, h⟩ := zaa h
 obtain ⟨_, h⟩ := zaa h
 obtain ⟨_, h⟩ := zaa h
 obtain ⟨_, h⟩ := zaa h
 obtain ⟨l1, _, h⟩ := bind_some h
 cases h; rfl
@[go_sem] def ya3u (l1 : List Int) (l2 : List TVote) (l3 : List TAttempt) (l4 : List TMail) (l5 : List TChoice) : St := ⟨[(4, .ptr 2 0), (6, .ptr 24 0)], [(2, .box [.imm 0 [] 0, .imm 0 [] 0, .imm 0 [] 0, .imm 0 [] 0, .imm 0 [] 0]), (24, .box [.ref 25 1 0 l1.length (some uC), .ref 26 3 0 l2.length (some uC), .ref 27 7 0 l3.length (some uC), .ref 28 10 0 l4.length (some uC), .ref 29 2 0 l5.length (some uC)]), (25, .arr 3 1 true (l1.map (D.int .i64))), (26, .arr 51 3 true (l2.map TVote.d)), (27, .arr 49 7 true (l3.map TAttempt.n)), (28, .arr 43 10 true (l4.map TMail.d)), (29, .arr 45 2 true (l5.map TChoice.d))], 30⟩
@[go_sem] def ya3t (a0 : TWorld) (a1 : TMove) (v2 : TWorld) (l6 : List TMail) : St := ⟨[(2, .ptr 0 0), (3, .ptr 1 0), (4, .ptr 2 0), (6, .ptr 24 0)], [(0, .box [.imm 1 (a0.Members.map (D.int .i64)) 4, .imm 3 (a0.Votes.map TVote.d) 4, .imm 7 (a0.Tries.map TAttempt.d) 4, .imm 10 (a0.Mail.map TMail.d) 4, .imm 2 (a0.Chosen.map TChoice.d) 4]), (1, .box [.int .u8 a1.Kind, .int .i64 a1.Node, .int .i64 a1.At, .str a1.Value]), (2, .box [.imm 0 [] 0, .imm 0 [] 0, .imm 0 [] 0, .imm 0 [] 0, .imm 0 [] 0]), (12, .arr 3 1 true (v2.Members.map (D.int .i64))), (13, .arr 51 3 true (v2.Votes.map TVote.d)), (14, .arr 49 7 true (v2.Tries.map TAttempt.n)), (16, .arr 45 2 true (v2.Chosen.map TChoice.d)), (24, .box [.ref 12 1 0 v2.Members.length (some uC), .ref 13 3 0 v2.Votes.length (some uC), .ref 14 7 0 v2.Tries.length (some uC), .ref 25 10 0 l6.length (some uC), .ref 16 2 0 v2.Chosen.length (some uC)]), (25, .arr 43 10 true (l6.map TMail.d))], 26⟩
@[go_sem] def st23 (r : TWorld × Int) : St := ⟨[(4, .ptr 5 0), (5, .int .i64 r.2)], [(0, .arr 3 1 true (r.1.Members.map (D.int .i64))), (1, .arr 51 3 true (r.1.Votes.map TVote.d)), (2, .arr 49 7 true (r.1.Tries.map TAttempt.n)), (3, .arr 43 10 true (r.1.Mail.map TMail.d)), (4, .arr 45 2 true (r.1.Chosen.map TChoice.d)), (5, .box [.ref 0 1 0 r.1.Members.length (some uC), .ref 1 3 0 r.1.Votes.length (some uC), .ref 2 7 0 r.1.Tries.length (some uC), .ref 3 10 0 r.1.Mail.length (some uC), .ref 4 2 0 r.1.Chosen.length (some uC)])], 6⟩
theorem zlh (a0 : TWorld) (a1 : TMove) (r : TWorld × Int) (h : zct a0 a1 = some r) : zd1 Tryz.prog 7 [.agg [.imm 1 (a0.Members.map (D.int .i64)) 4, .imm 3 (a0.Votes.map TVote.d) 4, .imm 7 (a0.Tries.map TAttempt.d) 4, .imm 10 (a0.Mail.map TMail.d) 4, .imm 2 (a0.Chosen.map TChoice.d) 4], .agg [.int .u8 a1.Kind, .int .i64 a1.Node, .int .i64 a1.At, .str a1.Value]] [] (.tuple [.agg [.ref 0 1 0 r.1.Members.length (some uC), .ref 1 3 0 r.1.Votes.length (some uC), .ref 2 7 0 r.1.Tries.length (some uC), .ref 3 10 0 r.1.Mail.length (some uC), .ref 4 2 0 r.1.Chosen.length (some uC)], .int .i64 r.2]) [(0, some (.arr 3 1 true (r.1.Members.map (D.int .i64)))), (1, some (.arr 51 3 true (r.1.Votes.map TVote.d))), (2, some (.arr 49 7 true (r.1.Tries.map TAttempt.n))), (3, some (.arr 43 10 true (r.1.Mail.map TMail.d))), (4, some (.arr 45 2 true (r.1.Chosen.map TChoice.d)))] (0, 84) := by
 refine zab Tryz.tmOk Tryz.func7 rfl (by decide) (lb rfl) (by simp) ?_
 intro hwf
 unfold zct at h
 refine .ends 0 (Nat.le_refl _) ?_
 refine .seq (.pl zS [0, 1] ?_)
 refine .seq ?_
 obtain ⟨v1, hv1, h⟩ := bind_some h
 refine .seq (.rg zS [2, 3, 4] ?_)
 refine .rn 1 ?_
 refine .cl (zhf a0 v1 hv1) ?_
 refine .rn 1 ?_
 refine .nn ?_
 refine .cd (fun hc1 => ?_) (fun hc1 => ?_)
 replace h := za0 h hc1
 refine .seq (.pl zS [4] ?_)
 obtain rfl := sj h
 refine .ret ⟨st23 ((⟨[], [], [], [], []⟩ : TWorld), 8), ?_, .inr rfl, retH [4, 3, 2, 1, 0] ?_ ?_⟩
 refine Goes.new0 1 3 (lb rfl) ?_
 refine Goes.new0 3 51 (lb rfl) ?_
 refine Goes.new0 7 49 (lb rfl) ?_
 refine Goes.new0 10 43 (lb rfl) ?_
 refine Goes.new0 2 45 (lb rfl) ?_
 refine Goes.boxs 2 _ [.ref 3 1 0 0 (some uC), .ref 4 3 0 0 (some uC), .ref 5 7 0 0 (some uC), .ref 6 10 0 0 (some uC), .ref 7 2 0 0 (some uC)] rfl (.cons (.own0 3 _ _ _ (by decide)) (.cons (.own0 4 _ _ _ (by decide)) (.cons (.own0 5 _ _ _ (by decide)) (.cons (.own0 6 _ _ _ (by decide)) (.cons (.own0 7 _ _ _ (by decide)) (.refl _)))))) ?_
 exact .m [4, 5] [3, 4, 5, 6, 7, 2] [(3, 0), (4, 1), (5, 2), (6, 3), (7, 4), (2, 5)]
 exact rsi0
 rfl
 replace h := za1 h hc1
 refine .skip (.seq (.seq (.pl zS [2, 3, 4] ?_)))
 refine .cd (fun hc2 => ?_) (fun hc2 => ?_)
 replace h := za0 h hc2
 refine .seq (.pl zS [4] ?_)
 obtain rfl := sj h
 refine .ret ⟨st23 ((⟨[], [], [], [], []⟩ : TWorld), 2), ?_, .inr rfl, retH [4, 3, 2, 1, 0] ?_ ?_⟩
 refine Goes.new0 1 3 (lb rfl) ?_
 refine Goes.new0 3 51 (lb rfl) ?_
 refine Goes.new0 7 49 (lb rfl) ?_
 refine Goes.new0 10 43 (lb rfl) ?_
 refine Goes.new0 2 45 (lb rfl) ?_
 refine Goes.boxs 2 _ [.ref 3 1 0 0 (some uC), .ref 4 3 0 0 (some uC), .ref 5 7 0 0 (some uC), .ref 6 10 0 0 (some uC), .ref 7 2 0 0 (some uC)] rfl (.cons (.own0 3 _ _ _ (by decide)) (.cons (.own0 4 _ _ _ (by decide)) (.cons (.own0 5 _ _ _ (by decide)) (.cons (.own0 6 _ _ _ (by decide)) (.cons (.own0 7 _ _ _ (by decide)) (.refl _)))))) ?_
 exact .m [4, 5] [3, 4, 5, 6, 7, 2] [(3, 0), (4, 1), (5, 2), (6, 3), (7, 4), (2, 5)]
 exact rsi0
 rfl
 replace h := za1 h hc2
 refine .skip ?_
 obtain ⟨v2, hv2, h⟩ := bind_some h
 refine .seq (.rg zS [2, 3, 4] ?_)
 refine .rn 1 ?_
 refine .ncall (r := .agg [.ref 12 1 0 v2.Members.length (some uC), .ref 13 3 0 v2.Votes.length (some uC), .ref 14 7 0 v2.Tries.length (some uC), .ref 15 10 0 v2.Mail.length (some uC), .ref 16 2 0 v2.Chosen.length (some uC)]) (eff := [(12, some (.arr 3 1 true (v2.Members.map (D.int .i64)))), (13, some (.arr 51 3 true (v2.Votes.map TVote.d))), (14, some (.arr 49 7 true (v2.Tries.map TAttempt.n))), (15, some (.arr 43 10 true (v2.Mail.map TMail.d))), (16, some (.arr 45 2 true (v2.Chosen.map TChoice.d)))]) (nw := (12, 24)) [] rfl rfl rfl rfl rfl (za3 rfl zai) rfl (zez 12 (lb rfl) (zh5 a0 v2 hv2)) (zb4 rfl rfl (zc5 zcd _ _ _) (zb4 rfl rfl (zc5 zly _ _ _) (zb4 rfl rfl (ztx zjw _ _ _) (zb4 rfl rfl (zc5 zlz _ _ _) (zb4 rfl rfl (zc5 zjf _ _ _) zf9))))) (by intro i hi; simp [D.ids, D.idsL] at hi <;> omega) rfl ⟨lb rfl, lb rfl⟩ ?_
 refine .rn 2 ?_
 refine .nn ?_
 obtain ⟨x1, hx1, h⟩ := bind_some h
 refine .seqM 25 (fun (j : (List Int) × (List TVote) × (List TAttempt) × (List TMail) × (List TChoice)) => ya3u j.1 j.2.1 j.2.2.1 j.2.2.2.1 j.2.2.2.2) (fun j => x1 = (.inr j)) (lb rfl) ?_ ?_
 refine .seq (.pl zS [2, 3, 4, 6] ?_)
 refine .cd (fun hc3 => ?_) (fun hc3 => ?_)
 replace hx1 := za0 hx1 hc3
 refine .seq (.seq ?_)
 obtain ⟨v3, hv3, hx1⟩ := bind_some hx1
 refine .rg zS [3, 4, 6] ?_
 refine .rn 2 ?_
 refine .cl (zdf a1.Node v3 hv3) ?_
 refine .rn 1 ?_
 refine .nn ?_
 refine .cd (fun hc4 => ?_) (fun hc4 => ?_)
 replace hx1 := za0 hx1 hc4
 refine .seq (.pl zS [4] ?_)
 have hq := sj hx1
 subst x1
 try dsimp only at h
 obtain rfl := sj h
 refine .ret ⟨st23 ((⟨[], [], [], [], []⟩ : TWorld), 2), ?_, .inr rfl, retH [4, 3, 2, 1, 0] ?_ ?_⟩
 refine Goes.new0 1 3 (lb rfl) ?_
 refine Goes.new0 3 51 (lb rfl) ?_
 refine Goes.new0 7 49 (lb rfl) ?_
 refine Goes.new0 10 43 (lb rfl) ?_
 refine Goes.new0 2 45 (lb rfl) ?_
 refine Goes.boxs 2 _ [.ref 25 1 0 0 (some uC), .ref 26 3 0 0 (some uC), .ref 27 7 0 0 (some uC), .ref 28 10 0 0 (some uC), .ref 29 2 0 0 (some uC)] rfl (.cons (.own0 25 _ _ _ (by decide)) (.cons (.own0 26 _ _ _ (by decide)) (.cons (.own0 27 _ _ _ (by decide)) (.cons (.own0 28 _ _ _ (by decide)) (.cons (.own0 29 _ _ _ (by decide)) (.refl _)))))) ?_
 exact .m [4, 5] [25, 26, 27, 28, 29, 2] [(25, 0), (26, 1), (27, 2), (28, 3), (29, 4), (2, 5)]
 exact rsi0
 rfl
 replace hx1 := za1 hx1 hc4
 refine .skip (.seq (.seq (.pl zS [3, 4, 6] ?_)))
 refine .cd (fun hc5 => ?_) (fun hc5 => ?_)
 replace hx1 := za0 hx1 hc5
 refine .seq ?_
 obtain ⟨k1, hx1⟩ := zaa hx1
 have e1 := zax TAttempt.n v2.Tries a1.Node
 replace e1 := e1 k1
 refine .plx zS e1 [3, 4, 6] ?_
 refine .arr 14 (setN (v2.Tries.map TAttempt.n) a1.Node.toNat (.agg [.int .u8 0, .int .i64 0, .imm 0 [] 0, .str [], .str [], .imm 0 [] 0, .imm 0 [] 0])) ((v2.Tries.set a1.Node.toNat (⟨0, 0, [], [], [], [], []⟩ : TAttempt)).map TAttempt.n) rfl (.set _ _ _ (.agg (.cons (.refl _) (.cons (.refl _) (.cons (.nil12 _ _ _) (.cons (.refl _) (.cons (.refl _) (.cons (.nil12 _ _ _) (.cons (.nil12 _ _ _) WkNs.nil))))))))) ?_
 refine .seq (.pl zS [4, 6] ?_)
 have hq := sj hx1
 subst x1
 try dsimp only at h
 obtain rfl := sj h
 refine .ret ⟨st23 ((⟨v2.Members, v2.Votes, (v2.Tries.set a1.Node.toNat (⟨0, 0, [], [], [], [], []⟩ : TAttempt)), v2.Mail, v2.Chosen⟩ : TWorld), 0), ?_, .inr rfl, retH [4, 3, 2, 1, 0] ?_ ?_⟩
 exact .m [4, 5] [12, 13, 14, 15, 16, 2] [(12, 0), (13, 1), (14, 2), (15, 3), (16, 4), (2, 5)]
 exact rsi0
 rfl
 replace hx1 := za1 hx1 hc5
 refine .skip (.seq (.seq (.pl zS [3, 4, 6] ?_)))
 refine .cd (fun hc6 => ?_) (fun hc6 => ?_)
 replace hx1 := za0 hx1 hc6
 refine .seq (.pl zS [4] ?_)
 have hq := sj hx1
 subst x1
 try dsimp only at h
 obtain rfl := sj h
 refine .ret ⟨st23 ((⟨[], [], [], [], []⟩ : TWorld), 3), ?_, .inr rfl, retH [4, 3, 2, 1, 0] ?_ ?_⟩
 refine Goes.new0 1 3 (lb rfl) ?_
 refine Goes.new0 3 51 (lb rfl) ?_
 refine Goes.new0 7 49 (lb rfl) ?_
 refine Goes.new0 10 43 (lb rfl) ?_
 refine Goes.new0 2 45 (lb rfl) ?_
 refine Goes.boxs 2 _ [.ref 25 1 0 0 (some uC), .ref 26 3 0 0 (some uC), .ref 27 7 0 0 (some uC), .ref 28 10 0 0 (some uC), .ref 29 2 0 0 (some uC)] rfl (.cons (.own0 25 _ _ _ (by decide)) (.cons (.own0 26 _ _ _ (by decide)) (.cons (.own0 27 _ _ _ (by decide)) (.cons (.own0 28 _ _ _ (by decide)) (.cons (.own0 29 _ _ _ (by decide)) (.refl _)))))) ?_
 exact .m [4, 5] [25, 26, 27, 28, 29, 2] [(25, 0), (26, 1), (27, 2), (28, 3), (29, 4), (2, 5)]
 exact rsi0
 rfl
 replace hx1 := za1 hx1 hc6
 refine .skip (.seq ?_)
 obtain ⟨v4, hv4, hx1⟩ := bind_some hx1
 refine .rg zS [3, 4, 6] ?_
 refine .rn 4 ?_
 refine .hcall (H := [(24, .box [.ref 12 1 0 v2.Members.length (some uC), .ref 13 3 0 v2.Votes.length (some uC), .ref 14 7 0 v2.Tries.length (some uC), .ref 15 10 0 v2.Mail.length (some uC), .ref 16 2 0 v2.Chosen.length (some uC)]), (12, .arr 3 1 true (v2.Members.map (D.int .i64))), (13, .arr 51 3 true (v2.Votes.map TVote.d)), (14, .arr 49 7 true (v2.Tries.map TAttempt.n)), (15, .arr 43 10 true (v2.Mail.map TMail.d)), (16, .arr 45 2 true (v2.Chosen.map TChoice.d))]) (eff := [(24, some (.box [.ref 25 1 0 v4.2.Members.length (some uC), .ref 26 3 0 v4.2.Votes.length (some uC), .ref 27 7 0 v4.2.Tries.length (some uC), .ref 28 10 0 v4.2.Mail.length (some uC), .ref 29 2 0 v4.2.Chosen.length (some uC)])), (12, none), (13, none), (14, none), (15, none), (16, none), (25, some (.arr 3 1 true (v4.2.Members.map (D.int .i64)))), (26, some (.arr 51 3 true (v4.2.Votes.map TVote.d))), (27, some (.arr 49 7 true (v4.2.Tries.map TAttempt.n))), (28, some (.arr 43 10 true (v4.2.Mail.map TMail.d))), (29, some (.arr 45 2 true (v4.2.Chosen.map TChoice.d)))]) (nw := (25, 77)) (r := .int .i64 v4.1) rfl rfl rfl rfl rfl (zo8 25 (za5 20005 16 (za5 20004 15 (za5 20003 14 (za5 20002 13 (za5 20001 12 (za5 20000 24 (zjj v2 a1.Node a1.Value v4 hv4)))))))) (fun id b h => zcr [24, 12, 13, 14, 15, 16] _ id b h) (by simp) (.inr ⟨lb rfl, lb rfl⟩) ?_
 refine .rn 1 ?_
 refine .nn ?_
 refine .seq (.pl zS [4, 6, 7] ?_)
 refine .cd (fun hc7 => ?_) (fun hc7 => ?_)
 replace hx1 := za0 hx1 hc7
 refine .seq (.pl zS [4, 7] ?_)
 have hq := sj hx1
 subst x1
 try dsimp only at h
 obtain rfl := sj h
 refine .ret ⟨st23 ((⟨[], [], [], [], []⟩ : TWorld), v4.1), ?_, .inr rfl, retH [4, 3, 2, 1, 0] ?_ ?_⟩
 refine Goes.new0 1 3 (lb rfl) ?_
 refine Goes.new0 3 51 (lb rfl) ?_
 refine Goes.new0 7 49 (lb rfl) ?_
 refine Goes.new0 10 43 (lb rfl) ?_
 refine Goes.new0 2 45 (lb rfl) ?_
 refine Goes.boxs 2 _ [.ref 77 1 0 0 (some uC), .ref 78 3 0 0 (some uC), .ref 79 7 0 0 (some uC), .ref 80 10 0 0 (some uC), .ref 81 2 0 0 (some uC)] rfl (.cons (.own0 77 _ _ _ (by decide)) (.cons (.own0 78 _ _ _ (by decide)) (.cons (.own0 79 _ _ _ (by decide)) (.cons (.own0 80 _ _ _ (by decide)) (.cons (.own0 81 _ _ _ (by decide)) (.refl _)))))) ?_
 exact .m [4, 5] [77, 78, 79, 80, 81, 2] [(77, 0), (78, 1), (79, 2), (80, 3), (81, 4), (2, 5)]
 exact rsi0
 rfl
 replace hx1 := za1 hx1 hc7
 refine .skip ?_
 refine ⟨_, ?_, (sj hx1).symm⟩
 exact .m [4, 6] [2, 24, 25, 26, 27, 28, 29] []
 replace hx1 := za1 hx1 hc3
 refine .seq (.seq (.rg zS [2, 3, 4, 6] ?_))
 refine .rn 6 ?_
 refine .rn 5 ?_
 refine .nn ?_
 refine .cd (fun hc8 => ?_) (fun hc8 => ?_)
 replace hx1 := za0 hx1 hc8
 refine .seq (.pl zS [4] ?_)
 have hq := sj hx1
 subst x1
 try dsimp only at h
 obtain rfl := sj h
 refine .ret ⟨st23 ((⟨[], [], [], [], []⟩ : TWorld), 6), ?_, .inr rfl, retH [4, 3, 2, 1, 0] ?_ ?_⟩
 refine Goes.new0 1 3 (lb rfl) ?_
 refine Goes.new0 3 51 (lb rfl) ?_
 refine Goes.new0 7 49 (lb rfl) ?_
 refine Goes.new0 10 43 (lb rfl) ?_
 refine Goes.new0 2 45 (lb rfl) ?_
 refine Goes.boxs 2 _ [.ref 25 1 0 0 (some uC), .ref 26 3 0 0 (some uC), .ref 27 7 0 0 (some uC), .ref 28 10 0 0 (some uC), .ref 29 2 0 0 (some uC)] rfl (.cons (.own0 25 _ _ _ (by decide)) (.cons (.own0 26 _ _ _ (by decide)) (.cons (.own0 27 _ _ _ (by decide)) (.cons (.own0 28 _ _ _ (by decide)) (.cons (.own0 29 _ _ _ (by decide)) (.refl _)))))) ?_
 exact .m [4, 5] [25, 26, 27, 28, 29, 2] [(25, 0), (26, 1), (27, 2), (28, 3), (29, 4), (2, 5)]
 exact rsi0
 rfl
 replace hx1 := za1 hx1 hc8
 refine .skip ?_
 obtain ⟨x2, hx2, hx1⟩ := bind_some hx1
 refine .seqM 25 (fun (j : (List TMail)) => ya3t a0 a1 v2 j) (fun j => x2 = j) (lb rfl) ?_ ?_
 refine .seq (.pl zS [2, 3, 4, 6] ?_)
 refine .cd (fun hc9 => ?_) (fun hc9 => ?_)
 replace hx2 := za0 hx2 hc9
 obtain ⟨k2, hx2⟩ := zaa hx2
 obtain ⟨k3, hx2⟩ := zaa hx2
 obtain ⟨k4, hx2⟩ := zaa hx2
 have hM : v2.Mail = a0.Mail := zwz hv2
 have hAt : 0 <= a1.At /\ a1.At < (a0.Mail.length : Int) := by simp at hc8; omega
 have t3 : a1.At - 0 = a1.At := Int.sub_zero _
 have t2 : ((a0.Mail.map TMail.d).take (a0.Mail.map TMail.d).length).drop (wr .i64 (a1.At + 1)).toNat = (a0.Mail.drop (wr .i64 (a1.At + 1)).toNat).map TMail.d := by rw [List.take_length]; exact List.map_drop.symm
 have t4 : (decide (0 <= a1.At) && decide (a1.At <= a1.At) && decide (a1.At <= (v2.Mail.length : Int))) = true := by simp; omega
 have t5 : (decide (0 <= wr .i64 (a1.At + 1)) && decide (wr .i64 (a1.At + 1) <= (a0.Mail.length : Int))) = true := by rw [Bool.and_eq_true, decide_eq_true_eq, decide_eq_true_eq]; exact k3
 have t6 : (bif decide (uC <= 9223372036854775807) then ((uC : Nat) : Int) else (v2.Mail.length : Int)) = (v2.Mail.length : Int) := by rw [show decide (uC <= 9223372036854775807) = false by decide]; rfl
 by_cases hz : a1.At = 0
 have hz3 : ∀ x y : D, (bif decide ((0 : Int) = a1.At) then x else y) = x := by intro x y; simp [hz]
 have hln : Nat.blt 0 v2.Mail.length = true := by rw [hM]; simp; omega
 rcases zb5 (a0.Mail.drop (wr .i64 (a1.At + 1)).toNat) with hE1 | ⟨y, ys, hE1⟩
 have hM1 : (a0.Mail.drop (wr .i64 (a1.At + 1)).toNat).map TMail.d = [] := by rw [hE1]; rfl
 refine .rg zS [2, 3, 4, 6] ?_
 refine .rd 6 ?_
 refine .rdx 1 (ai t3 (ai hz3 (ai hln t6))) (h := by intro x q hq; obtain ⟨x1, x2, x3, x4⟩ := x; simp only [go_sem, zik, zib, capK, Int.toNat_zero, Nat.add_zero, Nat.zero_add, Nat.reduceSub, Int.reduceEq, Nat.reduceLT, Nat.reduceDiv, Nat.reduceAdd, Nat.reduceBEq, Nat.reduceLeDiff, reduceCtorEq, Nat.reduceEqDiff, Nat.reduceMod, Nat.reduceMul, x1, x2, x3, x4]; exact hq) ?_ (hv := by exact t4)
 refine .rd 5 ?_
 refine .rdx 1 (ai t2 hM1) (h := by intro x q hq; obtain ⟨x1, x2⟩ := x; simp only [go_sem, zg6, Int.toNat_natCast, Nat.reduceSub, Int.reduceEq, Nat.reduceLT, Nat.reduceDiv, Nat.reduceAdd, Nat.reduceBEq, Nat.reduceLeDiff, reduceCtorEq, Nat.reduceEqDiff, Nat.reduceMod, Nat.reduceMul, x1, x2]; exact hq) ?_ (hv := by exact t5)
 refine .rd 3 ?_
 refine .nd ?_
 have hL : v2.Mail.take a1.At.toNat ++ a0.Mail.drop (wr .i64 (a1.At + 1)).toNat = [] := by rw [hE1, hz]; rfl
 refine ⟨_, ?_, (sj hx2).symm⟩
 refine Goes.new0 10 43 (lb rfl) ?_
 refine Goes.boxs 24 _ [.ref 12 1 0 v2.Members.length (some uC), .ref 13 3 0 v2.Votes.length (some uC), .ref 14 7 0 v2.Tries.length (some uC), .ref 25 10 0 0 (some uC), .ref 16 2 0 v2.Chosen.length (some uC)] rfl (.keep (.keep (.keep (.cons (.own0 25 _ _ _ (by decide)) (.refl _))))) ?_
 exact .mx hL [2, 3, 4, 6] [0, 1, 2, 12, 13, 14, 16, 24, 25] []
 have hM1 : (a0.Mail.drop (wr .i64 (a1.At + 1)).toNat).map TMail.d = TMail.d y :: ys.map TMail.d := by rw [hE1]; rfl
 have hyl : ys.length + 1 < 1000000 := by
  have k4' := k4
  rw [hE1] at k4'
  simp only [List.length_cons] at k4'
  omega
 refine .rg zS [2, 3, 4, 6] ?_
 refine .rd 6 ?_
 refine .rdx 1 (ai t3 (ai hz3 (ai hln t6))) (h := by intro x q hq; obtain ⟨x1, x2, x3, x4⟩ := x; simp only [go_sem, zik, zib, capK, Int.toNat_zero, Nat.add_zero, Nat.zero_add, Nat.reduceSub, Int.reduceEq, Nat.reduceLT, Nat.reduceDiv, Nat.reduceAdd, Nat.reduceBEq, Nat.reduceLeDiff, reduceCtorEq, Nat.reduceEqDiff, Nat.reduceMod, Nat.reduceMul, x1, x2, x3, x4]; exact hq) ?_ (hv := by exact t4)
 refine .rd 5 ?_
 refine .rdx 1 (ai t2 hM1) (h := by intro x q hq; obtain ⟨x1, x2⟩ := x; simp only [go_sem, zg6, Int.toNat_natCast, Nat.reduceSub, Int.reduceEq, Nat.reduceLT, Nat.reduceDiv, Nat.reduceAdd, Nat.reduceBEq, Nat.reduceLeDiff, reduceCtorEq, Nat.reduceEqDiff, Nat.reduceMod, Nat.reduceMul, x1, x2]; exact hq) ?_ (hv := by exact t5)
 refine .rd 3 ?_ (hv := by simp; omega)
 refine .nd ?_
 have hL : (v2.Mail.take a1.At.toNat ++ a0.Mail.drop (wr .i64 (a1.At + 1)).toNat).map TMail.d = TMail.d y :: ys.map TMail.d := by rw [hE1, hz]; rfl
 have hL2 : (v2.Mail.take a1.At.toNat ++ a0.Mail.drop (wr .i64 (a1.At + 1)).toNat).length = ys.length + 1 := by rw [hE1, hz]; rfl
 refine ⟨_, ?_, (sj hx2).symm⟩
 refine Goes.boxs 24 _ [.ref 12 1 0 v2.Members.length (some uC), .ref 13 3 0 v2.Votes.length (some uC), .ref 14 7 0 v2.Tries.length (some uC), .ref 25 10 0 (ys.length + 1) (some uC), .ref 16 2 0 v2.Chosen.length (some uC)] rfl (.keep (.keep (.keep (.cons (.unk _ _ _ _ _) (.refl _))))) ?_
 exact .mx (ai hL hL2) [2, 3, 4, 6] [0, 1, 2, 12, 13, 14, 16, 24, 25] []
 have hz3 : ∀ (c : Bool) (x y : D), (bif decide ((0 : Int) = a1.At) && c then x else y) = y := by intro c x y; rw [decide_eq_false (by omega)]; rfl
 rcases zb5 (a0.Mail.drop (wr .i64 (a1.At + 1)).toNat) with hE1 | ⟨y, ys, hE1⟩
 have hM1 : (a0.Mail.drop (wr .i64 (a1.At + 1)).toNat).map TMail.d = [] := by rw [hE1]; rfl
 refine .rg zS [2, 3, 4, 6] ?_
 refine .rd 6 ?_
 refine .rdx 1 (ai t3 (ai hz3 t6)) (h := by intro x q hq; obtain ⟨x1, x2, x3⟩ := x; simp only [go_sem, zik, zib, capK, Int.toNat_zero, Nat.add_zero, Nat.zero_add, Nat.reduceSub, Int.reduceEq, Nat.reduceLT, Nat.reduceDiv, Nat.reduceAdd, Nat.reduceBEq, Nat.reduceLeDiff, reduceCtorEq, Nat.reduceEqDiff, Nat.reduceMod, Nat.reduceMul, x1, x2, x3]; exact hq) ?_ (hv := by exact t4)
 refine .rd 5 ?_
 refine .rdx 1 (ai t2 hM1) (h := by intro x q hq; obtain ⟨x1, x2⟩ := x; simp only [go_sem, zg6, Int.toNat_natCast, Nat.reduceSub, Int.reduceEq, Nat.reduceLT, Nat.reduceDiv, Nat.reduceAdd, Nat.reduceBEq, Nat.reduceLeDiff, reduceCtorEq, Nat.reduceEqDiff, Nat.reduceMod, Nat.reduceMul, x1, x2]; exact hq) ?_ (hv := by exact t5)
 have hcp : a1.At.toNat <= 9223372036854775807 := by have k4' := k4; rw [List.length_take] at k4'; omega
 have hla : a1.At.toNat < v2.Mail.length := by rw [hM]; omega
 refine .rdx 1 (ai hcp hla) (h := by intro x q hq; obtain ⟨x1, x2⟩ := x; simp only [go_sem, za8, decide_true, decide_false, Bool.not_true, cond_true, cond_false, List.length_nil, Nat.add_zero, Nat.lt_irrefl, Nat.le_refl, Nat.reduceSub, Int.reduceEq, Nat.reduceLT, Nat.reduceDiv, Nat.reduceAdd, Nat.reduceBEq, Nat.reduceLeDiff, reduceCtorEq, Nat.reduceEqDiff, Nat.reduceMod, Nat.reduceMul, x1, x2]; exact hq) ?_ (hv := by simp; omega)
 refine .rd 2 ?_
 refine .nd ?_
 have hL : (v2.Mail.take a1.At.toNat ++ a0.Mail.drop (wr .i64 (a1.At + 1)).toNat).map TMail.d = ((v2.Mail.take a1.At.toNat).map TMail.d ++ (v2.Mail.drop a1.At.toNat).map TMail.d).take a1.At.toNat := by rw [hE1, List.append_nil, List.take_left' (by rw [List.length_map, List.length_take]; omega)]
 have hL2 : (v2.Mail.take a1.At.toNat ++ a0.Mail.drop (wr .i64 (a1.At + 1)).toNat).length = a1.At.toNat := by rw [hE1, List.append_nil, List.length_take]; omega
 refine ⟨_, ?_, (sj hx2).symm⟩
 refine Goes.pre 15 a1.At.toNat ((v2.Mail.take a1.At.toNat).map TMail.d ++ (v2.Mail.drop a1.At.toNat).map TMail.d) rfl ?_
 refine Goes.boxs 24 _ [.ref 12 1 0 v2.Members.length (some uC), .ref 13 3 0 v2.Votes.length (some uC), .ref 14 7 0 v2.Tries.length (some uC), .ref 15 10 0 a1.At.toNat (some uC), .ref 16 2 0 v2.Chosen.length (some uC)] rfl (.keep (.keep (.keep (.cons (.unk _ _ _ _ _) (.refl _))))) ?_
 exact .mx (ai hL hL2) [2, 3, 4, 6] [0, 1, 2, 12, 13, 14, 16, 24, 15] [(15, 25)]
 have hM1 : (a0.Mail.drop (wr .i64 (a1.At + 1)).toNat).map TMail.d = TMail.d y :: ys.map TMail.d := by rw [hE1]; rfl
 have hyl : ys.length + 1 < 1000000 := by
  have k4' := k4
  rw [hE1] at k4'
  simp only [List.length_cons] at k4'
  omega
 have hlt : a1.At.toNat < a1.At.toNat + (ys.length + 1) := by omega
 refine .rg zS [2, 3, 4, 6] ?_
 refine .rd 6 ?_
 refine .rdx 1 (ai t3 (ai hz3 t6)) (h := by intro x q hq; obtain ⟨x1, x2, x3⟩ := x; simp only [go_sem, zik, zib, capK, Int.toNat_zero, Nat.add_zero, Nat.zero_add, Nat.reduceSub, Int.reduceEq, Nat.reduceLT, Nat.reduceDiv, Nat.reduceAdd, Nat.reduceBEq, Nat.reduceLeDiff, reduceCtorEq, Nat.reduceEqDiff, Nat.reduceMod, Nat.reduceMul, x1, x2, x3]; exact hq) ?_ (hv := by exact t4)
 refine .rd 5 ?_
 refine .rdx 1 (ai t2 hM1) (h := by intro x q hq; obtain ⟨x1, x2⟩ := x; simp only [go_sem, zg6, Int.toNat_natCast, Nat.reduceSub, Int.reduceEq, Nat.reduceLT, Nat.reduceDiv, Nat.reduceAdd, Nat.reduceBEq, Nat.reduceLeDiff, reduceCtorEq, Nat.reduceEqDiff, Nat.reduceMod, Nat.reduceMul, x1, x2]; exact hq) ?_ (hv := by exact t5)
 have hcp : a1.At.toNat <= 9223372036854775807 := by have k4' := k4; rw [List.length_take] at k4'; omega
 have hla : a1.At.toNat < v2.Mail.length := by rw [hM]; omega
 have hnl : ¬ (a1.At.toNat + (ys.length + 1) <= a1.At.toNat) := by omega
 refine .rdx 1 (ai hcp (ai hla (ai hlt hnl))) (h := by intro x q hq; obtain ⟨x1, x2, x3, x4⟩ := x; simp only [go_sem, za8, decide_true, decide_false, Bool.not_true, Bool.and_false, cond_true, cond_false, Nat.reduceSub, Int.reduceEq, Nat.reduceLT, Nat.reduceDiv, Nat.reduceAdd, Nat.reduceBEq, Nat.reduceLeDiff, reduceCtorEq, Nat.reduceEqDiff, Nat.reduceMod, Nat.reduceMul, x1, x2, x3, x4]; exact hq) ?_ (hv := by rw [Bool.and_eq_true, decide_eq_true_eq, decide_eq_true_eq]; have k4' := k4; rw [List.length_take, hE1, List.length_cons] at k4'; omega)
 refine .rd 2 ?_
 refine .nd ?_
 have hL : (v2.Mail.take a1.At.toNat ++ a0.Mail.drop (wr .i64 (a1.At + 1)).toNat).map TMail.d = (v2.Mail.take a1.At.toNat).map TMail.d ++ TMail.d y :: ys.map TMail.d := by rw [hE1, List.map_append, List.map_cons]
 have hL2 : (v2.Mail.take a1.At.toNat ++ a0.Mail.drop (wr .i64 (a1.At + 1)).toNat).length = a1.At.toNat + (ys.length + 1) := by rw [hE1, List.length_append, List.length_take, List.length_cons]; omega
 refine ⟨_, ?_, (sj hx2).symm⟩
 refine Goes.boxs 24 _ [.ref 12 1 0 v2.Members.length (some uC), .ref 13 3 0 v2.Votes.length (some uC), .ref 14 7 0 v2.Tries.length (some uC), .ref 25 10 0 (a1.At.toNat + (ys.length + 1)) (some uC), .ref 16 2 0 v2.Chosen.length (some uC)] rfl (.keep (.keep (.keep (.cons (.unk _ _ _ _ _) (.refl _))))) ?_
 exact .mx (ai hL hL2) [2, 3, 4, 6] [0, 1, 2, 12, 13, 14, 16, 24, 25] []
 replace hx2 := za1 hx2 hc9
 refine .skip ?_
 refine ⟨_, ?_, (sj hx2).symm⟩
 exact .m [2, 3, 4, 6] [0, 1, 2, 12, 13, 14, 16, 24, 15] [(15, 25)]
 rintro l6 hj1
 subst x2
 try dsimp only at hx1
 simp only [ya3t]
 refine .seq (.pl zS [2, 3, 4, 6] ?_)
 refine .cd (fun hc10 => ?_) (fun hc10 => ?_)
 replace hx1 := za0 hx1 hc10
 obtain ⟨k5, hx1⟩ := zaa hx1
 obtain ⟨v5, hv5, hx1⟩ := bind_some hx1
 have e2 := zax TMail.d a0.Mail a1.At
 replace e2 := e2 k5
 refine .rg zS [2, 3, 4, 6] ?_
 refine .rnx 6 e2 ?_
 refine .hcall (H := [(24, .box [.ref 12 1 0 v2.Members.length (some uC), .ref 13 3 0 v2.Votes.length (some uC), .ref 14 7 0 v2.Tries.length (some uC), .ref 25 10 0 l6.length (some uC), .ref 16 2 0 v2.Chosen.length (some uC)]), (12, .arr 3 1 true (v2.Members.map (D.int .i64))), (13, .arr 51 3 true (v2.Votes.map TVote.d)), (14, .arr 49 7 true (v2.Tries.map TAttempt.n)), (25, .arr 43 10 true (l6.map TMail.d)), (16, .arr 45 2 true (v2.Chosen.map TChoice.d))]) (eff := [(24, some (.box [.ref 26 1 0 v5.Members.length (some uC), .ref 27 3 0 v5.Votes.length (some uC), .ref 28 7 0 v5.Tries.length (some uC), .ref 29 10 0 v5.Mail.length (some uC), .ref 30 2 0 v5.Chosen.length (some uC)])), (12, none), (13, none), (14, none), (25, none), (16, none), (26, some (.arr 3 1 true (v5.Members.map (D.int .i64)))), (27, some (.arr 51 3 true (v5.Votes.map TVote.d))), (28, some (.arr 49 7 true (v5.Tries.map TAttempt.n))), (29, some (.arr 43 10 true (v5.Mail.map TMail.d))), (30, some (.arr 45 2 true (v5.Chosen.map TChoice.d)))]) (nw := (26, 78)) (r := .tuple []) rfl rfl rfl rfl rfl (zo8 26 (za5 20005 16 (za5 20004 25 (za5 20003 14 (za5 20002 13 (za5 20001 12 (za5 20000 24 (zjt (⟨v2.Members, v2.Votes, v2.Tries, l6, v2.Chosen⟩ : TWorld) (a0.Mail.getD a1.At.toNat default) v5 hv5)))))))) (fun id b h => zcr [24, 12, 13, 14, 25, 16] _ id b h) (by simp) (.inr ⟨lb rfl, lb rfl⟩) ?_
 refine .nn ?_
 refine ⟨_, ?_, (sj hx1).symm⟩
 exact .m [4, 6] [2, 24, 26, 27, 28, 29, 30] [(26, 25), (27, 26), (28, 27), (29, 28), (30, 29)]
 replace hx1 := za1 hx1 hc10
 refine .skip ?_
 refine ⟨_, ?_, (sj hx1).symm⟩
 exact .m [4, 6] [2, 24, 12, 13, 14, 25, 16] [(12, 25), (13, 26), (14, 27), (25, 28), (16, 29)]
 rintro ⟨l1, l2, l3, l4, l5⟩ hj2
 subst x1
 try dsimp only at h
 simp only [ya3u]
 refine .seq (.seq (.rg zS [4, 6] ?_))
 refine .rn 6 ?_
 refine .rn 4 ?_
 refine .nn ?_
 refine .cd (fun hc11 => ?_) (fun hc11 => ?_)
 replace h := za0 h hc11
 refine .seq (.pl zS [4] ?_)
 obtain rfl := sj h
 refine .ret ⟨st23 ((⟨[], [], [], [], []⟩ : TWorld), 9), ?_, .inr rfl, retH [4, 3, 2, 1, 0] ?_ ?_⟩
 refine Goes.new0 1 3 (lb rfl) ?_
 refine Goes.new0 3 51 (lb rfl) ?_
 refine Goes.new0 7 49 (lb rfl) ?_
 refine Goes.new0 10 43 (lb rfl) ?_
 refine Goes.new0 2 45 (lb rfl) ?_
 refine Goes.boxs 2 _ [.ref 30 1 0 0 (some uC), .ref 31 3 0 0 (some uC), .ref 32 7 0 0 (some uC), .ref 33 10 0 0 (some uC), .ref 34 2 0 0 (some uC)] rfl (.cons (.own0 30 _ _ _ (by decide)) (.cons (.own0 31 _ _ _ (by decide)) (.cons (.own0 32 _ _ _ (by decide)) (.cons (.own0 33 _ _ _ (by decide)) (.cons (.own0 34 _ _ _ (by decide)) (.refl _)))))) ?_
 exact .m [4, 5] [30, 31, 32, 33, 34, 2] [(30, 0), (31, 1), (32, 2), (33, 3), (34, 4), (2, 5)]
 exact rsi0
 rfl
 replace h := za1 h hc11
 refine .skip (.seq (.pl zS [4, 6] ?_))
 obtain rfl := sj h
 refine .ret ⟨st23 ((⟨l1, l2, l3, l4, l5⟩ : TWorld), 0), ?_, .inr rfl, retH [4, 3, 2, 1, 0] ?_ ?_⟩
 exact .m [4, 5] [25, 26, 27, 28, 29, 2] [(25, 0), (26, 1), (27, 2), (28, 3), (29, 4), (2, 5)]
 exact rsi0
 rfl
theorem zlf (a0 : TWorld) (a1 : TMove) (r : TWorld × Int) (h : zct a0 a1 = some r) : zb7 Tryz.prog 7 [.agg [.imm 1 (a0.Members.map (D.int .i64)) 4, .imm 3 (a0.Votes.map TVote.d) 4, .imm 7 (a0.Tries.map TAttempt.d) 4, .imm 10 (a0.Mail.map TMail.d) 4, .imm 2 (a0.Chosen.map TChoice.d) 4], .agg [.int .u8 a1.Kind, .int .i64 a1.Node, .int .i64 a1.At, .str a1.Value]] (.tuple [.agg [.imm 1 (r.1.Members.map (D.int .i64)) 13, .imm 3 (r.1.Votes.map TVote.d) 13, .imm 7 (r.1.Tries.map TAttempt.d) 13, .imm 10 (r.1.Mail.map TMail.d) 13, .imm 2 (r.1.Chosen.map TChoice.d) 13], .int .i64 r.2]) :=
 zg8 (zn7 (za4 (zk8 (za4 (zbw zcd rfl rfl) (za4 (zbw zly rfl rfl) (za4 (zwl zjw rfl rfl) (za4 (zbw zlz rfl rfl) (za4 (zbw zjf rfl rfl) zfi)))))) (za4 rfl zfi))) (zlh a0 a1 r h)
end Go.Proofs
end
section
namespace Go.Proofs
open Go.Tm
set_option linter.unusedVariables false
def zb2 (a1 : List TVote) : List TVote -> Nat -> Option (Bool ⊕ Unit)
 | [], n1 =>
  some (.inr ())
 | y1 :: rest1, n1 =>
  if n1 < a1.length then
  if ¬ ((y1.Promised = (a1.getD n1 default).Promised) /\ (y1.Ballot = (a1.getD n1 default).Ballot) /\ (y1.Value = (a1.getD n1 default).Value)) then
  some (.inl false)
  else
  zb2 a1 rest1 (n1 + 1) 
  else none
def zdn (a0 : List TVote) (a1 : List TVote) : Option Bool :=
 if ¬ ((a0.length : Int) = (a1.length : Int)) then
 some false
 else
 Option.bind (α := Bool ⊕ Unit) (zb2 a1 a0 0 ) fun z => match z with
 | (.inl r) => some r
 | (.inr _) =>
 some true
def zb3 (a1 : List TMail) : List TMail -> Nat -> Option (Bool ⊕ Unit)
 | [], n1 =>
  some (.inr ())
 | y1 :: rest1, n1 =>
  if n1 < a1.length then
  if ¬ ((y1.From = (a1.getD n1 default).From) /\ (y1.To = (a1.getD n1 default).To) /\ (y1.Kind = (a1.getD n1 default).Kind) /\ (y1.Group = (a1.getD n1 default).Group) /\ (y1.Slot = (a1.getD n1 default).Slot) /\ (y1.Ballot = (a1.getD n1 default).Ballot) /\ (y1.Prior = (a1.getD n1 default).Prior) /\ (y1.Value = (a1.getD n1 default).Value) /\ (y1.Id = (a1.getD n1 default).Id) /\ (y1.Time = (a1.getD n1 default).Time)) then
  some (.inl false)
  else
  zb3 a1 rest1 (n1 + 1) 
  else none
def zdo (a0 : List TMail) (a1 : List TMail) : Option Bool :=
 if ¬ ((a0.length : Int) = (a1.length : Int)) then
 some false
 else
 Option.bind (α := Bool ⊕ Unit) (zb3 a1 a0 0 ) fun z => match z with
 | (.inl r) => some r
 | (.inr _) =>
 some true
def zap (a1 : List TChoice) : List TChoice -> Nat -> Option (Bool ⊕ Unit)
 | [], n1 =>
  some (.inr ())
 | y1 :: rest1, n1 =>
  if n1 < a1.length then
  if ¬ ((y1.Node = (a1.getD n1 default).Node) /\ (y1.Value = (a1.getD n1 default).Value)) then
  some (.inl false)
  else
  zap a1 rest1 (n1 + 1) 
  else none
def zcp (a0 : List TChoice) (a1 : List TChoice) : Option Bool :=
 if ¬ ((a0.length : Int) = (a1.length : Int)) then
 some false
 else
 Option.bind (α := Bool ⊕ Unit) (zap a1 a0 0 ) fun z => match z with
 | (.inl r) => some r
 | (.inr _) =>
 some true
def za7 (a1 : List TAttempt) (a2 : TAttempt -> TAttempt -> Option Bool) : List TAttempt -> Nat -> Option (Bool ⊕ Unit)
 | [], n1 =>
  some (.inr ())
 | y1 :: rest1, n1 =>
  if n1 < a1.length then
  Option.bind (a2 (y1) (a1.getD n1 default)) fun v1 =>
  if ¬ (v1 = true) then
  some (.inl false)
  else
  za7 a1 a2 rest1 (n1 + 1) 
  else none
def zaj (a0 : List TAttempt) (a1 : List TAttempt) (a2 : TAttempt -> TAttempt -> Option Bool) : Option Bool :=
 if ¬ ((a0.length : Int) = (a1.length : Int)) then
 some false
 else
 Option.bind (α := Bool ⊕ Unit) (za7 a1 a2 a0 0 ) fun z => match z with
 | (.inl r) => some r
 | (.inr _) =>
 some true
def zhq (a0 : TWorld) (a1 : TWorld) : Option Bool :=
 Option.bind (zbr a0.Members a1.Members) fun v1 =>
 Option.bind (if v1 = true then zdn a0.Votes a1.Votes else some default) fun v2 =>
 Option.bind (if (v1 = true) /\ (v2 = true) then zaj a0.Tries a1.Tries zee else some default) fun v3 =>
 Option.bind (if ((v1 = true) /\ (v2 = true)) /\ (v3 = true) then zdo a0.Mail a1.Mail else some default) fun v4 =>
 Option.bind (if (((v1 = true) /\ (v2 = true)) /\ (v3 = true)) /\ (v4 = true) then zcp a0.Chosen a1.Chosen else some default) fun v5 =>
 some ((((v1 && v2) && v3) && v4) && v5)
end Go.Proofs
end
section
namespace Go.Proofs
open Go.Tm Go.RowKit Go.WideShapes
set_option maxRecDepth 100000
set_option maxHeartbeats 4000000
set_option linter.unusedSimpArgs false
set_option linter.unusedVariables false
@[go_sem] def st75 : St := ⟨[], [], 0⟩
@[go_sem] def st76 (a0 : List TVote) (a1 : List TVote) (n1 : Nat) : St := ⟨[(0, .imm 3 (a0.map TVote.d) 4), (1, .imm 3 (a1.map TVote.d) 4), (12, .int .i64 (a0.length : Int)), (13, .int .i64 (n1 : Int))], [], 0⟩
theorem ziz (a0 : List TVote) (a1 : List TVote) (r : Bool) (h : zdn a0 a1 = some r) : zb7 Tryz.prog 41 [.imm 3 (a0.map TVote.d) 4, .imm 3 (a1.map TVote.d) 4] (.bool r) := by
 refine za2 Tryz.tmOk 2 Tryz.func41 rfl (by decide) rfl rfl (lb rfl) ?_
 intro hwf
 unfold zdn at h
 refine .seq (.pl zS [0, 1] ?_)
 refine .seq (.seq (.pl zS [0, 1] ?_))
 refine .cd (fun hc1 => ?_) (fun hc1 => ?_)
 replace h := za0 h hc1
 refine .seq (.pl zS [] ?_)
 obtain rfl := sj h
 exact .rr
 replace h := za1 h hc1
 obtain ⟨x1, hx1, h⟩ := bind_some h
 refine .skip ?_
 refine .seqM 0 (fun (j : Unit) => st75) (fun j => x1 = (.inr j)) (lb rfl) ?_ ?_
 refine .seq (.pl zS [0, 1] ?_)
 refine .block ?_
 refine .loopG 0 (fun (j : Nat) => st76 a0 a1 j) (fun j => j <= a0.length /\ zb2 a1 (a0.drop j) j  = some x1) (fun j => a0.length - j) (0) (lb rfl) ?_ ⟨Nat.zero_le _, hx1⟩ ?_
 exact .m [0, 1, 12, 13] [] []
 rintro n1 ⟨hi1, hx1⟩
 simp only [st76]
 refine .wf 12 (.int .i64 (a0.length : Int)) rfl ?_
 intro hln1
 replace hln1 : (a0.length : Int) <= 9223372036854775807 := by simp only [wf, wfL, IntKind.max, IntKind.min, IntKind.signed, IntKind.bits, List.length_map] at hln1; first | exact hln1.2 | exact hln1.1 | (simp at hln1; omega)
 refine .seq (.pl zS [0, 1, 12, 13] ?_)
 refine .seq (.cd (fun hc2 => ?_) (fun hc2 => ?_))
 have h1 : n1 < a0.length := by simpa using hc2
 have hwn1 : wr .i64 ((n1 : Int) + 1) = ((n1 + 1 : Nat) : Int) := zbx h1 hln1
 have hpn1 : wr .i64 ((n1 : Int) - 1) = (n1 : Int) - 1 := zcm h1 hln1
 rw [List.drop_eq_getElem_cons h1, zb2] at hx1
 refine .skip (.seq (.block (.seq (.plx zS hwn1 [0, 1, 12, 13] ?_))))
 refine .seq ?_
 obtain ⟨k1, hx1⟩ := zaa hx1
 have e1 := zbj TVote.d a0 n1 h1
 have e2 := zf8 TVote.d a1 n1
 replace e2 := e2 k1
 refine .rg zS [0, 1, 5, 12, 13] ?_
 refine .rdx 6 (ai e1 (ai e2 hwn1)) ?_
 refine .rdx 3 (ai e1 (ai e2 hwn1)) ?_
 refine .nd ?_
 refine .cd (fun hc3 => ?_) (fun hc3 => ?_)
 replace hx1 := za0 hx1 hc3
 refine .seq (.plx zS hwn1 [] ?_)
 have hq := sj hx1
 subst x1
 try dsimp only at h
 obtain rfl := sj h
 exact .rr
 replace hx1 := za1 hx1 hc3
 refine .skip (.plx zS hwn1 [0, 1, 12, 13] ?_)
 refine ⟨n1 + 1, ?_, ⟨by omega, hx1⟩, by dsimp only; omega⟩
 exact .m [0, 1, 12, 13] [] []
 have h2 : n1 = a0.length := by have h2b := of_decide_eq_false hc2; omega
 rw [List.drop_of_length_le (by omega), zb2] at hx1
 refine .exit ?_
 refine ⟨_, ?_, (sj hx1).symm⟩
 exact .m [] [] []
 rintro ⟨⟩ hj1
 subst x1
 try dsimp only at h
 simp only [st75]
 refine .seq (.pl zS [] ?_)
 obtain rfl := sj h
 exact .rr
@[go_sem] def st71 : St := ⟨[], [], 0⟩
@[go_sem] def st72 (a0 : List TMail) (a1 : List TMail) (n1 : Nat) : St := ⟨[(0, .imm 10 (a0.map TMail.d) 4), (1, .imm 10 (a1.map TMail.d) 4), (12, .int .i64 (a0.length : Int)), (13, .int .i64 (n1 : Int))], [], 0⟩
theorem zj0 (a0 : List TMail) (a1 : List TMail) (r : Bool) (h : zdo a0 a1 = some r) : zb7 Tryz.prog 44 [.imm 10 (a0.map TMail.d) 4, .imm 10 (a1.map TMail.d) 4] (.bool r) := by
 refine za2 Tryz.tmOk 2 Tryz.func44 rfl (by decide) rfl rfl (lb rfl) ?_
 intro hwf
 unfold zdo at h
 refine .seq (.pl zS [0, 1] ?_)
 refine .seq (.seq (.pl zS [0, 1] ?_))
 refine .cd (fun hc1 => ?_) (fun hc1 => ?_)
 replace h := za0 h hc1
 refine .seq (.pl zS [] ?_)
 obtain rfl := sj h
 exact .rr
 replace h := za1 h hc1
 obtain ⟨x1, hx1, h⟩ := bind_some h
 refine .skip ?_
 refine .seqM 0 (fun (j : Unit) => st71) (fun j => x1 = (.inr j)) (lb rfl) ?_ ?_
 refine .seq (.pl zS [0, 1] ?_)
 refine .block ?_
 refine .loopG 0 (fun (j : Nat) => st72 a0 a1 j) (fun j => j <= a0.length /\ zb3 a1 (a0.drop j) j  = some x1) (fun j => a0.length - j) (0) (lb rfl) ?_ ⟨Nat.zero_le _, hx1⟩ ?_
 exact .m [0, 1, 12, 13] [] []
 rintro n1 ⟨hi1, hx1⟩
 simp only [st72]
 refine .wf 12 (.int .i64 (a0.length : Int)) rfl ?_
 intro hln1
 replace hln1 : (a0.length : Int) <= 9223372036854775807 := by simp only [wf, wfL, IntKind.max, IntKind.min, IntKind.signed, IntKind.bits, List.length_map] at hln1; first | exact hln1.2 | exact hln1.1 | (simp at hln1; omega)
 refine .seq (.pl zS [0, 1, 12, 13] ?_)
 refine .seq (.cd (fun hc2 => ?_) (fun hc2 => ?_))
 have h1 : n1 < a0.length := by simpa using hc2
 have hwn1 : wr .i64 ((n1 : Int) + 1) = ((n1 + 1 : Nat) : Int) := zbx h1 hln1
 have hpn1 : wr .i64 ((n1 : Int) - 1) = (n1 : Int) - 1 := zcm h1 hln1
 rw [List.drop_eq_getElem_cons h1, zb3] at hx1
 refine .skip (.seq (.block (.seq (.plx zS hwn1 [0, 1, 12, 13] ?_))))
 refine .seq ?_
 obtain ⟨k1, hx1⟩ := zaa hx1
 have e1 := zbj TMail.d a0 n1 h1
 have e2 := zf8 TMail.d a1 n1
 replace e2 := e2 k1
 refine .rg zS [0, 1, 5, 12, 13] ?_
 refine .rdx 6 (ai e1 (ai e2 hwn1)) ?_
 refine .rdx 3 (ai e1 (ai e2 hwn1)) ?_
 refine .nd ?_
 refine .cd (fun hc3 => ?_) (fun hc3 => ?_)
 replace hx1 := za0 hx1 hc3
 refine .seq (.plx zS hwn1 [] ?_)
 have hq := sj hx1
 subst x1
 try dsimp only at h
 obtain rfl := sj h
 exact .rr
 replace hx1 := za1 hx1 hc3
 refine .skip (.plx zS hwn1 [0, 1, 12, 13] ?_)
 refine ⟨n1 + 1, ?_, ⟨by omega, hx1⟩, by dsimp only; omega⟩
 exact .m [0, 1, 12, 13] [] []
 have h2 : n1 = a0.length := by have h2b := of_decide_eq_false hc2; omega
 rw [List.drop_of_length_le (by omega), zb3] at hx1
 refine .exit ?_
 refine ⟨_, ?_, (sj hx1).symm⟩
 exact .m [] [] []
 rintro ⟨⟩ hj1
 subst x1
 try dsimp only at h
 simp only [st71]
 refine .seq (.pl zS [] ?_)
 obtain rfl := sj h
 exact .rr
@[go_sem] def st69 : St := ⟨[], [], 0⟩
@[go_sem] def st70 (a0 : List TChoice) (a1 : List TChoice) (n1 : Nat) : St := ⟨[(0, .imm 2 (a0.map TChoice.d) 4), (1, .imm 2 (a1.map TChoice.d) 4), (12, .int .i64 (a0.length : Int)), (13, .int .i64 (n1 : Int))], [], 0⟩
theorem zhy (a0 : List TChoice) (a1 : List TChoice) (r : Bool) (h : zcp a0 a1 = some r) : zb7 Tryz.prog 45 [.imm 2 (a0.map TChoice.d) 4, .imm 2 (a1.map TChoice.d) 4] (.bool r) := by
 refine za2 Tryz.tmOk 2 Tryz.func45 rfl (by decide) rfl rfl (lb rfl) ?_
 intro hwf
 unfold zcp at h
 refine .seq (.pl zS [0, 1] ?_)
 refine .seq (.seq (.pl zS [0, 1] ?_))
 refine .cd (fun hc1 => ?_) (fun hc1 => ?_)
 replace h := za0 h hc1
 refine .seq (.pl zS [] ?_)
 obtain rfl := sj h
 exact .rr
 replace h := za1 h hc1
 obtain ⟨x1, hx1, h⟩ := bind_some h
 refine .skip ?_
 refine .seqM 0 (fun (j : Unit) => st69) (fun j => x1 = (.inr j)) (lb rfl) ?_ ?_
 refine .seq (.pl zS [0, 1] ?_)
 refine .block ?_
 refine .loopG 0 (fun (j : Nat) => st70 a0 a1 j) (fun j => j <= a0.length /\ zap a1 (a0.drop j) j  = some x1) (fun j => a0.length - j) (0) (lb rfl) ?_ ⟨Nat.zero_le _, hx1⟩ ?_
 exact .m [0, 1, 12, 13] [] []
 rintro n1 ⟨hi1, hx1⟩
 simp only [st70]
 refine .wf 12 (.int .i64 (a0.length : Int)) rfl ?_
 intro hln1
 replace hln1 : (a0.length : Int) <= 9223372036854775807 := by simp only [wf, wfL, IntKind.max, IntKind.min, IntKind.signed, IntKind.bits, List.length_map] at hln1; first | exact hln1.2 | exact hln1.1 | (simp at hln1; omega)
 refine .seq (.pl zS [0, 1, 12, 13] ?_)
 refine .seq (.cd (fun hc2 => ?_) (fun hc2 => ?_))
 have h1 : n1 < a0.length := by simpa using hc2
 have hwn1 : wr .i64 ((n1 : Int) + 1) = ((n1 + 1 : Nat) : Int) := zbx h1 hln1
 have hpn1 : wr .i64 ((n1 : Int) - 1) = (n1 : Int) - 1 := zcm h1 hln1
 rw [List.drop_eq_getElem_cons h1, zap] at hx1
 refine .skip (.seq (.block (.seq (.plx zS hwn1 [0, 1, 12, 13] ?_))))
 refine .seq ?_
 obtain ⟨k1, hx1⟩ := zaa hx1
 have e1 := zbj TChoice.d a0 n1 h1
 have e2 := zf8 TChoice.d a1 n1
 replace e2 := e2 k1
 refine .rg zS [0, 1, 5, 12, 13] ?_
 refine .rdx 6 (ai e1 (ai e2 hwn1)) ?_
 refine .rdx 3 (ai e1 (ai e2 hwn1)) ?_
 refine .nd ?_
 refine .cd (fun hc3 => ?_) (fun hc3 => ?_)
 replace hx1 := za0 hx1 hc3
 refine .seq (.plx zS hwn1 [] ?_)
 have hq := sj hx1
 subst x1
 try dsimp only at h
 obtain rfl := sj h
 exact .rr
 replace hx1 := za1 hx1 hc3
 refine .skip (.plx zS hwn1 [0, 1, 12, 13] ?_)
 refine ⟨n1 + 1, ?_, ⟨by omega, hx1⟩, by dsimp only; omega⟩
 exact .m [0, 1, 12, 13] [] []
 have h2 : n1 = a0.length := by have h2b := of_decide_eq_false hc2; omega
 rw [List.drop_of_length_le (by omega), zap] at hx1
 refine .exit ?_
 refine ⟨_, ?_, (sj hx1).symm⟩
 exact .m [] [] []
 rintro ⟨⟩ hj1
 subst x1
 try dsimp only at h
 simp only [st69]
 refine .seq (.pl zS [] ?_)
 obtain rfl := sj h
 exact .rr
@[go_sem] def st67 : St := ⟨[], [], 0⟩
@[go_sem] def st68 (a0 : List TAttempt) (a1 : List TAttempt) (Ka2 : Nat) (ca2 : List D) (n1 : Nat) : St := ⟨[(1, .imm 7 (a1.map TAttempt.d) 4), (2, .fn (.func Ka2) ca2), (15, .imm 7 (a0.map TAttempt.d) 4), (16, .int .i64 (a0.length : Int)), (17, .int .i64 (n1 : Int))], [], 0⟩
theorem zeq (a0 : List TAttempt) (a1 : List TAttempt) (Ka2 : Nat) (ca2 : List D) (hca2 : ∀ hp, zf3 hp ca2 = (ca2, true)) (h2a2 : ∀ hp, zfc hp ca2 = (ca2, true)) (h3a2 : ∀ hp, zk7 hp ca2 = []) (a2 : TAttempt -> TAttempt -> Option Bool) (ha2 : ∀ x0 x1 y, a2 x0 x1 = some y -> zb7 Tryz.prog Ka2 (.agg [.int .u8 x0.Phase, .int .i64 x0.Ballot, .imm 1 (x0.Members.map (D.int .i64)) 4, .str x0.Wish, .str x0.Value, .imm 3 (x0.Promises.map TPromise.d) 4, .imm 1 (x0.Accepted.map (D.int .i64)) 4] :: .agg [.int .u8 x1.Phase, .int .i64 x1.Ballot, .imm 1 (x1.Members.map (D.int .i64)) 4, .str x1.Wish, .str x1.Value, .imm 3 (x1.Promises.map TPromise.d) 4, .imm 1 (x1.Accepted.map (D.int .i64)) 4] :: ca2) (.bool y)) (r : Bool) (h : zaj a0 a1 a2 = some r) : zb7 Tryz.prog 42 [.imm 7 (a0.map TAttempt.d) 4, .imm 7 (a1.map TAttempt.d) 4, .fn (.func Ka2) ca2] (.bool r) := by
 refine za2 Tryz.tmOk 4 Tryz.func42 rfl (by decide) rfl rfl (lb rfl) ?_
 intro hwf
 unfold zaj at h
 refine .seq (.pl zS [0, 1, 2] ?_)
 refine .seq (.seq (.pl zS [0, 1, 2] ?_))
 refine .cd (fun hc1 => ?_) (fun hc1 => ?_)
 replace h := za0 h hc1
 refine .seq (.pl zS [] ?_)
 obtain rfl := sj h
 exact .rr
 ·replace h := za1 h hc1
  obtain ⟨x1, hx1, h⟩ := bind_some h
  refine .skip ?_
  refine .seqM 0 (fun (j : Unit) => st67) (fun j => x1 = (.inr j)) (lb rfl) ?_ ?_
  ·refine .seq (.pl zS [0, 1, 2] ?_)
   refine .block ?_
   refine .loopG 0 (fun (j : Nat) => st68 a0 a1 Ka2 ca2 j) (fun j => j <= a0.length /\ za7 a1 a2 (a0.drop j) j  = some x1) (fun j => a0.length - j) (0) (lb rfl) ?_ ⟨Nat.zero_le _, hx1⟩ ?_
   ·refine Goes.mv [1, 2, 15, 16, 17] [] [] ?_ (lb rfl) (lb rfl) (by first | rfl | (simp only [idsV, idsH, zer, getL, D.ids, Blk.ids, zjx, Nat.reduceBEq, cond_true, cond_false, List.append_nil, List.nil_append, List.cons_append, zgl hca2] <;> rfl))
    first | rfl | (simp only [go_sem, Nat.reduceBEq, Nat.reduceAdd, zdj hca2]; done) | (simp only [go_sem, Nat.reduceBEq, Nat.reduceAdd, zdj hca2]; rfl)
   rintro n1 ⟨hi1, hx1⟩
   simp only [st68]
   refine .wf 16 (.int .i64 (a0.length : Int)) rfl ?_
   intro hln1
   replace hln1 : (a0.length : Int) <= 9223372036854775807 := by simp only [wf, wfL, IntKind.max, IntKind.min, IntKind.signed, IntKind.bits, List.length_map] at hln1; first | exact hln1.2 | exact hln1.1 | (simp at hln1; omega)
   refine .seq (.pl zS [1, 2, 15, 16, 17] ?_)
   refine .seq (.cd (fun hc2 => ?_) (fun hc2 => ?_))
   ·have h1 : n1 < a0.length := by simpa using hc2
    have hwn1 : wr .i64 ((n1 : Int) + 1) = ((n1 + 1 : Nat) : Int) := zbx h1 hln1
    have hpn1 : wr .i64 ((n1 : Int) - 1) = (n1 : Int) - 1 := zcm h1 hln1
    rw [List.drop_eq_getElem_cons h1, za7] at hx1
    refine .skip (.seq (.block (.seq ?_)))
    have e1 := zbj TAttempt.d a0 n1 h1
    refine .plx zS (ai e1 hwn1) [1, 2, 15, 16, 17] ?_
    refine .seq ?_
    obtain ⟨k1, hx1⟩ := zaa hx1
    have e2 := zf8 TAttempt.d a1 n1
    replace e2 := e2 k1
    refine .plx zS (ai e2 hwn1) [1, 2, 7, 8, 15, 16, 17] ?_
    refine .seq ?_
    obtain ⟨v1, hv1, hx1⟩ := bind_some hx1
    refine .rg zS [1, 2, 8, 9, 15, 16, 17] ?_
    refine .rnx 3 hwn1 ?_
    refine .call (r := .bool v1) rfl rfl rfl rfl rfl (zc1 rfl (zc1 rfl (hca2 _))) (ha2 _ _ v1 hv1) ?_
    refine .rnx 1 hwn1 ?_
    refine .nn ?_
    refine .cd (fun hc3 => ?_) (fun hc3 => ?_)
    replace hx1 := za0 hx1 hc3
    refine .seq (.plx zS hwn1 [] ?_)
    have hq := sj hx1
    subst x1
    try dsimp only at h
    obtain rfl := sj h
    exact .rr
    ·replace hx1 := za1 hx1 hc3
     refine .skip (.plx zS hwn1 [1, 2, 15, 16, 17] ?_)
     refine ⟨n1 + 1, ?_, ⟨by omega, hx1⟩, by dsimp only; omega⟩
     refine Goes.mv [1, 2, 15, 16, 17] [] [] ?_ (lb rfl) (lb rfl) (by first | rfl | (simp only [idsV, idsH, zer, getL, D.ids, Blk.ids, zjx, Nat.reduceBEq, cond_true, cond_false, List.append_nil, List.nil_append, List.cons_append, zgl hca2] <;> rfl))
     first | rfl | (simp only [go_sem, Nat.reduceBEq, Nat.reduceAdd, zdj hca2]; done) | (simp only [go_sem, Nat.reduceBEq, Nat.reduceAdd, zdj hca2]; rfl)
   ·have h2 : n1 = a0.length := by have h2b := of_decide_eq_false hc2; omega
    rw [List.drop_of_length_le (by omega), za7] at hx1
    refine .exit ?_
    refine ⟨_, ?_, (sj hx1).symm⟩
    refine Goes.mv [] [] [] ?_ (lb rfl) (lb rfl) (by first | rfl | (simp only [idsV, idsH, zer, getL, D.ids, Blk.ids, zjx, Nat.reduceBEq, cond_true, cond_false, List.append_nil, List.nil_append, List.cons_append, zgl hca2] <;> rfl))
    first | rfl | (simp only [go_sem, Nat.reduceBEq, Nat.reduceAdd, zdj hca2]; done) | (simp only [go_sem, Nat.reduceBEq, Nat.reduceAdd, zdj hca2]; rfl)
  rintro ⟨⟩ hj1
  subst x1
  try dsimp only at h
  simp only [st67]
  refine .seq (.pl zS [] ?_)
  obtain rfl := sj h
  exact .rr
theorem zow (a0 : TWorld) (a1 : TWorld) (r : Bool) (h : zhq a0 a1 = some r) : zb7 Tryz.prog 12 [.agg [.imm 1 (a0.Members.map (D.int .i64)) 4, .imm 3 (a0.Votes.map TVote.d) 4, .imm 7 (a0.Tries.map TAttempt.d) 4, .imm 10 (a0.Mail.map TMail.d) 4, .imm 2 (a0.Chosen.map TChoice.d) 4], .agg [.imm 1 (a1.Members.map (D.int .i64)) 4, .imm 3 (a1.Votes.map TVote.d) 4, .imm 7 (a1.Tries.map TAttempt.d) 4, .imm 10 (a1.Mail.map TMail.d) 4, .imm 2 (a1.Chosen.map TChoice.d) 4]] (.bool r) := by
 refine za2 Tryz.tmOk 4 Tryz.func12 rfl (by decide) rfl rfl (lb rfl) ?_
 intro hwf
 unfold zhq at h
 refine .seq (.pl zS [0, 1] ?_)
 obtain ⟨v1, hv1, h⟩ := bind_some h
 obtain ⟨v2, hv2, h⟩ := bind_some h
 obtain ⟨v3, hv3, h⟩ := bind_some h
 obtain ⟨v4, hv4, h⟩ := bind_some h
 obtain ⟨v5, hv5, h⟩ := bind_some h
 refine .seq (.rg zS [2, 3] ?_)
 refine .rn 4 ?_
 refine .cl (ze3 a0.Members a1.Members v1 hv1) ?_
 refine .rn 5 ?_
 refine .gcall rfl rfl rfl rfl rfl (fun hg => ⟨[], [.imm 3 (a0.Votes.map TVote.d) 4, .imm 3 (a1.Votes.map TVote.d) 4], _, rfl, gd hg, rfl, (ziz a0.Votes a1.Votes v2 (za0 hv2 hg))⟩) ?_
 refine .rn 6 ?_
 refine .glcall (r := .bool v3) [] rfl rfl rfl rfl rfl (fun hg => ⟨[], [.imm 7 (a0.Tries.map TAttempt.d) 4, .imm 7 (a1.Tries.map TAttempt.d) 4, .fn (.func 43) []], _, rfl, gd hg, (za3 rfl (za3 rfl (za3 (znv zai) zai))), rfl, (zeq a0.Tries a1.Tries 43 [] (fun _ => rfl) (fun _ => rfl) (fun _ => rfl) zee (fun x0 x1 y hy => zk3 x0 x1 y hy) v3 (za0 hv3 hg))⟩) ?_
 refine .rn 6 ?_
 refine .gcall rfl rfl rfl rfl rfl (fun hg => ⟨[], [.imm 10 (a0.Mail.map TMail.d) 4, .imm 10 (a1.Mail.map TMail.d) 4], _, rfl, gd hg, rfl, (zj0 a0.Mail a1.Mail v4 (za0 hv4 hg))⟩) ?_
 refine .rn 6 ?_
 refine .gcall rfl rfl rfl rfl rfl (fun hg => ⟨[], [.imm 2 (a0.Chosen.map TChoice.d) 4, .imm 2 (a1.Chosen.map TChoice.d) 4], _, rfl, gd hg, rfl, (zhy a0.Chosen a1.Chosen v5 (za0 hv5 hg))⟩) ?_
 refine .rn 2 ?_
 refine .nn ?_
 obtain rfl := sj h
 exact .rr
end Go.Proofs
end
section
namespace Go.Proofs
open Go.Tm
set_option linter.unusedVariables false
def zco (a0 : TWorld) (a1 : TWorld) (a2 : TMove) : Option Bool :=
 Option.bind (zda a0) fun v1 =>
 Option.bind (if ¬ (v1 = true) then zda a1 else some default) fun v2 =>
 if ((v1 = true) \/ (v2 = true)) \/ ((a2.Value.length : Int) > 5000) then
 some true
 else
 Option.bind (zb1 a0) fun v3 =>
 Option.bind (zgk v3 a2) fun v4 =>
 Option.bind (zct a0 a2) fun v5 =>
 Option.bind (zew v3) fun v6 =>
 Option.bind (zc7 v4.1 v5.1) fun v7 =>
 Option.bind (if ¬ ((¬ (v7 = true)) \/ (¬ (v4.2 = v5.2))) then zc7 v6 a0 else some default) fun v8 =>
 Option.bind (if ¬ (((¬ (v7 = true)) \/ (¬ (v4.2 = v5.2))) \/ (¬ (v8 = true))) then zf1 v3 else some default) fun v9 =>
 Option.bind (if ¬ (((¬ (v7 = true)) \/ (¬ (v4.2 = v5.2))) \/ (¬ (v8 = true))) then zcg a0 else some default) fun v10 =>
 Option.bind (if ¬ ((((¬ (v7 = true)) \/ (¬ (v4.2 = v5.2))) \/ (¬ (v8 = true))) \/ ((!((v9 == 0) == v10)) = true)) then zhq v3 a1 else some default) fun v11 =>
 Option.bind (if ¬ ((((¬ (v7 = true)) \/ (¬ (v4.2 = v5.2))) \/ (¬ (v8 = true))) \/ ((!((v9 == 0) == v10)) = true)) then zc7 a0 a1 else some default) fun v12 =>
 if ((((¬ (v7 = true)) \/ (¬ (v4.2 = v5.2))) \/ (¬ (v8 = true))) \/ ((!((v9 == 0) == v10)) = true)) \/ ((!(v11 == v12)) = true) then
 some false
 else
 Option.bind (zc7 v3 a0) fun v13 =>
 some v13
end Go.Proofs
end
section
namespace Go.Tm
open Go.RowKit Go.WideShapes
end Go.Tm
end
section
namespace Go.Tm
open Go.RowKit Go.WideShapes
section
variable {fr : Nat} {w : World} {g : Gh} {hp : Nat -> Option Blk}
end
end Go.Tm
end
section
namespace Go.Tm
open Go.RowKit Go.WideShapes
end Go.Tm
end
section
namespace Go.Tm
open Go.RowKit Go.WideShapes
section
variable {P : Program} {tab : Nat -> TI} {lim : Nat}
end
end Go.Tm
end
