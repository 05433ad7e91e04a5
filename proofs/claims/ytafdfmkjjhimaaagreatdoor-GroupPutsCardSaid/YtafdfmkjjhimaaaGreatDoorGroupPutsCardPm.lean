/- Texts of the proof. -/
import Derived.Test.YtafdfmkjjhimaaaGreatDoorGroupPutsCardPg
import Derived.Test.YtafdfmkjjhimaaaGreatDoorGroupPutsCardPh
import Derived.Test.YtafdfmkjjhimaaaGreatDoorGroupPutsCardPi
import Derived.Test.YtafdfmkjjhimaaaGreatDoorGroupPutsCardPj
import Derived.Test.YtafdfmkjjhimaaaGreatDoorGroupPutsCardPl
namespace Go.Proofs
open Go.Tm Go.RowKit Go.WideShapes
set_option maxRecDepth 100000
set_option maxHeartbeats 4000000
set_option linter.unusedSimpArgs false
set_option linter.unusedVariables false
@[go_sem] def st57 (l1 : List (List Int)) : St := ⟨[(1, .ref 0 1 0 l1.length (some uC))], [(0, .arr 30 1 true (l1.map zbw))], 1⟩
@[go_sem] def st58 (l2 : List (List Int)) (n1 : Int) : St := ⟨[(1, .ref 0 1 0 l2.length (some uC)), (2, .int .i64 n1)], [(0, .arr 30 1 true (l2.map zbw))], 1⟩
@[go_sem] def st7 (r : (List (List Int))) : St := ⟨[(0, .ref 0 1 0 r.length (some uC))], [(0, .arr 30 1 true (r.map zbw))], 1⟩
theorem zpu (r : (List (List Int))) (h : zj8  = some r) : zby Tryz.prog 109 [] [] (.ref 0 1 0 r.length (some uC)) [(0, some (.arr 30 1 true (r.map zbw)))] (0, 6) := by
 refine zcu Tryz.func109 ?_
 intro hwf
 unfold zj8 at h
 refine .ends 0 (za4 _) ?_
 refine .sp [] ?_
 refine .sp [] ?_
 obtain ⟨x1, hx1, h⟩ := za2 h
 refine .seqM 0 (fun (j : (List (List Int))) => st57 j) (fun j => x1 = j) (lb rfl) ?_ ?_
 refine .sp [1] ?_
 refine .block ?_
 refine .loopG 0 (fun (j : Nat × (List (List Int)) × Int) => st58 j.2.1 j.2.2) (fun j => zen j.1 j.2.1 j.2.2 = some x1) (fun j => j.1) (5, [], 0) (lb rfl) ?_ hx1 ?_
 refine .n0 1 30 ?_
 refine .w0 1 0 1 ?_
 exact .m [1, 2] [0] []
 rintro ⟨fu1, l2, n1⟩ hx1
 simp only [st58]
 try simp only at hx1
 obtain ⟨fu1, rfl⟩ : ∃ k, fu1 = k + 1 := by cases fu1 with | zero => (rw [zen] at hx1; cases hx1) | succ k => exact ⟨k, rfl⟩
 rw [zen] at hx1
 refine .sp [1, 2] ?_
 refine .seq (.cd (fun hc1 => ?_) (fun hc1 => ?_))
 replace hx1 := zaf hx1 hc1
 refine .skip (.seq (.block ?_))
 obtain ⟨k1, hx1⟩ := zb0 hx1
 refine .pl zS [1, 2] ?_
 refine .goes (.givl 3 (l2.map zbw ++ [.ref 1 1 0 8 (some 8)]) ((l2 ++ [((List.replicate 8 0).take 8)]).map zbw) [3] rfl rfl (by rw [List.map_append]; exact zyt (zyr (fun _ => rfl) _) (zaa (zcm zd1 rfl rfl) zcd)) (zru _ (fun _ => rfl) _) (by intro i hi; simp only [zrv, zru (f := zbw) (hf := fun _ => rfl), D.idsL, D.ids, zai, zag, List.mem_singleton] at hi; subst hi; rfl) .refl) ?_
 refine .pl zS [1, 2] ?_
 refine ⟨(fu1, _, _), ?_, hx1, by dsimp only; omega⟩
 exact .m [1, 2] [3] [(3, 0)]
 replace hx1 := zao hx1 hc1
 refine .exit ?_
 refine ⟨_, ?_, (sj hx1).symm⟩
 exact .m [1] [0] []
 rintro l1 hj1
 subst x1
 try dsimp only at h
 simp only [st57]
 refine .sp [1] ?_
 obtain rfl := sj h
 refine .ret ⟨st7 l1, ?_, .inr rfl, retH [0] ?_ ?_⟩
 exact .m [0] [0] []
 exact rsi0
 rfl
theorem zpr (r : (List (List Int))) (h : zj8  = some r) : zb9 Tryz.prog 109 [] (.imm 1 (r.map dL_inti64) 13) :=
 ze7 (zeb zcv rfl rfl) (zpu  r h)
@[go_sem] def ya6k (v1 : List (List Int)) (l1 : List TTopic) : St := ⟨[(0, .ptr 0 0), (1, .ptr 1 0)], [(0, .box [.imm 0 [] 0, .imm 0 [] 0]), (1, .box [.ref 2 4 0 l1.length (some uC), .imm 1 (v1.map dL_inti64) 13]), (2, .arr 94 4 true (l1.map TTopic.n))], 3⟩
@[go_sem] def ya6j (v1 : List (List Int)) (l2 : List TTopic) (n1 : Int) : St := ⟨[(0, .ptr 0 0), (1, .ptr 1 0), (4, .int .i64 n1)], [(0, .box [.imm 0 [] 0, .imm 0 [] 0]), (1, .box [.ref 2 4 0 l2.length (some uC), .imm 1 (v1.map dL_inti64) 13]), (2, .arr 94 4 true (l2.map TTopic.n))], 3⟩
@[go_sem] def st36 (r : TStream) : St := ⟨[(0, .ptr 1 0)], [(0, .arr 94 4 true (r.Topics.map TTopic.n)), (1, .box [.ref 0 4 0 r.Topics.length (some uC), .imm 1 (r.Commits.map dL_inti64) 13])], 2⟩
theorem zqg (r : TStream) (h : zk9  = some r) : zby Tryz.prog 51 [] [] (.agg [.ref 0 4 0 r.Topics.length (some uC), .imm 1 (r.Commits.map dL_inti64) 13]) [(0, some (.arr 94 4 true (r.Topics.map TTopic.n)))] (0, 7) := by
 refine zcu Tryz.func51 ?_
 intro hwf
 unfold zk9 at h
 refine .ends 0 (za4 _) ?_
 refine .sp [] ?_
 obtain ⟨v1, hv1, h⟩ := za2 h
 refine .sr [0] ?_
 refine .cl (zpr  v1 hv1) ?_
 refine .rn 3 ?_
 refine .nn ?_
 obtain ⟨x1, hx1, h⟩ := za2 h
 refine .seqM 2 (fun (j : (List TTopic)) => ya6k v1 j) (fun j => x1 = j) (lb rfl) ?_ ?_
 refine .sp [0, 1] ?_
 refine .block ?_
 refine .loopG 2 (fun (j : Nat × (List TTopic) × Int) => ya6j v1 j.2.1 j.2.2) (fun j => zf1 j.1 j.2.1 j.2.2 = some x1) (fun j => j.1) (5, [], 0) (lb rfl) ?_ hx1 ?_
 refine .n0 4 94 ?_
 refine .boxs 1 _ [.ref 2 4 0 0 (some uC), .imm 1 (v1.map dL_inti64) 13] rfl (.cons (.own0 2 _ _ _ (by decide)) (.refl _)) ?_
 exact .m [0, 1, 4] [0, 1, 2] []
 rintro ⟨fu1, l2, n1⟩ hx1
 simp only [ya6j]
 try simp only at hx1
 obtain ⟨fu1, rfl⟩ : ∃ k, fu1 = k + 1 := by cases fu1 with | zero => (rw [zf1] at hx1; cases hx1) | succ k => exact ⟨k, rfl⟩
 rw [zf1] at hx1
 refine .sp [0, 1, 4] ?_
 refine .seq (.cd (fun hc1 => ?_) (fun hc1 => ?_))
 replace hx1 := zaf hx1 hc1
 refine .skip (.seq (.block ?_))
 obtain ⟨v2, hv2, hx1⟩ := za2 hx1
 obtain ⟨k1, hx1⟩ := zb0 hx1
 refine .rg zS [0, 1, 4] ?_
 refine .rd 2 ?_
 refine .cl (zsk  v2 hv2) ?_
 refine .rd 4 ?_
 refine .nd ?_
 refine .pl zS [0, 1, 4] ?_
 refine ⟨(fu1, _, _), ?_, hx1, by dsimp only; omega⟩
 exact .m [0, 1, 4] [0, 1, 4] [(4, 2)]
 replace hx1 := zao hx1 hc1
 refine .exit ?_
 refine ⟨_, ?_, (sj hx1).symm⟩
 exact .m [0, 1] [0, 1, 2] []
 rintro l1 hj1
 subst x1
 try dsimp only at h
 simp only [ya6k]
 refine .sp [0, 1] ?_
 obtain rfl := sj h
 refine .ret ⟨st36 (⟨l1, v1⟩ : TStream), ?_, .inr rfl, retH [0] ?_ ?_⟩
 exact .m [0] [2, 0] [(2, 0), (0, 1)]
 exact rsi0
 rfl
theorem zq9 (r : TStream) (h : zk9  = some r) : zb9 Tryz.prog 51 [] (.agg [.imm 4 (r.Topics.map TTopic.d) 13, .imm 1 (r.Commits.map dL_inti64) 13]) :=
 ze7 (zhs (zaa (zeb zgk rfl rfl) (zaa rfl zcd))) (zqg  r h)
@[go_sem] def st10 (r : THome) : St := ⟨[(0, .ptr 1 0)], [(0, .arr 3 1 true (r.Last.map (D.int .i64))), (1, .box [.int .i64 r.Skeen.Clock, .imm 7 (r.Skeen.Waits.map TWait.d) 13, .imm 2 (r.Skeen.Done.map TStamp.d) 13, .imm 4 (r.Stream.Topics.map TTopic.d) 13, .imm 1 (r.Stream.Commits.map dL_inti64) 13, .ref 0 1 0 r.Last.length (some uC)])], 2⟩
theorem zmr (r : THome) (h : zfu  = some r) : zby Tryz.prog 19 [] [] (.agg [.int .i64 r.Skeen.Clock, .imm 7 (r.Skeen.Waits.map TWait.d) 13, .imm 2 (r.Skeen.Done.map TStamp.d) 13, .imm 4 (r.Stream.Topics.map TTopic.d) 13, .imm 1 (r.Stream.Commits.map dL_inti64) 13, .ref 0 1 0 r.Last.length (some uC)]) [(0, some (.arr 3 1 true (r.Last.map (D.int .i64))))] (0, 4) := by
 refine zcu Tryz.func19 ?_
 intro hwf
 unfold zfu at h
 refine .ends 0 (za4 _) ?_
 refine .sp [] ?_
 obtain ⟨v1, hv1, h⟩ := za2 h
 obtain ⟨v2, hv2, h⟩ := za2 h
 refine .sr [0] ?_
 refine .cl (zmk  v1 hv1) ?_
 refine .rd 0 ?_
 refine .cl (zq9  v2 hv2) ?_
 refine .rd 3 ?_
 refine .nd ?_
 obtain rfl := sj h
 refine .ret ⟨st10 (⟨v1, v2, ((List.replicate 6 0).take 6)⟩ : THome), ?_, .inr rfl, retH [0] ?_ ?_⟩
 refine .boxs 0 _ [.int .i64 v1.Clock, .imm 7 (v1.Waits.map TWait.d) 13, .imm 2 (v1.Done.map TStamp.d) 13, .imm 4 (v2.Topics.map TTopic.d) 13, .imm 1 (v2.Commits.map dL_inti64) 13, .ref 1 1 0 6 (some uC)] rfl (.keep (.keep (.keep (.keep (.keep (.cons (.unk _ _ _ _ _) (.refl _))))))) ?_
 exact .m [0] [1, 0] [(1, 0), (0, 1)]
 exact rsi0
 rfl
@[go_sem] def st44 (r : TCommand) : St := ⟨[(2, .ptr 0 0)], [(0, .box [.int .u8 r.Kind, .int .i64 r.Message.Id, .imm 1 (r.Message.Groups.map (D.int .i64)) 13, .int .i64 r.Message.Topic, .str r.Message.Key, .str r.Message.Body, .int .i64 r.Id, .int .i64 r.Time, .imm 1 (r.Members.map (D.int .i64)) 13, .int .i64 r.Topic, .int .i64 r.Who, .int .i64 r.N])], 1⟩
theorem zk0 (a0 : Int) (r : TCommand) (h : zcx a0 = some r) : zby Tryz.prog 53 [.int .i64 a0] [] (.agg [.int .u8 r.Kind, .int .i64 r.Message.Id, .imm 1 (r.Message.Groups.map (D.int .i64)) 13, .int .i64 r.Message.Topic, .str r.Message.Key, .str r.Message.Body, .int .i64 r.Id, .int .i64 r.Time, .imm 1 (r.Members.map (D.int .i64)) 13, .int .i64 r.Topic, .int .i64 r.Who, .int .i64 r.N]) [] (0, 3) := by
 refine zcu Tryz.func53 ?_
 intro hwf
 unfold zcx at h
 refine .ends 0 (za4 _) ?_
 refine .sp [0] ?_
 refine .sp [0, 2] ?_
 obtain rfl := sj h
 refine .ret ⟨st44 (⟨4, (⟨0, [], 0, [], []⟩ : TMessage), a0, 0, [], 0, 0, 0⟩ : TCommand), ?_, .inr rfl, retH [] ?_ ?_⟩
 refine .boxs 0 _ [.int .u8 4, .int .i64 0, .imm 1 [] 13, .int .i64 0, .str [], .str [], .int .i64 a0, .int .i64 0, .imm 1 [] 13, .int .i64 0, .int .i64 0, .int .i64 0] rfl (.keep (.keep (.cons (.nil12 _ _ 0 (by decide)) (.keep (.keep (.keep (.keep (.keep (.cons (.nil12 _ _ 0 (by decide)) (.refl _)))))))))) ?_
 exact .m [2] [0] []
 exact rsi0
 rfl
theorem zeo (a0 : Int) (r : TCommand) (h : zcx a0 = some r) : zb9 Tryz.prog 53 [.int .i64 a0] (.agg [.int .u8 r.Kind, .int .i64 r.Message.Id, .imm 1 (r.Message.Groups.map (D.int .i64)) 13, .int .i64 r.Message.Topic, .str r.Message.Key, .str r.Message.Body, .int .i64 r.Id, .int .i64 r.Time, .imm 1 (r.Members.map (D.int .i64)) 13, .int .i64 r.Topic, .int .i64 r.Who, .int .i64 r.N]) :=
 ze7 (zhs (zaa rfl (zaa rfl (zaa rfl (zaa rfl (zaa rfl (zaa rfl (zaa rfl (zaa rfl (zaa rfl (zaa rfl (zaa rfl (zaa rfl zcd))))))))))))) (zk0 a0 r h)
theorem zk3 (r : Bool) (h : zep  = some r) (hr : r = true) : zb9 Tryz.prog 22 [] (.bool r) := by
 refine zbt 313 Tryz.func22 ?_
 intro hwf
 unfold zep at h
 refine .sp [] ?_
 obtain ⟨v1, hv1, h⟩ := za2 h
 obtain ⟨v2, hv2, h⟩ := za2 h
 obtain ⟨v3, hv3, h⟩ := za2 h
 refine .sr [] ?_
 refine .ncall (r := .agg [.int .i64 v1.Skeen.Clock, .imm 7 (v1.Skeen.Waits.map TWait.d) 13, .imm 2 (v1.Skeen.Done.map TStamp.d) 13, .imm 4 (v1.Stream.Topics.map TTopic.d) 13, .imm 1 (v1.Stream.Commits.map dL_inti64) 13, .ref 4 1 0 v1.Last.length (some uC)]) (eff := [(4, some (.arr 3 1 true (v1.Last.map (D.int .i64))))]) (nw := (4, 8)) [] rfl rfl rfl rfl rfl zap rfl (zdt 4 (lb rfl) (zmr  v1 hv1)) (zc4 rfl rfl (ze4 zd1 _ _ _) ze8) (by intro i hi; simp [D.ids, D.idsL] at hi <;> omega) rfl ⟨lb rfl, lb rfl⟩ ?_
 refine .rn 0 ?_
 refine .cl (zeo 5 v2 hv2) ?_
 refine .rn 0 ?_
 refine .ncall (r := .tuple [.agg [.int .i64 v3.1.Skeen.Clock, .imm 7 (v3.1.Skeen.Waits.map TWait.d) 13, .imm 2 (v3.1.Skeen.Done.map TStamp.d) 13, .imm 4 (v3.1.Stream.Topics.map TTopic.d) 13, .imm 1 (v3.1.Stream.Commits.map dL_inti64) 13, .ref 77 1 0 v3.1.Last.length (some uC)], .ref 78 3 0 v3.2.1.length (some uC), .int .i64 v3.2.2]) (eff := [(77, some (.arr 3 1 true (v3.1.Last.map (D.int .i64)))), (78, some (.arr 68 3 true (v3.2.1.map TTook.d)))]) (nw := (77, 154)) [] rfl rfl rfl rfl rfl (za9 (zhr (zj9 (za8 rfl (za8 rfl (za8 rfl (za8 rfl (za8 rfl (za8 (zfv (zlp .i64) (by first | rfl | (simp only [go_sem, Nat.reduceBEq]; rfl)) (by first | rfl | (simp; done) | (simp <;> omega))) zeg))))))) trivial) (za9 rfl (za9 rfl zap))) rfl (zdt 77 (lb rfl) (zqs (WkL.cons (Wk.agg (WkL.cons (Wk.refl _) (WkL.cons Wk.iz (WkL.cons Wk.iz (WkL.cons Wk.iz (WkL.cons Wk.iz (WkL.cons (Wk.refl _) (WkL.refl _)))))))) (WkL.cons (Wk.refl _) (WkL.cons (Wk.agg (WkL.cons (Wk.refl _) (WkL.cons (Wk.refl _) (WkL.cons Wk.iz (WkL.cons (Wk.refl _) (WkL.cons (Wk.refl _) (WkL.cons (Wk.refl _) (WkL.cons (Wk.refl _) (WkL.cons (Wk.refl _) (WkL.cons Wk.iz (WkL.cons (Wk.refl _) (WkL.cons (Wk.refl _) (WkL.cons (Wk.refl _) (WkL.refl _)))))))))))))) (WkL.refl _)))) (zie v1 0 v2 v3 hv3))) (zc4 rfl rfl (ze4 zd1 _ _ _) (zc4 rfl rfl (ze4 zkp _ _ _) ze8)) (by intro i hi; simp [D.ids, D.idsL] at hi <;> omega) rfl ⟨lb rfl, lb rfl⟩ ?_
 refine .rn 8 ?_
 refine .nn ?_
 obtain ⟨v4, hv4, h⟩ := za2 h
 obtain ⟨v5, hv5, h⟩ := za2 h
 refine .sr [1, 3] ?_
 refine .rd 1 ?_
 refine .cl (zeo 5 v4 hv4) ?_
 refine .rd 0 ?_
 refine .ncall (r := .tuple [.agg [.int .i64 v5.1.Skeen.Clock, .imm 7 (v5.1.Skeen.Waits.map TWait.d) 13, .imm 2 (v5.1.Skeen.Done.map TStamp.d) 13, .imm 4 (v5.1.Stream.Topics.map TTopic.d) 13, .imm 1 (v5.1.Stream.Commits.map dL_inti64) 13, .ref 155 1 0 v5.1.Last.length (some uC)], .ref 156 3 0 v5.2.1.length (some uC), .int .i64 v5.2.2]) (eff := [(155, some (.arr 3 1 true (v5.1.Last.map (D.int .i64)))), (156, some (.arr 68 3 true (v5.2.1.map TTook.d)))]) (nw := (155, 232)) [] rfl rfl rfl rfl rfl (za9 (zhr (zj9 (za8 rfl (za8 rfl (za8 rfl (za8 rfl (za8 rfl (za8 (zfv (zlp .i64) (by first | rfl | (simp only [go_sem, Nat.reduceBEq]; rfl)) (by first | rfl | (simp; done) | (simp <;> omega))) zeg))))))) trivial) (za9 rfl (za9 rfl zap))) rfl (zdt 155 (lb rfl) (zqs (WkL.cons (Wk.agg (WkL.cons (Wk.refl _) (WkL.cons Wk.iz (WkL.cons Wk.iz (WkL.cons Wk.iz (WkL.cons Wk.iz (WkL.cons (Wk.refl _) (WkL.refl _)))))))) (WkL.cons (Wk.refl _) (WkL.cons (Wk.agg (WkL.cons (Wk.refl _) (WkL.cons (Wk.refl _) (WkL.cons Wk.iz (WkL.cons (Wk.refl _) (WkL.cons (Wk.refl _) (WkL.cons (Wk.refl _) (WkL.cons (Wk.refl _) (WkL.cons (Wk.refl _) (WkL.cons Wk.iz (WkL.cons (Wk.refl _) (WkL.cons (Wk.refl _) (WkL.cons (Wk.refl _) (WkL.refl _)))))))))))))) (WkL.refl _)))) (zie v3.1 0 v4 v5 hv5))) (zc4 rfl rfl (ze4 zd1 _ _ _) (zc4 rfl rfl (ze4 zkp _ _ _) ze8)) (by intro i hi; simp [D.ids, D.idsL] at hi <;> omega) rfl ⟨lb rfl, lb rfl⟩ ?_
 refine .rd 8 ?_
 refine .nd ?_
 obtain ⟨v6, hv6, h⟩ := za2 h
 obtain ⟨v7, hv7, h⟩ := za2 h
 refine .sr [1, 3, 4, 6] ?_
 refine .rd 1 ?_
 refine .cl (zeo 4 v6 hv6) ?_
 refine .rd 0 ?_
 refine .ncall (r := .tuple [.agg [.int .i64 v7.1.Skeen.Clock, .imm 7 (v7.1.Skeen.Waits.map TWait.d) 13, .imm 2 (v7.1.Skeen.Done.map TStamp.d) 13, .imm 4 (v7.1.Stream.Topics.map TTopic.d) 13, .imm 1 (v7.1.Stream.Commits.map dL_inti64) 13, .ref 233 1 0 v7.1.Last.length (some uC)], .ref 234 3 0 v7.2.1.length (some uC), .int .i64 v7.2.2]) (eff := [(233, some (.arr 3 1 true (v7.1.Last.map (D.int .i64)))), (234, some (.arr 68 3 true (v7.2.1.map TTook.d)))]) (nw := (233, 310)) [] rfl rfl rfl rfl rfl (za9 (zhr (zj9 (za8 rfl (za8 rfl (za8 rfl (za8 rfl (za8 rfl (za8 (zfv (zlp .i64) (by first | rfl | (simp only [go_sem, Nat.reduceBEq]; rfl)) (by first | rfl | (simp; done) | (simp <;> omega))) zeg))))))) trivial) (za9 rfl (za9 rfl zap))) rfl (zdt 233 (lb rfl) (zqs (WkL.cons (Wk.agg (WkL.cons (Wk.refl _) (WkL.cons Wk.iz (WkL.cons Wk.iz (WkL.cons Wk.iz (WkL.cons Wk.iz (WkL.cons (Wk.refl _) (WkL.refl _)))))))) (WkL.cons (Wk.refl _) (WkL.cons (Wk.agg (WkL.cons (Wk.refl _) (WkL.cons (Wk.refl _) (WkL.cons Wk.iz (WkL.cons (Wk.refl _) (WkL.cons (Wk.refl _) (WkL.cons (Wk.refl _) (WkL.cons (Wk.refl _) (WkL.cons (Wk.refl _) (WkL.cons Wk.iz (WkL.cons (Wk.refl _) (WkL.cons (Wk.refl _) (WkL.cons (Wk.refl _) (WkL.refl _)))))))))))))) (WkL.refl _)))) (zie v3.1 0 v6 v7 hv7))) (zc4 rfl rfl (ze4 zd1 _ _ _) (zc4 rfl rfl (ze4 zkp _ _ _) ze8)) (by intro i hi; simp [D.ids, D.idsL] at hi <;> omega) rfl ⟨lb rfl, lb rfl⟩ ?_
 refine .rd 8 ?_
 refine .nd ?_
 obtain ⟨k1, h⟩ := zb0 h
 obtain ⟨k2, h⟩ := zb0 h
 obtain ⟨v8, hv8, h⟩ := za2 h
 obtain ⟨v9, hv9, h⟩ := za2 h
 refine .seqM 311 (fun (_ : Unit) => ⟨[(0, .bool ((((((((v3.2.2 == 0) && (v5.2.2 == 0)) && (v7.2.2 == 0)) && ((v3.1.Last.length : Int) == 6)) && ((v3.1.Last.getD 0 default) == 6)) && ((v3.1.Last.getD 1 default) == 0)) && v8) && v9))], [], 311⟩) (fun _ => True) (lb rfl) ?_ (fun _ _ => ?_)
 have hall := sj h
 rw [hr] at hall
 simp only [za0, zas, beq_iff_eq, decide_eq_true_eq, Bool.not_eq_true'] at hall
 have hgd : (((v3.2.2 = 0) /\ (v5.2.2 = 0)) /\ (v7.2.2 = 0)) /\ ((v3.1.Last.length : Int) = 6) := by first | (simp only [hall]; done) | (simp [hall]; done) | grind
 have eg10 := ai (zex (D.int .i64) v3.1.Last 0 (k1 hgd)) (zyd (D.int .i64) v3.1.Last 0 0 rfl (k1 hgd))
 have hgd : ((((v3.2.2 = 0) /\ (v5.2.2 = 0)) /\ (v7.2.2 = 0)) /\ ((v3.1.Last.length : Int) = 6)) /\ ((v3.1.Last.getD 0 default) = 6) := by first | (simp only [hall]; done) | (simp [hall]; done) | grind
 have eg20 := ai (zex (D.int .i64) v3.1.Last 1 (k2 hgd)) (zyd (D.int .i64) v3.1.Last 1 1 rfl (k2 hgd))
 refine .rg zS [1, 3, 4, 6, 7, 9] ?_
 refine .rnx 6 (ai eg10 eg20) ?_
 refine .rnx 6 (ai eg10 eg20) ?_
 refine .rnx 6 (ai eg10 eg20) ?_
 refine .rnx 6 (ai eg10 eg20) ?_
 refine .rnx 6 (ai eg10 eg20) ?_
 refine .rnx 3 (ai eg10 eg20) ?_
 refine .glcall (r := .bool v8) [] rfl rfl rfl rfl rfl (fun hg => ⟨[], [.agg [.int .i64 v3.1.Skeen.Clock, .imm 7 (v3.1.Skeen.Waits.map TWait.d) 13, .imm 2 (v3.1.Skeen.Done.map TStamp.d) 13, .imm 4 (v3.1.Stream.Topics.map TTopic.d) 13, .imm 1 (v3.1.Stream.Commits.map dL_inti64) 13, .ref 77 1 0 v3.1.Last.length (some uC)], .agg [.int .i64 v5.1.Skeen.Clock, .imm 7 (v5.1.Skeen.Waits.map TWait.d) 13, .imm 2 (v5.1.Skeen.Done.map TStamp.d) 13, .imm 4 (v5.1.Stream.Topics.map TTopic.d) 13, .imm 1 (v5.1.Stream.Commits.map dL_inti64) 13, .ref 155 1 0 v5.1.Last.length (some uC)]], _, rfl, gd hg, (za9 (zhr (zj9 (za8 rfl (za8 rfl (za8 rfl (za8 rfl (za8 rfl (za8 (zfv (zlp .i64) (by first | rfl | (simp only [go_sem, Nat.reduceBEq]; rfl)) (by first | rfl | (simp; done) | (simp <;> omega))) zeg))))))) trivial) (za9 (zhr (zj9 (za8 rfl (za8 rfl (za8 rfl (za8 rfl (za8 rfl (za8 (zfv (zlp .i64) (by first | rfl | (simp only [go_sem, Nat.reduceBEq]; rfl)) (by first | rfl | (simp; done) | (simp <;> omega))) zeg))))))) trivial) zap)), rfl, (zii (WkL.cons (Wk.agg (WkL.cons (Wk.refl _) (WkL.cons Wk.iz (WkL.cons Wk.iz (WkL.cons Wk.iz (WkL.cons Wk.iz (WkL.cons (Wk.refl _) (WkL.refl _)))))))) (WkL.cons (Wk.agg (WkL.cons (Wk.refl _) (WkL.cons Wk.iz (WkL.cons Wk.iz (WkL.cons Wk.iz (WkL.cons Wk.iz (WkL.cons (Wk.refl _) (WkL.refl _)))))))) (WkL.refl _))) (zls v3.1 v5.1 v8 (zaf hv8 hg)))⟩) ?_
 refine .rnx 4 (ai eg10 eg20) ?_
 refine .glcall (r := .bool v9) [] rfl rfl rfl rfl rfl (fun hg => ⟨[], [.agg [.int .i64 v3.1.Skeen.Clock, .imm 7 (v3.1.Skeen.Waits.map TWait.d) 13, .imm 2 (v3.1.Skeen.Done.map TStamp.d) 13, .imm 4 (v3.1.Stream.Topics.map TTopic.d) 13, .imm 1 (v3.1.Stream.Commits.map dL_inti64) 13, .ref 77 1 0 v3.1.Last.length (some uC)], .agg [.int .i64 v7.1.Skeen.Clock, .imm 7 (v7.1.Skeen.Waits.map TWait.d) 13, .imm 2 (v7.1.Skeen.Done.map TStamp.d) 13, .imm 4 (v7.1.Stream.Topics.map TTopic.d) 13, .imm 1 (v7.1.Stream.Commits.map dL_inti64) 13, .ref 233 1 0 v7.1.Last.length (some uC)]], _, rfl, gd hg, (za9 (zhr (zj9 (za8 rfl (za8 rfl (za8 rfl (za8 rfl (za8 rfl (za8 (zfv (zlp .i64) (by first | rfl | (simp only [go_sem, Nat.reduceBEq]; rfl)) (by first | rfl | (simp; done) | (simp <;> omega))) zeg))))))) trivial) (za9 (zhr (zj9 (za8 rfl (za8 rfl (za8 rfl (za8 rfl (za8 rfl (za8 (zfv (zlp .i64) (by first | rfl | (simp only [go_sem, Nat.reduceBEq]; rfl)) (by first | rfl | (simp; done) | (simp <;> omega))) zeg))))))) trivial) zap)), rfl, (zii (WkL.cons (Wk.agg (WkL.cons (Wk.refl _) (WkL.cons Wk.iz (WkL.cons Wk.iz (WkL.cons Wk.iz (WkL.cons Wk.iz (WkL.cons (Wk.refl _) (WkL.refl _)))))))) (WkL.cons (Wk.agg (WkL.cons (Wk.refl _) (WkL.cons Wk.iz (WkL.cons Wk.iz (WkL.cons Wk.iz (WkL.cons Wk.iz (WkL.cons (Wk.refl _) (WkL.refl _)))))))) (WkL.refl _))) (zls v3.1 v7.1 v9 (zaf hv9 hg)))⟩) ?_
 refine .rnx 2 (ai eg10 eg20) ?_
 refine .nn ?_
 refine ⟨(), ?_, trivial⟩
 exact .m [0] [] []
 have hq := sj h
 clear hr
 subst r
 exact .rr
end Go.Proofs
namespace Go.Proofs
open Go.Tm
set_option linter.unusedVariables false
def ze6 : List Int -> Nat -> Int -> Option ((Int × Int × Int) ⊕ Unit)
 | [], n2, n1 =>
  some (.inr ())
 | y1 :: rest1, n2, n1 =>
  if (n2 : Int) > 5 then
  some (.inr ())
  else
  if 0 <= (wr .i64 (7 * (n2 : Int))) then
  if y1 > 127 then
  ze6 rest1 (n2 + 1) (bitw .or .i64 n1 (shw true .i64 (wr .i64 (bitw .and .u8 (y1) 127)) (wr .i64 (7 * (n2 : Int)))))
  else
  Option.bind (if ¬ ((y1 = 0) /\ ((n2 : Int) > 0)) then zoe (bitw .or .i64 n1 (shw true .i64 (wr .i64 (bitw .and .u8 (y1) 127)) (wr .i64 (7 * (n2 : Int))))) else some default) fun v1 =>
  if ((y1 = 0) /\ ((n2 : Int) > 0)) \/ (¬ (v1 = true)) then
  some (.inr ())
  else
  some (.inl ((bitw .or .i64 n1 (shw true .i64 (wr .i64 (bitw .and .u8 (y1) 127)) (wr .i64 (7 * (n2 : Int))))), (wr .i64 ((n2 : Int) + 1)), 0))
  else none
def zin (a0 : List Int) : Option (Int × Int × Int) :=
 Option.bind (α := (Int × Int × Int) ⊕ Unit) (ze6 a0 0 0) fun z => match z with
 | (.inl r) => some r
 | (.inr _) =>
 some (0, 0, 8)
def zhk (a0 : List Int) : Option ((List UInt8) × Int × Int) :=
 Option.bind (zin a0) fun v1 =>
 if ((¬ (v1.2.2 = 0)) \/ (v1.1 > 4096)) \/ (v1.1 > (wr .i64 ((a0.length : Int) - v1.2.1))) then
 some ([], 0, 8)
 else
 if (0 <= v1.2.1 /\ v1.2.1 <= (wr .i64 (v1.2.1 + v1.1)) /\ (wr .i64 (v1.2.1 + v1.1)) <= (a0.length : Int)) then
 some ((zwj ((a0.take (wr .i64 (v1.2.1 + v1.1)).toNat).drop v1.2.1.toNat)), (wr .i64 (v1.2.1 + v1.1)), 0)
 else none
def zcs (a0 : List Int) (v1 : Int × Int × Int) : Nat -> (List Int) -> Int -> Int -> Option (((List Int) × Int × Int) ⊕ ((List Int) × Int))
 | 0, _, _, _ => none
 | fu1 + 1, l2, n2, n3 =>
  if n3 < v1.1 then
  if (0 <= n2 /\ n2 <= (a0.length : Int)) then
  Option.bind (zin (a0.drop n2.toNat)) fun v2 =>
  if ¬ (v2.2.2 = 0) then
  some (.inl ([], 0, v2.2.2))
  else
  if l2.length + [v2.1].length < 1000000 then
  zcs a0 v1 fu1 (l2 ++ [v2.1]) (wr .i64 (n2 + v2.2.1)) (wr .i64 (n3 + 1))
  else none
  else none
  else
  some (.inr (l2, n2))
def zhl (a0 : List Int) (a1 : Int) : Option ((List Int) × Int × Int) :=
 if (a1 < 0) \/ (a1 > 4096) then
 some ([], 0, 2)
 else
 Option.bind (zin a0) fun v1 =>
 if (¬ (v1.2.2 = 0)) \/ (v1.1 > a1) then
 some ([], 0, 8)
 else
 Option.bind (α := ((List Int) × Int × Int) ⊕ ((List Int) × Int)) (zcs a0 v1 (v1.1.toNat + 1) [] v1.2.1 0) fun z => match z with
 | (.inl r) => some r
 | (.inr (l1, n1)) =>
 some (l1, n1, 0)
def zct (a0 : Tcommand_reader) (a1 : Int) (a2 : Int) : Option Tcommand_reader :=
 if (0 <= (min a1 (a0.fB.length : Int)) /\ (min a1 (a0.fB.length : Int)) <= (a0.fB.length : Int)) then
 some (⟨(a0.fB.drop (min a1 (a0.fB.length : Int)).toNat), (a0.fOk && (a2 == 0))⟩ : Tcommand_reader)
 else none
def zay (a0 : Tcommand_reader) : Option (Int × Tcommand_reader) :=
 Option.bind (zin a0.fB) fun v1 =>
 Option.bind (zct a0 v1.2.1 v1.2.2) fun v2 =>
 some (v1.1, v2)
def zde (a0 : Tcommand_reader) : Option ((List UInt8) × Tcommand_reader) :=
 Option.bind (zhk a0.fB) fun v1 =>
 Option.bind (zct a0 v1.2.1 v1.2.2) fun v2 =>
 some (v1.1, v2)
def zdf (a0 : Tcommand_reader) (a1 : Int) : Option ((List Int) × Tcommand_reader) :=
 Option.bind (zhl a0.fB a1) fun v1 =>
 Option.bind (zct a0 v1.2.1 v1.2.2) fun v2 =>
 some (v1.1, v2)
def zdg (a0 : Tcommand_reader) : Option (TCommand × Tcommand_reader) :=
 Option.bind (zay a0) fun v1 =>
 Option.bind (α := (List Int) × Bool × Int × (List Int) × Int × (List UInt8) × (List UInt8) × Int × Int × (List Int) × Int × Int × Int) (if (wr .u8 (min v1.1 255)) = 1 then
 Option.bind (zay v1.2) fun v2 =>
 Option.bind (zdf v2.2 4) fun v3 =>
 Option.bind (zay v3.2) fun v4 =>
 Option.bind (zde v4.2) fun v5 =>
 Option.bind (zde v5.2) fun v6 =>
 some (v6.2.fB, v6.2.fOk, v2.1, v3.1, v4.1, v5.1, v6.1, 0, 0, [], 0, 0, 0)
 else
 if (wr .u8 (min v1.1 255)) = 2 then
 Option.bind (zay v1.2) fun v7 =>
 Option.bind (zay v7.2) fun v8 =>
 some (v8.2.fB, v8.2.fOk, 0, [], 0, [], [], v7.1, v8.1, [], 0, 0, 0)
 else
 if (wr .u8 (min v1.1 255)) = 3 then
 Option.bind (zdf v1.2 6) fun v9 =>
 some (v9.2.fB, v9.2.fOk, 0, [], 0, [], [], 0, 0, v9.1, 0, 0, 0)
 else
 Option.bind (α := Bool) (if (wr .u8 (min v1.1 255)) = 4 then
 some ((wr .u8 (min v1.1 255)) == 4)
 else
 if (wr .u8 (min v1.1 255)) = 5 then
 some ((wr .u8 (min v1.1 255)) == 5)
 else
 some ((wr .u8 (min v1.1 255)) == 6)) fun b2 =>
 if b2 = true then
 Option.bind (zay v1.2) fun v10 =>
 Option.bind (zay v10.2) fun v11 =>
 Option.bind (α := (List Int) × Bool × Int) (if (wr .u8 (min v1.1 255)) = 4 then
 Option.bind (zay v11.2) fun v12 =>
 some (v12.2.fB, v12.2.fOk, v12.1)
 else
 some (v11.2.fB, v11.2.fOk, 0)) fun (l4, b3, n8) =>
 Option.bind (zay (⟨l4, b3⟩ : Tcommand_reader)) fun v13 =>
 some (v13.2.fB, v13.2.fOk, 0, [], 0, [], [], v10.1, 0, [], v11.1, n8, v13.1)
 else
 some (v1.2.fB, v1.2.fOk, 0, [], 0, [], [], 0, 0, [], 0, 0, 0)) fun (l1, b1, n1, l2, n2, s1, s2, n3, n4, l3, n5, n6, n7) =>
 some ((⟨(wr .u8 (min v1.1 255)), (⟨n1, l2, n2, s1, s2⟩ : TMessage), n3, n4, l3, n5, n6, n7⟩ : TCommand), (⟨l1, b1⟩ : Tcommand_reader))
def zdo (a0 : List UInt8) : Option (TCommand × Int) :=
 if (a0.length : Int) > 1024 then
 some ((⟨0, (⟨0, [], 0, [], []⟩ : TMessage), 0, 0, [], 0, 0, 0⟩ : TCommand), 3)
 else
 Option.bind (zdg (⟨(zm9 a0), true⟩ : Tcommand_reader)) fun v1 =>
 Option.bind (if ¬ ((¬ (v1.2.fOk = true)) \/ ((v1.2.fB.length : Int) > 0)) then zb6 v1.1 else some default) fun v2 =>
 if ((¬ (v1.2.fOk = true)) \/ ((v1.2.fB.length : Int) > 0)) \/ (¬ (v2 = 0)) then
 some ((⟨0, (⟨0, [], 0, [], []⟩ : TMessage), 0, 0, [], 0, 0, 0⟩ : TCommand), 8)
 else
 some (v1.1, 0)
def zd3 : List (List UInt8) -> (List TCommand) -> Option (((List TCommand) × Int) ⊕ ((List TCommand)))
 | [], l2 =>
  some (.inr l2)
 | y1 :: rest1, l2 =>
  Option.bind (zdo (y1)) fun v1 =>
  if ¬ (v1.2 = 0) then
  some (.inl ([], 8))
  else
  if l2.length + [v1.1].length < 1000000 then
  zd3 rest1 (l2 ++ [v1.1])
  else none
theorem zi2 (l2 : List TCommand) : zd3 [] l2 =
  (some (.inr l2) : Option (((List TCommand) × Int) ⊕ ((List TCommand)))) := rfl
theorem zi3 (y1 : (List UInt8)) (rest1 : List (List UInt8)) (l2 : List TCommand) : zd3 (y1 :: rest1) l2 =
  (Option.bind (zdo (y1)) fun v1 =>
  if ¬ (v1.2 = 0) then
  some (.inl ([], 8))
  else
  if l2.length + [v1.1].length < 1000000 then
  zd3 rest1 (l2 ++ [v1.1])
  else none : Option (((List TCommand) × Int) ⊕ ((List TCommand)))) := rfl
def zf8 (a0 : List (List UInt8)) : Option ((List TCommand) × Int) :=
 if (a0.length : Int) > 200 then
 some ([], 4)
 else
 Option.bind (α := ((List TCommand) × Int) ⊕ ((List TCommand))) (zd3 a0 []) fun z => match z with
 | (.inl r) => some r
 | (.inr l1) =>
 some (l1, 0)
end Go.Proofs
namespace Go.Proofs
open Go.Tm Go.RowKit Go.WideShapes
set_option maxRecDepth 100000
set_option maxHeartbeats 4000000
set_option linter.unusedSimpArgs false
set_option linter.unusedVariables false
@[go_sem] def st72 : St := ⟨[], [], 0⟩
@[go_sem] def st73 (a0 : List Int) (n2 : Nat) (n1 : Int) : St := ⟨[(2, .int .i64 n1), (7, .imm 1 (a0.map (D.int .u8)) 4), (8, .int .i64 (a0.length : Int)), (9, .int .i64 (n2 : Int))], [], 0⟩
theorem zjc (a0 : List Int) (r : Int × Int × Int) (h : zin a0 = some r) : zb9 Tryz.prog 188 [.imm 1 (a0.map (D.int .u8)) 4] (.tuple [.int .i64 r.1, .int .i64 r.2.1, .int .i64 r.2.2]) := by
 refine zbt 2 Tryz.func188 ?_
 intro hwf
 unfold zin at h
 refine .sp [0] ?_
 obtain ⟨x1, hx1, h⟩ := za2 h
 refine .seqM 0 (fun (j : Unit) => st72) (fun j => x1 = (.inr j)) (lb rfl) ?_ ?_
 refine .sp [0, 2] ?_
 refine .block ?_
 refine .loopG 0 (fun (j : Nat × Int) => st73 a0 j.1 j.2) (fun j => j.1 <= a0.length /\ ze6 (a0.drop j.1) j.1 j.2 = some x1) (fun j => a0.length - j.1) (0, 0) (lb rfl) ?_ ⟨Nat.zero_le _, hx1⟩ ?_
 exact .m [2, 7, 8, 9] [] []
 rintro ⟨n2, n1⟩ ⟨hi1, hx1⟩
 simp only [st73]
 simp only at hi1 hx1
 refine .wf 8 (.int .i64 (a0.length : Int)) rfl ?_
 intro hln2
 replace hln2 := wfn hln2
 refine .sp [2, 7, 8, 9] ?_
 refine .seq (.cd (fun hc1 => ?_) (fun hc1 => ?_))
 have h1 : n2 < a0.length := by simpa using hc1
 have hwn2 := zdw h1 hln2
 have hpn2 := zdx h1 hln2
 rw [za7 h1, ze6] at hx1
 refine .skip (.seq (.block (.seq ?_)))
 have e1 := zdk (D.int .u8) a0 n2 h1
 refine .plx zS (ai e1 hwn2) [2, 7, 8, 9] ?_
 refine .seq (.seq (.plx zS hwn2 [2, 5, 6, 7, 8, 9] ?_))
 refine .cd ?_ ?_ <;> intro hc2
 replace hx1 := zaf hx1 hc2
 refine .exit ?_
 refine ⟨_, ?_, (sj hx1).symm⟩
 exact .m [] [] []
 replace hx1 := zao hx1 hc2
 refine .skip (.seq ?_)
 obtain ⟨k1, hx1⟩ := zb0 hx1
 refine .rg zS [2, 5, 6, 7, 8, 9] ?_
 refine .rnx 6 hwn2 ?_
 refine .rnx 3 hwn2 ?_
 refine .nn ?_
 refine .seq (.seq (.plx zS hwn2 [2, 5, 6, 7, 8, 9] ?_))
 refine .cd ?_ ?_ <;> intro hc3
 replace hx1 := zaf hx1 hc3
 refine .exit ?_
 refine .plx zS hwn2 [2, 7, 8, 9] ?_
 refine ⟨(n2 + 1, _), ?_, ⟨by omega, hx1⟩, by dsimp only; omega⟩
 exact .m [2, 7, 8, 9] [] []
 replace hx1 := zao hx1 hc3
 refine .skip (.seq (.seq ?_))
 obtain ⟨v1, hv1, hx1⟩ := za2 hx1
 refine .rg zS [2, 5, 6] ?_
 refine .rnx 8 hwn2 ?_
 refine .gcall rfl rfl rfl rfl rfl (fun hg => ⟨[], [.int .i64 (bitw .or .i64 n1 (shw true .i64 (wr .i64 (bitw .and .u8 (a0[n2]) 127)) (wr .i64 (7 * (n2 : Int)))))], _, rfl, gd hg, rfl, (zw7 (bitw .or .i64 n1 (shw true .i64 (wr .i64 (bitw .and .u8 (a0[n2]) 127)) (wr .i64 (7 * (n2 : Int))))) v1 (zaf hv1 hg))⟩) ?_
 refine .rnx 2 hwn2 ?_
 refine .nn ?_
 refine .cd ?_ ?_ <;> intro hc4
 replace hx1 := zaf hx1 hc4
 refine .exit ?_
 refine ⟨_, ?_, (sj hx1).symm⟩
 exact .m [] [] []
 replace hx1 := zao hx1 hc4
 refine .skip (.seq (.plx zS hwn2 [2, 5] ?_))
 have hq := sj hx1
 subst x1
 try dsimp only at h
 obtain rfl := sj h
 rw [hwn2]
 exact .rr
 have h2 : n2 = a0.length := by have h2b := of_decide_eq_false hc1; omega
 rw [zab (by omega), ze6] at hx1
 refine .exit ?_
 refine ⟨_, ?_, (sj hx1).symm⟩
 exact .m [] [] []
 rintro ⟨⟩ hj1
 subst x1
 try dsimp only at h
 simp only [st72]
 refine .sp [] ?_
 obtain rfl := sj h
 exact .rr
theorem zpo (a0 : List Int) (r : (List UInt8) × Int × Int) (h : zhk a0 = some r) : zb9 Tryz.prog 191 [.imm 1 (a0.map (D.int .u8)) 4] (.tuple [.str r.1, .int .i64 r.2.1, .int .i64 r.2.2]) := by
 refine zbt 2 Tryz.func191 ?_
 intro hwf
 unfold zhk at h
 refine .sp [0] ?_
 obtain ⟨v1, hv1, h⟩ := za2 h
 refine .sr [0] ?_
 refine .rn 1 ?_
 refine .cl (zjc a0 v1 hv1) ?_
 refine .rn 7 ?_
 refine .nn ?_
 refine .seq (.seq (.rg zS [0, 4, 5, 6] ?_))
 refine .rn 6 ?_
 refine .rn 8 ?_
 refine .nn ?_
 refine .cd ?_ ?_ <;> intro hc1
 replace h := zaf h hc1
 refine .sp [] ?_
 obtain rfl := sj h
 exact .rr
 replace h := zao h hc1
 refine .skip ?_
 obtain ⟨k1, h⟩ := zb0 h
 refine .sr [0, 5, 6] ?_
 refine .rn 6 ?_
 refine .rn 7 ?_
 refine .nn ?_
 obtain rfl := sj h
 exact .rr
@[go_sem] def st70 (l1 : List Int) (n1 : Int) : St := ⟨[(4, .ref 0 1 0 l1.length (some uC)), (5, .int .i64 n1)], [(0, .arr 3 1 true (l1.map (D.int .i64)))], 1⟩
@[go_sem] def st71 (a0 : List Int) (v1 : Int × Int × Int) (l2 : List Int) (n2 : Int) (n3 : Int) : St := ⟨[(0, .imm 1 (a0.map (D.int .u8)) 4), (4, .ref 0 1 0 l2.length (some uC)), (5, .int .i64 n2), (30, .int .i64 v1.1), (31, .int .i64 n3)], [(0, .arr 3 1 true (l2.map (D.int .i64)))], 1⟩
@[go_sem] def st19 (r : (List Int) × Int × Int) : St := ⟨[(4, .ref 0 1 0 r.1.length (some uC)), (5, .int .i64 r.2.1), (6, .int .i64 r.2.2)], [(0, .arr 3 1 true (r.1.map (D.int .i64)))], 1⟩
theorem zpt (a0 : List Int) (a1 : Int) (r : (List Int) × Int × Int) (h : zhl a0 a1 = some r) : zby Tryz.prog 190 [.imm 1 (a0.map (D.int .u8)) 4, .int .i64 a1] [] (.tuple [.ref 0 1 0 r.1.length (some uC), .int .i64 r.2.1, .int .i64 r.2.2]) [(0, some (.arr 3 1 true (r.1.map (D.int .i64))))] (0, 5) := by
 refine zcu Tryz.func190 ?_
 intro hwf
 unfold zhl at h
 refine .ends 0 (za4 _) ?_
 refine .sp [0, 1] ?_
 refine .seq (.seq (.pl zS [0, 1, 4] ?_))
 refine .cd ?_ ?_ <;> intro hc1
 replace h := zaf h hc1
 refine .sp [] ?_
 obtain rfl := sj h
 refine .ret ⟨st19 ([], 0, 2), ?_, .inr rfl, retH [0] ?_ ?_⟩
 refine .n0 1 3 ?_
 refine .w0 4 0 1 ?_
 exact .m [4, 5, 6] [0] []
 exact rsi0
 rfl
 replace h := zao h hc1
 refine .skip ?_
 obtain ⟨v1, hv1, h⟩ := za2 h
 refine .sr [0, 1, 4] ?_
 refine .rn 1 ?_
 refine .cl (zjc a0 v1 hv1) ?_
 refine .rn 7 ?_
 refine .nn ?_
 refine .seq (.seq (.pl zS [0, 1, 4, 5, 6, 7] ?_))
 refine .cd ?_ ?_ <;> intro hc2
 replace h := zaf h hc2
 refine .sp [] ?_
 obtain rfl := sj h
 refine .ret ⟨st19 ([], 0, 8), ?_, .inr rfl, retH [0] ?_ ?_⟩
 refine .n0 1 3 ?_
 refine .w0 4 0 1 ?_
 exact .m [4, 5, 6] [0] []
 exact rsi0
 rfl
 replace h := zao h hc2
 obtain ⟨x1, hx1, h⟩ := za2 h
 refine .skip ?_
 refine .seqM 0 (fun (j : (List Int) × Int) => st70 j.1 j.2) (fun j => x1 = (.inr j)) (lb rfl) ?_ ?_
 refine .sp [0, 4, 5, 7] ?_
 refine .block ?_
 refine .loopG 0 (fun (j : Nat × (List Int) × Int × Int) => st71 a0 v1 j.2.1 j.2.2.1 j.2.2.2) (fun j => zcs a0 v1 j.1 j.2.1 j.2.2.1 j.2.2.2 = some x1) (fun j => j.1) (v1.1.toNat + 1, [], v1.2.1, 0) (lb rfl) ?_ hx1 ?_
 refine .n0 1 3 ?_
 refine .w0 4 0 1 ?_
 exact .m [0, 4, 5, 30, 31] [0] []
 rintro ⟨fu1, l2, n2, n3⟩ hx1
 simp only [st71]
 try simp only at hx1
 obtain ⟨fu1, rfl⟩ : ∃ k, fu1 = k + 1 := by cases fu1 with | zero => (rw [zcs] at hx1; cases hx1) | succ k => exact ⟨k, rfl⟩
 rw [zcs] at hx1
 refine .sp [0, 4, 5, 30, 31] ?_
 refine .seq (.cd (fun hc3 => ?_) (fun hc3 => ?_))
 replace hx1 := zaf hx1 hc3
 refine .skip (.seq (.block (.seq ?_)))
 obtain ⟨k1, hx1⟩ := zb0 hx1
 obtain ⟨v2, hv2, hx1⟩ := za2 hx1
 refine .rg zS [0, 4, 5, 30, 31] ?_
 refine .rn 3 ?_
 refine .cl (zjc (a0.drop n2.toNat) v2 hv2) ?_
 refine .rn 7 ?_
 refine .nn ?_
 refine .seq (.seq (.pl zS [0, 4, 5, 8, 9, 10, 30, 31] ?_))
 refine .cd ?_ ?_ <;> intro hc4
 replace hx1 := zaf hx1 hc4
 refine .sp [10] ?_
 have hq := sj hx1
 subst x1
 try dsimp only at h
 obtain rfl := sj h
 refine .ret ⟨st19 ([], 0, v2.2.2), ?_, .inr rfl, retH [0] ?_ ?_⟩
 refine .n0 1 3 ?_
 refine .w0 4 1 1 ?_
 exact .m [4, 5, 6] [1] [(1, 0)]
 exact rsi0
 rfl
 replace hx1 := zao hx1 hc4
 refine .skip (.seq ?_)
 obtain ⟨k2, hx1⟩ := zb0 hx1
 refine .pl zS [0, 4, 5, 8, 9, 30, 31] ?_
 refine .pl zS [0, 4, 5, 9, 30, 31] ?_
 refine .pl zS [0, 4, 5, 30, 31] ?_
 refine ⟨(fu1, _, _, _), ?_, hx1, by dsimp only; omega⟩
 exact .m [0, 4, 5, 30, 31] [2] [(2, 0)]
 replace hx1 := zao hx1 hc3
 refine .exit ?_
 refine ⟨_, ?_, (sj hx1).symm⟩
 exact .m [4, 5] [0] []
 rintro ⟨l1, n1⟩ hj1
 subst x1
 try dsimp only at h
 simp only [st70]
 refine .sp [4, 5] ?_
 obtain rfl := sj h
 refine .ret ⟨st19 (l1, n1, 0), ?_, .inr rfl, retH [0] ?_ ?_⟩
 exact .m [4, 5, 6] [0] []
 exact rsi0
 rfl
@[go_sem] def st5 (r : Tcommand_reader) : St := ⟨[(0, .ptr 20000 0)], [(20000, .box [.imm 1 (r.fB.map (D.int .u8)) 12, .bool r.fOk])], 20100⟩
theorem zfb (a0 : Tcommand_reader) (a1 : Int) (a2 : Int) (r : Tcommand_reader) (h : zct a0 a1 a2 = some r) : zby Tryz.prog 189 [.ptr 20000 0, .int .i64 a1, .int .i64 a2] [(20000, .box [.imm 1 (a0.fB.map (D.int .u8)) 12, .bool a0.fOk])] (.tuple []) [(20000, some (.box [.imm 1 (r.fB.map (D.int .u8)) 12, .bool r.fOk]))] (20100, 20102) := by
 refine zcu Tryz.func189 ?_
 intro hwf
 unfold zct at h
 refine .ends 20100 (za4 _) ?_
 refine .sr [0, 1, 2] ?_
 refine .rn 6 ?_
 refine .rn 6 ?_
 refine .nn ?_
 obtain ⟨k1, h⟩ := zb0 h
 refine .rg zS [0, 1] ?_
 refine .rd 6 ?_
 refine .rd 6 ?_
 refine .rd 4 ?_
 refine .nd ?_
 obtain rfl := sj h
 refine ⟨st5 (⟨(a0.fB.drop (min a1 (a0.fB.length : Int)).toNat), (a0.fOk && (a2 == 0))⟩ : Tcommand_reader), ?_, .inl rfl, retH [20000] ?_ ?_⟩
 exact .m [0] [20000] []
 exact rsi0
 rfl
@[go_sem] def st4 (r : Int × Tcommand_reader) : St := ⟨[(0, .ptr 20000 0), (2, .int .i64 r.1)], [(20000, .box [.imm 1 (r.2.fB.map (D.int .u8)) 12, .bool r.2.fOk])], 20100⟩
theorem zbe (a0 : Tcommand_reader) (r : Int × Tcommand_reader) (h : zay a0 = some r) : zby Tryz.prog 162 [.ptr 20000 0] [(20000, .box [.imm 1 (a0.fB.map (D.int .u8)) 12, .bool a0.fOk])] (.int .i64 r.1) [(20000, some (.box [.imm 1 (r.2.fB.map (D.int .u8)) 12, .bool r.2.fOk]))] (20100, 20106) := by
 refine zcu Tryz.func162 ?_
 intro hwf
 unfold zay at h
 refine .ends 20100 (za4 _) ?_
 refine .sp [0] ?_
 obtain ⟨v1, hv1, h⟩ := za2 h
 refine .sr [0] ?_
 refine .rn 4 ?_
 refine .cl (zjc a0.fB v1 hv1) ?_
 refine .rn 7 ?_
 refine .nn ?_
 obtain ⟨v2, hv2, h⟩ := za2 h
 refine .sr [0, 3, 4, 5] ?_
 refine .rn 3 ?_
 refine .hcall (H := [(20000, .box [.imm 1 (a0.fB.map (D.int .u8)) 12, .bool a0.fOk])]) (eff := [(20000, some (.box [.imm 1 (v2.fB.map (D.int .u8)) 12, .bool v2.fOk]))]) (nw := (20102, 20104)) (r := .tuple []) rfl rfl rfl rfl rfl (zbm 20000 20000 (zcn 20102 (zfb a0 v1.2.1 v1.2.2 v2 hv2))) (fun id b h => zav [20000] _ id b h) (by simp) (.inr ⟨lb rfl, lb rfl⟩) ?_
 refine .nn ?_
 refine .sp [0, 3] ?_
 obtain rfl := sj h
 refine .ret ⟨st4 (v1.1, v2), ?_, .inr rfl, retH [20000] ?_ ?_⟩
 exact .m [0, 2] [20000] []
 exact rsi0
 rfl
@[go_sem] def st6 (r : (List UInt8) × Tcommand_reader) : St := ⟨[(0, .ptr 20000 0), (2, .str r.1)], [(20000, .box [.imm 1 (r.2.fB.map (D.int .u8)) 12, .bool r.2.fOk])], 20100⟩
theorem zh3 (a0 : Tcommand_reader) (r : (List UInt8) × Tcommand_reader) (h : zde a0 = some r) : zby Tryz.prog 164 [.ptr 20000 0] [(20000, .box [.imm 1 (a0.fB.map (D.int .u8)) 12, .bool a0.fOk])] (.str r.1) [(20000, some (.box [.imm 1 (r.2.fB.map (D.int .u8)) 12, .bool r.2.fOk]))] (20100, 20106) := by
 refine zcu Tryz.func164 ?_
 intro hwf
 unfold zde at h
 refine .ends 20100 (za4 _) ?_
 refine .sp [0] ?_
 obtain ⟨v1, hv1, h⟩ := za2 h
 refine .sr [0] ?_
 refine .rn 4 ?_
 refine .cl (zpo a0.fB v1 hv1) ?_
 refine .rn 7 ?_
 refine .nn ?_
 obtain ⟨v2, hv2, h⟩ := za2 h
 refine .sr [0, 3, 4, 5] ?_
 refine .rn 3 ?_
 refine .hcall (H := [(20000, .box [.imm 1 (a0.fB.map (D.int .u8)) 12, .bool a0.fOk])]) (eff := [(20000, some (.box [.imm 1 (v2.fB.map (D.int .u8)) 12, .bool v2.fOk]))]) (nw := (20102, 20104)) (r := .tuple []) rfl rfl rfl rfl rfl (zbm 20000 20000 (zcn 20102 (zfb a0 v1.2.1 v1.2.2 v2 hv2))) (fun id b h => zav [20000] _ id b h) (by simp) (.inr ⟨lb rfl, lb rfl⟩) ?_
 refine .nn ?_
 refine .sp [0, 3] ?_
 obtain rfl := sj h
 refine .ret ⟨st6 (v1.1, v2), ?_, .inr rfl, retH [20000] ?_ ?_⟩
 exact .m [0, 2] [20000] []
 exact rsi0
 rfl
@[go_sem] def st3 (r : (List Int) × Tcommand_reader) : St := ⟨[(0, .ptr 20000 0), (4, .ref 20100 1 0 r.1.length (some uC))], [(20000, .box [.imm 1 (r.2.fB.map (D.int .u8)) 12, .bool r.2.fOk]), (20100, .arr 3 1 true (r.1.map (D.int .i64)))], 20101⟩
theorem zh4 (a0 : Tcommand_reader) (a1 : Int) (r : (List Int) × Tcommand_reader) (h : zdf a0 a1 = some r) : zby Tryz.prog 163 [.ptr 20000 0, .int .i64 a1] [(20000, .box [.imm 1 (a0.fB.map (D.int .u8)) 12, .bool a0.fOk])] (.ref 20100 1 0 r.1.length (some uC)) [(20000, some (.box [.imm 1 (r.2.fB.map (D.int .u8)) 12, .bool r.2.fOk])), (20100, some (.arr 3 1 true (r.1.map (D.int .i64))))] (20100, 20109) := by
 refine zcu Tryz.func163 ?_
 intro hwf
 unfold zdf at h
 refine .ends 20100 (za4 _) ?_
 refine .sp [0, 1] ?_
 obtain ⟨v1, hv1, h⟩ := za2 h
 refine .sr [0, 1] ?_
 refine .rn 5 ?_
 refine .ncall (r := .tuple [.ref 20100 1 0 v1.1.length (some uC), .int .i64 v1.2.1, .int .i64 v1.2.2]) (eff := [(20100, some (.arr 3 1 true (v1.1.map (D.int .i64))))]) (nw := (20100, 20105)) [] rfl rfl rfl rfl rfl (za9 rfl (za9 rfl zap)) rfl (zdt 20100 (lb rfl) (zpt a0.fB a1 v1 hv1)) (zc4 rfl rfl (ze4 zd1 _ _ _) ze8) (by intro i hi; simp [D.ids, D.idsL] at hi <;> omega) rfl ⟨lb rfl, lb rfl⟩ ?_
 refine .rn 7 ?_
 refine .nn ?_
 obtain ⟨v2, hv2, h⟩ := za2 h
 refine .sr [0, 5, 6, 7] ?_
 refine .rn 3 ?_
 refine .hcall (H := [(20000, .box [.imm 1 (a0.fB.map (D.int .u8)) 12, .bool a0.fOk])]) (eff := [(20000, some (.box [.imm 1 (v2.fB.map (D.int .u8)) 12, .bool v2.fOk]))]) (nw := (20105, 20107)) (r := .tuple []) rfl rfl rfl rfl rfl (zbm 20000 20000 (zcn 20105 (zfb a0 v1.2.1 v1.2.2 v2 hv2))) (fun id b h => zav [20000] _ id b h) (by simp) (.inr ⟨lb rfl, lb rfl⟩) ?_
 refine .nn ?_
 refine .sp [0, 5] ?_
 obtain rfl := sj h
 refine .ret ⟨st3 (v1.1, v2), ?_, .inr rfl, retH [20000, 20100] ?_ ?_⟩
 exact .m [0, 4] [20000, 20100] []
 exact rsi0
 rfl
@[go_sem] def st54 (v1 : Int × Tcommand_reader) (l1 : List Int) (b1 : Bool) (n1 : Int) (l2 : List Int) (n2 : Int) (s1 : List UInt8) (s2 : List UInt8) (n3 : Int) (n4 : Int) (l3 : List Int) (n5 : Int) (n6 : Int) (n7 : Int) : St := ⟨[(0, .ptr 20000 0), (2, .ptr 20100 0), (4, .ptr 20112 0)], [(20000, .box [.imm 1 (l1.map (D.int .u8)) 12, .bool b1]), (20100, .box [.int .u8 0, .int .i64 0, .imm 0 [] 0, .int .i64 0, .str [], .str [], .int .i64 0, .int .i64 0, .imm 0 [] 0, .int .i64 0, .int .i64 0, .int .i64 0]), (20112, .box [.int .u8 (wr .u8 (min v1.1 255)), .int .i64 n1, .ref 20113 1 0 l2.length (some uC), .int .i64 n2, .str s1, .str s2, .int .i64 n3, .int .i64 n4, .ref 20114 1 0 l3.length (some uC), .int .i64 n5, .int .i64 n6, .int .i64 n7]), (20113, .arr 3 1 true (l2.map (D.int .i64))), (20114, .arr 3 1 true (l3.map (D.int .i64)))], 20115⟩
@[go_sem] def st55 (v1 : Int × Tcommand_reader) (b2 : Bool) : St := ⟨[(0, .ptr 20000 0), (2, .ptr 20100 0), (4, .ptr 20112 0), (48, .bool b2)], [(20000, .box [.imm 1 (v1.2.fB.map (D.int .u8)) 12, .bool v1.2.fOk]), (20100, .box [.int .u8 0, .int .i64 0, .imm 0 [] 0, .int .i64 0, .str [], .str [], .int .i64 0, .int .i64 0, .imm 0 [] 0, .int .i64 0, .int .i64 0, .int .i64 0]), (20112, .box [.int .u8 (wr .u8 (min v1.1 255)), .int .i64 0, .imm 0 [] 0, .int .i64 0, .str [], .str [], .int .i64 0, .int .i64 0, .imm 0 [] 0, .int .i64 0, .int .i64 0, .int .i64 0])], 20113⟩
@[go_sem] def st56 (v1 : Int × Tcommand_reader) (v10 : Int × Tcommand_reader) (v11 : Int × Tcommand_reader) (l4 : List Int) (b3 : Bool) (n8 : Int) : St := ⟨[(0, .ptr 20000 0), (2, .ptr 20100 0), (4, .ptr 20112 0)], [(20000, .box [.imm 1 (l4.map (D.int .u8)) 12, .bool b3]), (20100, .box [.int .u8 0, .int .i64 0, .imm 0 [] 0, .int .i64 0, .str [], .str [], .int .i64 0, .int .i64 0, .imm 0 [] 0, .int .i64 0, .int .i64 0, .int .i64 0]), (20112, .box [.int .u8 (wr .u8 (min v1.1 255)), .int .i64 0, .imm 0 [] 0, .int .i64 0, .str [], .str [], .int .i64 v10.1, .int .i64 0, .imm 0 [] 0, .int .i64 v11.1, .int .i64 n8, .int .i64 0])], 20125⟩
@[go_sem] def st2 (r : TCommand × Tcommand_reader) : St := ⟨[(0, .ptr 20000 0), (2, .ptr 20102 0)], [(20000, .box [.imm 1 (r.2.fB.map (D.int .u8)) 12, .bool r.2.fOk]), (20100, .arr 3 1 true (r.1.Message.Groups.map (D.int .i64))), (20101, .arr 3 1 true (r.1.Members.map (D.int .i64))), (20102, .box [.int .u8 r.1.Kind, .int .i64 r.1.Message.Id, .ref 20100 1 0 r.1.Message.Groups.length (some uC), .int .i64 r.1.Message.Topic, .str r.1.Message.Key, .str r.1.Message.Body, .int .i64 r.1.Id, .int .i64 r.1.Time, .ref 20101 1 0 r.1.Members.length (some uC), .int .i64 r.1.Topic, .int .i64 r.1.Who, .int .i64 r.1.N])], 20103⟩
theorem zje (a0 : Tcommand_reader) (r : TCommand × Tcommand_reader) (h : zdg a0 = some r) : zby Tryz.prog 119 [.ptr 20000 0] [(20000, .box [.imm 1 (a0.fB.map (D.int .u8)) 12, .bool a0.fOk])] (.agg [.int .u8 r.1.Kind, .int .i64 r.1.Message.Id, .ref 20100 1 0 r.1.Message.Groups.length (some uC), .int .i64 r.1.Message.Topic, .str r.1.Message.Key, .str r.1.Message.Body, .int .i64 r.1.Id, .int .i64 r.1.Time, .ref 20101 1 0 r.1.Members.length (some uC), .int .i64 r.1.Topic, .int .i64 r.1.Who, .int .i64 r.1.N]) [(20000, some (.box [.imm 1 (r.2.fB.map (D.int .u8)) 12, .bool r.2.fOk])), (20100, some (.arr 3 1 true (r.1.Message.Groups.map (D.int .i64)))), (20101, some (.arr 3 1 true (r.1.Members.map (D.int .i64))))] (20100, 20149) := by
 refine zcu Tryz.func119 ?_
 intro hwf
 unfold zdg at h
 refine .ends 20100 (za4 _) ?_
 refine .sp [0] ?_
 obtain ⟨v1, hv1, h⟩ := za2 h
 refine .sr [0, 2] ?_
 refine .rn 1 ?_
 refine .hcall (H := [(20000, .box [.imm 1 (a0.fB.map (D.int .u8)) 12, .bool a0.fOk])]) (eff := [(20000, some (.box [.imm 1 (v1.2.fB.map (D.int .u8)) 12, .bool v1.2.fOk]))]) (nw := (20106, 20112)) (r := .int .i64 v1.1) rfl rfl rfl rfl rfl (zbm 20000 20000 (zcn 20106 (zbe a0 v1 hv1))) (fun id b h => zav [20000] _ id b h) (by simp) (.inr ⟨lb rfl, lb rfl⟩) ?_
 refine .rn 1 ?_
 refine .nn ?_
 refine .sp [0, 2, 3] ?_
 obtain ⟨x1, hx1, h⟩ := za2 h
 refine .seqM 20113 (fun (j : (List Int) × Bool × Int × (List Int) × Int × (List UInt8) × (List UInt8) × Int × Int × (List Int) × Int × Int × Int) => st54 v1 j.1 j.2.1 j.2.2.1 j.2.2.2.1 j.2.2.2.2.1 j.2.2.2.2.2.1 j.2.2.2.2.2.2.1 j.2.2.2.2.2.2.2.1 j.2.2.2.2.2.2.2.2.1 j.2.2.2.2.2.2.2.2.2.1 j.2.2.2.2.2.2.2.2.2.2.1 j.2.2.2.2.2.2.2.2.2.2.2.1 j.2.2.2.2.2.2.2.2.2.2.2.2) (fun j => x1 = j) (lb rfl) ?_ ?_
 refine .sp [0, 2, 4] ?_
 refine .block (.seq (.pl zS [0, 2, 4, 12] ?_))
 refine .cd ?_ ?_ <;> intro hc1
 replace hx1 := zaf hx1 hc1
 refine .seq ?_
 obtain ⟨v2, hv2, hx1⟩ := za2 hx1
 refine .rg zS [0, 2, 4] ?_
 refine .rn 1 ?_
 refine .hcall (H := [(20000, .box [.imm 1 (v1.2.fB.map (D.int .u8)) 12, .bool v1.2.fOk])]) (eff := [(20000, some (.box [.imm 1 (v2.2.fB.map (D.int .u8)) 12, .bool v2.2.fOk]))]) (nw := (20113, 20119)) (r := .int .i64 v2.1) rfl rfl rfl rfl rfl (zbm 20000 20000 (zcn 20113 (zbe v1.2 v2 hv2))) (fun id b h => zav [20000] _ id b h) (by simp) (.inr ⟨lb rfl, lb rfl⟩) ?_
 refine .rn 3 ?_
 refine .nn ?_
 refine .seq ?_
 obtain ⟨v3, hv3, hx1⟩ := za2 hx1
 refine .rg zS [0, 2, 4] ?_
 refine .rn 1 ?_
 refine .hcall (H := [(20000, .box [.imm 1 (v2.2.fB.map (D.int .u8)) 12, .bool v2.2.fOk])]) (eff := [(20000, some (.box [.imm 1 (v3.2.fB.map (D.int .u8)) 12, .bool v3.2.fOk])), (20119, some (.arr 3 1 true (v3.1.map (D.int .i64))))]) (nw := (20119, 20128)) (r := .ref 20119 1 0 v3.1.length (some uC)) rfl rfl rfl rfl rfl (zbm 20000 20000 (zcn 20119 (zh4 v2.2 4 v3 hv3))) (fun id b h => zav [20000] _ id b h) (by simp) (.inr ⟨lb rfl, lb rfl⟩) ?_
 refine .rn 3 ?_
 refine .nn ?_
 refine .seq ?_
 obtain ⟨v4, hv4, hx1⟩ := za2 hx1
 refine .rg zS [0, 2, 4] ?_
 refine .rn 1 ?_
 refine .hcall (H := [(20000, .box [.imm 1 (v3.2.fB.map (D.int .u8)) 12, .bool v3.2.fOk])]) (eff := [(20000, some (.box [.imm 1 (v4.2.fB.map (D.int .u8)) 12, .bool v4.2.fOk]))]) (nw := (20128, 20134)) (r := .int .i64 v4.1) rfl rfl rfl rfl rfl (zbm 20000 20000 (zcn 20128 (zbe v3.2 v4 hv4))) (fun id b h => zav [20000] _ id b h) (by simp) (.inr ⟨lb rfl, lb rfl⟩) ?_
 refine .rn 3 ?_
 refine .nn ?_
 refine .seq ?_
 obtain ⟨v5, hv5, hx1⟩ := za2 hx1
 refine .rg zS [0, 2, 4] ?_
 refine .rn 1 ?_
 refine .hcall (H := [(20000, .box [.imm 1 (v4.2.fB.map (D.int .u8)) 12, .bool v4.2.fOk])]) (eff := [(20000, some (.box [.imm 1 (v5.2.fB.map (D.int .u8)) 12, .bool v5.2.fOk]))]) (nw := (20134, 20140)) (r := .str v5.1) rfl rfl rfl rfl rfl (zbm 20000 20000 (zcn 20134 (zh3 v4.2 v5 hv5))) (fun id b h => zav [20000] _ id b h) (by simp) (.inr ⟨lb rfl, lb rfl⟩) ?_
 refine .rn 3 ?_
 refine .nn ?_
 obtain ⟨v6, hv6, hx1⟩ := za2 hx1
 refine .rg zS [0, 2, 4] ?_
 refine .rn 1 ?_
 refine .hcall (H := [(20000, .box [.imm 1 (v5.2.fB.map (D.int .u8)) 12, .bool v5.2.fOk])]) (eff := [(20000, some (.box [.imm 1 (v6.2.fB.map (D.int .u8)) 12, .bool v6.2.fOk]))]) (nw := (20140, 20146)) (r := .str v6.1) rfl rfl rfl rfl rfl (zbm 20000 20000 (zcn 20140 (zh3 v5.2 v6 hv6))) (fun id b h => zav [20000] _ id b h) (by simp) (.inr ⟨lb rfl, lb rfl⟩) ?_
 refine .rn 3 ?_
 refine .nn ?_
 refine ⟨_, ?_, (sj hx1).symm⟩
 refine .n0 1 3 ?_
 refine .boxs 20112 _ [.int .u8 (wr .u8 (min v1.1 255)), .int .i64 v2.1, .ref 20119 1 0 v3.1.length (some uC), .int .i64 v4.1, .str v5.1, .str v6.1, .int .i64 0, .int .i64 0, .ref 20146 1 0 0 (some uC), .int .i64 0, .int .i64 0, .int .i64 0] rfl (.keep (.keep (.keep (.keep (.keep (.keep (.keep (.keep (.cons (.own0 20146 _ _ _ (by decide)) (.refl _)))))))))) ?_
 exact .m [0, 2, 4] [20000, 20100, 20112, 20119, 20146] [(20119, 20113), (20146, 20114)]
 replace hx1 := zao hx1 hc1
 refine .sp [0, 2, 4, 12] ?_
 refine .cd ?_ ?_ <;> intro hc2
 replace hx1 := zaf hx1 hc2
 refine .seq ?_
 obtain ⟨v7, hv7, hx1⟩ := za2 hx1
 refine .rg zS [0, 2, 4] ?_
 refine .rn 1 ?_
 refine .hcall (H := [(20000, .box [.imm 1 (v1.2.fB.map (D.int .u8)) 12, .bool v1.2.fOk])]) (eff := [(20000, some (.box [.imm 1 (v7.2.fB.map (D.int .u8)) 12, .bool v7.2.fOk]))]) (nw := (20113, 20119)) (r := .int .i64 v7.1) rfl rfl rfl rfl rfl (zbm 20000 20000 (zcn 20113 (zbe v1.2 v7 hv7))) (fun id b h => zav [20000] _ id b h) (by simp) (.inr ⟨lb rfl, lb rfl⟩) ?_
 refine .rn 2 ?_
 refine .nn ?_
 obtain ⟨v8, hv8, hx1⟩ := za2 hx1
 refine .rg zS [0, 2, 4] ?_
 refine .rn 1 ?_
 refine .hcall (H := [(20000, .box [.imm 1 (v7.2.fB.map (D.int .u8)) 12, .bool v7.2.fOk])]) (eff := [(20000, some (.box [.imm 1 (v8.2.fB.map (D.int .u8)) 12, .bool v8.2.fOk]))]) (nw := (20119, 20125)) (r := .int .i64 v8.1) rfl rfl rfl rfl rfl (zbm 20000 20000 (zcn 20119 (zbe v7.2 v8 hv8))) (fun id b h => zav [20000] _ id b h) (by simp) (.inr ⟨lb rfl, lb rfl⟩) ?_
 refine .rn 2 ?_
 refine .nn ?_
 refine ⟨_, ?_, (sj hx1).symm⟩
 refine .n0 1 3 ?_
 refine .n0 1 3 ?_
 refine .boxs 20112 _ [.int .u8 (wr .u8 (min v1.1 255)), .int .i64 0, .ref 20125 1 0 0 (some uC), .int .i64 0, .str [], .str [], .int .i64 v7.1, .int .i64 v8.1, .ref 20126 1 0 0 (some uC), .int .i64 0, .int .i64 0, .int .i64 0] rfl (.keep (.keep (.cons (.own0 20125 _ _ _ (by decide)) (.keep (.keep (.keep (.keep (.keep (.cons (.own0 20126 _ _ _ (by decide)) (.refl _)))))))))) ?_
 exact .m [0, 2, 4] [20000, 20100, 20112, 20125, 20126] [(20125, 20113), (20126, 20114)]
 replace hx1 := zao hx1 hc2
 refine .sp [0, 2, 4, 12] ?_
 refine .cd ?_ ?_ <;> intro hc3
 replace hx1 := zaf hx1 hc3
 obtain ⟨v9, hv9, hx1⟩ := za2 hx1
 refine .rg zS [0, 2, 4] ?_
 refine .rn 1 ?_
 refine .hcall (H := [(20000, .box [.imm 1 (v1.2.fB.map (D.int .u8)) 12, .bool v1.2.fOk])]) (eff := [(20000, some (.box [.imm 1 (v9.2.fB.map (D.int .u8)) 12, .bool v9.2.fOk])), (20113, some (.arr 3 1 true (v9.1.map (D.int .i64))))]) (nw := (20113, 20122)) (r := .ref 20113 1 0 v9.1.length (some uC)) rfl rfl rfl rfl rfl (zbm 20000 20000 (zcn 20113 (zh4 v1.2 6 v9 hv9))) (fun id b h => zav [20000] _ id b h) (by simp) (.inr ⟨lb rfl, lb rfl⟩) ?_
 refine .rn 2 ?_
 refine .nn ?_
 refine ⟨_, ?_, (sj hx1).symm⟩
 refine .n0 1 3 ?_
 refine .boxs 20112 _ [.int .u8 (wr .u8 (min v1.1 255)), .int .i64 0, .ref 20122 1 0 0 (some uC), .int .i64 0, .str [], .str [], .int .i64 0, .int .i64 0, .ref 20113 1 0 v9.1.length (some uC), .int .i64 0, .int .i64 0, .int .i64 0] rfl (.keep (.keep (.cons (.own0 20122 _ _ _ (by decide)) (.refl _)))) ?_
 exact .m [0, 2, 4] [20000, 20100, 20112, 20122, 20113] [(20122, 20113), (20113, 20114)]
 replace hx1 := zao hx1 hc3
 obtain ⟨x2, hx2, hx1⟩ := za2 hx1
 refine .seqM 20113 (fun (j : Bool) => st55 v1 j) (fun j => x2 = j) (lb rfl) ?_ ?_
 refine .sp [0, 2, 4, 12] ?_
 refine .cd ?_ ?_ <;> intro hc4
 replace hx2 := zaf hx2 hc4
 refine .skip ?_
 refine ⟨_, ?_, (sj hx2).symm⟩
 exact .m [0, 2, 4, 48] [20000, 20100, 20112] []
 replace hx2 := zao hx2 hc4
 refine .sp [0, 2, 4, 12] ?_
 refine .cd ?_ ?_ <;> intro hc5
 replace hx2 := zaf hx2 hc5
 refine .skip ?_
 refine ⟨_, ?_, (sj hx2).symm⟩
 exact .m [0, 2, 4, 48] [20000, 20100, 20112] []
 replace hx2 := zao hx2 hc5
 refine .pl zS [0, 2, 4, 12] ?_
 refine ⟨_, ?_, (sj hx2).symm⟩
 exact .m [0, 2, 4, 48] [20000, 20100, 20112] []
 rintro b2 hj1
 subst x2
 try dsimp only at hx1
 simp only [st55]
 refine .cd ?_ ?_ <;> intro hc6
 replace hx1 := zaf hx1 hc6
 refine .seq ?_
 obtain ⟨v10, hv10, hx1⟩ := za2 hx1
 refine .rg zS [0, 2, 4] ?_
 refine .rn 1 ?_
 refine .hcall (H := [(20000, .box [.imm 1 (v1.2.fB.map (D.int .u8)) 12, .bool v1.2.fOk])]) (eff := [(20000, some (.box [.imm 1 (v10.2.fB.map (D.int .u8)) 12, .bool v10.2.fOk]))]) (nw := (20113, 20119)) (r := .int .i64 v10.1) rfl rfl rfl rfl rfl (zbm 20000 20000 (zcn 20113 (zbe v1.2 v10 hv10))) (fun id b h => zav [20000] _ id b h) (by simp) (.inr ⟨lb rfl, lb rfl⟩) ?_
 refine .rn 2 ?_
 refine .nn ?_
 refine .seq ?_
 obtain ⟨v11, hv11, hx1⟩ := za2 hx1
 refine .rg zS [0, 2, 4] ?_
 refine .rn 1 ?_
 refine .hcall (H := [(20000, .box [.imm 1 (v10.2.fB.map (D.int .u8)) 12, .bool v10.2.fOk])]) (eff := [(20000, some (.box [.imm 1 (v11.2.fB.map (D.int .u8)) 12, .bool v11.2.fOk]))]) (nw := (20119, 20125)) (r := .int .i64 v11.1) rfl rfl rfl rfl rfl (zbm 20000 20000 (zcn 20119 (zbe v10.2 v11 hv11))) (fun id b h => zav [20000] _ id b h) (by simp) (.inr ⟨lb rfl, lb rfl⟩) ?_
 refine .rn 2 ?_
 refine .nn ?_
 obtain ⟨x3, hx3, hx1⟩ := za2 hx1
 refine .seqM 20125 (fun (j : (List Int) × Bool × Int) => st56 v1 v10 v11 j.1 j.2.1 j.2.2) (fun j => x3 = j) (lb rfl) ?_ ?_
 refine .sp [0, 2, 4] ?_
 refine .cd ?_ ?_ <;> intro hc7
 replace hx3 := zaf hx3 hc7
 obtain ⟨v12, hv12, hx3⟩ := za2 hx3
 refine .rg zS [0, 2, 4] ?_
 refine .rn 1 ?_
 refine .hcall (H := [(20000, .box [.imm 1 (v11.2.fB.map (D.int .u8)) 12, .bool v11.2.fOk])]) (eff := [(20000, some (.box [.imm 1 (v12.2.fB.map (D.int .u8)) 12, .bool v12.2.fOk]))]) (nw := (20125, 20131)) (r := .int .i64 v12.1) rfl rfl rfl rfl rfl (zbm 20000 20000 (zcn 20125 (zbe v11.2 v12 hv12))) (fun id b h => zav [20000] _ id b h) (by simp) (.inr ⟨lb rfl, lb rfl⟩) ?_
 refine .rn 2 ?_
 refine .nn ?_
 refine ⟨_, ?_, (sj hx3).symm⟩
 exact .m [0, 2, 4] [20000, 20100, 20112] []
 replace hx3 := zao hx3 hc7
 refine .skip ?_
 refine ⟨_, ?_, (sj hx3).symm⟩
 exact .m [0, 2, 4] [20000, 20100, 20112] []
 rintro ⟨l4, b3, n8⟩ hj2
 subst x3
 try dsimp only at hx1
 simp only [st56]
 obtain ⟨v13, hv13, hx1⟩ := za2 hx1
 refine .rg zS [0, 2, 4] ?_
 refine .rn 1 ?_
 refine .hcall (H := [(20000, .box [.imm 1 (l4.map (D.int .u8)) 12, .bool b3])]) (eff := [(20000, some (.box [.imm 1 (v13.2.fB.map (D.int .u8)) 12, .bool v13.2.fOk]))]) (nw := (20125, 20131)) (r := .int .i64 v13.1) rfl rfl rfl rfl rfl (zbm 20000 20000 (zcn 20125 (zbe (⟨l4, b3⟩ : Tcommand_reader) v13 hv13))) (fun id b h => zav [20000] _ id b h) (by simp) (.inr ⟨lb rfl, lb rfl⟩) ?_
 refine .rn 2 ?_
 refine .nn ?_
 refine ⟨_, ?_, (sj hx1).symm⟩
 refine .n0 1 3 ?_
 refine .n0 1 3 ?_
 refine .boxs 20112 _ [.int .u8 (wr .u8 (min v1.1 255)), .int .i64 0, .ref 20131 1 0 0 (some uC), .int .i64 0, .str [], .str [], .int .i64 v10.1, .int .i64 0, .ref 20132 1 0 0 (some uC), .int .i64 v11.1, .int .i64 n8, .int .i64 v13.1] rfl (.keep (.keep (.cons (.own0 20131 _ _ _ (by decide)) (.keep (.keep (.keep (.keep (.keep (.cons (.own0 20132 _ _ _ (by decide)) (.refl _)))))))))) ?_
 exact .m [0, 2, 4] [20000, 20100, 20112, 20131, 20132] [(20131, 20113), (20132, 20114)]
 replace hx1 := zao hx1 hc6
 refine .skip ?_
 refine ⟨_, ?_, (sj hx1).symm⟩
 refine .n0 1 3 ?_
 refine .n0 1 3 ?_
 refine .boxs 20112 _ [.int .u8 (wr .u8 (min v1.1 255)), .int .i64 0, .ref 20113 1 0 0 (some uC), .int .i64 0, .str [], .str [], .int .i64 0, .int .i64 0, .ref 20114 1 0 0 (some uC), .int .i64 0, .int .i64 0, .int .i64 0] rfl (.keep (.keep (.cons (.own0 20113 _ _ _ (by decide)) (.keep (.keep (.keep (.keep (.keep (.cons (.own0 20114 _ _ _ (by decide)) (.refl _)))))))))) ?_
 exact .m [0, 2, 4] [20000, 20100, 20112, 20113, 20114] []
 rintro ⟨l1, b1, n1, l2, n2, s1, s2, n3, n4, l3, n5, n6, n7⟩ hj3
 subst x1
 try dsimp only at h
 simp only [st54]
 refine .sp [0, 2, 4] ?_
 obtain rfl := sj h
 refine .ret ⟨st2 ((⟨(wr .u8 (min v1.1 255)), (⟨n1, l2, n2, s1, s2⟩ : TMessage), n3, n4, l3, n5, n6, n7⟩ : TCommand), (⟨l1, b1⟩ : Tcommand_reader)), ?_, .inr rfl, retH [20000, 20101, 20100] ?_ ?_⟩
 exact .m [0, 2] [20000, 20113, 20114, 20100] [(20113, 20100), (20114, 20101), (20100, 20102)]
 exact rsi0
 rfl
@[go_sem] def st0 (r : TCommand × Int) : St := ⟨[(2, .ptr 2 0), (3, .int .i64 r.2)], [(0, .arr 3 1 true (r.1.Message.Groups.map (D.int .i64))), (1, .arr 3 1 true (r.1.Members.map (D.int .i64))), (2, .box [.int .u8 r.1.Kind, .int .i64 r.1.Message.Id, .ref 0 1 0 r.1.Message.Groups.length (some uC), .int .i64 r.1.Message.Topic, .str r.1.Message.Key, .str r.1.Message.Body, .int .i64 r.1.Id, .int .i64 r.1.Time, .ref 1 1 0 r.1.Members.length (some uC), .int .i64 r.1.Topic, .int .i64 r.1.Who, .int .i64 r.1.N])], 3⟩
theorem zp0 (a0 : List UInt8) (r : TCommand × Int) (h : zdo a0 = some r) : zby Tryz.prog 59 [.str a0] [] (.tuple [.agg [.int .u8 r.1.Kind, .int .i64 r.1.Message.Id, .ref 0 1 0 r.1.Message.Groups.length (some uC), .int .i64 r.1.Message.Topic, .str r.1.Message.Key, .str r.1.Message.Body, .int .i64 r.1.Id, .int .i64 r.1.Time, .ref 1 1 0 r.1.Members.length (some uC), .int .i64 r.1.Topic, .int .i64 r.1.Who, .int .i64 r.1.N], .int .i64 r.2]) [(0, some (.arr 3 1 true (r.1.Message.Groups.map (D.int .i64)))), (1, some (.arr 3 1 true (r.1.Members.map (D.int .i64))))] (0, 56) := by
 refine zcu Tryz.func59 ?_
 intro hwf
 unfold zdo at h
 refine .ends 0 (za4 _) ?_
 refine .sp [0] ?_
 refine .seq (.seq (.pl zS [0, 2] ?_))
 refine .cd ?_ ?_ <;> intro hc1
 replace h := zaf h hc1
 refine .sp [2] ?_
 obtain rfl := sj h
 refine .ret ⟨st0 ((⟨0, (⟨0, [], 0, [], []⟩ : TMessage), 0, 0, [], 0, 0, 0⟩ : TCommand), 3), ?_, .inr rfl, retH [1, 0] ?_ ?_⟩
 refine .n0 1 3 ?_
 refine .n0 1 3 ?_
 refine .boxs 0 _ [.int .u8 0, .int .i64 0, .ref 1 1 0 0 (some uC), .int .i64 0, .str [], .str [], .int .i64 0, .int .i64 0, .ref 2 1 0 0 (some uC), .int .i64 0, .int .i64 0, .int .i64 0] rfl (.keep (.keep (.cons (.own0 1 _ _ _ (by decide)) (.keep (.keep (.keep (.keep (.keep (.cons (.own0 2 _ _ _ (by decide)) (.refl _)))))))))) ?_
 exact .m [2, 3] [1, 2, 0] [(1, 0), (2, 1), (0, 2)]
 exact rsi0
 rfl
 replace h := zao h hc1
 refine .skip (.seq (.pl zS [0, 2] ?_))
 refine .goes (.boxs 1 _ [.imm 1 ((zm9 a0).map (D.int .u8)) 12, .bool true] rfl (.cons (.newR _ _ rfl) (.refl _)) .refl) ?_
 obtain ⟨v1, hv1, h⟩ := za2 h
 refine .sr [2, 4] ?_
 refine .rn 1 ?_
 refine .hcall (H := [(1, .box [.imm 1 ((zm9 a0).map (D.int .u8)) 12, .bool true])]) (eff := [(1, some (.box [.imm 1 (v1.2.fB.map (D.int .u8)) 12, .bool v1.2.fOk])), (2, some (.arr 3 1 true (v1.1.Message.Groups.map (D.int .i64)))), (3, some (.arr 3 1 true (v1.1.Members.map (D.int .i64))))]) (nw := (2, 51)) (r := .agg [.int .u8 v1.1.Kind, .int .i64 v1.1.Message.Id, .ref 2 1 0 v1.1.Message.Groups.length (some uC), .int .i64 v1.1.Message.Topic, .str v1.1.Message.Key, .str v1.1.Message.Body, .int .i64 v1.1.Id, .int .i64 v1.1.Time, .ref 3 1 0 v1.1.Members.length (some uC), .int .i64 v1.1.Topic, .int .i64 v1.1.Who, .int .i64 v1.1.N]) rfl rfl rfl rfl rfl (zfm 2 (zbm 20000 1 (zje (⟨(zm9 a0), true⟩ : Tcommand_reader) v1 hv1))) (fun id b h => zav [1] _ id b h) (by simp) (.inr ⟨lb rfl, lb rfl⟩) ?_
 refine .rn 2 ?_
 refine .nn ?_
 refine .seq ?_
 obtain ⟨v2, hv2, h⟩ := za2 h
 refine .sr [2, 4, 5] ?_
 refine .rn 6 ?_
 refine .rn 6 ?_
 refine .rn 3 ?_
 refine .glcall (r := .int .i64 v2) [] rfl rfl rfl rfl rfl (fun hg => ⟨[], [.agg [.int .u8 v1.1.Kind, .int .i64 v1.1.Message.Id, .ref 2 1 0 v1.1.Message.Groups.length (some uC), .int .i64 v1.1.Message.Topic, .str v1.1.Message.Key, .str v1.1.Message.Body, .int .i64 v1.1.Id, .int .i64 v1.1.Time, .ref 3 1 0 v1.1.Members.length (some uC), .int .i64 v1.1.Topic, .int .i64 v1.1.Who, .int .i64 v1.1.N]], _, rfl, gd hg, (za9 (zhr (zj9 (za8 rfl (za8 rfl (za8 (zfv (zlp .i64) (by first | rfl | (simp only [go_sem, Nat.reduceBEq]; rfl)) (by first | rfl | (simp; done) | (simp <;> omega))) (za8 rfl (za8 rfl (za8 rfl (za8 rfl (za8 rfl (za8 (zfv (zlp .i64) (by first | rfl | (simp only [go_sem, Nat.reduceBEq]; rfl)) (by first | rfl | (simp; done) | (simp <;> omega))) (za8 rfl (za8 rfl (za8 rfl zeg))))))))))))) trivial) zap), rfl, (zfz v1.1 v2 (zaf hv2 hg))⟩) ?_
 refine .rn 2 ?_
 refine .nn ?_
 refine .cd ?_ ?_ <;> intro hc2
 replace h := zaf h hc2
 refine .sp [2] ?_
 obtain rfl := sj h
 refine .ret ⟨st0 ((⟨0, (⟨0, [], 0, [], []⟩ : TMessage), 0, 0, [], 0, 0, 0⟩ : TCommand), 8), ?_, .inr rfl, retH [1, 0] ?_ ?_⟩
 refine .n0 1 3 ?_
 refine .n0 1 3 ?_
 refine .boxs 0 _ [.int .u8 0, .int .i64 0, .ref 52 1 0 0 (some uC), .int .i64 0, .str [], .str [], .int .i64 0, .int .i64 0, .ref 53 1 0 0 (some uC), .int .i64 0, .int .i64 0, .int .i64 0] rfl (.keep (.keep (.cons (.own0 52 _ _ _ (by decide)) (.keep (.keep (.keep (.keep (.keep (.cons (.own0 53 _ _ _ (by decide)) (.refl _)))))))))) ?_
 exact .m [2, 3] [52, 53, 0] [(52, 0), (53, 1), (0, 2)]
 exact rsi0
 rfl
 replace h := zao h hc2
 refine .skip (.seq (.pl zS [2, 5] ?_))
 obtain rfl := sj h
 refine .ret ⟨st0 (v1.1, 0), ?_, .inr rfl, retH [1, 0] ?_ ?_⟩
 exact .m [2, 3] [2, 3, 0] [(2, 0), (3, 1), (0, 2)]
 exact rsi0
 rfl
theorem zov (a0 : List UInt8) (r : TCommand × Int) (h : zdo a0 = some r) : zb9 Tryz.prog 59 [.str a0] (.tuple [.agg [.int .u8 r.1.Kind, .int .i64 r.1.Message.Id, .imm 1 (r.1.Message.Groups.map (D.int .i64)) 13, .int .i64 r.1.Message.Topic, .str r.1.Message.Key, .str r.1.Message.Body, .int .i64 r.1.Id, .int .i64 r.1.Time, .imm 1 (r.1.Members.map (D.int .i64)) 13, .int .i64 r.1.Topic, .int .i64 r.1.Who, .int .i64 r.1.N], .int .i64 r.2]) :=
 ze7 (zmh (zaa (zhs (zaa rfl (zaa rfl (zaa (zcm zd1 rfl rfl) (zaa rfl (zaa rfl (zaa rfl (zaa rfl (zaa rfl (zaa (zcm zd1 rfl rfl) (zaa rfl (zaa rfl (zaa rfl zcd))))))))))))) (zaa rfl zcd))) (zp0 a0 r h)
@[go_sem] def st68 (l1 : List TCommand) : St := ⟨[(2, .ref 0 12 0 l1.length (some uC))], [(0, .arr 36 12 true (l1.map TCommand.n))], 1⟩
@[go_sem] def st69 (a0 : List (List UInt8)) (n1 : Nat) (l2 : List TCommand) : St := ⟨[(2, .ref 0 12 0 l2.length (some uC)), (11, .imm 1 (a0.map D.str) 4), (12, .int .i64 (a0.length : Int)), (13, .int .i64 (n1 : Int))], [(0, .arr 36 12 true (l2.map TCommand.n))], 1⟩
@[go_sem] def st18 (r : (List TCommand) × Int) : St := ⟨[(2, .ref 0 12 0 r.1.length (some uC)), (3, .int .i64 r.2)], [(0, .arr 36 12 true (r.1.map TCommand.n))], 1⟩
theorem zoy (a0 : List (List UInt8)) (r : (List TCommand) × Int) (h : zf8 a0 = some r) : zby Tryz.prog 26 [.imm 1 (a0.map D.str) 4] [] (.tuple [.ref 0 12 0 r.1.length (some uC), .int .i64 r.2]) [(0, some (.arr 36 12 true (r.1.map TCommand.n)))] (0, 6) := by
 refine zcu Tryz.func26 ?_
 intro hwf
 unfold zf8 at h
 refine .ends 0 (za4 _) ?_
 refine .sp [0] ?_
 refine .seq (.seq (.pl zS [0, 2] ?_))
 refine .cd ?_ ?_ <;> intro hc1
 replace h := zaf h hc1
 refine .sp [] ?_
 obtain rfl := sj h
 refine .ret ⟨st18 ([], 4), ?_, .inr rfl, retH [0] ?_ ?_⟩
 refine .n0 12 36 ?_
 refine .w0 2 0 12 ?_
 exact .m [2, 3] [0] []
 exact rsi0
 rfl
 replace h := zao h hc1
 obtain ⟨x1, hx1, h⟩ := za2 h
 refine .skip ?_
 refine .seqM 0 (fun (j : (List TCommand)) => st68 j) (fun j => x1 = (.inr j)) (lb rfl) ?_ ?_
 refine .sp [0, 2] ?_
 refine .block ?_
 refine .loopG 0 (fun (j : Nat × (List TCommand)) => st69 a0 j.1 j.2) (fun j => j.1 <= a0.length /\ zd3 (a0.drop j.1) j.2 = some x1) (fun j => a0.length - j.1) (0, []) (lb rfl) ?_ ⟨Nat.zero_le _, hx1⟩ ?_
 refine .n0 12 36 ?_
 refine .w0 2 0 12 ?_
 exact .m [2, 11, 12, 13] [0] []
 rintro ⟨n1, l2⟩ ⟨hi1, hx1⟩
 simp only [st69]
 simp only at hi1 hx1
 refine .wf 12 (.int .i64 (a0.length : Int)) rfl ?_
 intro hln1
 replace hln1 := wfn hln1
 refine .sp [2, 11, 12, 13] ?_
 refine .seq (.cd (fun hc2 => ?_) (fun hc2 => ?_))
 have h1 : n1 < a0.length := by simpa using hc2
 have hwn1 := zdw h1 hln1
 have hpn1 := zdx h1 hln1
 rw [za7 h1, zi3] at hx1
 refine .skip (.seq (.block (.seq ?_)))
 have e1 := zdk D.str a0 n1 h1
 refine .plx zS (ai e1 hwn1) [2, 11, 12, 13] ?_
 refine .seq ?_
 obtain ⟨v1, hv1, hx1⟩ := za2 hx1
 refine .rg zS [2, 5, 11, 12, 13] ?_
 refine .rnx 1 hwn1 ?_
 refine .cl (zov (a0[n1]) v1 hv1) ?_
 refine .rnx 6 hwn1 ?_
 refine .nn ?_
 refine .seq (.seq (.plx zS hwn1 [2, 6, 7, 11, 12, 13] ?_))
 refine .cd ?_ ?_ <;> intro hc3
 replace hx1 := zaf hx1 hc3
 refine .seq (.plx zS hwn1 [] ?_)
 have hq := sj hx1
 subst x1
 try dsimp only at h
 obtain rfl := sj h
 refine .ret ⟨st18 ([], 8), ?_, .inr rfl, retH [0] ?_ ?_⟩
 refine .n0 12 36 ?_
 refine .w0 2 2 12 ?_
 exact .m [2, 3] [2] [(2, 0)]
 exact rsi0
 rfl
 replace hx1 := zao hx1 hc3
 refine .skip ?_
 obtain ⟨k1, hx1⟩ := zb0 hx1
 refine .plx zS hwn1 [2, 6, 11, 12, 13] ?_
 refine .plx zS hwn1 [2, 11, 12, 13] ?_
 refine ⟨(n1 + 1, _), ?_, ⟨by omega, hx1⟩, by dsimp only; omega⟩
 exact .m [2, 11, 12, 13] [3] [(3, 0)]
 have h2 : n1 = a0.length := by have h2b := of_decide_eq_false hc2; omega
 rw [zab (by omega), zi2] at hx1
 refine .exit ?_
 refine ⟨_, ?_, (sj hx1).symm⟩
 exact .m [2] [0] []
 rintro l1 hj1
 subst x1
 try dsimp only at h
 simp only [st68]
 refine .sp [2] ?_
 obtain rfl := sj h
 refine .ret ⟨st18 (l1, 0), ?_, .inr rfl, retH [0] ?_ ?_⟩
 exact .m [2, 3] [0] []
 exact rsi0
 rfl
theorem zke (a0 : List (List UInt8)) (r : (List TCommand) × Int) (h : zf8 a0 = some r) : zb9 Tryz.prog 26 [.imm 1 (a0.map D.str) 4] (.tuple [.imm 12 (r.1.map TCommand.d) 13, .int .i64 r.2]) :=
 ze7 (zmh (zaa (zeb zvf rfl rfl) (zaa rfl zcd))) (zoy a0 r h)
end Go.Proofs
namespace Go.Proofs
open Go.RowKit Go.Extern.Stop Go.Stop Go.Extern
theorem Tryz.mCmp (h : Value) (w : World) : (Go.method 429 227 (.agg #[h]) "Comparable").run Tryz.prog w = .ok (242, .agg #[h]) w := by kernel_rfl
theorem Tryz.cmpW (w : World) : ((ReflectliteType.method fun t => do Rtype.noPackHeld "Comparable" t; (fun a : TypeInfo => Value.bool a.comparable) <$> typeInfo t) #[.agg #[.pointer (some ⟨1, 106, none⟩)]]).run Tryz.prog w = .ok (.bool true) w := by kernel_rfl
theorem Tryz.noIsF (v : Value) (xT : TypeId) (w : World) : (Instr.typeAssert (.iface 179 v) xT 229 true).run Tryz.prog w = .ok (.tuple #[.nilIface, .bool false]) w := run_typeAssert_lacksB Tryz.underlying229 (by kernel_rfl) (by kernel_rfl) v xT w
theorem Tryz.noIsW (v : Value) (xT : TypeId) (w : World) : (Instr.typeAssert (.iface 106 v) xT 229 true).run Tryz.prog w = .ok (.tuple #[.nilIface, .bool false]) w := run_typeAssert_lacksB Tryz.underlying229 (by kernel_rfl) (by kernel_rfl) v xT w
theorem Tryz.noUnW (v : Value) (xT : TypeId) (w : World) : (Instr.typeAssert (.iface 106 v) xT 232 true).run Tryz.prog w = .ok (.tuple #[.nilIface, .bool false]) w := run_typeAssert_lacksB Tryz.underlying232 (by kernel_rfl) (by kernel_rfl) v xT w
theorem Tryz.noUsW (v : Value) (xT : TypeId) (w : World) : (Instr.typeAssert (.iface 106 v) xT 234 true).run Tryz.prog w = .ok (.tuple #[.nilIface, .bool false]) w := run_typeAssert_lacksB Tryz.underlying234 (by kernel_rfl) (by kernel_rfl) v xT w
theorem Tryz.eqFW (v x : Value) (w : World) : (binOp .eql 76 (.iface 179 v) (.iface 106 x)).run Tryz.prog w = .ok (.bool false) w := by
 have h : ∀ d : Nat, (Op.equalIn (d + 1) 76 (.iface 179 v) (.iface 106 x)).run Tryz.prog w = .ok false w := fun d => by simp [Op.equalIn, run_underlying Tryz.underlying76]
 simp only [binOp]
 simp [Op.equal, Op.maxDepth, h 9999]
theorem Tryz.eqWW (e n : Int) (w : World) : (binOp .eql 76 (.iface 106 (.agg #[.int .i64 e])) (.iface 106 (.agg #[.int .i64 n]))).run Tryz.prog w = .ok (.bool (decide (e = n))) w := by
 have h1 : (Tryz.prog.info? 106).map (·.comparable) = some true := by kernel_rfl
 obtain ⟨i, hi, hc⟩ := Option.map_eq_some_iff.1 h1
 have hh : Tryz.prog.stoodInHeld 106 = false := by kernel_rfl
 have h0 : ∀ d : Nat, (Op.equalIn (d + 2) 106 (.agg #[.int .i64 e]) (.agg #[.int .i64 n])).run Tryz.prog w = .ok (e == n) w := fun d => by
  have hp : ∀ (x : Int) (w : World), (part 41 #[.int .i64 x] 0).run Tryz.prog w = .ok (.int .i64 x) w := fun x w => by kernel_rfl
  simp [Op.equalIn, run_underlying Tryz.underlying106, hh, hp]
  by_cases h : e = n <;> simp [h]
 have h : ∀ d : Nat, (Op.equalIn (d + 3) 76 (.iface 106 (.agg #[.int .i64 e])) (.iface 106 (.agg #[.int .i64 n]))).run Tryz.prog w = .ok (e == n) w := fun d => by
  rw [Op.equalIn.eq_def]
  simp [run_underlying Tryz.underlying76, typeInfo, hi, hc, h0 d]
 simp only [binOp]
 simp [Op.equal, Op.maxDepth, h 9997]
 cases hb : (e == n) <;> simp_all
set_option maxRecDepth 100000 in
set_option maxHeartbeats 4000000 in
theorem Tryz.is_hit (s : ByteArray) (e n : Int) (w : World) :
  Calls Tryz.prog 56 #[.iface 179 (.agg #[.string s, .iface 106 (.agg #[.int .i64 e])]), .iface 106 (.agg #[.int .i64 n])] w fun ev w' => ev = .returned (.bool (decide (e = n))) /\ Go.RowKit.Below w.heap.size w w' := by
 have h10 := @run_callFunc_extern Tryz.prog 115 _ ReflectliteType.typeOf Tryz.func115 (by kernel_rfl) (by kernel_rfl) (by kernel_rfl) (by kernel_rfl)
 have h11 := @run_callFunc_extern Tryz.prog 242 _ (ReflectliteType.method fun t => do Rtype.noPackHeld "Comparable" t; pure (.bool (<- typeInfo t).comparable)) Tryz.func242 (by kernel_rfl) (by kernel_rfl) (by kernel_rfl) (by kernel_rfl)
 have t2 := Tryz.typeOfW
 have m1 := Tryz.mCmp
 have c1 := Tryz.cmpW
 have a1 := Tryz.noIsF
 have a2 := Tryz.noIsW
 have a3 := Tryz.noUnW
 have a4 := Tryz.noUsW
 have u1 := Tryz.hasUnF
 have mU := Tryz.mUnw
 have q1 := Tryz.eqFW
 have q2 := Tryz.eqWW
 go_enter Tryz.func56, Tryz.ntmps56
 go_wp2
 refine wp_loop_rounds 2 ?_
 rw [rounds_succ]
 go_wp2
 rw [rounds_succ]
 by_cases hen : e = n
 ·subst hen
  go_wp2
  go_ret
  exact ⟨by simp, (Below.refl _ w).alloc (za4 _) _⟩
 ·go_wp2
  go_ret
  exact ⟨by simp [hen], (Below.refl _ w).alloc (za4 _) _⟩
end Go.Proofs
namespace Go.Proofs
open Go.Tm
def zh9 (a0 : Option (List UInt8 × Int)) (n : Int) : Option Bool := match a0 with
 | none => some false
 | some x => some (decide (x.2 = n))
end Go.Proofs
namespace Go.Proofs
open Go.Tm Go.RowKit
theorem Tryz.isEn : zlx Tryz.prog 56 := ⟨Tryz.f56, Tryz.func56, by decide, by kernel_rfl⟩
theorem zml (a0 : Option (List UInt8 × Int)) (n : Int) (r : Bool) (h : zh9 a0 n = some r) : zb9 Tryz.prog 56 [erD a0, .iface 106 (.agg [.int .i64 n])] (.bool r) := by
 cases a0 with
 | none =>
  obtain rfl := sj h
  refine zfa rfl rfl (zn3 (v0 := .bool false) 0 Tryz.isEn ?_)
  intro w C vs hg hvs
  simp only [erD, reps, rep] at hvs
  obtain ⟨v, vs', rfl, rfl, v2, vs2, rfl, ⟨y, rfl, -⟩, rfl⟩ := hvs
  refine ⟨fun C => zy5.2 rfl, (Tryz.is_nil 106 y w).mono fun ev w' h => ⟨h.1, ?_⟩⟩
  rw [h.2]; exact Below.refl _ w
 | some x =>
  obtain rfl := sj h
  refine zfa rfl rfl (zn3 (v0 := .bool (decide (x.2 = n))) 0 Tryz.isEn ?_)
  intro w' C vs hg hvs
  simp only [erD, reps, rep] at hvs
  obtain ⟨v, vs', rfl, ⟨x1, rfl, cs, rfl, v1, vs1, rfl, ⟨rfl, -⟩, v2, vs2, rfl, ⟨y, rfl, cs2, rfl, v3, vs3, rfl, ⟨rfl, h1, h2⟩, rfl⟩, rfl⟩, v4, vs4, rfl, ⟨z, rfl, cs4, rfl, v5, vs5, rfl, ⟨rfl, -, -⟩, rfl⟩, rfl⟩ := hvs
  exact ⟨fun C => zy5.2 rfl, Tryz.is_hit _ x.2 n w'⟩
end Go.Proofs
namespace Go.Proofs
open Go.Tm
set_option linter.unusedVariables false
def zbo (a0 : List (List UInt8)) : Nat -> Int -> Int -> Option (Int)
 | 0, _, _ => none
 | fu1 + 1, n2, n3 =>
  if (n3 < (a0.length : Int)) /\ (n3 < 1000) then
  if (0 <= n3 /\ n3 < (a0.length : Int)) then
  zbo a0 fu1 (wr .i64 (n2 + (wr .i64 (10 + (min ((a0.getD n3.toNat default).length : Int) 5000))))) (wr .i64 (n3 + 1))
  else none
  else
  some n2
def ze5 (a0 : List (List UInt8)) : Option Bool :=
 Option.bind (α := Int) (zbo a0 (1002) 0 0) fun n1 =>
 some ((decide ((a0.length : Int) > 400)) || (decide (n1 > 60000)))
def zds (a0 : Int) : List TCommand -> Int -> (List TWait) -> (List TStamp) -> (List TTopic) -> (List (List Int)) -> (List Int) -> (List TTook) -> Option (Int × (List TWait) × (List TStamp) × (List TTopic) × (List (List Int)) × (List Int) × (List TTook))
 | [], n2, l7, l8, l9, l10, l11, l12 =>
  some (n2, l7, l8, l9, l10, l11, l12)
 | y1 :: rest1, n2, l7, l8, l9, l10, l11, l12 =>
  Option.bind (α := Int × (List TWait) × (List TStamp) × (List TTopic) × (List (List Int)) × (List Int) × (List TTook)) (Option.bind (zbs (⟨(⟨(⟨n2, l7, l8⟩ : TSkeen), (⟨l9, l10⟩ : TStream), l11⟩ : THome)⟩ : Tgroup_home) a0 (y1)) fun v4 =>
  (match v4.2.1 with
  | none =>
  Option.bind (zh9 none 9) fun v5 =>
  if v5 = true then
  some (v4.2.2.Home.Skeen.Clock, v4.2.2.Home.Skeen.Waits, v4.2.2.Home.Skeen.Done, v4.2.2.Home.Stream.Topics, v4.2.2.Home.Stream.Commits, v4.2.2.Home.Last, l12)
  else
  if l12.length + v4.1.length < 1000000 then
  some (v4.2.2.Home.Skeen.Clock, v4.2.2.Home.Skeen.Waits, v4.2.2.Home.Skeen.Done, v4.2.2.Home.Stream.Topics, v4.2.2.Home.Stream.Commits, v4.2.2.Home.Last, (l12 ++ v4.1))
  else none
  | some er2 =>
  Option.bind (zh9 (some er2) 9) fun v6 =>
  if v6 = true then
  some (v4.2.2.Home.Skeen.Clock, v4.2.2.Home.Skeen.Waits, v4.2.2.Home.Skeen.Done, v4.2.2.Home.Stream.Topics, v4.2.2.Home.Stream.Commits, v4.2.2.Home.Last, l12)
  else
  if l12.length + v4.1.length < 1000000 then
  some (v4.2.2.Home.Skeen.Clock, v4.2.2.Home.Skeen.Waits, v4.2.2.Home.Skeen.Done, v4.2.2.Home.Stream.Topics, v4.2.2.Home.Stream.Commits, v4.2.2.Home.Last, (l12 ++ v4.1))
  else none)) fun (n4, l13, l14, l15, l16, l17, l18) =>
  zds a0 rest1 n4 l13 l14 l15 l16 l17 l18
theorem zn7 (a0 : Int) (n2 : Int) (l7 : List TWait) (l8 : List TStamp) (l9 : List TTopic) (l10 : List (List Int)) (l11 : List Int) (l12 : List TTook) : zds a0 [] n2 l7 l8 l9 l10 l11 l12 =
  (some (n2, l7, l8, l9, l10, l11, l12) : Option (Int × (List TWait) × (List TStamp) × (List TTopic) × (List (List Int)) × (List Int) × (List TTook))) := rfl
theorem zj6 (a0 : Int) (y1 : TCommand) (rest1 : List TCommand) (n2 : Int) (l7 : List TWait) (l8 : List TStamp) (l9 : List TTopic) (l10 : List (List Int)) (l11 : List Int) (l12 : List TTook) : zds a0 (y1 :: rest1) n2 l7 l8 l9 l10 l11 l12 =
  (Option.bind (α := Int × (List TWait) × (List TStamp) × (List TTopic) × (List (List Int)) × (List Int) × (List TTook)) (Option.bind (zbs (⟨(⟨(⟨n2, l7, l8⟩ : TSkeen), (⟨l9, l10⟩ : TStream), l11⟩ : THome)⟩ : Tgroup_home) a0 (y1)) fun v4 =>
  (match v4.2.1 with
  | none =>
  Option.bind (zh9 none 9) fun v5 =>
  if v5 = true then
  some (v4.2.2.Home.Skeen.Clock, v4.2.2.Home.Skeen.Waits, v4.2.2.Home.Skeen.Done, v4.2.2.Home.Stream.Topics, v4.2.2.Home.Stream.Commits, v4.2.2.Home.Last, l12)
  else
  if l12.length + v4.1.length < 1000000 then
  some (v4.2.2.Home.Skeen.Clock, v4.2.2.Home.Skeen.Waits, v4.2.2.Home.Skeen.Done, v4.2.2.Home.Stream.Topics, v4.2.2.Home.Stream.Commits, v4.2.2.Home.Last, (l12 ++ v4.1))
  else none
  | some er2 =>
  Option.bind (zh9 (some er2) 9) fun v6 =>
  if v6 = true then
  some (v4.2.2.Home.Skeen.Clock, v4.2.2.Home.Skeen.Waits, v4.2.2.Home.Skeen.Done, v4.2.2.Home.Stream.Topics, v4.2.2.Home.Stream.Commits, v4.2.2.Home.Last, l12)
  else
  if l12.length + v4.1.length < 1000000 then
  some (v4.2.2.Home.Skeen.Clock, v4.2.2.Home.Skeen.Waits, v4.2.2.Home.Skeen.Done, v4.2.2.Home.Stream.Topics, v4.2.2.Home.Stream.Commits, v4.2.2.Home.Last, (l12 ++ v4.1))
  else none)) fun (n4, l13, l14, l15, l16, l17, l18) =>
  zds a0 rest1 n4 l13 l14 l15 l16 l17 l18 : Option (Int × (List TWait) × (List TStamp) × (List TTopic) × (List (List Int)) × (List Int) × (List TTook))) := rfl
def zgf (a0 : Int) (a1 : List (List UInt8)) : Option (THome × (List TTook) × Int) :=
 Option.bind (zhn a0) fun v1 =>
 (match v1 with
 | none =>
 Option.bind (zf8 a1) fun v2 =>
 if ¬ (v2.2 = 0) then
 some ((⟨(⟨0, [], []⟩ : TSkeen), (⟨[], []⟩ : TStream), []⟩ : THome), [], v2.2)
 else
 Option.bind (zfu ) fun v3 =>
 Option.bind (α := Int × (List TWait) × (List TStamp) × (List TTopic) × (List (List Int)) × (List Int) × (List TTook)) (zds a0 v2.1 v3.Skeen.Clock v3.Skeen.Waits v3.Skeen.Done v3.Stream.Topics v3.Stream.Commits v3.Last []) fun (n1, l1, l2, l3, l4, l5, l6) =>
 Option.bind (zge (⟨(⟨n1, l1, l2⟩ : TSkeen), (⟨l3, l4⟩ : TStream), l5⟩ : THome)) fun v7 =>
 some (v7, l6, 0)
 | some er1 =>
 Option.bind (zih (some er1)) fun v8 =>
 some ((⟨(⟨0, [], []⟩ : TSkeen), (⟨[], []⟩ : TStream), []⟩ : THome), [], v8))
end Go.Proofs
namespace Go.Proofs
open Go.Tm Go.RowKit Go.WideShapes
set_option maxRecDepth 100000
set_option maxHeartbeats 4000000
set_option linter.unusedSimpArgs false
set_option linter.unusedVariables false
@[go_sem] def ya64 (a0 : List (List UInt8)) (n1 : Int) : St := ⟨[(0, .imm 1 (a0.map D.str) 4), (3, .int .i64 n1)], [], 0⟩
@[go_sem] def ya63 (a0 : List (List UInt8)) (n2 : Int) (n3 : Int) : St := ⟨[(0, .imm 1 (a0.map D.str) 4), (3, .int .i64 n2), (4, .int .i64 n3)], [], 0⟩
theorem zkj (a0 : List (List UInt8)) (r : Bool) (h : ze5 a0 = some r) : zb9 Tryz.prog 23 [.imm 1 (a0.map D.str) 4] (.bool r) := by
 refine zbt 2 Tryz.func23 ?_
 intro hwf
 unfold ze5 at h
 refine .sp [0] ?_
 refine .sp [0] ?_
 obtain ⟨x1, hx1, h⟩ := za2 h
 refine .seqM 0 (fun (j : Int) => ya64 a0 j) (fun j => x1 = j) (lb rfl) ?_ ?_
 refine .sp [0, 3] ?_
 refine .block ?_
 refine .loopG 0 (fun (j : Nat × Int × Int) => ya63 a0 j.2.1 j.2.2) (fun j => zbo a0 j.1 j.2.1 j.2.2 = some x1) (fun j => j.1) (1002, 0, 0) (lb rfl) ?_ hx1 ?_
 exact .m [0, 3, 4] [] []
 rintro ⟨fu1, n2, n3⟩ hx1
 simp only [ya63]
 try simp only at hx1
 obtain ⟨fu1, rfl⟩ : ∃ k, fu1 = k + 1 := by cases fu1 with | zero => (rw [zbo] at hx1; cases hx1) | succ k => exact ⟨k, rfl⟩
 rw [zbo] at hx1
 refine .seq (.seq (.pl zS [0, 3, 4] ?_))
 refine .cd ?_ ?_ <;> intro hc1
 replace hx1 := zaf hx1 hc1
 refine .skip (.seq (.block ?_))
 obtain ⟨k1, hx1⟩ := zb0 hx1
 have e1 := zbx D.str a0 n3
 replace e1 := e1 k1
 refine .rg zS [0, 3, 4] ?_
 refine .rnx 6 e1 ?_
 refine .rnx 4 e1 ?_
 refine .nn ?_
 refine .pl zS [0, 3, 4] ?_
 refine ⟨(fu1, _, _), ?_, hx1, by dsimp only; omega⟩
 exact .m [0, 3, 4] [] []
 replace hx1 := zao hx1 hc1
 refine .exit ?_
 refine ⟨_, ?_, (sj hx1).symm⟩
 exact .m [0, 3] [] []
 rintro n1 hj1
 subst x1
 try dsimp only at h
 simp only [ya64]
 refine .sp [0, 3] ?_
 obtain rfl := sj h
 exact .rr
@[go_sem] def st61 (n1 : Int) (l1 : List TWait) (l2 : List TStamp) (l3 : List TTopic) (l4 : List (List Int)) (l5 : List Int) (l6 : List TTook) : St := ⟨[(4, .ptr 0 0), (10, .ptr 8 0), (12, .ref 10 3 0 l6.length (some uC))], [(0, .box [.int .i64 0, .imm 0 [] 0, .imm 0 [] 0, .imm 0 [] 0, .imm 0 [] 0, .imm 0 [] 0]), (8, .box [.int .i64 n1, .imm 7 (l1.map TWait.d) 13, .imm 2 (l2.map TStamp.d) 13, .imm 4 (l3.map TTopic.d) 13, .imm 1 (l4.map dL_inti64) 13, .ref 9 1 0 l5.length (some uC)]), (9, .arr 3 1 true (l5.map (D.int .i64))), (10, .arr 68 3 true (l6.map TTook.d))], 11⟩
@[go_sem] def st62 (a0 : Int) (v2 : (List TCommand) × Int) (n3 : Nat) (n2 : Int) (l7 : List TWait) (l8 : List TStamp) (l9 : List TTopic) (l10 : List (List Int)) (l11 : List Int) (l12 : List TTook) : St := ⟨[(0, .int .i64 a0), (4, .ptr 0 0), (10, .ptr 8 0), (11, .fn (.yield 55) [.ptr 8 0]), (12, .ref 10 3 0 l12.length (some uC)), (38, .imm 12 (v2.1.map TCommand.d) 13), (39, .int .i64 (v2.1.length : Int)), (40, .int .i64 (n3 : Int))], [(0, .box [.int .i64 0, .imm 0 [] 0, .imm 0 [] 0, .imm 0 [] 0, .imm 0 [] 0, .imm 0 [] 0]), (8, .box [.int .i64 n2, .imm 7 (l7.map TWait.d) 13, .imm 2 (l8.map TStamp.d) 13, .imm 4 (l9.map TTopic.d) 13, .imm 1 (l10.map dL_inti64) 13, .ref 9 1 0 l11.length (some uC)]), (9, .arr 3 1 true (l11.map (D.int .i64))), (10, .arr 68 3 true (l12.map TTook.d))], 11⟩
@[go_sem] def st63 (a0 : Int) (v2 : (List TCommand) × Int) (n3 : Nat) (n4 : Int) (l13 : List TWait) (l14 : List TStamp) (l15 : List TTopic) (l16 : List (List Int)) (l17 : List Int) (l18 : List TTook) : St := ⟨[(0, .int .i64 a0), (4, .ptr 0 0), (10, .ptr 8 0), (11, .fn (.yield 55) [.ptr 8 0]), (12, .ref 12 3 0 l18.length (some uC)), (38, .imm 12 (v2.1.map TCommand.d) 13), (39, .int .i64 (v2.1.length : Int)), (40, .int .i64 (n3 : Int))], [(0, .box [.int .i64 0, .imm 0 [] 0, .imm 0 [] 0, .imm 0 [] 0, .imm 0 [] 0, .imm 0 [] 0]), (8, .box [.int .i64 n4, .imm 7 (l13.map TWait.d) 13, .imm 2 (l14.map TStamp.d) 13, .imm 4 (l15.map TTopic.d) 13, .imm 1 (l16.map dL_inti64) 13, .ref 11 1 0 l17.length (some uC)]), (11, .arr 3 1 true (l17.map (D.int .i64))), (12, .arr 68 3 true (l18.map TTook.d))], 13⟩
@[go_sem] def st11 (r : THome × (List TTook) × Int) : St := ⟨[(4, .ptr 2 0), (5, .ref 1 3 0 r.2.1.length (some uC)), (6, .int .i64 r.2.2)], [(0, .arr 3 1 true (r.1.Last.map (D.int .i64))), (1, .arr 68 3 true (r.2.1.map TTook.d)), (2, .box [.int .i64 r.1.Skeen.Clock, .imm 7 (r.1.Skeen.Waits.map TWait.d) 13, .imm 2 (r.1.Skeen.Done.map TStamp.d) 13, .imm 4 (r.1.Stream.Topics.map TTopic.d) 13, .imm 1 (r.1.Stream.Commits.map dL_inti64) 13, .ref 0 1 0 r.1.Last.length (some uC)])], 3⟩
theorem zqi (a0 : Int) (a1 : List (List UInt8)) (r : THome × (List TTook) × Int) (h : zgf a0 a1 = some r) : zby Tryz.prog 24 [.int .i64 a0, .imm 1 (a1.map D.str) 4] [] (.tuple [.agg [.int .i64 r.1.Skeen.Clock, .imm 7 (r.1.Skeen.Waits.map TWait.d) 13, .imm 2 (r.1.Skeen.Done.map TStamp.d) 13, .imm 4 (r.1.Stream.Topics.map TTopic.d) 13, .imm 1 (r.1.Stream.Commits.map dL_inti64) 13, .ref 0 1 0 r.1.Last.length (some uC)], .ref 1 3 0 r.2.1.length (some uC), .int .i64 r.2.2]) [(0, some (.arr 3 1 true (r.1.Last.map (D.int .i64)))), (1, some (.arr 68 3 true (r.2.1.map TTook.d)))] (0, 31) := by
 refine zcu Tryz.func24 ?_
 intro hwf
 unfold zgf at h
 refine .ends 0 (za4 _) ?_
 refine .sp [0, 1] ?_
 refine .seq ?_
 obtain ⟨v1, hv1, h⟩ := za2 h
 rcases zhi v1 with hEer1 | ⟨er1, hEer1⟩
 rw [hEer1] at h
 dsimp only at h
 refine .sr [0, 1, 4] ?_
 refine .rn 1 ?_
 refine .call rfl rfl rfl rfl rfl rfl (zh7 (r' := .nilIface) (by rw [hEer1]; rfl) (zgq a0 v1 hv1)) ?_
 refine .rn 1 ?_
 refine .nn ?_
 refine .sp [0, 1, 4, 7] ?_
 refine .cond rfl rfl (fun hc => by cases hc) (fun hc => ?_)
 refine .skip ?_
 obtain ⟨v2, hv2, h⟩ := za2 h
 refine .sr [0, 1, 4] ?_
 refine .rn 1 ?_
 refine .cl (zke a1 v2 hv2) ?_
 refine .rn 5 ?_
 refine .nn ?_
 refine .seq (.seq (.pl zS [0, 4, 8, 9] ?_))
 refine .cd ?_ ?_ <;> intro hc1
 replace h := zaf h hc1
 refine .sp [4, 9] ?_
 obtain rfl := sj h
 refine .ret ⟨st11 ((⟨(⟨0, [], []⟩ : TSkeen), (⟨[], []⟩ : TStream), []⟩ : THome), [], v2.2), ?_, .inr rfl, retH [1, 0] ?_ ?_⟩
 refine .n0 1 3 ?_
 refine .n0 3 68 ?_
 refine .boxs 0 _ [.int .i64 0, .imm 7 [] 13, .imm 2 [] 13, .imm 4 [] 13, .imm 1 [] 13, .ref 1 1 0 0 (some uC)] rfl (.keep (.cons (.nil12 _ _ 0 (by decide)) (.cons (.nil12 _ _ 0 (by decide)) (.cons (.nil12 _ _ 0 (by decide)) (.cons (.nil12 _ _ 0 (by decide)) (.cons (.own0 1 _ _ _ (by decide)) (.refl _))))))) ?_
 refine .w0 5 2 3 ?_
 exact .m [4, 5, 6] [1, 2, 0] [(1, 0), (2, 1), (0, 2)]
 exact rsi0
 rfl
 replace h := zao h hc1
 refine .skip ?_
 obtain ⟨v3, hv3, h⟩ := za2 h
 refine .sr [0, 4, 8] ?_
 refine .ncall (r := .agg [.int .i64 v3.Skeen.Clock, .imm 7 (v3.Skeen.Waits.map TWait.d) 13, .imm 2 (v3.Skeen.Done.map TStamp.d) 13, .imm 4 (v3.Stream.Topics.map TTopic.d) 13, .imm 1 (v3.Stream.Commits.map dL_inti64) 13, .ref 4 1 0 v3.Last.length (some uC)]) (eff := [(4, some (.arr 3 1 true (v3.Last.map (D.int .i64))))]) (nw := (4, 8)) [] rfl rfl rfl rfl rfl zap rfl (zdt 4 (lb rfl) (zmr  v3 hv3)) (zc4 rfl rfl (ze4 zd1 _ _ _) ze8) (by intro i hi; simp [D.ids, D.idsL] at hi <;> omega) rfl ⟨lb rfl, lb rfl⟩ ?_
 refine .rn 3 ?_
 refine .nn ?_
 refine .sp [0, 4, 8, 10] ?_
 refine .sp [0, 4, 8, 10, 11] ?_
 obtain ⟨x1, hx1, h⟩ := za2 h
 refine .seqM 9 (fun (j : Int × (List TWait) × (List TStamp) × (List TTopic) × (List (List Int)) × (List Int) × (List TTook)) => st61 j.1 j.2.1 j.2.2.1 j.2.2.2.1 j.2.2.2.2.1 j.2.2.2.2.2.1 j.2.2.2.2.2.2) (fun j => x1 = j) (lb rfl) ?_ ?_
 refine .sp [0, 4, 8, 10, 11, 12] ?_
 refine .block ?_
 refine .loopG 9 (fun (j : Nat × Int × (List TWait) × (List TStamp) × (List TTopic) × (List (List Int)) × (List Int) × (List TTook)) => st62 a0 v2 j.1 j.2.1 j.2.2.1 j.2.2.2.1 j.2.2.2.2.1 j.2.2.2.2.2.1 j.2.2.2.2.2.2.1 j.2.2.2.2.2.2.2) (fun j => j.1 <= v2.1.length /\ zds a0 (v2.1.drop j.1) j.2.1 j.2.2.1 j.2.2.2.1 j.2.2.2.2.1 j.2.2.2.2.2.1 j.2.2.2.2.2.2.1 j.2.2.2.2.2.2.2 = some x1) (fun j => v2.1.length - j.1) (0, v3.Skeen.Clock, v3.Skeen.Waits, v3.Skeen.Done, v3.Stream.Topics, v3.Stream.Commits, v3.Last, []) (lb rfl) ?_ ⟨Nat.zero_le _, hx1⟩ ?_
 refine .n0 3 68 ?_
 refine .w0 12 9 3 ?_
 exact .m [0, 4, 10, 11, 12, 38, 39, 40] [0, 8, 4, 9] [(4, 9), (9, 10)]
 rintro ⟨n3, n2, l7, l8, l9, l10, l11, l12⟩ ⟨hi1, hx1⟩
 simp only [st62]
 simp only at hi1 hx1
 refine .wf 39 (.int .i64 (v2.1.length : Int)) rfl ?_
 intro hln3
 replace hln3 := wfn hln3
 refine .sp [0, 4, 10, 11, 12, 38, 39, 40] ?_
 refine .seq (.cd (fun hc2 => ?_) (fun hc2 => ?_))
 have h1 : n3 < v2.1.length := by simpa using hc2
 have hwn3 := zdw h1 hln3
 have hpn3 := zdx h1 hln3
 rw [za7 h1, zj6] at hx1
 refine .skip ?_
 obtain ⟨x2, hx2, hx1⟩ := za2 hx1
 refine .seqM 11 (fun (j : Int × (List TWait) × (List TStamp) × (List TTopic) × (List (List Int)) × (List Int) × (List TTook)) => st63 a0 v2 n3 j.1 j.2.1 j.2.2.1 j.2.2.2.1 j.2.2.2.2.1 j.2.2.2.2.2.1 j.2.2.2.2.2.2) (fun j => x2 = j) (lb rfl) ?_ ?_
 refine .block (.seq ?_)
 have e1 := zdk TCommand.d v2.1 n3 h1
 refine .plx zS (ai e1 hwn3) [0, 4, 10, 11, 12, 38, 39, 40] ?_
 obtain ⟨v4, hv4, hx2⟩ := za2 hx2
 rcases zhi v4.2.1 with hEer2 | ⟨er2, hEer2⟩
 rw [hEer2] at hx2
 dsimp only at hx2
 refine .sr [0, 4, 10, 11, 12, 14, 38, 39, 40] ?_
 refine .rnx 3 hwn3 ?_
 refine .mcall (H := [(8, .box [.int .i64 n2, .imm 7 (l7.map TWait.d) 13, .imm 2 (l8.map TStamp.d) 13, .imm 4 (l9.map TTopic.d) 13, .imm 1 (l10.map dL_inti64) 13, .ref 9 1 0 l11.length (some uC)]), (9, .arr 3 1 true (l11.map (D.int .i64)))]) (eff := [(8, some (.box [.int .i64 v4.2.2.Home.Skeen.Clock, .imm 7 (v4.2.2.Home.Skeen.Waits.map TWait.d) 13, .imm 2 (v4.2.2.Home.Skeen.Done.map TStamp.d) 13, .imm 4 (v4.2.2.Home.Stream.Topics.map TTopic.d) 13, .imm 1 (v4.2.2.Home.Stream.Commits.map dL_inti64) 13, .ref 13 1 0 v4.2.2.Home.Last.length (some uC)])), (9, none), (12, some (.arr 68 3 true (v4.1.map TTook.d))), (13, some (.arr 3 1 true (v4.2.2.Home.Last.map (D.int .i64))))]) (nw := (12, 28)) (r := .tuple [.ref 12 3 0 v4.1.length (some uC), .nilIface]) rfl rfl rfl rfl rfl (zfm 12 (zbm 20001 9 (zbm 20000 8 (zmp (.keep (.keep (.cons (.aggs (.keep (.keep (.cons (.new4 _ _ rfl) (.keep (.keep (.keep (.keep (.keep (.cons (.new4 _ _ rfl) (.refl _))))))))))) (.refl _)))) (zn4 (r' := .tuple [.ref 20100 3 0 v4.1.length (some uC), .nilIface]) (by rw [hEer2]; rfl) (zg0 (⟨(⟨(⟨n2, l7, l8⟩ : TSkeen), (⟨l9, l10⟩ : TStream), l11⟩ : THome)⟩ : Tgroup_home) a0 (v2.1[n3]) v4 hv4)))))) (fun id b h => zav [8, 9] _ id b h) (by simp) (.inr ⟨lb rfl, lb rfl⟩) ?_
 refine .rnx 5 hwn3 ?_
 refine .nn ?_
 refine .seq (.seq ?_)
 obtain ⟨v5, hv5, hx2⟩ := za2 hx2
 refine .rg zS [0, 4, 10, 11, 12, 15, 16, 38, 39, 40] ?_
 refine .rnx 3 hwn3 ?_
 refine .cl (zml none 9 v5 hv5) ?_
 refine .nn ?_
 refine .cd ?_ ?_ <;> intro hc3
 replace hx2 := zaf hx2 hc3
 refine .exit ?_
 refine ⟨_, ?_, (sj hx2).symm⟩
 exact .m [0, 4, 10, 11, 12, 38, 39, 40] [0, 8, 13, 10] [(13, 11), (10, 12)]
 replace hx2 := zao hx2 hc3
 refine .skip ?_
 obtain ⟨k1, hx2⟩ := zb0 hx2
 refine .plx zS hwn3 [0, 4, 10, 11, 12, 15, 38, 39, 40] ?_
 refine ⟨_, ?_, (sj hx2).symm⟩
 exact .m [0, 4, 10, 11, 12, 38, 39, 40] [0, 8, 13, 28] [(13, 11), (28, 12)]
 rw [hEer2] at hx2
 dsimp only at hx2
 refine .sr [0, 4, 10, 11, 12, 14, 38, 39, 40] ?_
 refine .rnx 3 hwn3 ?_
 refine .mcall (H := [(8, .box [.int .i64 n2, .imm 7 (l7.map TWait.d) 13, .imm 2 (l8.map TStamp.d) 13, .imm 4 (l9.map TTopic.d) 13, .imm 1 (l10.map dL_inti64) 13, .ref 9 1 0 l11.length (some uC)]), (9, .arr 3 1 true (l11.map (D.int .i64)))]) (eff := [(8, some (.box [.int .i64 v4.2.2.Home.Skeen.Clock, .imm 7 (v4.2.2.Home.Skeen.Waits.map TWait.d) 13, .imm 2 (v4.2.2.Home.Skeen.Done.map TStamp.d) 13, .imm 4 (v4.2.2.Home.Stream.Topics.map TTopic.d) 13, .imm 1 (v4.2.2.Home.Stream.Commits.map dL_inti64) 13, .ref 13 1 0 v4.2.2.Home.Last.length (some uC)])), (9, none), (12, some (.arr 68 3 true (v4.1.map TTook.d))), (13, some (.arr 3 1 true (v4.2.2.Home.Last.map (D.int .i64))))]) (nw := (12, 28)) (r := .tuple [.ref 12 3 0 v4.1.length (some uC), .iface 179 (.agg [.str er2.1, .iface 106 (.agg [.int .i64 er2.2])])]) rfl rfl rfl rfl rfl (zfm 12 (zbm 20001 9 (zbm 20000 8 (zmp (.keep (.keep (.cons (.aggs (.keep (.keep (.cons (.new4 _ _ rfl) (.keep (.keep (.keep (.keep (.keep (.cons (.new4 _ _ rfl) (.refl _))))))))))) (.refl _)))) (zn4 (r' := .tuple [.ref 20100 3 0 v4.1.length (some uC), .iface 179 (.agg [.str er2.1, .iface 106 (.agg [.int .i64 er2.2])])]) (by rw [hEer2]; rfl) (zg0 (⟨(⟨(⟨n2, l7, l8⟩ : TSkeen), (⟨l9, l10⟩ : TStream), l11⟩ : THome)⟩ : Tgroup_home) a0 (v2.1[n3]) v4 hv4)))))) (fun id b h => zav [8, 9] _ id b h) (by simp) (.inr ⟨lb rfl, lb rfl⟩) ?_
 refine .rnx 5 hwn3 ?_
 refine .nn ?_
 refine .seq (.seq ?_)
 obtain ⟨v6, hv6, hx2⟩ := za2 hx2
 refine .rg zS [0, 4, 10, 11, 12, 15, 16, 38, 39, 40] ?_
 refine .rnx 3 hwn3 ?_
 refine .cl (zml (some er2) 9 v6 hv6) ?_
 refine .nn ?_
 refine .cd ?_ ?_ <;> intro hc4
 replace hx2 := zaf hx2 hc4
 refine .exit ?_
 refine ⟨_, ?_, (sj hx2).symm⟩
 exact .m [0, 4, 10, 11, 12, 38, 39, 40] [0, 8, 13, 10] [(13, 11), (10, 12)]
 replace hx2 := zao hx2 hc4
 refine .skip ?_
 obtain ⟨k2, hx2⟩ := zb0 hx2
 refine .plx zS hwn3 [0, 4, 10, 11, 12, 15, 38, 39, 40] ?_
 refine ⟨_, ?_, (sj hx2).symm⟩
 exact .m [0, 4, 10, 11, 12, 38, 39, 40] [0, 8, 13, 28] [(13, 11), (28, 12)]
 rintro ⟨n4, l13, l14, l15, l16, l17, l18⟩ hj1
 subst x2
 try dsimp only at hx1
 simp only [st63]
 refine .plx zS hwn3 [0, 4, 10, 11, 12, 38, 39, 40] ?_
 refine ⟨(n3 + 1, _, _, _, _, _, _, _), ?_, ⟨by omega, hx1⟩, by dsimp only; omega⟩
 exact .m [0, 4, 10, 11, 12, 38, 39, 40] [0, 8, 11, 12] [(11, 9), (12, 10)]
 have h2 : n3 = v2.1.length := by have h2b := of_decide_eq_false hc2; omega
 rw [zab (by omega), zn7] at hx1
 refine .exit ?_
 refine ⟨_, ?_, (sj hx1).symm⟩
 exact .m [4, 10, 12] [0, 8, 9, 10] []
 rintro ⟨n1, l1, l2, l3, l4, l5, l6⟩ hj2
 subst x1
 try dsimp only at h
 simp only [st61]
 obtain ⟨v7, hv7, h⟩ := za2 h
 refine .sr [4, 10, 12] ?_
 refine .rn 4 ?_
 refine .ncall (r := .agg [.int .i64 v7.Skeen.Clock, .imm 7 (v7.Skeen.Waits.map TWait.d) 13, .imm 2 (v7.Skeen.Done.map TStamp.d) 13, .imm 4 (v7.Stream.Topics.map TTopic.d) 13, .imm 1 (v7.Stream.Commits.map dL_inti64) 13, .ref 11 1 0 v7.Last.length (some uC)]) (eff := [(11, some (.arr 3 1 true (v7.Last.map (D.int .i64))))]) (nw := (11, 19)) [] rfl rfl rfl rfl rfl (za9 (zhr (zj9 (za8 rfl (za8 rfl (za8 rfl (za8 rfl (za8 rfl (za8 (zfv (zlp .i64) (by first | rfl | (simp only [go_sem, Nat.reduceBEq]; rfl)) (by first | rfl | (simp; done) | (simp <;> omega))) zeg))))))) trivial) zap) rfl (zdt 11 (lb rfl) (zqs (WkL.cons (Wk.agg (WkL.cons (Wk.refl _) (WkL.cons Wk.iz (WkL.cons Wk.iz (WkL.cons Wk.iz (WkL.cons Wk.iz (WkL.cons (Wk.refl _) (WkL.refl _)))))))) (WkL.refl _)) (zlv (⟨(⟨n1, l1, l2⟩ : TSkeen), (⟨l3, l4⟩ : TStream), l5⟩ : THome) v7 hv7))) (zc4 rfl rfl (ze4 zd1 _ _ _) ze8) (by intro i hi; simp [D.ids, D.idsL] at hi <;> omega) rfl ⟨lb rfl, lb rfl⟩ ?_
 refine .rn 4 ?_
 refine .nn ?_
 obtain rfl := sj h
 refine .ret ⟨st11 (v7, l6, 0), ?_, .inr rfl, retH [1, 0] ?_ ?_⟩
 exact .m [4, 5, 6] [11, 10, 0] [(11, 0), (10, 1), (0, 2)]
 exact rsi0
 rfl
 rw [hEer1] at h
 dsimp only at h
 refine .sr [0, 1, 4] ?_
 refine .rn 1 ?_
 refine .call rfl rfl rfl rfl rfl rfl (zh7 (r' := .iface 179 (.agg [.str er1.1, .iface 106 (.agg [.int .i64 er1.2])])) (by rw [hEer1]; rfl) (zgq a0 v1 hv1)) ?_
 refine .rn 1 ?_
 refine .nn ?_
 refine .sp [0, 1, 4, 7] ?_
 refine .cond rfl rfl (fun hc => ?_) (fun hc => by cases hc)
 obtain ⟨v8, hv8, h⟩ := za2 h
 refine .sr [4, 7] ?_
 refine .rn 2 ?_
 refine .cl (zhu (some er1) v8 hv8) ?_
 refine .rn 3 ?_
 refine .nn ?_
 obtain rfl := sj h
 refine .ret ⟨st11 ((⟨(⟨0, [], []⟩ : TSkeen), (⟨[], []⟩ : TStream), []⟩ : THome), [], v8), ?_, .inr rfl, retH [1, 0] ?_ ?_⟩
 refine .n0 1 3 ?_
 refine .n0 3 68 ?_
 refine .boxs 0 _ [.int .i64 0, .imm 7 [] 13, .imm 2 [] 13, .imm 4 [] 13, .imm 1 [] 13, .ref 1 1 0 0 (some uC)] rfl (.keep (.cons (.nil12 _ _ 0 (by decide)) (.cons (.nil12 _ _ 0 (by decide)) (.cons (.nil12 _ _ 0 (by decide)) (.cons (.nil12 _ _ 0 (by decide)) (.cons (.own0 1 _ _ _ (by decide)) (.refl _))))))) ?_
 refine .w0 5 2 3 ?_
 exact .m [4, 5, 6] [1, 2, 0] [(1, 0), (2, 1), (0, 2)]
 exact rsi0
 rfl
theorem zqd (a0 : Int) (a1 : List (List UInt8)) (r : THome × (List TTook) × Int) (h : zgf a0 a1 = some r) : zb9 Tryz.prog 24 [.int .i64 a0, .imm 1 (a1.map D.str) 4] (.tuple [.agg [.int .i64 r.1.Skeen.Clock, .imm 7 (r.1.Skeen.Waits.map TWait.d) 13, .imm 2 (r.1.Skeen.Done.map TStamp.d) 13, .imm 4 (r.1.Stream.Topics.map TTopic.d) 13, .imm 1 (r.1.Stream.Commits.map dL_inti64) 13, .imm 1 (r.1.Last.map (D.int .i64)) 13], .imm 3 (r.2.1.map TTook.d) 13, .int .i64 r.2.2]) :=
 ze7 (zmh (zaa (zhs (zaa rfl (zaa rfl (zaa rfl (zaa rfl (zaa rfl (zaa (zcm zd1 rfl rfl) zcd))))))) (zaa (zcm zkp rfl rfl) (zaa rfl zcd)))) (zqi a0 a1 r h)
end Go.Proofs
namespace Go.Tm
theorem zuk (a b c d i : Int) (h : 0 <= i /\ i < 4) : List.drop i.toNat [D.int .i64 a, .int .i64 b, .int .i64 c, .int .i64 d] = D.int .i64 ([a, b, c, d].getD i.toNat 0) :: List.drop (i.toNat + 1) [D.int .i64 a, .int .i64 b, .int .i64 c, .int .i64 d] /\ 0 <= i /\ i < 4 /\ i.toNat <= 3 := by
 have : i = 0 \/ i = 1 \/ i = 2 \/ i = 3 := by omega
 rcases this with rfl | rfl | rfl | rfl <;> exact ⟨rfl, by decide, by decide, by decide⟩
theorem ya4t (a b c d i v : Int) (h : 0 <= i /\ i < 4) : List.take i.toNat [D.int .i64 a, .int .i64 b, .int .i64 c, .int .i64 d] ++ [D.int .i64 v] ++ List.drop i.toNat [D.int .i64 b, .int .i64 c, .int .i64 d] = [D.int .i64 (if i = 0 then v else a), .int .i64 (if i = 1 then v else b), .int .i64 (if i = 2 then v else c), .int .i64 (if i = 3 then v else d)] := by
 have : i = 0 \/ i = 1 \/ i = 2 \/ i = 3 := by omega
 rcases this with rfl | rfl | rfl | rfl <;> rfl
end Go.Tm
namespace Go.Tm
open Go.RowKit Go.WideShapes
def zwm (dr : Bool) (ops : List Oper) : Nat -> List Oper -> St -> List FP -> Option (St × Bool × List FP × List Oper)
 | 0, l, st, fps => some (st, true, fps, l)
 | _ + 1, [], st, fps => some (st, true, fps, [])
 | n + 1, o :: l, st, fps => match o.guard with
  | none => none
  | some (j, want) => match zq6 ops j with
   | none => none
   | some t => match gval want (getR st.vars t) with
    | some false => zwm dr ops n l (st.app o.dst { d := .when false .undef, vc := true }) (bif dr then fps ++ [fpOf o ⟨getR st.vars, getL st.heap, fun _ => true⟩ { d := .when false .undef, vc := true }] else fps)
    | _ => none
section
variable {P : Program} {tab : Nat -> TI} {lim n : Nat}
theorem WRun.skips {ops : Array Oper} {dr : Bool} : ∀ (k : Nat) {l l' : List Oper} {st st' : St} {acc acc' : List FP} {Q : St -> List FP -> Prop}, zwm dr ops.toList k l st acc = some (st', true, acc', l') -> (dr = true \/ ∀ st a b, Q st a -> Q st b) -> WRun P tab true lim ops l' st' acc' Q -> WRun P tab true lim ops l st acc Q
 | 0, l, l', st, st', acc, acc', Q, h, hdr, hQ => by
  simp only [zwm, za3, za6] at h
  obtain ⟨rfl, -, rfl, rfl⟩ := h
  exact hQ
 | k + 1, [], l', st, st', acc, acc', Q, h, hdr, hQ => by
  simp only [zwm, za3, za6] at h
  obtain ⟨rfl, -, rfl, rfl⟩ := h
  exact hQ
 | k + 1, o :: l, l', st, st', acc, acc', Q, h, hdr, hQ => by
  simp only [zwm] at h
  split at h
  cases h
  rename_i j want hg
  split at h
  cases h
  rename_i t hj
  split at h
  rename_i hgv
  obtain ⟨os, st2, hch, hq⟩ := WRun.skips (dr := dr) k h hdr hQ
  refine ⟨_, st2, .cons (out := { d := .when false .undef, vc := true }) ?_ ztg hch, ?_⟩
  unfold zk5
  simp only [hg]
  refine ⟨t, false, { d := .undef, vc := true }, ?_, hgv, fun h => (by cases h), rfl⟩
  rw [zlk] at hj
  simpa [zmg] using hj
  rcases hdr with hd | hd
  subst hd
  simp only [cond_true, zum o st lim] at hq
  simpa using hq
  exact hd _ _ _ hq
  cases h
theorem WRun.gf {X : Prop} {ops : Array Oper} (dr : Bool) (k : Nat) {l l' : List Oper} {st st' : St} {acc acc' : List FP} {Q : St -> List FP -> Prop} (x : X) (hQ : WRun P tab true lim ops l' st' acc' Q)
  (hdr : dr = true \/ ∀ st a b, Q st a -> Q st b := by first | exact .inl rfl | exact .inr fun _ _ _ h => ⟨nofun, h.2⟩)
  (h : X -> zjf (zwm dr ops.toList k l st acc) st' true acc' l' := by intro x q hq; simp only [go_sem, zwm, Nat.reduceSub, Int.reduceEq, Nat.reduceLT, Nat.reduceDiv, Nat.reduceAdd, Nat.reduceBEq, Nat.reduceLeDiff, reduceCtorEq, Nat.reduceEqDiff, Nat.reduceMod, Nat.reduceMul, zbv, x]; exact hq) : WRun P tab true lim ops l st acc Q :=
 .skips k (h x).eq hdr hQ
end
end Go.Tm
namespace Go.Proofs
open Go.Tm
set_option linter.unusedVariables false
def zh0 (a0 : Torder_step) (c0 : List TMessage) : Option ((List TMessage)) :=
 if c0.length + a0.fOut.length < 1000000 then
 some (c0 ++ a0.fOut)
 else none
def zbu (a0 : Int) : List TCommand -> (List TMessage) -> Int -> (List TWait) -> (List TStamp) -> Option ((List TMessage) × Int × (List TWait) × (List TStamp))
 | [], l4, n2, l5, l6 =>
  some (l4, n2, l5, l6)
 | y1 :: rest1, l4, n2, l5, l6 =>
  Option.bind (zcc (⟨n2, l5, l6⟩ : TSkeen) a0 (y1)) fun v3 =>
  Option.bind (α := Int × (List TWait) × (List TStamp) × (List TMessage)) (if ¬ (v3.2.2 = 0) then
  some (n2, l5, l6, [])
  else
  some (v3.1.Clock, v3.1.Waits, v3.1.Done, v3.2.1)) fun (n4, l7, l8, l9) =>
  Option.bind (zh0 (⟨y1, (⟨n2, l5, l6⟩ : TSkeen), (⟨n4, l7, l8⟩ : TSkeen), l9⟩ : Torder_step) l4) fun v4 =>
  zbu a0 rest1 v4 n4 l7 l8
def zgm (a0 : Int) (a1 : List (List UInt8)) (a2_0 : List TMessage) : Option (TSkeen × Int × (List TMessage)) :=
 if (a0 < 0) \/ (a0 >= 4) then
 some ((⟨0, [], []⟩ : TSkeen), 2, a2_0)
 else
 Option.bind (zf8 a1) fun v1 =>
 if ¬ (v1.2 = 0) then
 some ((⟨0, [], []⟩ : TSkeen), v1.2, a2_0)
 else
 Option.bind (zi7 ) fun v2 =>
 Option.bind (α := (List TMessage) × Int × (List TWait) × (List TStamp)) (zbu a0 v1.1 a2_0 v2.Clock v2.Waits v2.Done) fun (l1, n1, l2, l3) =>
 Option.bind (zdu (⟨n1, l2, l3⟩ : TSkeen)) fun v5 =>
 some (v5, 0, l1)
def zgd (a0 : Int) (a1 : List (List UInt8)) : Option (TSkeen × (List TMessage) × Int) :=
 Option.bind (zgm a0 a1 []) fun v1 =>
 some (v1.1, v1.2.2, v1.2.1)
def zim (a0 : TStream) (a1 : Int) : Option (Int × Int) :=
 Option.bind (zf7 a0 a1) fun v1 =>
 if ¬ (v1 = 0) then
 some (0, v1)
 else
 if (0 <= a1 /\ a1 < (a0.Topics.length : Int)) then
 some ((a0.Topics.getD a1.toNat default).Next, 0)
 else none
def zbf (v3 : THome × (List TTook) × Int) (v4 : TSkeen × (List TMessage) × Int) (n10 : Int) : Nat -> Int -> Option (Int)
 | 0, _ => none
 | fu2 + 1, n17 =>
  if (n17 < (v4.2.1.length : Int)) -> (0 <= n17 /\ n17 < (v4.2.1.length : Int)) then
  if (n17 < (v4.2.1.length : Int)) -> (0 <= n10 /\ n10 < (v3.2.1.length : Int)) then
  if (n17 < (v4.2.1.length : Int)) /\ (¬ ((v4.2.1.getD n17.toNat default).Id = (v3.2.1.getD n10.toNat default).Id)) then
  zbf v3 v4 n10 fu2 (wr .i64 (n17 + 1))
  else
  some n17
  else none
  else none
def zb8 (v3 : THome × (List TTook) × Int) (v4 : TSkeen × (List TMessage) × Int) : Nat -> Int -> Int -> Int -> Int -> Int -> Int -> Option (Bool ⊕ (Int × Int × Int × Int))
 | 0, _, _, _, _, _, _ => none
 | fu1 + 1, n5, n6, n7, n8, n9, n10 =>
  if n10 < (v3.2.1.length : Int) then
  Option.bind (α := Bool ⊕ (Int × Int × Int × Int × Int)) (Option.bind (α := Int) (zbf v3 v4 n10 (201) n9) fun n16 =>
  if (¬ (n16 = (v4.2.1.length : Int))) -> (0 <= n16 /\ n16 < (v4.2.1.length : Int)) then
  if (¬ (n16 = (v4.2.1.length : Int))) -> (0 <= n10 /\ n10 < (v3.2.1.length : Int)) then
  if (¬ ((n16 = (v4.2.1.length : Int)) \/ (¬ ((v4.2.1.getD n16.toNat default).Topic = (v3.2.1.getD n10.toNat default).Topic)))) -> (0 <= n10 /\ n10 < (v3.2.1.length : Int)) then
  if (¬ ((n16 = (v4.2.1.length : Int)) \/ (¬ ((v4.2.1.getD n16.toNat default).Topic = (v3.2.1.getD n10.toNat default).Topic)))) -> (0 <= (v3.2.1.getD n10.toNat default).Topic /\ (v3.2.1.getD n10.toNat default).Topic < 4) then
  if ((n16 = (v4.2.1.length : Int)) \/ (¬ ((v4.2.1.getD n16.toNat default).Topic = (v3.2.1.getD n10.toNat default).Topic))) \/ (¬ ((v3.2.1.getD n10.toNat default).Offset = ([n5, n6, n7, n8].getD ((v3.2.1.getD n10.toNat default).Topic).toNat 0))) then
  some (.inl false)
  else
  if (0 <= n10 /\ n10 < (v3.2.1.length : Int)) then
  if (0 <= (v3.2.1.getD n10.toNat default).Topic /\ (v3.2.1.getD n10.toNat default).Topic < 4) then
  some (.inr ((if (v3.2.1.getD n10.toNat default).Topic = 0 then (wr .i64 (([n5, n6, n7, n8].getD ((v3.2.1.getD n10.toNat default).Topic).toNat 0) + 1)) else n5), (if (v3.2.1.getD n10.toNat default).Topic = 1 then (wr .i64 (([n5, n6, n7, n8].getD ((v3.2.1.getD n10.toNat default).Topic).toNat 0) + 1)) else n6), (if (v3.2.1.getD n10.toNat default).Topic = 2 then (wr .i64 (([n5, n6, n7, n8].getD ((v3.2.1.getD n10.toNat default).Topic).toNat 0) + 1)) else n7), (if (v3.2.1.getD n10.toNat default).Topic = 3 then (wr .i64 (([n5, n6, n7, n8].getD ((v3.2.1.getD n10.toNat default).Topic).toNat 0) + 1)) else n8), (wr .i64 (n16 + 1))))
  else none
  else none
  else none
  else none
  else none
  else none) fun z => match z with
  | (.inl r) => some (.inl r)
  | (.inr (n11, n12, n13, n14, n15)) =>
  zb8 v3 v4 fu1 n11 n12 n13 n14 n15 (wr .i64 (n10 + 1))
  else
  some (.inr (n5, n6, n7, n8))
def zb7 (v3 : THome × (List TTook) × Int) (n1 : Int) (n2 : Int) (n3 : Int) (n4 : Int) : Nat -> Int -> Option (Bool ⊕ Unit)
 | 0, _ => none
 | fu3 + 1, n18 =>
  if n18 < 4 then
  Option.bind (zim v3.1.Stream n18) fun v5 =>
  if (¬ (¬ (v5.2 = 0))) -> (0 <= n18 /\ n18 < 4) then
  if (¬ (v5.2 = 0)) \/ (¬ (v5.1 = ([n1, n2, n3, n4].getD n18.toNat 0))) then
  some (.inl false)
  else
  zb7 v3 n1 n2 n3 n4 fu3 (wr .i64 (n18 + 1))
  else none
  else
  some (.inr ())
def zdy (a0 : Int) (a1 : List (List UInt8)) : Option Bool :=
 Option.bind (zep ) fun v1 =>
 if v1 = true then
 Option.bind (ze5 a1) fun v2 =>
 if (v2 = true) \/ (¬ (v1 = true)) then
 some v1
 else
 Option.bind (zgf a0 a1) fun v3 =>
 Option.bind (zgd a0 a1) fun v4 =>
 if (¬ (v3.2.2 = 0)) \/ (¬ (v4.2.2 = 0)) then
 some ((v3.2.2 == v4.2.2) && ((v3.2.1.length : Int) == 0))
 else
 Option.bind (α := Bool ⊕ (Int × Int × Int × Int)) (zb8 v3 v4 (201) 0 0 0 0 0 0) fun z => match z with
 | (.inl r) => some r
 | (.inr (n1, n2, n3, n4)) =>
 Option.bind (α := Bool ⊕ Unit) (zb7 v3 n1 n2 n3 n4 (5) 0) fun z => match z with
 | (.inl r) => some r
 | (.inr _) =>
 some ((v3.2.1.length : Int) == (v4.2.1.length : Int))
 else none
end Go.Proofs
