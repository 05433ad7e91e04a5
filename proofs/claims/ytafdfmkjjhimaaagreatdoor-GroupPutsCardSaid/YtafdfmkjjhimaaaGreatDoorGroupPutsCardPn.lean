/- Texts of the proof. -/
import Derived.Test.YtafdfmkjjhimaaaGreatDoorGroupPutsCardPg
import Derived.Test.YtafdfmkjjhimaaaGreatDoorGroupPutsCardPh
import Derived.Test.YtafdfmkjjhimaaaGreatDoorGroupPutsCardPi
import Derived.Test.YtafdfmkjjhimaaaGreatDoorGroupPutsCardPj
import Derived.Test.YtafdfmkjjhimaaaGreatDoorGroupPutsCardPl
import Derived.Test.YtafdfmkjjhimaaaGreatDoorGroupPutsCardPm
import Derived.Test.YtafdfmkjjhimaaaGreatDoorGroupPutsCardPf
namespace Go.Proofs
open Go.Tm Go.RowKit Go.WideShapes
set_option maxRecDepth 100000
set_option maxHeartbeats 4000000
set_option linter.unusedSimpArgs false
set_option linter.unusedVariables false
@[go_sem] def st21 (r : (List TMessage)) : St := ⟨[(1, .ptr 20000 0)], [(20000, .box [.ref 20100 5 0 r.length (some uC)]), (20100, .arr 34 5 true (r.map TMessage.m))], 20101⟩
theorem zox (a0 : Torder_step) (c0 : List TMessage) (r : (List TMessage)) (h : zh0 a0 c0 = some r) : zby Tryz.prog 61 [.agg [.int .u8 a0.fC.Kind, .int .i64 a0.fC.Message.Id, .imm 1 (a0.fC.Message.Groups.map (D.int .i64)) 12, .int .i64 a0.fC.Message.Topic, .str a0.fC.Message.Key, .str a0.fC.Message.Body, .int .i64 a0.fC.Id, .int .i64 a0.fC.Time, .imm 1 (a0.fC.Members.map (D.int .i64)) 12, .int .i64 a0.fC.Topic, .int .i64 a0.fC.Who, .int .i64 a0.fC.N, .int .i64 a0.fBefore.Clock, .imm 7 (a0.fBefore.Waits.map TWait.d) 12, .imm 2 (a0.fBefore.Done.map TStamp.d) 12, .int .i64 a0.fAfter.Clock, .imm 7 (a0.fAfter.Waits.map TWait.d) 12, .imm 2 (a0.fAfter.Done.map TStamp.d) 12, .imm 5 (a0.fOut.map TMessage.d) 12], .ptr 20000 0] [(20000, .box [.ref 20001 5 0 c0.length (some uC)]), (20001, .arr 34 5 true (c0.map TMessage.m))] (.tuple []) [(20000, some (.box [.ref 20100 5 0 r.length (some uC)])), (20001, none), (20100, some (.arr 34 5 true (r.map TMessage.m)))] (20100, 20104) := by
 refine zcu Tryz.func61 ?_
 intro hwf
 unfold zh0 at h
 refine .ends 20100 (za4 _) ?_
 refine .sp [0, 1] ?_
 obtain ⟨k1, h⟩ := zb0 h
 refine .pl zS [1, 2] ?_
 obtain rfl := sj h
 refine ⟨st21 (c0 ++ a0.fOut), ?_, .inl rfl, retH [20000, 20100] ?_ ?_⟩
 exact .m [1] [20000, 20101] [(20101, 20100)]
 exact rsi0
 rfl
@[go_sem] def st74 (l1 : List TMessage) (n1 : Int) (l2 : List TWait) (l3 : List TStamp) : St := ⟨[(2, .fn (.func 61) [.ptr 20000 0]), (6, .ptr 20100 0), (10, .ptr 20101 0)], [(20000, .box [.ref 20102 5 0 l1.length (some uC)]), (20100, .box [.int .i64 0, .imm 0 [] 0, .imm 0 [] 0]), (20101, .box [.int .i64 n1, .imm 7 (l2.map TWait.d) 13, .imm 2 (l3.map TStamp.d) 13]), (20102, .arr 34 5 true (l1.map TMessage.m))], 20103⟩
@[go_sem] def st75 (a0 : Int) (v1 : (List TCommand) × Int) (n3 : Nat) (l4 : List TMessage) (n2 : Int) (l5 : List TWait) (l6 : List TStamp) : St := ⟨[(0, .int .i64 a0), (2, .fn (.func 61) [.ptr 20000 0]), (6, .ptr 20100 0), (10, .ptr 20101 0), (33, .imm 12 (v1.1.map TCommand.d) 13), (34, .int .i64 (v1.1.length : Int)), (35, .int .i64 (n3 : Int))], [(20000, .box [.ref 20102 5 0 l4.length (some uC)]), (20100, .box [.int .i64 0, .imm 0 [] 0, .imm 0 [] 0]), (20101, .box [.int .i64 n2, .imm 7 (l5.map TWait.d) 13, .imm 2 (l6.map TStamp.d) 13]), (20102, .arr 34 5 true (l4.map TMessage.m))], 20103⟩
@[go_sem] def st76 (a0 : Int) (v1 : (List TCommand) × Int) (n3 : Nat) (l4 : List TMessage) (n2 : Int) (l5 : List TWait) (l6 : List TStamp) (yq0 : TCommand) (n4 : Int) (l7 : List TWait) (l8 : List TStamp) (l9 : List TMessage) : St := ⟨[(0, .int .i64 a0), (2, .fn (.func 61) [.ptr 20000 0]), (6, .ptr 20100 0), (10, .ptr 20101 0), (12, .ptr 20103 0), (13, .ptr 20104 0), (14, .imm 5 (l9.map TMessage.d) 13), (33, .imm 12 (v1.1.map TCommand.d) 13), (34, .int .i64 (v1.1.length : Int)), (35, .int .i64 (n3 : Int))], [(20000, .box [.ref 20102 5 0 l4.length (some uC)]), (20100, .box [.int .i64 0, .imm 0 [] 0, .imm 0 [] 0]), (20101, .box [.int .i64 n2, .imm 7 (l5.map TWait.d) 13, .imm 2 (l6.map TStamp.d) 13]), (20102, .arr 34 5 true (l4.map TMessage.m)), (20103, .box [.int .u8 (yq0.Kind), .int .i64 (yq0.Message.Id), .imm 1 ((yq0.Message.Groups).map (D.int .i64)) 12, .int .i64 (yq0.Message.Topic), .str (yq0.Message.Key), .str (yq0.Message.Body), .int .i64 (yq0.Id), .int .i64 (yq0.Time), .imm 1 ((yq0.Members).map (D.int .i64)) 12, .int .i64 (yq0.Topic), .int .i64 (yq0.Who), .int .i64 (yq0.N)]), (20104, .box [.int .i64 n4, .imm 7 (l7.map TWait.d) 13, .imm 2 (l8.map TStamp.d) 13])], 20105⟩
@[go_sem] def st22 (r : TSkeen × Int × (List TMessage)) : St := ⟨[(2, .fn (.func 61) [.ptr 20000 0]), (6, .ptr 20101 0), (7, .int .i64 r.2.1)], [(20000, .box [.ref 20100 5 0 r.2.2.length (some uC)]), (20100, .arr 34 5 true (r.2.2.map TMessage.m)), (20101, .box [.int .i64 r.1.Clock, .imm 7 (r.1.Waits.map TWait.d) 13, .imm 2 (r.1.Done.map TStamp.d) 13])], 20102⟩
theorem zmq (a0 : Int) (a1 : List (List UInt8)) (a2_0 : List TMessage) (r : TSkeen × Int × (List TMessage)) (h : zgm a0 a1 a2_0 = some r) : zby Tryz.prog 60 [.int .i64 a0, .imm 1 (a1.map D.str) 4, .fn (.func 61) [.ptr 20000 0]] [(20000, .box [.ref 20001 5 0 a2_0.length (some uC)]), (20001, .arr 34 5 true (a2_0.map TMessage.m))] (.tuple [.agg [.int .i64 r.1.Clock, .imm 7 (r.1.Waits.map TWait.d) 13, .imm 2 (r.1.Done.map TStamp.d) 13], .int .i64 r.2.1]) [(20000, some (.box [.ref 20100 5 0 r.2.2.length (some uC)])), (20001, none), (20100, some (.arr 34 5 true (r.2.2.map TMessage.m)))] (20100, 20111) := by
 refine zcu Tryz.func60 ?_
 intro hwf
 unfold zgm at h
 refine .ends 20100 (za4 _) ?_
 refine .sp [0, 1, 2] ?_
 refine .seq (.seq (.pl zS [0, 1, 2, 6] ?_))
 refine .cd ?_ ?_ <;> intro hc1
 replace h := zaf h hc1
 refine .sp [2, 6] ?_
 obtain rfl := sj h
 refine .ret ⟨st22 ((⟨0, [], []⟩ : TSkeen), 2, a2_0), ?_, .inr rfl, retH [20000, 20100] ?_ ?_⟩
 refine .boxs 20100 _ [.int .i64 0, .imm 7 [] 13, .imm 2 [] 13] rfl (.keep (.cons (.nil12 _ _ 0 (by decide)) (.cons (.nil12 _ _ 0 (by decide)) (.refl _)))) ?_
 exact .m [2, 6, 7] [20000, 20001, 20100] [(20001, 20100), (20100, 20101)]
 exact rsi0
 rfl
 replace h := zao h hc1
 refine .skip ?_
 obtain ⟨v1, hv1, h⟩ := za2 h
 refine .sr [0, 1, 2, 6] ?_
 refine .rn 1 ?_
 refine .cl (zke a1 v1 hv1) ?_
 refine .rn 5 ?_
 refine .nn ?_
 refine .seq (.seq (.pl zS [0, 2, 6, 8, 9] ?_))
 refine .cd ?_ ?_ <;> intro hc2
 replace h := zaf h hc2
 refine .sp [2, 6, 9] ?_
 obtain rfl := sj h
 refine .ret ⟨st22 ((⟨0, [], []⟩ : TSkeen), v1.2, a2_0), ?_, .inr rfl, retH [20000, 20100] ?_ ?_⟩
 refine .boxs 20100 _ [.int .i64 0, .imm 7 [] 13, .imm 2 [] 13] rfl (.keep (.cons (.nil12 _ _ 0 (by decide)) (.cons (.nil12 _ _ 0 (by decide)) (.refl _)))) ?_
 exact .m [2, 6, 7] [20000, 20001, 20100] [(20001, 20100), (20100, 20101)]
 exact rsi0
 rfl
 replace h := zao h hc2
 refine .skip ?_
 obtain ⟨v2, hv2, h⟩ := za2 h
 refine .sr [0, 2, 6, 8] ?_
 refine .cl (zmk  v2 hv2) ?_
 refine .rn 2 ?_
 refine .nn ?_
 obtain ⟨x1, hx1, h⟩ := za2 h
 refine .seqM 20102 (fun (j : (List TMessage) × Int × (List TWait) × (List TStamp)) => st74 j.1 j.2.1 j.2.2.1 j.2.2.2) (fun j => x1 = j) (lb rfl) ?_ ?_
 refine .sp [0, 2, 6, 8, 10] ?_
 refine .block ?_
 refine .loopG 20102 (fun (j : Nat × (List TMessage) × Int × (List TWait) × (List TStamp)) => st75 a0 v1 j.1 j.2.1 j.2.2.1 j.2.2.2.1 j.2.2.2.2) (fun j => j.1 <= v1.1.length /\ zbu a0 (v1.1.drop j.1) j.2.1 j.2.2.1 j.2.2.2.1 j.2.2.2.2 = some x1) (fun j => v1.1.length - j.1) (0, a2_0, v2.Clock, v2.Waits, v2.Done) (lb rfl) ?_ ⟨Nat.zero_le _, hx1⟩ ?_
 exact .m [0, 2, 6, 10, 33, 34, 35] [20000, 20100, 20101, 20001] [(20001, 20102)]
 rintro ⟨n3, l4, n2, l5, l6⟩ ⟨hi1, hx1⟩
 simp only [st75]
 simp only at hi1 hx1
 refine .wf 34 (.int .i64 (v1.1.length : Int)) rfl ?_
 intro hln3
 replace hln3 := wfn hln3
 refine .sp [0, 2, 6, 10, 33, 34, 35] ?_
 refine .seq (.cd (fun hc3 => ?_) (fun hc3 => ?_))
 have h1 : n3 < v1.1.length := by simpa using hc3
 have hwn3 := zdw h1 hln3
 have hpn3 := zdx h1 hln3
 rw [za7 h1, zbu] at hx1
 refine .skip (.seq (.block (.seq ?_)))
 have e1 := zdk TCommand.d v1.1 n3 h1
 refine .plx zS (ai e1 hwn3) [0, 2, 6, 10, 33, 34, 35] ?_
 refine .seq ?_
 obtain ⟨v3, hv3, hx1⟩ := za2 hx1
 refine .rg zS [0, 2, 6, 10, 12, 33, 34, 35] ?_
 refine .rnx 3 hwn3 ?_
 refine .call rfl rfl rfl rfl rfl rfl (zii (WkL.cons (Wk.agg (WkL.cons (Wk.refl _) (WkL.cons Wk.iz (WkL.cons Wk.iz (WkL.refl _))))) (WkL.cons (Wk.refl _) (WkL.cons (Wk.refl _) (WkL.refl _)))) (zl2 (⟨n2, l5, l6⟩ : TSkeen) a0 (v1.1[n3]) v3 hv3)) ?_
 refine .rnx 8 hwn3 ?_
 refine .nn ?_
 obtain ⟨x2, hx2, hx1⟩ := za2 hx1
 refine .seqM 20105 (fun (j : Int × (List TWait) × (List TStamp) × (List TMessage)) => st76 a0 v1 n3 l4 n2 l5 l6 (v1.1[n3]) j.1 j.2.1 j.2.2.1 j.2.2.2) (fun j => x2 = j) (lb rfl) ?_ ?_
 refine .seq (.plx zS hwn3 [0, 2, 6, 10, 12, 13, 14, 15, 33, 34, 35] ?_)
 refine .cd ?_ ?_ <;> intro hc4
 replace hx2 := zaf hx2 hc4
 refine .plx zS hwn3 [0, 2, 6, 10, 12, 13, 33, 34, 35] ?_
 refine ⟨_, ?_, (sj hx2).symm⟩
 refine .wk 14 _ (.imm 5 [] 13) rfl (.nil12 _ _ 0 (by decide)) ?_
 exact .m [0, 2, 6, 10, 12, 13, 14, 33, 34, 35] [20000, 20100, 20101, 20102, 20103, 20104] []
 replace hx2 := zao hx2 hc4
 refine .skip ?_
 refine ⟨_, ?_, (sj hx2).symm⟩
 exact .m [0, 2, 6, 10, 12, 13, 14, 33, 34, 35] [20000, 20100, 20101, 20102, 20103, 20104] []
 rintro ⟨n4, l7, l8, l9⟩ hj1
 subst x2
 try dsimp only at hx1
 simp only [st76]
 refine .seq ?_
 obtain ⟨v4, hv4, hx1⟩ := za2 hx1
 refine .rg zS [0, 2, 6, 10, 12, 13, 14, 33, 34, 35] ?_
 refine .rnx 6 hwn3 ?_
 refine .hcall (H := [(20000, .box [.ref 20102 5 0 l4.length (some uC)]), (20102, .arr 34 5 true (l4.map TMessage.m))]) (eff := [(20000, some (.box [.ref 20105 5 0 v4.length (some uC)])), (20102, none), (20105, some (.arr 34 5 true (v4.map TMessage.m)))]) (nw := (20105, 20109)) (r := .tuple []) rfl rfl rfl rfl rfl (zbm 20001 20102 (zbm 20000 20000 (zcn 20105 (zmp (.cons (.aggs (.keep (.keep (.keep (.keep (.keep (.keep (.keep (.keep (.keep (.keep (.keep (.keep (.keep (.cons (.newR _ _ rfl) (.cons (.newR _ _ rfl) (.keep (.cons (.newR _ _ rfl) (.cons (.newR _ _ rfl) (.cons (.newR _ _ rfl) (.refl _))))))))))))))))))))) (.refl _)) (zox (⟨v1.1[n3], (⟨n2, l5, l6⟩ : TSkeen), (⟨n4, l7, l8⟩ : TSkeen), l9⟩ : Torder_step) l4 v4 hv4))))) (fun id b h => zav [20000, 20102] _ id b h) (by simp) (.inr ⟨lb rfl, lb rfl⟩) ?_
 refine .nn ?_
 refine .plx zS hwn3 [0, 2, 6, 10, 13, 33, 34, 35] ?_
 refine .plx zS hwn3 [0, 2, 6, 10, 33, 34, 35] ?_
 refine ⟨(n3 + 1, _, _, _, _), ?_, ⟨by omega, hx1⟩, by dsimp only; omega⟩
 exact .m [0, 2, 6, 10, 33, 34, 35] [20000, 20100, 20101, 20105] [(20105, 20102)]
 have h2 : n3 = v1.1.length := by have h2b := of_decide_eq_false hc3; omega
 rw [zab (by omega), zbu] at hx1
 refine .exit ?_
 refine ⟨_, ?_, (sj hx1).symm⟩
 exact .m [2, 6, 10] [20000, 20100, 20101, 20102] []
 rintro ⟨l1, n1, l2, l3⟩ hj2
 subst x1
 try dsimp only at h
 simp only [st74]
 obtain ⟨v5, hv5, h⟩ := za2 h
 refine .sr [2, 6, 10] ?_
 refine .rn 1 ?_
 refine .call rfl rfl rfl rfl rfl rfl (zii (WkL.cons (Wk.agg (WkL.cons (Wk.refl _) (WkL.cons Wk.iz (WkL.cons Wk.iz (WkL.refl _))))) (WkL.refl _)) (zlr (⟨n1, l2, l3⟩ : TSkeen) v5 hv5)) ?_
 refine .rn 2 ?_
 refine .nn ?_
 obtain rfl := sj h
 refine .ret ⟨st22 (v5, 0, l1), ?_, .inr rfl, retH [20000, 20100] ?_ ?_⟩
 exact .m [2, 6, 7] [20000, 20102, 20100] [(20102, 20100), (20100, 20101)]
 exact rsi0
 rfl
@[go_sem] def st20 (r : TSkeen × (List TMessage) × Int) : St := ⟨[(4, .ptr 1 0), (5, .ptr 2 0), (6, .int .i64 r.2.2)], [(0, .arr 34 5 true (r.2.1.map TMessage.m)), (1, .box [.int .i64 r.1.Clock, .imm 7 (r.1.Waits.map TWait.d) 13, .imm 2 (r.1.Done.map TStamp.d) 13]), (2, .box [.ref 0 5 0 r.2.1.length (some uC)])], 3⟩
theorem zqh (a0 : Int) (a1 : List (List UInt8)) (r : TSkeen × (List TMessage) × Int) (h : zgd a0 a1 = some r) : zby Tryz.prog 27 [.int .i64 a0, .imm 1 (a1.map D.str) 4] [] (.tuple [.agg [.int .i64 r.1.Clock, .imm 7 (r.1.Waits.map TWait.d) 13, .imm 2 (r.1.Done.map TStamp.d) 13], .ref 0 5 0 r.2.1.length (some uC), .int .i64 r.2.2]) [(0, some (.arr 34 5 true (r.2.1.map TMessage.m)))] (0, 16) := by
 refine zcu Tryz.func27 ?_
 intro hwf
 unfold zgd at h
 refine .ends 0 (za4 _) ?_
 refine .sp [0, 1] ?_
 refine .goes (.new0 5 34 (lb rfl) .refl) ?_
 refine .goes (.boxs 1 _ [.ref 2 5 0 0 (some uC)] rfl (.cons (.own0 2 _ _ _ (by decide)) (.refl _)) .refl) ?_
 obtain ⟨v1, hv1, h⟩ := za2 h
 refine .sr [0, 1, 4, 5] ?_
 refine .rn 3 ?_
 refine .hcall (H := [(1, .box [.ref 2 5 0 0 (some uC)]), (2, .arr 34 5 true [])]) (eff := [(1, some (.box [.ref 3 5 0 v1.2.2.length (some uC)])), (2, none), (3, some (.arr 34 5 true (v1.2.2.map TMessage.m)))]) (nw := (3, 14)) (r := .tuple [.agg [.int .i64 v1.1.Clock, .imm 7 (v1.1.Waits.map TWait.d) 13, .imm 2 (v1.1.Done.map TStamp.d) 13], .int .i64 v1.2.1]) rfl rfl rfl rfl rfl (zfm 3 (zbm 20001 2 (zbm 20000 1 (zmq a0 a1 [] v1 hv1)))) (fun id b h => zav [1, 2] _ id b h) (by simp) (.inr ⟨lb rfl, lb rfl⟩) ?_
 refine .rn 5 ?_
 refine .nn ?_
 refine .seq ?_
 refine .dr zS [4, 5, 6] ?_
 obtain rfl := sj h
 refine .ret ⟨st20 (v1.1, v1.2.2, v1.2.1), ?_, .inr rfl, retH [0] ?_ ?_⟩
 exact .m [4, 5, 6] [3, 0, 1] [(3, 0), (0, 1), (1, 2)]
 exact rsi0
 rfl
theorem zqc (a0 : Int) (a1 : List (List UInt8)) (r : TSkeen × (List TMessage) × Int) (h : zgd a0 a1 = some r) : zb9 Tryz.prog 27 [.int .i64 a0, .imm 1 (a1.map D.str) 4] (.tuple [.agg [.int .i64 r.1.Clock, .imm 7 (r.1.Waits.map TWait.d) 13, .imm 2 (r.1.Done.map TStamp.d) 13], .imm 5 (r.2.1.map TMessage.d) 13, .int .i64 r.2.2]) :=
 ze7 (zmh (zaa (zhs (zaa rfl (zaa rfl (zaa rfl zcd)))) (zaa (zeb zvg rfl rfl) (zaa rfl zcd)))) (zqh a0 a1 r h)
theorem zqa (a0 : TStream) (a1 : Int) (r : Int × Int) (h : zim a0 a1 = some r) : zb9 Tryz.prog 28 [.agg [.imm 4 (a0.Topics.map TTopic.d) 4, .imm 1 (a0.Commits.map dL_inti64) 4], .int .i64 a1] (.tuple [.int .i64 r.1, .int .i64 r.2]) := by
 refine zbt 3 Tryz.func28 ?_
 intro hwf
 unfold zim at h
 refine .sp [0, 1] ?_
 refine .seq ?_
 obtain ⟨v1, hv1, h⟩ := za2 h
 refine .sr [1, 2] ?_
 refine .rn 2 ?_
 refine .cl (zht a0 a1 v1 hv1) ?_
 refine .rn 1 ?_
 refine .nn ?_
 refine .sp [1, 2, 6] ?_
 refine .cd ?_ ?_ <;> intro hc1
 replace h := zaf h hc1
 refine .sp [6] ?_
 obtain rfl := sj h
 exact .rr
 replace h := zao h hc1
 refine .skip (.seq ?_)
 obtain ⟨k1, h⟩ := zb0 h
 have e1 := zbx TTopic.d a0.Topics a1
 replace e1 := e1 k1
 refine .plx zS e1 [1, 2] ?_
 obtain rfl := sj h
 exact .rr
@[go_sem] def ya6b (v3 : THome × (List TTook) × Int) (v4 : TSkeen × (List TMessage) × Int) (n1 : Int) (n2 : Int) (n3 : Int) (n4 : Int) : St := ⟨[(6, .ptr 0 0), (7, .imm 3 (v3.2.1.map TTook.d) 13), (10, .imm 5 (v4.2.1.map TMessage.d) 13), (12, .ptr 2 0)], [(0, .box [.int .i64 v3.1.Skeen.Clock, .imm 7 (v3.1.Skeen.Waits.map TWait.d) 13, .imm 2 (v3.1.Skeen.Done.map TStamp.d) 13, .imm 4 (v3.1.Stream.Topics.map TTopic.d) 13, .imm 1 (v3.1.Stream.Commits.map dL_inti64) 13, .imm 1 (v3.1.Last.map (D.int .i64)) 13]), (2, .box [.int .i64 n1, .int .i64 n2, .int .i64 n3, .int .i64 n4])], 3⟩
@[go_sem] def ya68 (v3 : THome × (List TTook) × Int) (v4 : TSkeen × (List TMessage) × Int) (n5 : Int) (n6 : Int) (n7 : Int) (n8 : Int) (n9 : Int) (n10 : Int) : St := ⟨[(6, .ptr 0 0), (7, .imm 3 (v3.2.1.map TTook.d) 13), (10, .imm 5 (v4.2.1.map TMessage.d) 13), (12, .ptr 2 0), (13, .int .i64 n9), (14, .int .i64 n10)], [(0, .box [.int .i64 v3.1.Skeen.Clock, .imm 7 (v3.1.Skeen.Waits.map TWait.d) 13, .imm 2 (v3.1.Skeen.Done.map TStamp.d) 13, .imm 4 (v3.1.Stream.Topics.map TTopic.d) 13, .imm 1 (v3.1.Stream.Commits.map dL_inti64) 13, .imm 1 (v3.1.Last.map (D.int .i64)) 13]), (2, .box [.int .i64 n5, .int .i64 n6, .int .i64 n7, .int .i64 n8])], 3⟩
@[go_sem] def ya67 (v3 : THome × (List TTook) × Int) (v4 : TSkeen × (List TMessage) × Int) (n10 : Int) (n11 : Int) (n12 : Int) (n13 : Int) (n14 : Int) (n15 : Int) : St := ⟨[(6, .ptr 0 0), (7, .imm 3 (v3.2.1.map TTook.d) 13), (10, .imm 5 (v4.2.1.map TMessage.d) 13), (12, .ptr 2 0), (13, .int .i64 n15), (14, .int .i64 n10)], [(0, .box [.int .i64 v3.1.Skeen.Clock, .imm 7 (v3.1.Skeen.Waits.map TWait.d) 13, .imm 2 (v3.1.Skeen.Done.map TStamp.d) 13, .imm 4 (v3.1.Stream.Topics.map TTopic.d) 13, .imm 1 (v3.1.Stream.Commits.map dL_inti64) 13, .imm 1 (v3.1.Last.map (D.int .i64)) 13]), (2, .box [.int .i64 n11, .int .i64 n12, .int .i64 n13, .int .i64 n14])], 3⟩
@[go_sem] def ya66 (v3 : THome × (List TTook) × Int) (v4 : TSkeen × (List TMessage) × Int) (n5 : Int) (n6 : Int) (n7 : Int) (n8 : Int) (n10 : Int) (n16 : Int) : St := ⟨[(6, .ptr 0 0), (7, .imm 3 (v3.2.1.map TTook.d) 13), (10, .imm 5 (v4.2.1.map TMessage.d) 13), (12, .ptr 2 0), (13, .int .i64 n16), (14, .int .i64 n10)], [(0, .box [.int .i64 v3.1.Skeen.Clock, .imm 7 (v3.1.Skeen.Waits.map TWait.d) 13, .imm 2 (v3.1.Skeen.Done.map TStamp.d) 13, .imm 4 (v3.1.Stream.Topics.map TTopic.d) 13, .imm 1 (v3.1.Stream.Commits.map dL_inti64) 13, .imm 1 (v3.1.Last.map (D.int .i64)) 13]), (2, .box [.int .i64 n5, .int .i64 n6, .int .i64 n7, .int .i64 n8])], 3⟩
@[go_sem] def ya65 (v3 : THome × (List TTook) × Int) (v4 : TSkeen × (List TMessage) × Int) (n5 : Int) (n6 : Int) (n7 : Int) (n8 : Int) (n10 : Int) (n17 : Int) : St := ⟨[(6, .ptr 0 0), (7, .imm 3 (v3.2.1.map TTook.d) 13), (10, .imm 5 (v4.2.1.map TMessage.d) 13), (12, .ptr 2 0), (13, .int .i64 n17), (14, .int .i64 n10)], [(0, .box [.int .i64 v3.1.Skeen.Clock, .imm 7 (v3.1.Skeen.Waits.map TWait.d) 13, .imm 2 (v3.1.Skeen.Done.map TStamp.d) 13, .imm 4 (v3.1.Stream.Topics.map TTopic.d) 13, .imm 1 (v3.1.Stream.Commits.map dL_inti64) 13, .imm 1 (v3.1.Last.map (D.int .i64)) 13]), (2, .box [.int .i64 n5, .int .i64 n6, .int .i64 n7, .int .i64 n8])], 3⟩
@[go_sem] def ya6a (v3 : THome × (List TTook) × Int) (v4 : TSkeen × (List TMessage) × Int) : St := ⟨[(7, .imm 3 (v3.2.1.map TTook.d) 13), (10, .imm 5 (v4.2.1.map TMessage.d) 13)], [], 3⟩
@[go_sem] def ya69 (v3 : THome × (List TTook) × Int) (v4 : TSkeen × (List TMessage) × Int) (n1 : Int) (n2 : Int) (n3 : Int) (n4 : Int) (n18 : Int) : St := ⟨[(6, .ptr 0 0), (7, .imm 3 (v3.2.1.map TTook.d) 13), (10, .imm 5 (v4.2.1.map TMessage.d) 13), (12, .ptr 2 0), (15, .int .i64 n18)], [(0, .box [.int .i64 v3.1.Skeen.Clock, .imm 7 (v3.1.Skeen.Waits.map TWait.d) 13, .imm 2 (v3.1.Skeen.Done.map TStamp.d) 13, .imm 4 (v3.1.Stream.Topics.map TTopic.d) 13, .imm 1 (v3.1.Stream.Commits.map dL_inti64) 13, .imm 1 (v3.1.Last.map (D.int .i64)) 13]), (2, .box [.int .i64 n1, .int .i64 n2, .int .i64 n3, .int .i64 n4])], 3⟩
theorem ziq (a0 : Int) (a1 : List (List UInt8)) (r : Bool) (h : zdy a0 a1 = some r) : zb9 Tryz.prog 7 [.int .i64 a0, .imm 1 (a1.map D.str) 4] (.bool r) := by
 refine zbt 5 Tryz.func7 ?_
 intro hwf
 unfold zdy at h
 refine .sp [0, 1] ?_
 obtain ⟨v1, hv1, h⟩ := za2 h
 obtain ⟨k1, h⟩ := zb0 h
 refine .sr [0, 1] ?_
 refine .cl (zk3  v1 hv1 k1) ?_
 refine .rn 1 ?_
 refine .nn ?_
 refine .seq ?_
 obtain ⟨v2, hv2, h⟩ := za2 h
 refine .sr [0, 1, 5] ?_
 refine .rn 1 ?_
 refine .cl (zkj a1 v2 hv2) ?_
 refine .rn 4 ?_
 refine .nn ?_
 refine .cd ?_ ?_ <;> intro hc1
 replace h := zaf h hc1
 refine .sp [5] ?_
 obtain rfl := sj h
 exact .rr
 replace h := zao h hc1
 refine .skip ?_
 obtain ⟨v3, hv3, h⟩ := za2 h
 refine .sr [0, 1] ?_
 refine .rn 2 ?_
 refine .cl (zqd a0 a1 v3 hv3) ?_
 refine .rn 8 ?_
 refine .nn ?_
 obtain ⟨v4, hv4, h⟩ := za2 h
 refine .sr [0, 1, 6, 7, 8] ?_
 refine .rn 2 ?_
 refine .cl (zqc a0 a1 v4 hv4) ?_
 refine .rn 8 ?_
 refine .nn ?_
 refine .seq (.seq (.pl zS [6, 7, 8, 10, 11] ?_))
 refine .cd ?_ ?_ <;> intro hc2
 replace h := zaf h hc2
 refine .sr [7, 8, 11] ?_
 refine .rn 6 ?_
 refine .rn 3 ?_
 refine .nn ?_
 obtain rfl := sj h
 exact .rr
 replace h := zao h hc2
 refine .skip (.seq (.pl zS [6, 7, 10] ?_))
 refine .sp [6, 7, 10, 12] ?_
 obtain ⟨x1, hx1, h⟩ := za2 h
 refine .seqM 3 (fun (j : Int × Int × Int × Int) => ya6b v3 v4 j.1 j.2.1 j.2.2.1 j.2.2.2) (fun j => x1 = (.inr j)) (lb rfl) ?_ ?_
 refine .sp [6, 7, 10, 12, 13] ?_
 refine .block ?_
 refine .loopG 3 (fun (j : Nat × Int × Int × Int × Int × Int × Int) => ya68 v3 v4 j.2.1 j.2.2.1 j.2.2.2.1 j.2.2.2.2.1 j.2.2.2.2.2.1 j.2.2.2.2.2.2) (fun j => zb8 v3 v4 j.1 j.2.1 j.2.2.1 j.2.2.2.1 j.2.2.2.2.1 j.2.2.2.2.2.1 j.2.2.2.2.2.2 = some x1) (fun j => j.1) (201, 0, 0, 0, 0, 0, 0) (lb rfl) ?_ hx1 ?_
 exact .m [6, 7, 10, 12, 13, 14] [0, 2] []
 rintro ⟨fu1, n5, n6, n7, n8, n9, n10⟩ hx1
 simp only [ya68]
 try simp only at hx1
 obtain ⟨fu1, rfl⟩ : ∃ k, fu1 = k + 1 := by cases fu1 with | zero => (rw [zb8] at hx1; cases hx1) | succ k => exact ⟨k, rfl⟩
 rw [zb8] at hx1
 refine .seq (.seq (.pl zS [6, 7, 10, 12, 13, 14] ?_))
 refine .cd ?_ ?_ <;> intro hc3
 replace hx1 := zaf hx1 hc3
 refine .skip ?_
 obtain ⟨x2, hx2, hx1⟩ := za2 hx1
 refine .seqM 3 (fun (j : Int × Int × Int × Int × Int) => ya67 v3 v4 n10 j.1 j.2.1 j.2.2.1 j.2.2.2.1 j.2.2.2.2) (fun j => x2 = (.inr j)) (lb rfl) ?_ ?_
 refine .block ?_
 obtain ⟨x3, hx3, hx2⟩ := za2 hx2
 refine .seqM 3 (fun (j : Int) => ya66 v3 v4 n5 n6 n7 n8 n10 j) (fun j => x3 = j) (lb rfl) ?_ ?_
 refine .block ?_
 refine .loopG 3 (fun (j : Nat × Int) => ya65 v3 v4 n5 n6 n7 n8 n10 j.2) (fun j => zbf v3 v4 n10 j.1 j.2 = some x3) (fun j => j.1) (201, n9) (lb rfl) ?_ hx3 ?_
 exact .m [6, 7, 10, 12, 13, 14] [0, 2] []
 rintro ⟨fu2, n17⟩ hx3
 simp only [ya65]
 try simp only at hx3
 obtain ⟨fu2, rfl⟩ : ∃ k, fu2 = k + 1 := by cases fu2 with | zero => (rw [zbf] at hx3; cases hx3) | succ k => exact ⟨k, rfl⟩
 rw [zbf] at hx3
 refine .seq ?_
 obtain ⟨k4, hx3⟩ := zb0 hx3
 obtain ⟨k5, hx3⟩ := zb0 hx3
 refine .seqM 3 (fun (_ : Unit) => ⟨[(6, .ptr 0 0), (7, .imm 3 (v3.2.1.map TTook.d) 13), (10, .imm 5 (v4.2.1.map TMessage.d) 13), (12, .ptr 2 0), (13, .int .i64 n17), (14, .int .i64 n10), (76, .bool ((decide (n17 < (v4.2.1.length : Int))) && ((v4.2.1.getD n17.toNat default).Id != (v3.2.1.getD n10.toNat default).Id)))], [(0, .box [.int .i64 v3.1.Skeen.Clock, .imm 7 (v3.1.Skeen.Waits.map TWait.d) 13, .imm 2 (v3.1.Skeen.Done.map TStamp.d) 13, .imm 4 (v3.1.Stream.Topics.map TTopic.d) 13, .imm 1 (v3.1.Stream.Commits.map dL_inti64) 13, .imm 1 (v3.1.Last.map (D.int .i64)) 13]), (2, .box [.int .i64 n5, .int .i64 n6, .int .i64 n7, .int .i64 n8])], 3⟩) (fun _ => True) (lb rfl) ?_ (fun _ _ => ?_)
 by_cases hgd : n17 < (v4.2.1.length : Int)
 have eg10 := zbx TMessage.d v4.2.1 n17 (k4 hgd)
 have eg11 := zbx TTook.d v3.2.1 n10 (k5 hgd)
 refine .rg zS [6, 7, 10, 12, 13, 14] ?_
 refine .rdx 6 (ai eg10 eg11) ?_
 refine .rdx 6 (ai eg10 eg11) ?_
 refine .rdx 5 (ai eg10 eg11) ?_
 refine .nd ?_
 refine ⟨(), ?_, trivial⟩
 exact .m [6, 7, 10, 12, 13, 14, 76] [0, 2] []
 have hgf1 : (decide (n17 < (v4.2.1.length : Int))) = false := by first | simpa using hgd | (simp at hgd ⊢; omega) | grind
 refine .rg zS [6, 7, 10, 12, 13, 14] ?_
 refine .rdx 5 hgf1 ?_
 refine .gf true 11 hgf1 ?_
 refine .rdx 1 hgf1 ?_
 refine .nd ?_
 refine ⟨(), ?_, trivial⟩
 exact .mx hgf1 [6, 7, 10, 12, 13, 14, 76] [0, 2] []
 refine .cd ?_ ?_ <;> intro hc4
 replace hx3 := zaf hx3 hc4
 refine .skip (.block (.pl zS [6, 7, 10, 12, 13, 14] ?_))
 refine ⟨(fu2, _), ?_, hx3, by dsimp only; omega⟩
 exact .m [6, 7, 10, 12, 13, 14] [0, 2] []
 replace hx3 := zao hx3 hc4
 refine .exit ?_
 refine ⟨_, ?_, (sj hx3).symm⟩
 exact .m [6, 7, 10, 12, 13, 14] [0, 2] []
 rintro n16 hj1
 subst x3
 try dsimp only at hx2
 simp only [ya66]
 refine .seq ?_
 obtain ⟨k6, hx2⟩ := zb0 hx2
 obtain ⟨k7, hx2⟩ := zb0 hx2
 obtain ⟨k8, hx2⟩ := zb0 hx2
 obtain ⟨k9, hx2⟩ := zb0 hx2
 refine .seqM 3 (fun (_ : Unit) => ⟨[(6, .ptr 0 0), (7, .imm 3 (v3.2.1.map TTook.d) 13), (10, .imm 5 (v4.2.1.map TMessage.d) 13), (12, .ptr 2 0), (13, .int .i64 n16), (14, .int .i64 n10), (110, .bool (((n16 == (v4.2.1.length : Int)) || ((v4.2.1.getD n16.toNat default).Topic != (v3.2.1.getD n10.toNat default).Topic)) || ((v3.2.1.getD n10.toNat default).Offset != ([n5, n6, n7, n8].getD ((v3.2.1.getD n10.toNat default).Topic).toNat 0))))], [(0, .box [.int .i64 v3.1.Skeen.Clock, .imm 7 (v3.1.Skeen.Waits.map TWait.d) 13, .imm 2 (v3.1.Skeen.Done.map TStamp.d) 13, .imm 4 (v3.1.Stream.Topics.map TTopic.d) 13, .imm 1 (v3.1.Stream.Commits.map dL_inti64) 13, .imm 1 (v3.1.Last.map (D.int .i64)) 13]), (2, .box [.int .i64 n5, .int .i64 n6, .int .i64 n7, .int .i64 n8])], 3⟩) (fun _ => True) (lb rfl) ?_ (fun _ _ => ?_)
 by_cases hgd : ¬ (n16 = (v4.2.1.length : Int))
 have eg20 := zbx TMessage.d v4.2.1 n16 (k6 hgd)
 have eg21 := zbx TTook.d v3.2.1 n10 (k7 hgd)
 by_cases hgd : ¬ ((n16 = (v4.2.1.length : Int)) \/ (¬ ((v4.2.1.getD n16.toNat default).Topic = (v3.2.1.getD n10.toNat default).Topic)))
 have eg30 := zbx TTook.d v3.2.1 n10 (k8 hgd)
 have eg31 := zuk n5 n6 n7 n8 ((v3.2.1.getD n10.toNat default).Topic) (k9 hgd)
 refine .rg zS [6, 7, 10, 12, 13, 14] ?_
 refine .rdx 6 (ai eg20 (ai eg21 (ai eg30 eg31))) ?_
 refine .rdx 6 (ai eg20 (ai eg21 (ai eg30 eg31))) ?_
 refine .rdx 6 (ai eg20 (ai eg21 (ai eg30 eg31))) ?_
 refine .rdx 6 (ai eg20 (ai eg21 (ai eg30 eg31))) ?_
 refine .rdx 8 (ai eg20 (ai eg21 (ai eg30 eg31))) ?_
 refine .nd ?_
 refine ⟨(), ?_, trivial⟩
 exact .m [6, 7, 10, 12, 13, 14, 110] [0, 2] []
 have hgf3 : (!((n16 == (v4.2.1.length : Int)) || ((v4.2.1.getD n16.toNat default).Topic != (v3.2.1.getD n10.toNat default).Topic))) = false := by first | simpa using hgd | (simp at hgd ⊢; omega) | grind
 have hgf3t : ((n16 == (v4.2.1.length : Int)) || ((v4.2.1.getD n16.toNat default).Topic != (v3.2.1.getD n10.toNat default).Topic)) = true := by first | simpa using hgf3 | grind
 refine .rg zS [6, 7, 10, 12, 13, 14] ?_
 refine .rdx 6 (ai eg20 (ai eg21 (ai hgf3 hgf3t))) ?_
 refine .rdx 6 (ai eg20 (ai eg21 (ai hgf3 hgf3t))) ?_
 refine .rdx 6 (ai eg20 (ai eg21 (ai hgf3 hgf3t))) ?_
 refine .gf true 13 (ai eg20 (ai eg21 (ai hgf3 hgf3t))) ?_
 refine .rdx 1 (ai eg20 (ai eg21 (ai hgf3 hgf3t))) ?_
 refine .nd ?_
 refine ⟨(), ?_, trivial⟩
 exact .mx (ai hgf3 hgf3t) [6, 7, 10, 12, 13, 14, 110] [0, 2] []
 have hgf2 : (!(n16 == (v4.2.1.length : Int))) = false := by first | simpa using hgd | (simp at hgd ⊢; omega) | grind
 have hgf2t : (n16 == (v4.2.1.length : Int)) = true := by first | simpa using hgf2 | grind
 by_cases hgd : ¬ ((n16 = (v4.2.1.length : Int)) \/ (¬ ((v4.2.1.getD n16.toNat default).Topic = (v3.2.1.getD n10.toNat default).Topic)))
 have eg40 := zbx TTook.d v3.2.1 n10 (k8 hgd)
 have eg41 := zuk n5 n6 n7 n8 ((v3.2.1.getD n10.toNat default).Topic) (k9 hgd)
 refine .rg zS [6, 7, 10, 12, 13, 14] ?_
 refine .rdx 5 (ai hgf2 (ai hgf2t (ai eg40 eg41))) ?_
 refine .gf true 11 (ai hgf2 (ai hgf2t (ai eg40 eg41))) ?_
 refine .rdx 6 (ai hgf2 (ai hgf2t (ai eg40 eg41))) ?_
 refine .rdx 6 (ai hgf2 (ai hgf2t (ai eg40 eg41))) ?_
 refine .rdx 4 (ai hgf2 (ai hgf2t (ai eg40 eg41))) ?_
 refine .nd ?_
 refine ⟨(), ?_, trivial⟩
 exact .mx (ai hgf2 hgf2t) [6, 7, 10, 12, 13, 14, 110] [0, 2] []
 have hgf4 : (!((n16 == (v4.2.1.length : Int)) || ((v4.2.1.getD n16.toNat default).Topic != (v3.2.1.getD n10.toNat default).Topic))) = false := by first | simpa using hgd | (simp at hgd ⊢; omega) | grind
 have hgf4t : ((n16 == (v4.2.1.length : Int)) || ((v4.2.1.getD n16.toNat default).Topic != (v3.2.1.getD n10.toNat default).Topic)) = true := by first | simpa using hgf4 | grind
 refine .rg zS [6, 7, 10, 12, 13, 14] ?_
 refine .rdx 5 (ai hgf2 (ai hgf2t (ai hgf4 hgf4t))) ?_
 refine .gf true 11 (ai hgf2 (ai hgf2t (ai hgf4 hgf4t))) ?_
 refine .rdx 2 (ai hgf2 (ai hgf2t (ai hgf4 hgf4t))) ?_
 refine .gf true 13 (ai hgf2 (ai hgf2t (ai hgf4 hgf4t))) ?_
 refine .rdx 1 (ai hgf2 (ai hgf2t (ai hgf4 hgf4t))) ?_
 refine .nd ?_
 refine ⟨(), ?_, trivial⟩
 exact .mx (ai hgf2 (ai hgf2t (ai hgf4 hgf4t))) [6, 7, 10, 12, 13, 14, 110] [0, 2] []
 refine .cd ?_ ?_ <;> intro hc5
 replace hx2 := zaf hx2 hc5
 refine .sp [] ?_
 have hq := sj hx2
 subst x2
 try dsimp only at hx1
 have hq := sj hx1
 subst x1
 try dsimp only at h
 obtain rfl := sj h
 exact .rr
 replace hx2 := zao hx2 hc5
 refine .skip (.seq ?_)
 obtain ⟨k10, hx2⟩ := zb0 hx2
 obtain ⟨k11, hx2⟩ := zb0 hx2
 have e1 := zbx TTook.d v3.2.1 n10
 have e2 := zuk n5 n6 n7 n8 ((v3.2.1.getD n10.toNat default).Topic) k11
 have e3 := ya4t n5 n6 n7 n8 ((v3.2.1.getD n10.toNat default).Topic) (wr .i64 (([n5, n6, n7, n8].getD ((v3.2.1.getD n10.toNat default).Topic).toNat 0) + 1)) k11
 replace e1 := e1 k10
 refine .rg zS [6, 7, 10, 12, 13, 14] ?_
 refine .rnx 6 (ai e1 (ai e2 e3)) ?_
 refine .rnx 4 (ai e1 (ai e2 e3)) ?_
 refine .nn ?_
 refine .pl zS [6, 7, 10, 12, 13, 14] ?_
 refine ⟨_, ?_, (sj hx2).symm⟩
 exact .m [6, 7, 10, 12, 13, 14] [0, 2] []
 rintro ⟨n11, n12, n13, n14, n15⟩ hj2
 subst x2
 try dsimp only at hx1
 simp only [ya67]
 refine .pl zS [6, 7, 10, 12, 13, 14] ?_
 refine ⟨(fu1, _, _, _, _, _, _), ?_, hx1, by dsimp only; omega⟩
 exact .m [6, 7, 10, 12, 13, 14] [0, 2] []
 replace hx1 := zao hx1 hc3
 refine .exit ?_
 refine ⟨_, ?_, (sj hx1).symm⟩
 exact .m [6, 7, 10, 12] [0, 2] []
 rintro ⟨n1, n2, n3, n4⟩ hj3
 subst x1
 try dsimp only at h
 simp only [ya6b]
 obtain ⟨x4, hx4, h⟩ := za2 h
 refine .seqM 3 (fun (j : Unit) => ya6a v3 v4) (fun j => x4 = (.inr j)) (lb rfl) ?_ ?_
 refine .sp [6, 7, 10, 12] ?_
 refine .block ?_
 refine .loopG 3 (fun (j : Nat × Int) => ya69 v3 v4 n1 n2 n3 n4 j.2) (fun j => zb7 v3 n1 n2 n3 n4 j.1 j.2 = some x4) (fun j => j.1) (5, 0) (lb rfl) ?_ hx4 ?_
 exact .m [6, 7, 10, 12, 15] [0, 2] []
 rintro ⟨fu3, n18⟩ hx4
 simp only [ya69]
 try simp only at hx4
 obtain ⟨fu3, rfl⟩ : ∃ k, fu3 = k + 1 := by cases fu3 with | zero => (rw [zb7] at hx4; cases hx4) | succ k => exact ⟨k, rfl⟩
 rw [zb7] at hx4
 refine .seq (.seq (.pl zS [6, 7, 10, 12, 15] ?_))
 refine .cd ?_ ?_ <;> intro hc6
 replace hx4 := zaf hx4 hc6
 refine .skip (.seq (.block (.seq ?_)))
 obtain ⟨v5, hv5, hx4⟩ := za2 hx4
 refine .rg zS [6, 7, 10, 12, 15] ?_
 refine .rn 3 ?_
 refine .call rfl rfl rfl rfl rfl rfl (zii (WkL.cons (Wk.agg (WkL.cons Wk.iz (WkL.cons Wk.iz (WkL.refl _)))) (WkL.cons (Wk.refl _) (WkL.refl _))) (zqa v3.1.Stream n18 v5 hv5)) ?_
 refine .rn 5 ?_
 refine .nn ?_
 obtain ⟨k12, hx4⟩ := zb0 hx4
 refine .seqM 3 (fun (_ : Unit) => ⟨[(6, .ptr 0 0), (7, .imm 3 (v3.2.1.map TTook.d) 13), (10, .imm 5 (v4.2.1.map TMessage.d) 13), (12, .ptr 2 0), (15, .int .i64 n18), (141, .bool ((v5.2 != 0) || (v5.1 != ([n1, n2, n3, n4].getD n18.toNat 0))))], [(0, .box [.int .i64 v3.1.Skeen.Clock, .imm 7 (v3.1.Skeen.Waits.map TWait.d) 13, .imm 2 (v3.1.Skeen.Done.map TStamp.d) 13, .imm 4 (v3.1.Stream.Topics.map TTopic.d) 13, .imm 1 (v3.1.Stream.Commits.map dL_inti64) 13, .imm 1 (v3.1.Last.map (D.int .i64)) 13]), (2, .box [.int .i64 n1, .int .i64 n2, .int .i64 n3, .int .i64 n4])], 3⟩) (fun _ => True) (lb rfl) ?_ (fun _ _ => ?_)
 by_cases hgd : ¬ (¬ (v5.2 = 0))
 have eg50 := zuk n1 n2 n3 n4 n18 (k12 hgd)
 refine .rg zS [6, 7, 10, 12, 15, 16, 17] ?_
 refine .rnx 6 eg50 ?_
 refine .rnx 3 eg50 ?_
 refine .nn ?_
 refine ⟨(), ?_, trivial⟩
 exact .m [6, 7, 10, 12, 15, 141] [0, 2] []
 have hgf5 : (!(v5.2 != 0)) = false := by first | simpa using hgd | (simp at hgd ⊢; omega) | grind
 have hgf5t : (v5.2 != 0) = true := by first | simpa using hgf5 | grind
 refine .rg zS [6, 7, 10, 12, 15, 16, 17] ?_
 refine .rnx 3 (ai hgf5 hgf5t) ?_
 refine .gf false 5 (ai hgf5 hgf5t) ?_
 refine .rnx 1 (ai hgf5 hgf5t) ?_
 refine .nn ?_
 refine ⟨(), ?_, trivial⟩
 exact .mx (ai hgf5 hgf5t) [6, 7, 10, 12, 15, 141] [0, 2] []
 refine .cd ?_ ?_ <;> intro hc7
 replace hx4 := zaf hx4 hc7
 refine .sp [] ?_
 have hq := sj hx4
 subst x4
 try dsimp only at h
 obtain rfl := sj h
 exact .rr
 replace hx4 := zao hx4 hc7
 refine .skip (.pl zS [6, 7, 10, 12, 15] ?_)
 refine ⟨(fu3, _), ?_, hx4, by dsimp only; omega⟩
 exact .m [6, 7, 10, 12, 15] [0, 2] []
 replace hx4 := zao hx4 hc6
 refine .exit ?_
 refine ⟨_, ?_, (sj hx4).symm⟩
 exact .m [7, 10] [] []
 rintro ⟨⟩ hj4
 subst x4
 try dsimp only at h
 simp only [ya6a]
 refine .sp [7, 10] ?_
 obtain rfl := sj h
 exact .rr
end Go.Proofs
namespace Go.Proofs
open Go.Tm
set_option linter.unusedVariables false
open Classical
theorem wrk (x : Int) (h : -9000000000000000000 <= x /\ x <= 9000000000000000000) : wr .i64 x = x := zl8 _ _ (by show (-9223372036854775808 : Int) <= _; omega) (by show _ <= (9223372036854775807 : Int); omega)
def EnOk (x : TEntry) : Prop := (((x.Id >= 0) /\ (x.Id < 6291456)) /\ ((x.Key.length : Int) <= 16)) /\ ((x.Body.length : Int) <= 64)
theorem zyw (x : TEntry) : zgl x = some (decide (EnOk x)) := by
 unfold zgl EnOk
 simp only [Bool.decide_and]
def EsP (mark next : Int) : List TEntry -> List (List UInt8) -> Int -> Prop
 | [], _, _ => True
 | y :: r, seen, last => EnOk y /\ last < y.Offset /\ y.Offset < next /\ y.Offset <= max (last + 1) mark /\ (y.Offset < mark -> y.Key ∉ seen) /\ EsP mark next r (if y.Offset < mark then y.Key :: seen else seen) y.Offset
def zhy : Int -> List TEntry -> Int
 | last, [] => last
 | _, y :: r => zhy y.Offset r
structure TOk (t : TTopic) : Prop where
 n0 : 0 <= t.Next
 n1 : t.Next <= 1073741824
 b0 : 0 <= t.Base
 b1 : t.Base <= t.Next
 m0 : 0 <= t.Mark
 m1 : t.Mark <= t.Next
 len : (t.Entries.length : Int) <= 200
 es : EsP t.Mark t.Next t.Entries [] (t.Base - 1)
 en : max (zhy (t.Base - 1) t.Entries + 1) t.Mark = t.Next
theorem zpd {α : Type} [DecidableEq α] (k j : α) : ∀ m : List (α × Int), mget j (mput k 1 m) = if j = k then some 1 else mget j m
 | [] => by simp only [mput, mget]
 | x :: l => by
  simp only [mput]
  by_cases h : k = x.1
  rw [if_pos h]
  simp only [mget]
  by_cases e : j = k
  rw [if_pos e, if_pos e]
  rw [if_neg e, if_neg e, if_neg (by rw [<- h]; exact e)]
  rw [if_neg h]
  simp only [mget, zpd k j l]
  by_cases e : j = x.1
  rw [if_pos e, if_pos e, if_neg (by rw [e]; exact Ne.symm h)]
  rw [if_neg e, if_neg e]
theorem ya4q (t : TTopic) (hn : t.Next <= 1073741824) : ∀ (l : List TEntry) (m : List (List UInt8 × Int)) (seen : List (List UInt8)) (last : Int), -1 <= last -> last <= 1073741824 -> (∀ k, (mget k m).getD 0 > 0 ↔ k ∈ seen) ->
  zcp t l m last = some (if EsP t.Mark t.Next l seen last then .inr (zhy last l) else .inl 8)
 | [], m, seen, last, _, _, _ => by simp [zcp, EsP, zhy]
 | y :: r, m, seen, last, h1, h2, hs => by
  simp only [zcp, zyw, za1, wrk (last + 1) (by omega), decide_eq_true_eq, hs]
  by_cases hc : (((¬ EnOk y \/ y.Offset <= last) \/ y.Offset >= t.Next) \/ y.Offset > max (last + 1) t.Mark) \/ y.Offset < t.Mark /\ y.Key ∈ seen
  rw [if_pos hc, if_neg]
  simp only [EsP]
  rintro ⟨k1, k2, k3, k4, k5, _⟩
  rcases hc with (((h | h) | h) | h) | ⟨h, h'⟩
  exact h k1
  omega
  omega
  omega
  exact k5 h h'
  rw [if_neg hc]
  have k1 : EnOk y := Classical.byContradiction fun h => hc (.inl (.inl (.inl (.inl h))))
  have k2 : last < y.Offset := Int.not_le.1 fun h => hc (.inl (.inl (.inl (.inr h))))
  have k3 : y.Offset < t.Next := Int.not_le.1 fun h => hc (.inl (.inl (.inr h)))
  have k4 : y.Offset <= max (last + 1) t.Mark := Int.not_lt.1 fun h => hc (.inl (.inr h))
  have k5 : y.Offset < t.Mark -> y.Key ∉ seen := fun h h' => hc (.inr ⟨h, h'⟩)
  have e : EsP t.Mark t.Next (y :: r) seen last ↔ EsP t.Mark t.Next r (if y.Offset < t.Mark then y.Key :: seen else seen) y.Offset := by
   simp only [EsP]
   exact ⟨fun h => h.2.2.2.2.2, fun h => ⟨k1, k2, k3, k4, k5, h⟩⟩
  simp only [e, zhy]
  by_cases hm : y.Offset < t.Mark
  simp only [if_pos hm, za1]
  refine ya4q t hn r _ _ _ (by omega) (by omega) fun k => ?_
  rw [zpd]
  by_cases ek : k = y.Key
  rw [if_pos ek]; simp [ek]
  rw [if_neg ek, hs]; simp [ek]
  simp only [if_neg hm, za1]
  exact ya4q t hn r _ _ _ (by omega) (by omega) hs
theorem zxz (t : TTopic) : zey t = some (if TOk t then 0 else 8) := by
 unfold zey
 by_cases hc : ((((((t.Next < 0) \/ (t.Next > 1073741824)) \/ (t.Base < 0)) \/ (t.Base > t.Next)) \/ (t.Mark < 0)) \/ (t.Mark > t.Next)) \/ ((t.Entries.length : Int) > 200)
 rw [if_pos hc, if_neg]
 intro h
 have := h.n0; have := h.n1; have := h.b0; have := h.b1; have := h.m0; have := h.m1; have := h.len
 omega
 rw [if_neg hc, wrk _ (by omega), ya4q t (by omega) t.Entries [] [] _ (by omega) (by omega) (fun k => by simp [mget])]
 simp only [za1]
 by_cases he : EsP t.Mark t.Next t.Entries [] (t.Base - 1)
 rw [if_pos he]
 have hl : ∀ (l : List TEntry) (s : List (List UInt8)) (x : Int), EsP t.Mark t.Next l s x -> -1 <= x -> x <= 1073741824 -> -1 <= zhy x l /\ zhy x l <= 1073741824 := by
  intro l
  induction l with
  | nil => intro s x _ a b; exact ⟨a, b⟩
  | cons y r ih =>
   intro s x h a b
   simp only [EsP] at h
   exact ih _ _ h.2.2.2.2.2 (by omega) (by omega)
 have hl := hl _ _ _ he (by omega) (by omega)
 simp only [wrk _ (show -9000000000000000000 <= zhy (t.Base - 1) t.Entries + 1 /\ zhy (t.Base - 1) t.Entries + 1 <= 9000000000000000000 by omega)]
 by_cases h9 : max (zhy (t.Base - 1) t.Entries + 1) t.Mark = t.Next
 rw [if_neg (fun h => h h9), if_pos ⟨by omega, by omega, by omega, by omega, by omega, by omega, by omega, he, h9⟩]
 rw [if_pos h9, if_neg fun h => h9 h.en]
 rw [if_neg he, if_neg fun h => he h.es]
theorem EsP.mono {mark next next' : Int} (hn : next <= next') : ∀ {l : List TEntry} {s : List (List UInt8)} {x : Int}, EsP mark next l s x -> EsP mark next' l s x
 | [], _, _, h => h
 | y :: r, s, x, h => by
  simp only [EsP] at h ⊢
  exact ⟨h.1, h.2.1, by omega, h.2.2.2.1, h.2.2.2.2.1, EsP.mono hn h.2.2.2.2.2⟩
theorem EsP.less {mark next : Int} : ∀ {l : List TEntry} {s s' : List (List UInt8)} {x x' : Int}, EsP mark next l s x -> (∀ k ∈ s', k ∈ s) -> x <= x' -> (∀ y r, l = y :: r -> x' < y.Offset) -> EsP mark next l s' x'
 | [], _, _, _, _, _, _, _, _ => trivial
 | y :: r, s, s', x, x', h, hs, hx, hy => by
  simp only [EsP] at h ⊢
  obtain ⟨h1, h2, h3, h4, h5, h6⟩ := h
  refine ⟨h1, hy y r rfl, h3, by omega, fun hm hk => h5 hm (hs _ hk), ?_⟩
  refine EsP.less h6 ?_ (Int.le_refl _) ?_
  intro k hk
  split at hk
  rename_i hm
  rw [if_pos hm]
  rcases List.mem_cons.1 hk with rfl | hk
  exact List.mem_cons_self ..
  exact zaj _ (hs _ hk)
  rename_i hm
  rw [if_neg hm]; exact hs _ hk
  rintro z q rfl
  simp only [EsP] at h6
  exact h6.2.1
theorem EsP.app {mark next : Int} (z : TEntry) (hz : EnOk z) (h1 : mark <= z.Offset) (h2 : z.Offset < next) : ∀ {l : List TEntry} {s : List (List UInt8)} {x : Int}, EsP mark next l s x -> zhy x l < z.Offset -> z.Offset <= max (zhy x l + 1) mark -> EsP mark next (l ++ [z]) s x
 | [], s, x, _, a, b => by
  simp only [zai, EsP, zhy] at a b ⊢
  exact ⟨hz, a, h2, b, fun h => absurd h (by omega), trivial⟩
 | y :: r, s, x, h, a, b => by
  simp only [zal, EsP, zhy] at h a b ⊢
  exact ⟨h.1, h.2.1, h.2.2.1, h.2.2.2.1, h.2.2.2.2.1, EsP.app z hz h1 h2 h.2.2.2.2.2 a b⟩
theorem zvr (z : TEntry) : ∀ (l : List TEntry) (x : Int), zhy x (l ++ [z]) = z.Offset
 | [], _ => rfl
 | y :: r, x => by simp only [zal, zhy]; exact zvr z r _
def addT (t : TTopic) (id : Int) (key body : List UInt8) : TTopic := ⟨t.Base, t.Next + 1, t.Mark, t.Entries ++ [⟨t.Next, id, key, body⟩]⟩
theorem TOk.add {t : TTopic} (h : TOk t) {id : Int} {key body : List UInt8} (hx : EnOk ⟨t.Next, id, key, body⟩) (h1 : t.Next ≠ 1073741824) (h2 : (t.Entries.length : Int) ≠ 200) : TOk (addT t id key body) := by
 have n0 := h.n0; have n1 := h.n1; have b0 := h.b0; have b1 := h.b1; have m0 := h.m0; have m1 := h.m1; have ln := h.len; have en := h.en
 refine ⟨by show 0 <= t.Next + 1; omega, by show t.Next + 1 <= _; omega, b0, by show t.Base <= t.Next + 1; omega, m0, by show t.Mark <= t.Next + 1; omega, ?_, ?_, ?_⟩
 simp only [addT, zae, za5, zac]; omega
 refine EsP.app _ hx (by show t.Mark <= t.Next; omega) (by show t.Next < t.Next + 1; omega) (h.es.mono (by show t.Next <= t.Next + 1; omega)) ?_ ?_
 show zhy (t.Base - 1) t.Entries < t.Next; omega
 show t.Next <= max (zhy (t.Base - 1) t.Entries + 1) t.Mark; omega
 simp only [addT, zvr]; omega
theorem ya4i (t : TTopic) (id : Int) (key body : List UInt8) : ∃ r, zi6 t id key body = some r /\ (r.2.2 = 0 -> TOk t /\ EnOk ⟨t.Next, id, key, body⟩ /\ t.Next ≠ 1073741824 /\ (t.Entries.length : Int) ≠ 200 /\ r = (addT t id key body, t.Next, 0)) /\
  (r.2.2 ≠ 0 -> r.1 = ⟨0, 0, 0, []⟩ /\ r.2.1 = 0) /\ (TOk t -> EnOk ⟨t.Next, id, key, body⟩ -> t.Next ≠ 1073741824 -> (t.Entries.length : Int) ≠ 200 -> r.2.2 = 0) := by
 unfold zi6
 rw [zxz]
 simp only [za1]
 by_cases h : TOk t
 rw [if_pos h, if_neg (by simp)]
 have n0 := h.n0; have n1 := h.n1; have ln := h.len
 have hid : (Option.bind (α := Bool) (if id < 0 then some (decide (id < 0)) else some (decide (id >= 6291456))) fun b1 => some b1) = some (decide (id < 0 \/ id >= 6291456)) := by
  by_cases h0 : id < 0
  simp [h0]
  simp [h0]
 have hb1 : (if id < 0 then some (decide (id < 0)) else some (decide (id >= 6291456))) = some (decide (id < 0 \/ id >= 6291456)) := by
  by_cases h0 : id < 0
  simp [h0]
  simp [h0]
 have hb2 : (if t.Next = 1073741824 then some (t.Next == 1073741824) else some ((t.Entries.length : Int) == 200)) = some (decide (t.Next = 1073741824 \/ (t.Entries.length : Int) = 200)) := by
  by_cases h0 : t.Next = 1073741824
  simp [h0]
  simp [h0]
  rfl
 simp only [hb1, hb2, za1, zyw, decide_eq_true_eq]
 by_cases k1 : id < 0 \/ id >= 6291456
 rw [if_pos k1]
 refine ⟨_, rfl, fun h => absurd h (by decide), fun _ => ⟨rfl, rfl⟩, fun _ he => ?_⟩
 simp only [EnOk] at he; omega
 rw [if_neg k1]
 by_cases k2 : EnOk ⟨t.Next, id, key, body⟩
 rw [if_neg (fun h => h k2)]
 by_cases k3 : t.Next = 1073741824 \/ (t.Entries.length : Int) = 200
 rw [if_pos k3]
 exact ⟨_, rfl, fun h => absurd h (by decide), fun _ => ⟨rfl, rfl⟩, fun _ _ a b => absurd k3 (by omega)⟩
 rw [if_neg k3]
 have hl : t.Entries.length * 48 <= 140737488355328 := by omega
 simp only [zco, zbh, if_pos hl, za1]
 rw [if_pos (by simp only [za5, zac]; omega), wrk _ (by omega)]
 exact ⟨_, rfl, fun _ => ⟨h, k2, by omega, by omega, rfl⟩, fun h => absurd rfl h, fun _ _ _ _ => rfl⟩
 rw [if_pos k2]
 exact ⟨_, rfl, fun h => absurd h (by decide), fun _ => ⟨rfl, rfl⟩, fun _ he => absurd he k2⟩
 rw [if_neg h, if_pos (by decide)]
 exact ⟨_, rfl, fun h => absurd h (by decide), fun _ => ⟨rfl, rfl⟩, fun h' => absurd h' h⟩
theorem ya82 (p : TEntry -> Bool) : ∀ (l : List TEntry) (i : Nat), ∃ z, zb4 (fun x => some (p x)) l i = some z /\
  ((z = .inr () /\ ∀ x ∈ l, p x = false) \/ ∃ k : Nat, z = .inl ((i + k : Nat) : Int) /\ k < l.length /\ l.dropWhile (fun x => !p x) = l.drop k)
 | [], i => ⟨_, rfl, .inl ⟨rfl, fun _ h => by cases h⟩⟩
 | y :: r, i => by
  simp only [zb4, za1]
  cases h : p y
  obtain ⟨z, h1, h2⟩ := ya82 p r (i + 1)
  refine ⟨z, by simpa using h1, ?_⟩
  rcases h2 with ⟨e, h2⟩ | ⟨k, e, h3, h4⟩
  refine .inl ⟨e, fun x hx => ?_⟩
  rcases List.mem_cons.1 hx with rfl | hx
  exact h
  exact h2 x hx
  exact .inr ⟨k + 1, by rw [e]; congr 2; omega, by simp only [za5]; omega, by simp [h, h4]⟩
  exact ⟨_, by simp, .inr ⟨0, rfl, by simp, by simp [h]⟩⟩
theorem zon {α : Type} (p : α -> Bool) : ∀ l : List α, (∀ x ∈ l, p x = true) -> l.dropWhile p = []
 | [], _ => rfl
 | y :: r, h => by rw [List.dropWhile_cons, h y (List.mem_cons_self ..), if_pos rfl]; exact zon p r fun x hx => h x (zaj _ hx)
def ya0o (t : TTopic) (to : Int) : TTopic := ⟨max t.Base (min to t.Next), t.Next, t.Mark, t.Entries.dropWhile fun x => !decide (x.Offset >= max t.Base (min to t.Next))⟩
theorem EsP.drop {mark next b : Int} : ∀ {l : List TEntry} {s : List (List UInt8)} {x : Int}, EsP mark next l s x -> x <= b - 1 -> b <= next -> max (zhy x l + 1) mark = next ->
  EsP mark next (l.dropWhile fun y => !decide (y.Offset >= b)) [] (b - 1) /\ max (zhy (b - 1) (l.dropWhile fun y => !decide (y.Offset >= b)) + 1) mark = next
 | [], s, x, h, hx, hb, he => by
  simp only [List.dropWhile_nil, EsP, zhy, true_and] at he ⊢
  omega
 | y :: r, s, x, h, hx, hb, he => by
  rw [List.dropWhile_cons]
  by_cases hy : y.Offset >= b
  simp only [hy, decide_true, Bool.not_true, zan, if_false]
  refine ⟨h.less (fun _ hk => by cases hk) (by omega) ?_, ?_⟩
  rintro z q e
  obtain ⟨rfl, -⟩ := List.cons.inj e
  omega
  simpa only [zhy] using he
  simp only [hy, decide_false, Bool.not_false, if_true]
  simp only [EsP, zhy] at h he
  exact EsP.drop h.2.2.2.2.2 (by omega) hb he
theorem TOk.trim {t : TTopic} (h : TOk t) {to : Int} (h0 : 0 <= to) : TOk (ya0o t to) := by
 have n0 := h.n0; have n1 := h.n1; have b0 := h.b0; have b1 := h.b1; have m0 := h.m0; have m1 := h.m1; have ln := h.len; have en := h.en
 obtain ⟨k1, k2⟩ := h.es.drop (b := max t.Base (min to t.Next)) (by omega) (by omega) en
 refine ⟨n0, n1, by show 0 <= max t.Base (min to t.Next); omega, by show max t.Base (min to t.Next) <= t.Next; omega, m0, m1, ?_, k1, k2⟩
 have : (t.Entries.dropWhile fun x => !decide (x.Offset >= max t.Base (min to t.Next))).length <= t.Entries.length := (List.dropWhile_sublist _).length_le
 show ((t.Entries.dropWhile fun x => !decide (x.Offset >= max t.Base (min to t.Next))).length : Int) <= 200
 omega
theorem ya0n (t : TTopic) (to : Int) : ∃ r, zi8 t to = some r /\ (r.2 = 0 -> TOk t /\ 0 <= to /\ to <= 1073741824 /\ r = (ya0o t to, 0)) /\ (r.2 ≠ 0 -> r.1 = ⟨0, 0, 0, []⟩) /\ (TOk t -> 0 <= to -> to <= 1073741824 -> r.2 = 0) := by
 unfold zi8
 rw [zxz]
 simp only [za1]
 by_cases h : TOk t
 rw [if_pos h, if_neg (by simp)]
 have ln := h.len
 by_cases hc : to < 0 \/ to > 1073741824
 rw [if_pos hc]
 exact ⟨_, rfl, fun h => absurd h (by decide), fun _ => rfl, fun _ a b => absurd hc (by omega)⟩
 rw [if_neg hc]
 have hl : t.Entries.length * 48 <= 140737488355328 := by omega
 simp only [zco, zbh, if_pos hl, za1, zd6, zhm]
 obtain ⟨z, h1, h2⟩ := ya82 (fun x => decide (x.Offset >= max t.Base (min to t.Next))) t.Entries 0
 rw [h1]
 simp only [za1]
 rcases h2 with ⟨rfl, h2⟩ | ⟨k, rfl, h3, h4⟩
 simp only [za1]
 rw [if_pos (by decide)]
 simp only [za1]
 rw [if_pos (by omega)]
 have e1 : t.Entries.drop ((t.Entries.length : Int)).toNat = [] := by simp
 rw [e1, if_pos (by simp)]
 refine ⟨_, rfl, fun _ => ⟨h, by omega, by omega, ?_⟩, fun h => absurd rfl h, fun _ _ _ => rfl⟩
 have e2 : (t.Entries.dropWhile fun x => !decide (x.Offset >= max t.Base (min to t.Next))) = [] := zon _ _ fun x hx => by rw [h2 x hx]; rfl
 simp only [ya0o, e2]
 simp only [za1, Nat.zero_add]
 rw [if_neg (by omega)]
 simp only [za1]
 rw [if_pos (by omega)]
 have hd : (t.Entries.drop ((k : Int)).toNat).length * 48 <= 140737488355328 := by
  have : (t.Entries.drop ((k : Int)).toNat).length <= t.Entries.length := by simp
  omega
 rw [if_pos hd]
 refine ⟨_, rfl, fun _ => ⟨h, by omega, by omega, ?_⟩, fun h => absurd rfl h, fun _ _ _ => rfl⟩
 simp only [ya0o, h4, Int.toNat_natCast]
 rw [if_neg h, if_pos (by decide)]
 exact ⟨_, rfl, fun h => absurd h (by decide), fun _ => rfl, fun h' => absurd h' h⟩
theorem ya0t {α : Type} (x : α) (A : List α) (a : α) (B : List α) : (A ++ a :: B).set A.length x = A ++ x :: B := by
 induction A with
 | nil => rfl
 | cons y r ih => simp only [zal, za5, List.set_cons_succ, ih]
theorem zyq {α : Type} (d : α) (A : List α) (a : α) (B : List α) : (A ++ a :: B).getD A.length d = a := by
 induction A with
 | nil => rfl
 | cons y r ih => simpa only [zal, za5, List.getD_cons_succ] using ih
theorem revL : ∀ (n fu : Nat) (A M B : List TEntry), M.length <= n -> M.length < fu -> (A ++ M ++ B).length <= 1000000 ->
  zau fu (A ++ M ++ B) (A.length : Int) ((A.length : Int) + M.length - 1) = some (A ++ M.reverse ++ B)
 | n, 0, A, M, B, _, h, _ => by omega
 | n, fu + 1, A, M, B, hn, hf, hl => by
  simp only [zau]
  by_cases hc : (A.length : Int) < (A.length : Int) + M.length - 1
  rw [if_pos hc]
  match M, n, hn with
  | [], _, _ => simp only [zac] at hc; omega
  | a :: M1, n + 1, hn =>
   have hne : M1 ≠ [] := by rintro rfl; simp only [za5, zac] at hc; omega
   obtain ⟨M', b, rfl⟩ : ∃ M' b, M1 = M' ++ [b] := ⟨M1.dropLast, M1.getLast hne, (List.dropLast_concat_getLast hne).symm⟩
   simp only [zae, za5, zac] at hc hn hf hl
   have e0 : A ++ a :: (M' ++ [b]) ++ B = A ++ a :: (M' ++ b :: B) := by simp
   have j0 : ((A.length : Int) + ((a :: (M' ++ [b])).length : Nat) - 1).toNat = (A ++ a :: M').length := by
    simp only [zae, za5, zac]; omega
   have e1 : A ++ a :: (M' ++ b :: B) = (A ++ a :: M') ++ b :: B := by simp
   have e2 : A ++ b :: (M' ++ b :: B) = (A ++ b :: M') ++ b :: B := by simp
   have j1 : (A ++ a :: M').length = (A ++ b :: M').length := by simp
   have g2 : (A ++ a :: (M' ++ [b]) ++ B).getD ((A.length : Int) + ((a :: (M' ++ [b])).length : Nat) - 1).toNat default = b := by
    rw [j0, e0, e1, zyq]
   have g1 : (A ++ a :: (M' ++ [b]) ++ B).getD ((A.length : Int)).toNat default = a := by
    rw [Int.toNat_natCast, e0, zyq]
   have s1 : (A ++ a :: (M' ++ [b]) ++ B).set ((A.length : Int)).toNat b = A ++ b :: (M' ++ b :: B) := by
    rw [Int.toNat_natCast, e0, ya0t]
   have s2 : (A ++ b :: (M' ++ b :: B)).set ((A.length : Int) + ((a :: (M' ++ [b])).length : Nat) - 1).toNat a = (A ++ [b]) ++ M' ++ (a :: B) := by
    rw [j0, j1, e2, ya0t]; simp
   rw [g2, g1, s1, s2, if_pos (by simp only [zae, za5, zac]; omega), if_pos (by simp only [zae, za5, zac]; omega), if_pos (by simp only [zae, za5, zac]; omega)]
   have w1 : wr .i64 ((A.length : Int) + 1) = (((A ++ [b]).length : Nat) : Int) := by
    rw [wrk _ (by omega)]; simp
   have w2 : wr .i64 ((A.length : Int) + ((a :: (M' ++ [b])).length : Nat) - 1 - 1) = (((A ++ [b]).length : Nat) : Int) + M'.length - 1 := by
    rw [wrk _ (by simp only [zae, za5, zac]; omega)]
    simp only [zae, za5, zac]; omega
   rw [w1, w2, revL n fu (A ++ [b]) M' (a :: B) (by omega) (by omega) (by simp only [zae, za5, zac]; omega)]
   simp
  rw [if_neg hc]
  have : M.reverse = M := by
   match M with
   | [] => rfl
   | [a] => rfl
   | a :: b :: r => simp only [za5] at hc; omega
  rw [this]
theorem ya7b (l : List TEntry) (h : l.length <= 1000000) : zc3 l = some l.reverse := by
 unfold zc3
 have := revL l.length (l.length + 1) [] l [] (za4 _) (by omega) (by simpa using h)
 simp only [zai, zag, zac] at this
 rw [wrk _ (by omega)]
 have e : ((l.length : Int) - 1) = ((0 : Nat) : Int) + (l.length : Int) - 1 := by omega
 rw [e]
 exact this
theorem zvn {α : Type} [DecidableEq α] (k j : α) : ∀ m : List (α × Int), (m.map Prod.fst).Nodup -> mget j (mdel k m) = if j = k then none else mget j m
 | [], _ => by simp only [mdel, mget, ite_self]
 | x :: l, hn => by
  have hn' := List.nodup_cons.1 (by simpa using hn : (x.1 :: l.map Prod.fst).Nodup)
  simp only [mdel]
  by_cases h : k = x.1
  rw [if_pos h]
  by_cases e : j = k
  rw [if_pos e]
  have : ∀ m : List (α × Int), j ∉ m.map Prod.fst -> mget j m = none := by
   intro m
   induction m with
   | nil => intro _; rfl
   | cons y r ih => intro hh; simp only [zah, List.mem_cons, not_or] at hh; simp only [mget, if_neg hh.1]; exact ih hh.2
  exact this l (by rw [e, h]; exact hn'.1)
  rw [if_neg e]
  simp only [mget]
  rw [if_neg (by rw [<- h]; exact e)]
  rw [if_neg h]
  simp only [mget, zvn k j l hn'.2]
  by_cases e : j = x.1
  rw [if_pos e, if_pos e, if_neg (by rw [e]; exact Ne.symm h)]
  rw [if_neg e, if_neg e]
theorem zvl {α : Type} [DecidableEq α] (k : α) : ∀ m : List (α × Int), (m.map Prod.fst).Nodup -> ((mput k 1 m).map Prod.fst).Nodup /\ ∀ j, j ∈ (mput k 1 m).map Prod.fst ↔ j = k \/ j ∈ m.map Prod.fst
 | [], _ => by simp [mput]
 | x :: l, hn => by
  have hn' := List.nodup_cons.1 (by simpa using hn : (x.1 :: l.map Prod.fst).Nodup)
  simp only [mput]
  by_cases h : k = x.1
  rw [if_pos h]
  subst h
  refine ⟨by simpa using hn', fun j => by simp⟩
  rw [if_neg h]
  obtain ⟨i1, i2⟩ := zvl k l hn'.2
  refine ⟨?_, fun j => ?_⟩
  simp only [zah, List.nodup_cons]
  refine ⟨fun hh => ?_, i1⟩
  rcases (i2 _).1 hh with e | e
  exact h e.symm
  exact hn'.1 e
  simp only [zah, List.mem_cons, i2]
  constructor
  rintro (a | a | a)
  exact .inr (.inl a)
  exact .inl a
  exact .inr (.inr a)
  rintro (a | a | a)
  exact .inr (.inl a)
  exact .inl a
  exact .inr (.inr a)
theorem zvo {α : Type} [DecidableEq α] (k : α) : ∀ m : List (α × Int), (m.map Prod.fst).Nodup -> ((mdel k m).map Prod.fst).Nodup /\ ∀ j, j ∈ (mdel k m).map Prod.fst -> j ∈ m.map Prod.fst
 | [], _ => by simp [mdel]
 | x :: l, hn => by
  have hn' := List.nodup_cons.1 (by simpa using hn : (x.1 :: l.map Prod.fst).Nodup)
  simp only [mdel]
  by_cases h : k = x.1
  rw [if_pos h]
  exact ⟨hn'.2, fun j hj => by simp only [zah, List.mem_cons]; exact .inr hj⟩
  rw [if_neg h]
  obtain ⟨i1, i2⟩ := zvo k l hn'.2
  refine ⟨?_, fun j => ?_⟩
  simp only [zah, List.nodup_cons]
  exact ⟨fun hh => hn'.1 (i2 _ hh), i1⟩
  simp only [zah, List.mem_cons]
  rintro (a | a)
  exact .inl a
  exact .inr (i2 _ a)
theorem zz3 (mark : Int) : ∀ (l : List TEntry) (w : List (List UInt8 × Int)), (w.map Prod.fst).Nodup -> ((zpi mark l w).map Prod.fst).Nodup /\ ∀ k, (mget k (zpi mark l w)).getD 0 = 0 ↔ (mget k w).getD 0 = 0 /\ ∀ y ∈ l, y.Offset < mark -> y.Key ≠ k
 | [], w, hn => ⟨hn, fun k => by simp [zpi]⟩
 | y :: r, w, hn => by
  simp only [zpi]
  have hn2 : ((if y.Offset < mark then mput y.Key 1 w else w).map Prod.fst).Nodup := by
   split
   exact (zvl _ w hn).1
   exact hn
  obtain ⟨i1, i2⟩ := zz3 mark r _ hn2
  refine ⟨i1, fun k => ?_⟩
  rw [i2]
  by_cases hm : y.Offset < mark
  simp only [if_pos hm, zpd]
  by_cases e : k = y.Key
  subst e
  simp only [if_pos, Option.getD_some]
  constructor
  rintro ⟨a, _⟩; exact absurd a (by decide)
  rintro ⟨_, a⟩; exact absurd rfl (a y (List.mem_cons_self ..) hm)
  rw [if_neg e]
  constructor
  rintro ⟨a, b⟩
  refine ⟨a, fun z hz hz' => ?_⟩
  rcases List.mem_cons.1 hz with rfl | hz
  exact Ne.symm e
  exact b z hz hz'
  rintro ⟨a, b⟩
  exact ⟨a, fun z hz => b z (zaj _ hz)⟩
  simp only [if_neg hm]
  constructor
  rintro ⟨a, b⟩
  refine ⟨a, fun z hz hz' => ?_⟩
  rcases List.mem_cons.1 hz with rfl | hz
  exact absurd hz' hm
  exact b z hz hz'
  rintro ⟨a, b⟩
  exact ⟨a, fun z hz => b z (zaj _ hz)⟩
def zq5 (mark : Int) : List TEntry -> List (List UInt8) -> List TEntry
 | [], _ => []
 | y :: q, seen => if y.Offset < mark /\ y.Key ∈ seen then zq5 mark q seen else y :: zq5 mark q (if y.Offset < mark then y.Key :: seen else seen)
theorem zqr (mark : Int) : ∀ (q : List TEntry) (w : List (List UInt8 × Int)) (seen : List (List UInt8)) (l : List TEntry), (w.map Prod.fst).Nodup -> l.length + q.length < 1000000 ->
  (∀ y ∈ q, y.Offset < mark -> ((mget y.Key w).getD 0 = 0 ↔ y.Key ∈ seen)) -> ∃ w', zur mark q w l = some (w', l ++ zq5 mark q seen)
 | [], w, seen, l, _, _, _ => ⟨w, by simp [zur, zq5]⟩
 | y :: q, w, seen, l, hn, hl, hw => by
  simp only [zur, zq5]
  simp only [za5] at hl
  have hy := hw y (List.mem_cons_self ..)
  by_cases hc : y.Offset < mark /\ y.Key ∈ seen
  rw [if_pos hc, if_pos ⟨hc.1, (hy hc.1).2 hc.2⟩]
  exact zqr mark q w seen l hn (by omega) fun z hz => hw z (zaj _ hz)
  have hc' : ¬ (y.Offset < mark /\ (mget y.Key w).getD 0 = 0) := fun h => hc ⟨h.1, (hy h.1).1 h.2⟩
  rw [if_neg hc, if_neg hc', if_pos (by omega)]
  by_cases hm : y.Offset < mark
  rw [if_pos hm, if_pos hm]
  obtain ⟨w', h⟩ := zqr mark q (mdel y.Key w) (y.Key :: seen) (l ++ [y]) (zvo _ w hn).1 (by simp only [zae, za5, zac]; omega) (fun z hz hzm => by
   rw [zvn _ _ w hn]
   by_cases e : z.Key = y.Key
   rw [if_pos e]; simp [e]
   rw [if_neg e, hw z (zaj _ hz) hzm]; simp [e])
  exact ⟨w', by rw [h]; simp⟩
  rw [if_neg hm, if_neg hm]
  obtain ⟨w', h⟩ := zqr mark q w seen (l ++ [y]) hn (by simp only [zae, za5, zac]; omega) fun z hz => hw z (zaj _ hz)
  exact ⟨w', by rw [h]; simp⟩
inductive Sel (mark : Int) : List TEntry -> List TEntry -> Prop
 | nil : Sel mark [] []
 | keep (y : TEntry) {l l' : List TEntry} : Sel mark l l' -> Sel mark (y :: l) (y :: l')
 | drop (y : TEntry) {l l' : List TEntry} : y.Offset < mark -> Sel mark l l' -> Sel mark (y :: l) l'
theorem Sel.app {mark : Int} {a a' b b' : List TEntry} (h : Sel mark a a') (h2 : Sel mark b b') : Sel mark (a ++ b) (a' ++ b') := by
 induction h with
 | nil => exact h2
 | keep y _ ih => exact .keep y ih
 | drop y hy _ ih => exact .drop y hy ih
theorem Sel.len {mark : Int} {a a' : List TEntry} (h : Sel mark a a') : a'.length <= a.length := by
 induction h with
 | nil => exact za4 _
 | keep y _ ih => simp only [za5]; omega
 | drop y _ _ ih => simp only [za5]; omega
theorem zog (mark : Int) : ∀ (q : List TEntry) (seen : List (List UInt8)), Sel mark q.reverse (zq5 mark q seen).reverse
 | [], _ => .nil
 | y :: q, seen => by
  simp only [zq5, List.reverse_cons]
  by_cases hc : y.Offset < mark /\ y.Key ∈ seen
  rw [if_pos hc]
  have := (zog mark q seen).app (.drop y hc.1 .nil)
  simpa using this
  rw [if_neg hc, List.reverse_cons]
  exact (zog mark q _).app (.keep y .nil)
def Dis (mark : Int) (a b : TEntry) : Prop := a.Offset < mark -> b.Offset < mark -> a.Key ≠ b.Key
theorem zrs (mark : Int) : ∀ (q : List TEntry) (seen : List (List UInt8)), (zq5 mark q seen).Pairwise (Dis mark) /\ ∀ y ∈ zq5 mark q seen, y.Offset < mark -> y.Key ∉ seen
 | [], _ => ⟨List.Pairwise.nil, fun _ h => by cases h⟩
 | y :: q, seen => by
  simp only [zq5]
  by_cases hc : y.Offset < mark /\ y.Key ∈ seen
  rw [if_pos hc]
  exact zrs mark q seen
  rw [if_neg hc]
  obtain ⟨i1, i2⟩ := zrs mark q (if y.Offset < mark then y.Key :: seen else seen)
  refine ⟨List.pairwise_cons.2 ⟨fun z hz hy hz' e => ?_, i1⟩, fun z hz hz' hk => ?_⟩
  have := i2 z hz hz'
  rw [if_pos hy] at this
  exact this (by rw [e]; exact List.mem_cons_self ..)
  rcases List.mem_cons.1 hz with rfl | hz
  exact hc ⟨hz', hk⟩
  refine i2 z hz hz' ?_
  split
  exact zaj _ hk
  exact hk
theorem EsP.sel {mark mark' next : Int} (hm : mark <= mark') (hm' : mark' <= next) {l l' : List TEntry} (h : Sel mark' l l') : ∀ {s s' : List (List UInt8)} {x x' : Int}, EsP mark next l s x -> x' <= x -> x + 1 <= max (x' + 1) mark' ->
  l'.Pairwise (Dis mark') -> (∀ y ∈ l', y.Offset < mark' -> y.Key ∉ s') -> max (zhy x l + 1) mark = next -> EsP mark' next l' s' x' /\ max (zhy x' l' + 1) mark' = next := by
 induction h with
 | nil =>
  intro s s' x x' _ h1 h2 _ _ he
  simp only [zhy, EsP, true_and] at he ⊢
  omega
 | @keep y l l' _ ih =>
  intro s s' x x' h h1 h2 hp hs he
  simp only [zhy, EsP] at h he ⊢
  obtain ⟨k1, k2⟩ := List.pairwise_cons.1 hp
  obtain ⟨i1, i2⟩ := ih (s' := if y.Offset < mark' then y.Key :: s' else s') (x' := y.Offset) h.2.2.2.2.2 (Int.le_refl _) (by omega) k2 (fun z hz hz' => by
   split
   rename_i hy
   intro hk
   rcases List.mem_cons.1 hk with e | hk
   exact k1 z hz hy hz' e.symm
   exact hs z (zaj _ hz) hz' hk
   exact hs z (zaj _ hz) hz') he
  exact ⟨⟨h.1, by omega, h.2.2.1, by omega, hs y (List.mem_cons_self ..), i1⟩, i2⟩
 | @drop y l l' hy _ ih =>
  intro s s' x x' h h1 h2 hp hs he
  simp only [zhy, EsP] at h he
  exact ih h.2.2.2.2.2 (by omega) (by omega) hp hs he
def ya5s (t : TTopic) (to : Int) : TTopic := ⟨t.Base, t.Next, max t.Mark (min to t.Next), (zq5 (max t.Mark (min to t.Next)) t.Entries.reverse []).reverse⟩
theorem TOk.comp {t : TTopic} (h : TOk t) {to : Int} (h0 : 0 <= to) : TOk (ya5s t to) := by
 have n0 := h.n0; have n1 := h.n1; have b0 := h.b0; have b1 := h.b1; have m0 := h.m0; have m1 := h.m1; have ln := h.len; have en := h.en
 have hs := zog (max t.Mark (min to t.Next)) t.Entries.reverse []
 rw [List.reverse_reverse] at hs
 have hd := zrs (max t.Mark (min to t.Next)) t.Entries.reverse []
 obtain ⟨k1, k2⟩ := EsP.sel (s' := []) (x' := t.Base - 1) (by omega : t.Mark <= max t.Mark (min to t.Next)) (by omega) hs h.es (by omega) (by omega) (by
  rw [List.pairwise_reverse]
  exact hd.1.imp fun {a b} hab h1 h2 e => hab h2 h1 e.symm) (fun _ _ _ => by simp) en
 have hl := hs.len
 exact ⟨n0, n1, b0, b1, by show 0 <= max t.Mark (min to t.Next); omega, by show max t.Mark (min to t.Next) <= t.Next; omega, by show (((zq5 (max t.Mark (min to t.Next)) t.Entries.reverse []).reverse.length : Nat) : Int) <= 200; omega, k1, k2⟩
theorem ya27 (t : TTopic) (to : Int) : ∃ r, zfg t to = some r /\ (r.2 = 0 -> TOk t /\ 0 <= to /\ to <= 1073741824 /\ r = (ya5s t to, 0)) /\ (r.2 ≠ 0 -> r.1 = ⟨0, 0, 0, []⟩) /\ (TOk t -> 0 <= to -> to <= 1073741824 -> r.2 = 0) := by
 unfold zfg
 rw [zxz]
 simp only [za1]
 by_cases h : TOk t
 rw [if_pos h, if_neg (by simp)]
 have ln := h.len
 by_cases hc : to < 0 \/ to > 1073741824
 rw [if_pos hc]
 exact ⟨_, rfl, fun h => absurd h (by decide), fun _ => rfl, fun _ a b => absurd hc (by omega)⟩
 rw [if_neg hc]
 have hl : t.Entries.length * 48 <= 140737488355328 := by omega
 simp only [zco, zbh, if_pos hl, za1]
 obtain ⟨c1, c2⟩ := zz3 (max t.Mark (min to t.Next)) t.Entries [] List.nodup_nil
 obtain ⟨w', e⟩ := zqr (max t.Mark (min to t.Next)) t.Entries.reverse (zpi (max t.Mark (min to t.Next)) t.Entries []) [] [] c1 (by simp only [zac, List.length_reverse]; omega) (fun y hy hy' => by
  rw [c2]
  simp only [List.not_mem_nil, iff_false]
  rintro ⟨_, a⟩
  exact a y (List.mem_reverse.1 hy) hy' rfl)
 rw [e]
 simp only [za1, zai]
 have hs := (zog (max t.Mark (min to t.Next)) t.Entries.reverse []).len
 simp only [List.reverse_reverse, List.length_reverse] at hs
 rw [ya7b _ (by omega)]
 exact ⟨_, rfl, fun _ => ⟨h, by omega, by omega, rfl⟩, fun h => absurd rfl h, fun _ _ _ => rfl⟩
 rw [if_neg h, if_pos (by decide)]
 exact ⟨_, rfl, fun h => absurd h (by decide), fun _ => rfl, fun h' => absurd h' h⟩
end Go.Proofs
namespace Go.Proofs
set_option linter.unusedVariables false
set_option linter.unusedSimpArgs false
open Go.Tm
def zm2 : Int -> List Int -> Bool
 | _, [] => true
 | last, n :: r => decide (last < n) && decide (n < 6) && zm2 n r
theorem ztj (v : Int) (l : List Int) : ∀ n : Nat, (v ∈ l -> ∃ k : Nat, zbk v l n = some (.inl (k : Int))) /\ (v ∉ l -> zbk v l n = some (.inr ())) := by
 induction l with
 | nil => intro n; exact ⟨(fun h => by cases h), fun _ => rfl⟩
 | cons y l ih =>
  intro n
  rw [zbk]
  by_cases h : v = y
  rw [if_pos h]
  exact ⟨fun _ => ⟨n, rfl⟩, fun hn => absurd (h ▸ List.mem_cons_self) hn⟩
  rw [if_neg h]
  refine ⟨fun hv => (ih (n + 1)).1 ?_, fun hv => (ih (n + 1)).2 fun hh => hv (zaj _ hh)⟩
  rcases List.mem_cons.1 hv with hv | hv
  exact absurd hv h
  exact hv
theorem zxg (l : List Int) (v : Int) : zda l v = some (decide (v ∈ l)) := by
 rw [zda, zeq]
 by_cases h : v ∈ l
 obtain ⟨k, hk⟩ := (ztj v l 0).1 h
 rw [hk]
 simp [h]
 rw [(ztj v l 0).2 h]
 simp [h]
theorem ya32 : ∀ (l : List Int) (k : Int), zm2 k l = true -> ∀ x ∈ l, k < x /\ x < 6 := by
 intro l
 induction l with
 | nil => intro _ _ x hx; cases hx
 | cons y l ih =>
  intro k h x hx
  simp only [zm2, za0, decide_eq_true_eq] at h
  rcases List.mem_cons.1 hx with rfl | hx
  exact h.1
  have := ih y h.2 x hx
  omega
theorem zwt (l : List Int) : ∀ n, zch l n = some (if zm2 n l = true then .inr (l.getLastD n) else .inl 60) := by
 induction l with
 | nil => intro n; simp [zch, zm2]
 | cons y l ih =>
  intro n
  rw [zch]
  by_cases h : (y <= n) \/ (y >= 6)
  rw [if_pos h, if_neg (by simp only [zm2, za0, decide_eq_true_eq]; omega)]
  rw [if_neg h, ih]
  have : zm2 n (y :: l) = zm2 y l := by
   simp only [zm2]
   have h1 : decide (n < y) = true := by simp; omega
   have h2 : decide (y < 6) = true := by simp; omega
   simp [h1, h2]
  rw [this, List.getLastD_cons]
def qerr (l : List Int) : Int := if l.length > 6 then 4 else if zm2 (-1) l = true /\ l ≠ [] then 0 else 60
theorem ya15 (l : List Int) : zgz l = some (qerr l) := by
 rw [zgz]
 unfold qerr
 by_cases h : (l.length : Int) > 6
 rw [if_pos h, if_pos (by omega)]
 rw [if_neg h, if_neg (by omega), zwt]
 by_cases hr : zm2 (-1) l = true
 rw [if_pos hr]
 cases l with
 | nil => simp
 | cons y l =>
  have hl := (ya32 (y :: l) (-1) hr ((y :: l).getLastD (-1)) (by rw [List.getLastD_eq_getLast?, List.getLast?_eq_some_getLast (by simp)]; exact List.getLast_mem (by simp))).1
  simp only [za1, ne_eq, reduceCtorEq, not_false_eq_true, and_true, if_pos hr]
  rw [if_neg (by omega)]
 rw [if_neg hr]
 simp [hr]
theorem zzy (b : List Int) : ∀ (l : List Int) (n : Nat), n + l.length = b.length -> zbl b l n = some (if l = b.drop n then .inr () else .inl false) := by
 intro l
 induction l with
 | nil => intro n h; simp [zbl]; simp at h; omega
 | cons y l ih =>
  intro n h
  simp only [za5] at h
  have hn : n < b.length := by omega
  have hg : b.getD n default = b[n] := by simp [List.getD, List.getElem?_eq_getElem hn]
  have hd := za7 hn
  rw [zbl, if_pos hn, hg]
  generalize b[n] = z at hd
  rw [hd]
  by_cases hy : y = z
  rw [if_neg (by simpa using hy), ih (n + 1) (by omega)]
  simp only [hy, List.cons.injEq, true_and]
  rw [if_pos hy]
  simp only [hy, List.cons.injEq, false_and, if_false]
theorem zyv (a b : List Int) : zc7 a b = some (decide (a = b)) := by
 rw [zc7]
 by_cases h : (a.length : Int) = (b.length : Int)
 rw [if_neg (by simpa using h), zzy b a 0 (by omega), List.drop_zero]
 by_cases hab : a = b <;> simp [hab]
 rw [if_pos h]
 have : a ≠ b := fun hh => h (by rw [hh])
 simp [this]
theorem ya5f (i j : Nat) (h : i + j < 4000000) : wr .i64 (shw false .u64 (wr .u64 (wr .i64 ((i : Int) + (j : Int)))) 1) = (((i + j) / 2 : Nat) : Int) := by
 have e1 : wr .i64 ((i : Int) + (j : Int)) = (i : Int) + (j : Int) := zl8 _ _ (by show (-9223372036854775808 : Int) <= _; omega) (by show _ <= (9223372036854775807 : Int); omega)
 have e2 : wr .u64 ((i : Int) + (j : Int)) = (i : Int) + (j : Int) := zl8 _ _ (by show (0 : Int) <= _; omega) (by show _ <= (18446744073709551615 : Int); omega)
 have e3 : shw false .u64 ((i : Int) + (j : Int)) 1 = (((i + j) / 2 : Nat) : Int) := by
  unfold shw
  show Int.fdiv ((i : Int) + (j : Int)) 2 = _
  rw [Int.fdiv_eq_ediv_of_nonneg _ (by omega)]
  omega
 rw [e1, e2, e3]
 exact zl8 _ _ (by show (-9223372036854775808 : Int) <= _; omega) (by show _ <= (9223372036854775807 : Int); omega)
def stW (w : TWait) : TStamp := ⟨w.Time, w.Message.Id⟩
def ltS (a b : TStamp) : Prop := a.Time < b.Time \/ (a.Time = b.Time /\ a.Id < b.Id)
instance (a b : TStamp) : Decidable (ltS a b) := by unfold ltS; infer_instance
theorem zrn {a b c : TStamp} (h : ltS a b) (k : ltS b c) : ltS a c := by unfold ltS at *; omega
theorem zzs (a : TStamp) : ¬ ltS a a := by unfold ltS; omega
theorem ya1o {a b : TStamp} (h : a.Id ≠ b.Id) (k : ¬ ltS b a) : ltS a b := by unfold ltS at *; omega
theorem or2 (x y : Int) : zio [x, y] = some (if x = 0 then y else x) := by
 rw [zio, zd9]
 by_cases hx : x = 0
 rw [if_neg (by simpa using hx), zd9, if_pos hx]
 by_cases hy : y = 0
 rw [if_neg (by simpa using hy), zd9]; simp [hy]
 rw [if_pos hy]; rfl
 rw [if_pos hx, if_neg hx]; rfl
theorem ya4f (x y : Int) : zel x y = some (if x < y then -1 else if x > y then 1 else 0) := by
 have e : ∀ z : Int, zfk z = some false := fun z => by rw [zfk]; simp
 rw [zel, e, e]
 simp only [za1, zan, if_false]
 split
 rfl
 split <;> rfl
theorem zx3 (a b : TStamp) : zfo a b = some (decide (ltS a b)) := by
 rw [zfo, ya4f, ya4f]
 simp only [za1, or2, za3, decide_eq_decide, ltS]
 by_cases h1 : a.Time < b.Time
 simp [h1]
 by_cases h2 : a.Time > b.Time
 simp [h1, h2]; omega
 have : a.Time = b.Time := by omega
 by_cases h3 : a.Id < b.Id
 simp [this, h3]
 by_cases h4 : a.Id > b.Id <;> simp [this, h3, h4]
theorem ya38 (a b : TWait) : zdq a b = some (if ltS (stW a) (stW b) then -1 else if ltS (stW b) (stW a) then 1 else 0) := by
 simp only [zdq, zff, za1, zx3, decide_eq_true_eq]
 show (if ltS (stW a) (stW b) then _ else if ltS (stW b) (stW a) then _ else _) = _
 split
 rfl
 split <;> rfl
def minW : TWait -> List TWait -> TWait
 | m, [] => m
 | m, x :: l => minW (if ltS (stW x) (stW m) then x else m) l
theorem ya3f : ∀ (l : List TWait) (m : TWait), minW m l = m \/ minW m l ∈ l := by
 intro l
 induction l with
 | nil => intro m; exact .inl rfl
 | cons x l ih =>
  intro m
  rw [minW]
  rcases ih (if ltS (stW x) (stW m) then x else m) with h | h
  rw [h]; split
  exact .inr (by simp)
  exact .inl rfl
  exact .inr (zaj _ h)
theorem ya1m : ∀ (l : List TWait) (m : TWait), ¬ ltS (stW m) (stW (minW m l)) /\ ∀ x ∈ l, ¬ ltS (stW x) (stW (minW m l)) := by
 intro l
 induction l with
 | nil => intro m; exact ⟨zzs _, by simp⟩
 | cons x l ih =>
  intro m
  rw [minW]
  obtain ⟨h1, h2⟩ := ih (if ltS (stW x) (stW m) then x else m)
  have key : ¬ ltS (stW m) (stW (minW (if ltS (stW x) (stW m) then x else m) l)) /\ ¬ ltS (stW x) (stW (minW (if ltS (stW x) (stW m) then x else m) l)) := by
   by_cases h : ltS (stW x) (stW m)
   rw [if_pos h] at h1 ⊢
   exact ⟨fun k => h1 (zrn h k), h1⟩
   rw [if_neg h] at h1 ⊢
   refine ⟨h1, fun k => ?_⟩
   have := @zrn
   unfold ltS at *; omega
  refine ⟨key.1, fun y hy => ?_⟩
  rcases List.mem_cons.1 hy with rfl | hy
  exact key.2
  exact h2 y hy
theorem ya3e (l : List TWait) (hl : l.length < 1000000) : ∀ (fu k : Nat) (m : TWait), l.length - k < fu -> k <= l.length ->
  zax l zdq fu m.Message.Id m.Message.Groups m.Message.Topic m.Message.Key m.Message.Body m.Time m.Final (k : Int)
   = some (let r := minW m (l.drop k); (r.Message.Id, r.Message.Groups, r.Message.Topic, r.Message.Key, r.Message.Body, r.Time, r.Final)) := by
 intro fu
 induction fu with
 | zero => intro k m h; omega
 | succ fu ih =>
  intro k m h hk
  rw [zax]
  by_cases hlt : k < l.length
  have hd := za7 hlt
  have hg : l.getD (k : Int).toNat default = l[k] := by simp [List.getD, List.getElem?_eq_getElem hlt]
  have hw : wr .i64 ((k : Int) + 1) = ((k + 1 : Nat) : Int) := zl8 _ _ (by show (-9223372036854775808 : Int) <= _; omega) (by show _ <= (9223372036854775807 : Int); omega)
  rw [if_pos (by omega), if_pos (by omega), hg, ya38, hd, minW]
  show Option.bind (Option.bind (some (if ltS (stW l[k]) (stW m) then (-1 : Int) else if ltS (stW m) (stW l[k]) then 1 else 0)) _) _ = _
  simp only [za1]
  by_cases hc : ltS (stW l[k]) (stW m)
  simp only [hc, if_true]
  rw [if_pos (by decide), if_pos (by omega)]
  simp only [za1]
  rw [hw, ih (k + 1) l[k] (by omega) (by omega)]
  simp only [hc, if_false]
  rw [if_neg (by split <;> decide)]
  simp only [za1]
  rw [hw, ih (k + 1) m (by omega) (by omega)]
  rw [if_neg (by omega), zab (by omega), minW]
theorem ya4d (y : TWait) (l : List TWait) (hl : l.length < 900000) : zbz (y :: l) zdq = some (minW y l) := by
 rw [zbz, if_neg (by simp; omega), if_pos (by simp)]
 have := ya3e (y :: l) (by simp; omega) ((y :: l).length + 1) 1 y (by simp; omega) (by simp)
 rw [show ((1 : Nat) : Int) = 1 from rfl] at this
 have e : (y :: l).getD 0 default = y := rfl
 rw [e, this]
 rfl
theorem ya1k (l : List TWait) (f : TWait -> TWait -> Option Int) : ∀ (fu : Nat) (a : Int) (b : List Int) (c : Int) (d e : List UInt8) (g : Int) (h : Bool) (i : Int), zbb l f fu a b c d e g h i = zax l f fu a b c d e g h i := by
 intro fu
 induction fu with
 | zero => intros; rfl
 | succ fu ih =>
  intros
  rw [zbb, zax]
  simp only [ih]
theorem ya1l (y : TWait) (l : List TWait) (hl : l.length < 900000) : zck (y :: l) zdq = some (minW y l) := by
 rw [<- ya4d y l hl, zck, zbz]
 simp only [ya1k]
def IdOk (n : Int) : Prop := 0 <= n /\ n <= 6291455
def zqj (l : List TWait) : Prop := l.Pairwise fun a b => a.Message.Id < b.Message.Id
theorem ya83 (w : TWait) (id : Int) (h1 : IdOk w.Message.Id) (h2 : IdOk id) : zd2 w id = some (w.Message.Id - id) := by
 rw [zd2]
 unfold IdOk at *
 rw [zl8 _ _ (by show (-9223372036854775808 : Int) <= _; omega) (by show _ <= (9223372036854775807 : Int); omega)]
def plc (id : Int) : List TWait -> Nat
 | [] => 0
 | w :: l => if w.Message.Id < id then plc id l + 1 else 0
theorem zy9 (id : Int) : ∀ l, plc id l <= l.length := by
 intro l
 induction l with
 | nil => simp [plc]
 | cons w l ih => rw [plc]; split <;> simp <;> omega
theorem zy8 (id : Int) : ∀ (l : List TWait), zqj l -> ∀ (x : Nat) (h : x < l.length), (l[x].Message.Id < id ↔ x < plc id l) := by
 intro l
 induction l with
 | nil => intro _ x h; simp at h
 | cons w l ih =>
  intro hu x h
  have hu' := List.pairwise_cons.1 hu
  rw [plc]
  cases x with
  | zero => simp only [List.getElem_cons_zero]; split <;> simp [*]
  | succ x =>
   simp only [List.getElem_cons_succ]
   have hx : x < l.length := by simpa using h
   have := ih hu'.2 x hx
   split
   rw [this]; omega
   rename_i hw
   have := hu'.1 l[x] (List.getElem_mem hx)
   constructor
   intro _; omega
   intro h; omega
theorem ya5u (l : List TWait) (id : Int) (hl : l.length < 1000000) (hu : zqj l) (hi : ∀ w ∈ l, IdOk w.Message.Id) (h2 : IdOk id) : ∀ (fu i j : Nat), j - i < fu -> i <= plc id l -> plc id l <= j -> j <= l.length ->
  zaq l id zd2 fu (i : Int) (j : Int) = some ((plc id l : Nat) : Int) := by
 intro fu
 induction fu with
 | zero => intro i j h; omega
 | succ fu ih =>
  intro i j h h1 h3 h4
  rw [zaq]
  by_cases hij : i < j
  have hm : (i + j) / 2 < l.length := by omega
  have hg : l.getD (((i + j) / 2 : Nat) : Int).toNat default = l[(i + j) / 2] := by rw [Int.toNat_natCast]; simp [List.getD, List.getElem?_eq_getElem hm]
  have e : wr .i64 ((((i + j) / 2 : Nat) : Int) + 1) = (((i + j) / 2 + 1 : Nat) : Int) := zl8 _ _ (by show (-9223372036854775808 : Int) <= _; omega) (by show _ <= (9223372036854775807 : Int); omega)
  rw [if_pos (by omega), ya5f i j (by omega), if_pos ⟨by omega, by omega⟩, hg, ya83 _ _ (hi _ (List.getElem_mem hm)) h2, e]
  simp only [za1]
  have hp := zy8 id l hu _ hm
  by_cases hc : l[(i + j) / 2].Message.Id < id
  rw [if_pos (by omega)]
  exact ih _ _ (by omega) (by have := hp.1 hc; omega) h3 h4
  rw [if_neg (by omega)]
  exact ih _ _ (by omega) h1 (by have : ¬ _ := fun k => hc (hp.2 k); omega) (by omega)
  rw [if_neg (by omega)]
  have : i = plc id l := by omega
  rw [this]
theorem ya19 (id : Int) (l : List TWait) (hu : zqj l) : (∃ w ∈ l, w.Message.Id = id) ↔ ∃ h : plc id l < l.length, l[plc id l].Message.Id = id := by
 constructor
 rintro ⟨w, hw, rfl⟩
 obtain ⟨x, hx, rfl⟩ := List.getElem_of_mem hw
 have h1 : ¬ x < plc l[x].Message.Id l := fun k => by have := (zy8 _ l hu x hx).2 k; omega
 have h2 : plc l[x].Message.Id l <= x := by omega
 have h3 : plc l[x].Message.Id l < l.length := by omega
 refine ⟨h3, ?_⟩
 have h4 : ¬ l[plc l[x].Message.Id l].Message.Id < l[x].Message.Id := fun k => by have := (zy8 _ l hu _ h3).1 k; omega
 rcases Nat.lt_or_eq_of_le h2 with h5 | h5
 have := List.pairwise_iff_getElem.1 hu _ _ h3 hx h5
 omega
 simp only [h5]
 rintro ⟨h, e⟩
 exact ⟨_, List.getElem_mem h, e⟩
theorem zx9 (c : Tskeen_clock) (id : Int) (hl : c.Skeen.Waits.length < 1000000) (hu : zqj c.Skeen.Waits) (hi : ∀ w ∈ c.Skeen.Waits, IdOk w.Message.Id) (h2 : IdOk id) :
  zdr c id = some (((plc id c.Skeen.Waits : Nat) : Int), decide (∃ w ∈ c.Skeen.Waits, w.Message.Id = id)) := by
 obtain ⟨⟨ck, l, dn⟩⟩ := c
 simp only at hl hu hi ⊢
 have hb := ya5u l id hl hu hi h2 (l.length + 1) 0 l.length (by omega) (by omega) (zy9 id l) (by omega)
 rw [zdr, zc2]
 simp only
 have e0 : ((0 : Nat) : Int) = 0 := rfl
 rw [e0] at hb
 rw [hb]
 simp only [za1]
 rw [if_pos (by intro h; omega)]
 have hp := ya19 id l hu
 by_cases hc : plc id l < l.length
 have hg : l.getD ((plc id l : Nat) : Int).toNat default = l[plc id l] := by rw [Int.toNat_natCast]; simp [List.getD, List.getElem?_eq_getElem hc]
 rw [if_pos (by omega), hg, ya83 _ _ (hi _ (List.getElem_mem hc)) h2]
 simp only [za1, za3, za6, true_and]
 rw [decide_eq_true (by omega : ((plc id l : Nat) : Int) < (l.length : Int)), Bool.true_and]
 by_cases hx : ∃ w ∈ l, w.Message.Id = id
 obtain ⟨h3, h4⟩ := hp.1 hx
 simp only [hx, decide_true]
 simp; omega
 simp only [hx, decide_false]
 have : ¬ l[plc id l].Message.Id = id := fun k => hx (hp.2 ⟨hc, k⟩)
 simp; omega
 rw [if_neg (by omega)]
 have : ¬ ∃ w ∈ l, w.Message.Id = id := fun k => hc (hp.1 k).1
 simp only [za1, this, decide_false]
 rw [decide_eq_false (by omega), Bool.false_and]
theorem zyj (f : TStamp -> Option Bool) (g : TStamp -> Bool) (hf : ∀ x, f x = some (g x)) (l : List TStamp) : ∀ n : Nat, (l.any g = true -> ∃ k : Nat, zaw f l n = some (.inl (k : Int))) /\ (l.any g = false -> zaw f l n = some (.inr ())) := by
 induction l with
 | nil => intro n; exact ⟨(fun h => by cases h), fun _ => rfl⟩
 | cons y l ih =>
  intro n
  rw [zaw, hf, List.any_cons]
  cases hg : g y with
  | true => exact ⟨fun _ => ⟨n, by simp⟩, fun h => by cases h⟩
  | false => simpa using ih (n + 1)
theorem ya5n (c : Tskeen_clock) (id : Int) : zf2 c id = some (c.Skeen.Done.any fun x => x.Id == id) := by
 rw [zf2, zcl, zd5]
 have hf : ∀ x : TStamp, (fun x0 => zee x0 id) x = some (x.Id == id) := fun x => rfl
 cases h : c.Skeen.Done.any fun x => x.Id == id with
 | true => obtain ⟨k, hk⟩ := (zyj _ _ hf c.Skeen.Done 0).1 h; rw [hk]; simp
 | false => rw [(zyj _ _ hf c.Skeen.Done 0).2 h]; simp
theorem zud (a b c : Int) : zd8 a b c = some (decide (b <= a /\ a <= c)) := by
 rw [zd8]; by_cases h : b <= a <;> by_cases k : a <= c <;> simp [h, k]
instance (n : Int) : Decidable (IdOk n) := by unfold IdOk; infer_instance
theorem zz4 (a : Int) : zgi a = some (decide (IdOk a)) := by
 rw [zgi, zud, za1]; rfl
def zk1 (m : TMessage) : Prop := zbj m = some 0
theorem ya39 (m : TMessage) : ∀ (l : List Int) (n : Nat) (b : Bool), ∃ r, zba m l n b = some r := by
 intro l
 induction l with
 | nil => intro n b; exact ⟨b, rfl⟩
 | cons y l ih =>
  intro n b
  rw [zba, zud]
  cases b with
  | true => simp only [if_true, za1]; exact ih _ _
  | false => simp only [zan, if_false, za1]; exact ih _ _
theorem zx1 (m : TMessage) : (∃ e, zbj m = some e) /\ (zbj m = some 0 -> IdOk m.Id) := by
 obtain ⟨b, hb⟩ := ya39 m m.Groups 0 ((decide ((m.Groups.length : Int) >= 1)) && (decide ((m.Groups.length : Int) <= 4)))
 have key : zbj m = some (if ((((¬ (b = true)) \/ (¬ (decide (IdOk m.Id) = true))) \/ (¬ (decide (0 <= m.Topic /\ m.Topic <= 3) = true))) \/ ((m.Key.length : Int) > 16)) \/ ((m.Body.length : Int) > 64) then 120 else 0) := by
  rw [zbj, hb]
  simp only [za1, zz4, zud]
  cases b with
  | true =>
   simp only [not_true_eq_false, not_false_eq_true, if_true, za1, false_or]
   by_cases hi : IdOk m.Id
   simp only [hi, decide_true, not_true_eq_false, not_false_eq_true, if_true, za1, false_or]
   split <;> rfl
   simp only [hi, decide_false, zan, not_false_eq_true, not_true_eq_false, if_false, za1, true_or, if_true]
  | false => simp
 refine ⟨⟨_, key⟩, fun h => ?_⟩
 rw [key] at h
 by_cases hi : IdOk m.Id
 exact hi
 simp [hi] at h
theorem zk1.id {m : TMessage} (h : zk1 m) : IdOk m.Id := (zx1 m).2 h
def zj5 (x : TStamp) : Prop := 0 <= x.Time /\ x.Time <= 1073741824 /\ 0 <= x.Id /\ x.Id < 6291456
instance (x : TStamp) : Decidable (zj5 x) := by unfold zj5; infer_instance
theorem ya62 (x : TStamp) : zhj x = some (if zj5 x then 0 else 8) := by
 rw [zhj]
 by_cases h : zj5 x
 rw [if_pos h, if_neg (by unfold zj5 at h; omega)]
 rw [if_neg h, if_pos (by unfold zj5 at h; omega)]
theorem ya1n (k i v : Int) : ∀ m : List (Int × Int), mget k (mput i v m) = if k = i then some v else mget k m := by
 intro m
 induction m with
 | nil => simp [mput, mget]
 | cons x m ih =>
  rw [mput]
  by_cases h : i = x.1
  rw [if_pos h]; simp only [mget]
  by_cases hk : k = i
  simp [hk]
  simp [hk, show k ≠ x.1 from fun e => hk (e.trans h.symm)]
  rw [if_neg h]; simp only [mget]
  by_cases hx : k = x.1
  simp [hx, show ¬ x.1 = i from fun e => h e.symm]
  rw [if_neg hx, ih, if_neg hx]
def DOk (c : Int) (D : List TStamp) : Prop := (∀ x ∈ D, zj5 x /\ 1 <= x.Time /\ x.Time <= c) /\ D.Pairwise ltS /\ (D.map TStamp.Id).Nodup
theorem DOk.pre {c : Int} {D E : List TStamp} (h : DOk c (D ++ E)) : DOk c D :=
 ⟨fun x hx => h.1 x (List.mem_append_left _ hx), (List.pairwise_append.1 h.2.1).1, by have := h.2.2; rw [List.map_append] at this; exact (List.nodup_append.1 this).1⟩
theorem ya3h {D : List TStamp} (h : D.Pairwise ltS) {p : TStamp} (hp : D.getLast? = some p) : ∀ x ∈ D, x = p \/ ltS x p := by
 obtain ⟨E, rfl⟩ := List.getLast?_eq_some_iff.1 hp
 intro x hx
 rcases List.mem_append.1 hx with hx | hx
 exact .inr ((List.pairwise_append.1 h).2.2 x hx p (by simp))
 simp at hx; exact .inl hx
theorem DOk.snoc {c : Int} {D : List TStamp} (h : DOk c D) (y : TStamp) : DOk c (D ++ [y]) ↔ (zj5 y /\ 1 <= y.Time /\ y.Time <= c) /\ (∀ p, D.getLast? = some p -> ltS p y) /\ y.Id ∉ D.map TStamp.Id := by
 constructor
 intro k
 refine ⟨k.1 y (by simp), fun p hp => ?_, fun hm => ?_⟩
 exact (List.pairwise_append.1 k.2.1).2.2 p (List.mem_of_getLast? hp) y (by simp)
 have := k.2.2; rw [List.map_append] at this
 exact (List.nodup_append.1 this).2.2 _ hm _ (by simp) rfl
 rintro ⟨h1, h2, h3⟩
 refine ⟨fun x hx => ?_, ?_, ?_⟩
 rcases List.mem_append.1 hx with hx | hx
 exact h.1 x hx
 simp at hx; subst hx; exact h1
 rw [List.pairwise_append]
 refine ⟨h.2.1, by simp, fun x hx z hz => ?_⟩
 simp at hz; subst hz
 cases hl : D.getLast? with
 | none => rw [List.getLast?_eq_none_iff] at hl; subst hl; simp at hx
 | some p =>
  rcases ya3h h.2.1 hl x hx with rfl | hh
  exact h2 _ hl
  exact zrn hh (h2 _ hl)
 rw [List.map_append, List.nodup_append]
 refine ⟨h.2.2, by simp, fun a ha b hb e => ?_⟩
 simp at hb; subst hb; subst e; exact h3 ha
def Mp (D : List TStamp) (m : List (Int × Int)) : Prop := ∀ k, ((mget k m).getD 0 > 0 ↔ k ∈ D.map TStamp.Id)
theorem Mp.snoc {D : List TStamp} {m : List (Int × Int)} (h : Mp D m) (y : TStamp) : Mp (D ++ [y]) (mput y.Id 1 m) := by
 intro k
 rw [ya1n]
 by_cases e : k = y.Id
 simp [e]
 rw [if_neg e, h k]; simp [e]
theorem ck1 (s : TSkeen) : ∀ (l pre : List TStamp) (m : List (Int × Int)) (n3 n4 : Int), DOk s.Clock pre -> Mp pre m -> (∀ x, pre.getLast? = some x -> x = ⟨n3, n4⟩) ->
  (DOk s.Clock (pre ++ l) -> ∃ m' a b, zbq s l pre.length m n3 n4 = some (.inr (m', a, b)) /\ Mp (pre ++ l) m' /\ ∀ x, (pre ++ l).getLast? = some x -> x = ⟨a, b⟩) /\
  (¬ DOk s.Clock (pre ++ l) -> zbq s l pre.length m n3 n4 = some (.inl 8)) := by
 intro l
 induction l with
 | nil =>
  intro pre m n3 n4 h1 h2 h3
  rw [zag]
  exact ⟨fun _ => ⟨m, n3, n4, rfl, h2, h3⟩, fun h => absurd h1 h⟩
 | cons y l ih =>
  intro pre m n3 n4 h1 h2 h3
  have ea : pre ++ y :: l = (pre ++ [y]) ++ l := by simp
  have hs := h1.snoc y
  have el : (pre ++ [y]).length = pre.length + 1 := by simp
  have hlast : ∀ x, (pre ++ [y]).getLast? = some x -> x = ⟨y.Time, y.Id⟩ := by
   intro x hx; simp at hx; exact hx.symm
  -- the round's test
  have key : ∀ k : Option (Int ⊕ (List (Int × Int) × Int × Int)), (DOk s.Clock (pre ++ [y]) -> k = zbq s l (pre.length + 1) (mput y.Id 1 m) y.Time y.Id) -> (¬ DOk s.Clock (pre ++ [y]) -> k = some (.inl 8)) -> zbq s (y :: l) pre.length m n3 n4 = k := by
   intro k k1 k2
   rw [zbq, ya62]
   simp only [za1, zx3]
   by_cases c1 : zj5 y /\ 1 <= y.Time /\ y.Time <= s.Clock
   have e1 : ¬ ((¬ (if zj5 y then (0 : Int) else 8) = 0 \/ y.Time < 1) \/ y.Time > s.Clock) := by
    rw [if_pos c1.1]; omega
   by_cases c2 : pre.length = 0
   have hp : pre = [] := List.length_eq_zero_iff.1 c2
   have hl : ∀ p, pre.getLast? = some p -> ltS p y := by subst hp; simp
   rw [if_neg (by rw [c2]; simp)]
   simp only [za1]
   by_cases c3 : y.Id ∈ pre.map TStamp.Id
   rw [if_pos (.inr ((h2 _).2 c3)), k2 (fun h => (hs.1 h).2.2 c3)]
   rw [if_neg, k1 (hs.2 ⟨c1, hl, c3⟩)]
   rintro ((hh | hh) | hh)
   exact e1 hh
   omega
   exact c3 ((h2 _).1 hh)
   obtain ⟨p, hp⟩ : ∃ p, pre.getLast? = some p := by
    cases hq : pre.getLast? with
    | none => rw [List.getLast?_eq_none_iff] at hq; subst hq; simp at c2
    | some p => exact ⟨p, rfl⟩
   have ep := h3 p hp
   rw [if_pos ⟨e1, by omega⟩]
   simp only [za1, decide_eq_true_eq]
   by_cases c4 : ltS ⟨n3, n4⟩ y
   by_cases c3 : y.Id ∈ pre.map TStamp.Id
   rw [if_pos (.inr ((h2 _).2 c3)), k2 (fun h => (hs.1 h).2.2 c3)]
   rw [if_neg, k1 (hs.2 ⟨c1, fun q hq => by rw [hp] at hq; cases hq; rw [ep]; exact c4, c3⟩)]
   rintro ((hh | hh) | hh)
   exact e1 hh
   exact hh.2 c4
   exact c3 ((h2 _).1 hh)
   rw [if_pos (.inl (.inr ⟨by omega, c4⟩)), k2 (fun h => c4 (by have := (hs.1 h).2.1 p hp; rwa [ep] at this))]
   have e1 : ((¬ (if zj5 y then (0 : Int) else 8) = 0 \/ y.Time < 1) \/ y.Time > s.Clock) := by
    by_cases c0 : zj5 y
    rw [if_pos c0]; have := c1; simp only [c0, true_and] at this; omega
    rw [if_neg c0]; exact .inl (.inl (by decide))
   rw [if_neg (by rintro ⟨hh, _⟩; exact hh e1)]
   simp only [za1]
   rw [if_pos (.inl (.inl e1)), k2 (fun h => c1 (hs.1 h).1)]
  rw [ea]
  by_cases hd : DOk s.Clock (pre ++ [y])
  have := ih (pre ++ [y]) (mput y.Id 1 m) y.Time y.Id hd (h2.snoc y) hlast
  rw [el] at this
  rw [key _ (fun _ => rfl) (fun h => absurd hd h)]
  exact this
  refine ⟨fun h => absurd h.pre hd, fun _ => key _ (fun h => absurd h hd) (fun _ => rfl)⟩
def W1 (c : Int) (D : List TStamp) (w : TWait) : Prop := zk1 w.Message /\ 1 <= w.Time /\ w.Time <= c /\ (∀ x ∈ D, x.Id ≠ w.Message.Id) /\ ∀ x, D.getLast? = some x -> ltS x (stW w)
def WOk (c : Int) (D : List TStamp) (W : List TWait) : Prop := (∀ w ∈ W, W1 c D w) /\ zqj W
theorem WOk.pre {c : Int} {D : List TStamp} {V W : List TWait} (h : WOk c D (V ++ W)) : WOk c D V := ⟨fun w hw => h.1 w (List.mem_append_left _ hw), (List.pairwise_append.1 h.2).1⟩
theorem ya3k {W : List TWait} (h : zqj W) {p : TWait} (hp : W.getLast? = some p) : ∀ x ∈ W, x = p \/ x.Message.Id < p.Message.Id := by
 obtain ⟨E, rfl⟩ := List.getLast?_eq_some_iff.1 hp
 intro x hx
 rcases List.mem_append.1 hx with hx | hx
 exact .inr ((List.pairwise_append.1 h).2.2 x hx p (by simp))
 simp at hx; exact .inl hx
theorem WOk.snoc {c : Int} {D : List TStamp} {W : List TWait} (h : WOk c D W) (y : TWait) : WOk c D (W ++ [y]) ↔ W1 c D y /\ ∀ p, W.getLast? = some p -> p.Message.Id < y.Message.Id := by
 constructor
 intro k
 exact ⟨k.1 y (by simp), fun p hp => (List.pairwise_append.1 k.2).2.2 p (List.mem_of_getLast? hp) y (by simp)⟩
 rintro ⟨h1, h2⟩
 refine ⟨fun x hx => ?_, ?_⟩
 rcases List.mem_append.1 hx with hx | hx
 exact h.1 x hx
 simp at hx; subst hx; exact h1
 unfold zqj
 rw [List.pairwise_append]
 refine ⟨h.2, by simp, fun x hx z hz => ?_⟩
 simp at hz; subst hz
 cases hl : W.getLast? with
 | none => rw [List.getLast?_eq_none_iff] at hl; subst hl; simp at hx
 | some p =>
  rcases ya3k h.2 hl x hx with rfl | hh
  exact h2 _ hl
  have := h2 _ hl; omega
theorem ck2 (s : TSkeen) (m : List (Int × Int)) (a b : Int) (hm : Mp s.Done m) (hab : ∀ x, s.Done.getLast? = some x -> x = ⟨a, b⟩) : ∀ (l pre : List TWait), s.Waits = pre ++ l -> WOk s.Clock s.Done pre ->
  (WOk s.Clock s.Done (pre ++ l) -> zbp s m a b l pre.length = some (.inr ())) /\ (¬ WOk s.Clock s.Done (pre ++ l) -> zbp s m a b l pre.length = some (.inl 8)) := by
 intro l
 induction l with
 | nil =>
  intro pre _ h1
  rw [zag]
  exact ⟨fun _ => rfl, fun h => absurd h1 h⟩
 | cons y l ih =>
  intro pre hw h1
  have ea : pre ++ y :: l = (pre ++ [y]) ++ l := by simp
  have hs := h1.snoc y
  have el : (pre ++ [y]).length = pre.length + 1 := by simp
  have hprev : ∀ p, pre.getLast? = some p -> s.Waits.getD (pre.length - 1) default = p := by
   intro p hp
   obtain ⟨E, rfl⟩ := List.getLast?_eq_some_iff.1 hp
   rw [hw]; simp [List.getD]
  obtain ⟨⟨e, he⟩, _⟩ := zx1 y.Message
  have hmo : zk1 y.Message ↔ e = 0 := by unfold zk1; rw [he]; simp
  have key : ∀ k : Option (Int ⊕ Unit), (WOk s.Clock s.Done (pre ++ [y]) -> k = zbp s m a b l (pre.length + 1)) -> (¬ WOk s.Clock s.Done (pre ++ [y]) -> k = some (.inl 8)) -> zbp s m a b (y :: l) pre.length = k := by
   intro k k1 k2
   rw [zbp, he]
   simp only [za1, zff, zx3]
   let T1 : Prop := ((((¬ (e = 0) \/ y.Time < 1) \/ y.Time > s.Clock) \/ (((pre.length : Int) > 0) /\ y.Message.Id <= (s.Waits.getD (pre.length - 1) default).Message.Id)) \/ ((mget y.Message.Id m).getD 0 > 0))
   have t1 : ¬ T1 ↔ (zk1 y.Message /\ 1 <= y.Time /\ y.Time <= s.Clock /\ (∀ x ∈ s.Done, x.Id ≠ y.Message.Id)) /\ (∀ p, pre.getLast? = some p -> p.Message.Id < y.Message.Id) := by
    have h3 : ((mget y.Message.Id m).getD 0 > 0) ↔ ¬ ∀ x ∈ s.Done, x.Id ≠ y.Message.Id := by
     rw [hm]; simp
    have h4 : (((pre.length : Int) > 0) /\ y.Message.Id <= (s.Waits.getD (pre.length - 1) default).Message.Id) ↔ ¬ ∀ p, pre.getLast? = some p -> p.Message.Id < y.Message.Id := by
     cases hq : pre.getLast? with
     | none => rw [List.getLast?_eq_none_iff] at hq; subst hq; simp
     | some p =>
      rw [hprev p hq]
      have : pre.length > 0 := by
       rcases Nat.eq_zero_or_pos pre.length with h0 | h0
       rw [List.length_eq_zero_iff.1 h0] at hq; simp at hq
       exact h0
      constructor
      rintro ⟨_, h5⟩ h6; have := h6 p rfl; omega
      intro h5
      refine ⟨by omega, ?_⟩
      apply Decidable.byContradiction
      intro h6
      exact h5 fun q hq' => by cases hq'; omega
    show ¬ ((((¬ (e = 0) \/ y.Time < 1) \/ y.Time > s.Clock) \/ _) \/ _) ↔ _
    rw [h3, h4, hmo]
    constructor
    intro h
    refine ⟨⟨?_, ?_, ?_, ?_⟩, ?_⟩
    apply Decidable.byContradiction; intro q; exact h (.inl (.inl (.inl (.inl q))))
    apply Decidable.byContradiction; intro q; exact h (.inl (.inl (.inl (.inr (by omega)))))
    apply Decidable.byContradiction; intro q; exact h (.inl (.inl (.inr (by omega))))
    apply Classical.byContradiction; intro q; exact h (.inr q)
    apply Classical.byContradiction; intro q; exact h (.inl (.inr q))
    rintro ⟨⟨q1, q2, q3, q4⟩, q5⟩ ((((q | q) | q) | q) | q)
    exact q q1
    omega
    omega
    exact q q5
    exact q q4
   by_cases c1 : T1
   have c1' : ¬ (¬ T1 /\ (s.Done.length : Int) > 0) := fun h => h.1 c1
   show Option.bind (if ¬ T1 /\ (s.Done.length : Int) > 0 then _ else _) _ = k
   rw [if_neg c1']
   simp only [za1]
   show Option.bind (if ¬ T1 /\ (s.Done.length : Int) > 0 then _ else _) _ = k
   rw [if_neg c1']
   simp only [za1]
   rw [if_pos (.inl c1), k2]
   intro h
   have := hs.1 h
   exact t1.2 ⟨⟨this.1.1, this.1.2.1, this.1.2.2.1, this.1.2.2.2.1⟩, this.2⟩ c1
   have q := t1.1 c1
   by_cases c2 : s.Done = []
   have c1' : ¬ (¬ T1 /\ (s.Done.length : Int) > 0) := by rw [c2]; simp
   show Option.bind (if ¬ T1 /\ (s.Done.length : Int) > 0 then _ else _) _ = k
   rw [if_neg c1']
   simp only [za1]
   show Option.bind (if ¬ T1 /\ (s.Done.length : Int) > 0 then _ else _) _ = k
   rw [if_neg c1']
   simp only [za1]
   rw [if_neg, k1 (hs.2 ⟨⟨q.1.1, q.1.2.1, q.1.2.2.1, q.1.2.2.2, by rw [c2]; simp⟩, q.2⟩)]
   rintro (h | h)
   exact c1 h
   rw [c2] at h; simp at h
   obtain ⟨p, hp⟩ : ∃ p, s.Done.getLast? = some p := by
    cases hq : s.Done.getLast? with
    | none => rw [List.getLast?_eq_none_iff] at hq; exact absurd hq c2
    | some p => exact ⟨p, rfl⟩
   have hpos : (s.Done.length : Int) > 0 := by
    have := List.length_pos_iff.2 c2; omega
   have ep := hab p hp
   show Option.bind (if ¬ T1 /\ (s.Done.length : Int) > 0 then _ else _) _ = k
   rw [if_pos ⟨c1, hpos⟩]
   simp only [za1]
   show Option.bind (if ¬ T1 /\ (s.Done.length : Int) > 0 then _ else _) _ = k
   rw [if_pos ⟨c1, hpos⟩]
   simp only [za1, decide_eq_true_eq]
   show (if T1 \/ ((s.Done.length : Int) > 0 /\ ¬ ltS ⟨a, b⟩ (stW y)) then _ else _) = k
   by_cases c3 : ltS ⟨a, b⟩ (stW y)
   rw [if_neg, k1 (hs.2 ⟨⟨q.1.1, q.1.2.1, q.1.2.2.1, q.1.2.2.2, fun x hx => by rw [hab x hx]; exact c3⟩, q.2⟩)]
   rintro (h | h)
   exact c1 h
   exact h.2 c3
   rw [if_pos (.inr ⟨hpos, c3⟩), k2]
   intro h
   exact c3 (by have := (hs.1 h).1.2.2.2.2 p hp; rwa [ep] at this)
  rw [ea]
  by_cases hd : WOk s.Clock s.Done (pre ++ [y])
  have := ih (pre ++ [y]) (by rw [hw, ea]) hd
  rw [el] at this
  rw [key _ (fun _ => rfl) (fun h => absurd hd h)]
  exact this
  exact ⟨fun h => absurd h.pre hd, fun _ => key _ (fun h => absurd h hd) (fun _ => rfl)⟩
structure V (s : TSkeen) : Prop where
 c0 : 0 <= s.Clock
 c1 : s.Clock <= 1073741824
 lw : s.Waits.length <= 200
 ld : s.Done.length <= 200
 d : DOk s.Clock s.Done
 w : WOk s.Clock s.Done s.Waits
 m : ∀ y l, s.Waits = y :: l -> (minW y l).Final = false
theorem zy0 (s : TSkeen) : ∃ e, zft s = some e /\ (e = 0 ↔ V s) := by
 rw [zft]
 by_cases h0 : ((s.Clock < 0 \/ s.Clock > 1073741824) \/ (s.Waits.length : Int) > 200) \/ (s.Done.length : Int) > 200
 rw [if_pos h0]
 refine ⟨8, rfl, (by intro h; cases h), fun h => ?_⟩
 have := h.c0; have := h.c1; have := h.lw; have := h.ld; omega
 rw [if_neg h0]
 have d0 : DOk s.Clock [] := ⟨by simp, by simp, by simp⟩
 have hc := ck1 s s.Done [] [] 0 0 d0 (by intro k; simp [mget]) (by simp)
 rw [zai] at hc
 by_cases hd : DOk s.Clock s.Done
 obtain ⟨m, a, b, h1, h2, h3⟩ := hc.1 hd
 have h1 : zbq s s.Done 0 [] 0 0 = _ := h1
 rw [h1]
 simp only [za1]
 have w0 : WOk s.Clock s.Done [] := ⟨by simp, by simp [zqj]⟩
 have hc2 := ck2 s m a b h2 h3 s.Waits [] rfl w0
 rw [zai] at hc2
 by_cases hw : WOk s.Clock s.Done s.Waits
 have h4 : zbp s m a b s.Waits 0 = _ := hc2.1 hw
 rw [h4]
 simp only [za1]
 cases hl : s.Waits with
 | nil =>
  refine ⟨0, by simp, fun _ => ⟨by omega, by omega, by omega, by omega, hd, hw, by rw [hl]; simp⟩, fun _ => rfl⟩
 | cons y l =>
  rw [if_pos (by simp only [za5]; omega), ya4d y l (by rw [hl] at h0; simp at h0; omega)]
  simp only [za1]
  by_cases hf : (minW y l).Final = true
  rw [if_pos ⟨by simp only [za5]; omega, hf⟩]
  refine ⟨8, rfl, (by intro h; cases h), fun h => ?_⟩
  have := h.m y l hl
  rw [hf] at this; cases this
  rw [if_neg (fun h => hf h.2)]
  refine ⟨0, rfl, fun _ => ⟨by omega, by omega, by omega, by omega, hd, hw, fun y' l' h => ?_⟩, fun _ => rfl⟩
  rw [hl] at h; cases h
  simpa using hf
 have h4 : zbp s m a b s.Waits 0 = _ := hc2.2 hw
 rw [h4]
 simp only [za1]
 exact ⟨8, rfl, (by intro h; cases h), fun h => absurd h.w hw⟩
 have h1 : zbq s s.Done 0 [] 0 0 = _ := hc.2 hd
 rw [h1]
 simp only [za1]
 exact ⟨8, rfl, (by intro h; cases h), fun h => absurd h.d hd⟩
end Go.Proofs
