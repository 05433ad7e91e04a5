/- Texts of the proof. -/
import Derived.Test.YtafdfmkjjhimaaaGreatDoorGroupOnceCardPg
import Derived.Test.YtafdfmkjjhimaaaGreatDoorGroupOnceCardPi
import Derived.Test.YtafdfmkjjhimaaaGreatDoorGroupOnceCardPj
import Derived.Test.YtafdfmkjjhimaaaGreatDoorGroupOnceCardPl
import Derived.Test.YtafdfmkjjhimaaaGreatDoorGroupOnceCardPh
import Derived.Test.YtafdfmkjjhimaaaGreatDoorGroupOnceCardPk
section
namespace Go.Proofs
open Go.Tm Go.RowKit Go.WideShapes
set_option maxRecDepth 100000
set_option maxHeartbeats 4000000
set_option linter.unusedSimpArgs false
set_option linter.unusedVariables false
@[go_sem] def st27 (r : TStream × Int) : St := ⟨[(4, .ptr 1 0), (5, .int .i64 r.2)], [(0, .arr 94 4 true (r.1.Topics.map TTopic.n)), (1, .box [.ref 0 4 0 r.1.Topics.length (some uC), .imm 1 (r.1.Commits.map dL_inti64) 13])], 2⟩
theorem zmj (a0 : TStream) (a1 : TCommand) (r : TStream × Int) (h : zfp a0 a1 = some r) : zbo Tryz.prog 177 [.agg [.imm 4 (a0.Topics.map TTopic.d) 4, .imm 1 (a0.Commits.map dL_inti64) 4], .agg [.int .u8 a1.Kind, .int .i64 a1.Message.Id, .imm 1 (a1.Message.Groups.map (D.int .i64)) 4, .int .i64 a1.Message.Topic, .str a1.Message.Key, .str a1.Message.Body, .int .i64 a1.Id, .int .i64 a1.Time, .imm 1 (a1.Members.map (D.int .i64)) 4, .int .i64 a1.Topic, .int .i64 a1.Who, .int .i64 a1.N]] [] (.tuple [.agg [.ref 0 4 0 r.1.Topics.length (some uC), .imm 1 (r.1.Commits.map dL_inti64) 13], .int .i64 r.2]) [(0, some (.arr 94 4 true (r.1.Topics.map TTopic.n)))] (0, 40) := by
 refine zab Tryz.tmOk Tryz.func177 rfl (by decide) (lb rfl) (by simp) ?_
 intro hwf
 unfold zfp at h
 refine .ends 0 (Nat.le_refl _) ?_
 refine .seq (.pl zS [0, 1] ?_)
 refine .seq (.seq (.rg zS [2, 3, 4] ?_))
 refine .rn 6 ?_
 refine .rn 6 ?_
 refine .rn 6 ?_
 refine .nn ?_
 refine .cd (fun hc1 => ?_) (fun hc1 => ?_)
 replace h := za4 h hc1
 refine .seq (.pl zS [4] ?_)
 obtain rfl := sj h
 refine .ret ⟨st27 ((⟨[], []⟩ : TStream), 2), ?_, .inr rfl, retH [0] ?_ ?_⟩
 refine Goes.new0 4 94 (lb rfl) ?_
 refine Goes.boxs 2 _ [.ref 3 4 0 0 (some uC), .imm 1 [] 13] rfl (.cons (.own0 3 _ _ _ (by decide)) (.cons (.nil12 _ _ 0 (by decide)) (.refl _))) ?_
 exact .m [4, 5] [3, 2] [(3, 0), (2, 1)]
 exact rsi0
 rfl
 replace h := za9 h hc1
 refine .skip (.seq (.seq ?_))
 obtain ⟨k1, h⟩ := zaz h
 have e1 := zbn TTopic.d a0.Topics a1.Topic
 replace e1 := e1 k1
 refine .rg zS [2, 3, 4] ?_
 refine .rdx 6 e1 ?_
 refine .rdx 4 e1 ?_
 refine .nd ?_
 refine .cd (fun hc2 => ?_) (fun hc2 => ?_)
 replace h := za4 h hc2
 refine .seq (.pl zS [4] ?_)
 obtain rfl := sj h
 refine .ret ⟨st27 ((⟨[], []⟩ : TStream), 170), ?_, .inr rfl, retH [0] ?_ ?_⟩
 refine Goes.new0 4 94 (lb rfl) ?_
 refine Goes.boxs 2 _ [.ref 3 4 0 0 (some uC), .imm 1 [] 13] rfl (.cons (.own0 3 _ _ _ (by decide)) (.cons (.nil12 _ _ 0 (by decide)) (.refl _))) ?_
 exact .m [4, 5] [3, 2] [(3, 0), (2, 1)]
 exact rsi0
 rfl
 replace h := za9 h hc2
 refine .skip ?_
 obtain ⟨v1, hv1, h⟩ := bind_some h
 refine .seq (.rg zS [2, 3, 4] ?_)
 refine .rn 1 ?_
 refine .ncall (r := .agg [.ref 19 4 0 v1.Topics.length (some uC), .ref 20 1 0 v1.Commits.length (some uC)]) (eff := [(19, some (.arr 94 4 true (v1.Topics.map TTopic.n))), (20, some (.arr 30 1 true (v1.Commits.map zb9)))]) (nw := (19, 38)) [] rfl rfl rfl rfl rfl (za1 rfl za7) rfl (zcy 19 (lb rfl) (zhe a0 v1 hv1)) (zb8 rfl rfl (ziw zfx _ _ _) (zb8 rfl rfl (ziw zc4 _ _ _) zdl)) (by intro i hi; simp [D.ids, D.idsL] at hi <;> omega) rfl ⟨lb rfl, lb rfl⟩ ?_
 refine .rn 1 ?_
 refine .nn ?_
 obtain ⟨v2, hv2, h⟩ := bind_some h
 refine .seq (.rg zS [2, 3, 4] ?_)
 refine .rn 8 ?_
 refine .lcall (r := .tuple [.imm 1 (v2.1.map dL_inti64) 13, .int .i64 v2.2]) [] rfl rfl rfl rfl rfl (za1 (ze7 (zl7 zc4 (by first | rfl | (simp only [go_sem, Nat.reduceBEq]; rfl)) (by first | rfl | (simp; done) | (simp <;> omega))) trivial) (za1 rfl (za1 rfl (za1 rfl za7)))) rfl (zob v1.Commits a1.Topic a1.Who a1.N v2 hv2) ?_
 refine .rn 5 ?_
 refine .nn ?_
 refine .seq (.pl zS [2, 4] ?_)
 obtain rfl := sj h
 refine .ret ⟨st27 ((⟨v1.Topics, v2.1⟩ : TStream), 0), ?_, .inr rfl, retH [0] ?_ ?_⟩
 exact .m [4, 5] [19, 2] [(19, 0), (2, 1)]
 exact rsi0
 rfl
theorem zr8 (a0 : TStream) (a1 : TCommand) (r : TStream × Int) (h : zix a0 a1 = some r) : zaq Tryz.prog 156 [.agg [.imm 4 (a0.Topics.map TTopic.d) 4, .imm 1 (a0.Commits.map dL_inti64) 4], .agg [.int .u8 a1.Kind, .int .i64 a1.Message.Id, .imm 1 (a1.Message.Groups.map (D.int .i64)) 4, .int .i64 a1.Message.Topic, .str a1.Message.Key, .str a1.Message.Body, .int .i64 a1.Id, .int .i64 a1.Time, .imm 1 (a1.Members.map (D.int .i64)) 4, .int .i64 a1.Topic, .int .i64 a1.Who, .int .i64 a1.N]] (.tuple [.agg [.imm 4 (r.1.Topics.map TTopic.d) 13, .imm 1 (r.1.Commits.map dL_inti64) 13], .int .i64 r.2]) := by
 refine za2 Tryz.tmOk 82 Tryz.func156 rfl (by decide) rfl rfl (lb rfl) ?_
 intro hwf
 unfold zix at h
 refine .seq (.pl zS [0, 1] ?_)
 refine .seq ?_
 obtain ⟨v1, hv1, h⟩ := bind_some h
 refine .seq (.rg zS [2, 3, 4] ?_)
 refine .rn 3 ?_
 refine .cl (zjh a0 a1.Topic v1 hv1) ?_
 refine .rn 1 ?_
 refine .nn ?_
 refine .seq (.pl zS [2, 3, 4, 6] ?_)
 refine .cd (fun hc1 => ?_) (fun hc1 => ?_)
 replace h := za4 h hc1
 refine .seq (.pl zS [4, 6] ?_)
 refine .goes (.boxs 2 _ [.imm 4 [] 13, .imm 1 [] 13] rfl (.cons (.nil12 _ _ 0 (by decide)) (.cons (.nil12 _ _ 0 (by decide)) (.refl _))) .refl) ?_
 obtain rfl := sj h
 exact .rr
 replace h := za9 h hc1
 refine .skip (.seq (.pl zS [2, 3, 4] ?_))
 refine .seq (.seq (.pl zS [2, 3, 4] ?_))
 refine .block (.seq (.pl zS [2, 3, 4, 19] ?_))
 refine .cd (fun hc2 => ?_) (fun hc2 => ?_)
 replace h := za4 h hc2
 obtain ⟨v2, hv2, h⟩ := bind_some h
 refine .seq (.rg zS [2, 3, 4] ?_)
 refine .rn 2 ?_
 refine .ncall (r := .tuple [.agg [.ref 40 4 0 v2.1.Topics.length (some uC), .imm 1 (v2.1.Commits.map dL_inti64) 13], .int .i64 v2.2]) (eff := [(40, some (.arr 94 4 true (v2.1.Topics.map TTopic.n)))]) (nw := (40, 80)) [] rfl rfl rfl rfl rfl (za1 rfl (za1 rfl za7)) rfl (zcy 40 (lb rfl) (zmj a0 a1 v2 hv2)) (zb8 rfl rfl (ziw zfx _ _ _) zdl) (by intro i hi; simp [D.ids, D.idsL] at hi <;> omega) rfl ⟨lb rfl, lb rfl⟩ ?_
 refine .rn 4 ?_
 refine .nn ?_
 refine .goes (.giveb 2 [.ref 40 4 0 v2.1.Topics.length (some uC), .imm 1 (v2.1.Commits.map dL_inti64) 13] [.imm 4 (v2.1.Topics.map TTopic.d) 13, .imm 1 (v2.1.Commits.map dL_inti64) 13] [2] rfl rfl (za5 (ze8 zfx rfl rfl) (za5 rfl zcr)) (by simp only [go_sem, D.ids, D.idsL, List.append_nil, List.nil_append, List.cons_append, List.mem_cons, List.not_mem_nil, or_false, forall_eq_or_imp, forall_eq, Nat.reduceBEq] <;> simp) .refl) ?_
 obtain rfl := sj h
 exact .rr
 replace h := za9 h hc2
 refine .seq (.pl zS [2, 3, 4, 19] ?_)
 refine .cd (fun hc3 => ?_) (fun hc3 => ?_)
 replace h := za4 h hc3
 refine .pl zS [2, 3, 4] ?_
 refine .seq ?_
 obtain ⟨k1, h⟩ := zaz h
 obtain ⟨v3, hv3, h⟩ := bind_some h
 have e1 := zbn TTopic.d a0.Topics a1.Topic
 replace e1 := e1 k1
 refine .rg zS [2, 3, 4, 7] ?_
 refine .rdx 6 e1 ?_
 refine .rdx 3 e1 ?_
 refine .cl (zra (a0.Topics.getD a1.Topic.toNat default) a1.N v3 hv3) ?_
 refine .rdx 6 e1 ?_
 refine .nd ?_
 refine .seq (.seq (.pl zS [2, 3, 4, 8, 9] ?_))
 refine .cd (fun hc4 => ?_) (fun hc4 => ?_)
 replace h := za4 h hc4
 refine .seq (.pl zS [4, 9] ?_)
 refine .goes (.boxs 2 _ [.imm 4 [] 13, .imm 1 [] 13] rfl (.cons (.nil12 _ _ 0 (by decide)) (.cons (.nil12 _ _ 0 (by decide)) (.refl _))) .refl) ?_
 obtain rfl := sj h
 exact .rr
 replace h := za9 h hc4
 refine .skip ?_
 obtain ⟨v4, hv4, h⟩ := bind_some h
 refine .seq (.rg zS [2, 3, 4, 8] ?_)
 refine .rn 4 ?_
 refine .hcall (H := []) (eff := [(4, some (.arr 94 4 true (v4.Topics.map TTopic.n))), (5, some (.arr 30 1 true (v4.Commits.map zb9)))]) (nw := (4, 28)) (r := .agg [.ref 4 4 0 v4.Topics.length (some uC), .ref 5 1 0 v4.Commits.length (some uC)]) rfl rfl rfl rfl rfl (zgx 4 (zhd a0 a1.Topic v3.1 v4 hv4)) (fun id b h => zbi [] _ id b h) (by simp) (.inr ⟨lb rfl, lb rfl⟩) ?_
 refine .rn 2 ?_
 refine .nn ?_
 refine .goes (.giveb 2 [.ref 4 4 0 v4.Topics.length (some uC), .ref 5 1 0 v4.Commits.length (some uC)] [.imm 4 (v4.Topics.map TTopic.d) 13, .imm 1 (v4.Commits.map dL_inti64) 13] [2] rfl rfl (za5 (ze8 zfx rfl rfl) (za5 (ze8 zc4 rfl rfl) zcr)) (by simp only [go_sem, D.ids, D.idsL, List.append_nil, List.nil_append, List.cons_append, List.mem_cons, List.not_mem_nil, or_false, forall_eq_or_imp, forall_eq, Nat.reduceBEq] <;> simp) .refl) ?_
 obtain rfl := sj h
 exact .rr
 replace h := za9 h hc3
 refine .seq (.pl zS [2, 3, 4, 19] ?_)
 refine .cd (fun hc5 => ?_) (fun hc5 => ?_)
 replace h := za4 h hc5
 refine .pl zS [2, 3, 4] ?_
 refine .seq ?_
 obtain ⟨k2, h⟩ := zaz h
 obtain ⟨v5, hv5, h⟩ := bind_some h
 have e2 := zbn TTopic.d a0.Topics a1.Topic
 replace e2 := e2 k2
 refine .rg zS [2, 3, 4, 7] ?_
 refine .rdx 6 e2 ?_
 refine .rdx 3 e2 ?_
 refine .cl (zle (a0.Topics.getD a1.Topic.toNat default) a1.N v5 hv5) ?_
 refine .rdx 6 e2 ?_
 refine .nd ?_
 refine .seq (.seq (.pl zS [2, 3, 4, 8, 9] ?_))
 refine .cd (fun hc6 => ?_) (fun hc6 => ?_)
 replace h := za4 h hc6
 refine .seq (.pl zS [4, 9] ?_)
 refine .goes (.boxs 2 _ [.imm 4 [] 13, .imm 1 [] 13] rfl (.cons (.nil12 _ _ 0 (by decide)) (.cons (.nil12 _ _ 0 (by decide)) (.refl _))) .refl) ?_
 obtain rfl := sj h
 exact .rr
 replace h := za9 h hc6
 refine .skip ?_
 obtain ⟨v6, hv6, h⟩ := bind_some h
 refine .seq (.rg zS [2, 3, 4, 8] ?_)
 refine .rn 4 ?_
 refine .hcall (H := []) (eff := [(4, some (.arr 94 4 true (v6.Topics.map TTopic.n))), (5, some (.arr 30 1 true (v6.Commits.map zb9)))]) (nw := (4, 28)) (r := .agg [.ref 4 4 0 v6.Topics.length (some uC), .ref 5 1 0 v6.Commits.length (some uC)]) rfl rfl rfl rfl rfl (zgx 4 (zhd a0 a1.Topic v5.1 v6 hv6)) (fun id b h => zbi [] _ id b h) (by simp) (.inr ⟨lb rfl, lb rfl⟩) ?_
 refine .rn 2 ?_
 refine .nn ?_
 refine .goes (.giveb 2 [.ref 4 4 0 v6.Topics.length (some uC), .ref 5 1 0 v6.Commits.length (some uC)] [.imm 4 (v6.Topics.map TTopic.d) 13, .imm 1 (v6.Commits.map dL_inti64) 13] [2] rfl rfl (za5 (ze8 zfx rfl rfl) (za5 (ze8 zc4 rfl rfl) zcr)) (by simp only [go_sem, D.ids, D.idsL, List.append_nil, List.nil_append, List.cons_append, List.mem_cons, List.not_mem_nil, or_false, forall_eq_or_imp, forall_eq, Nat.reduceBEq] <;> simp) .refl) ?_
 obtain rfl := sj h
 exact .rr
 replace h := za9 h hc5
 refine .seq (.pl zS [4] ?_)
 refine .goes (.boxs 2 _ [.imm 4 [] 13, .imm 1 [] 13] rfl (.cons (.nil12 _ _ 0 (by decide)) (.cons (.nil12 _ _ 0 (by decide)) (.refl _))) .refl) ?_
 obtain rfl := sj h
 exact .rr
theorem zmh (a0 : Int) (r : Bool) (h : zfs a0 = some r) : zaq Tryz.prog 43 [.int .i64 a0] (.bool r) := by
 refine za2 Tryz.tmOk 2 Tryz.func43 rfl (by decide) rfl rfl (lb rfl) ?_
 intro hwf
 unfold zfs at h
 refine .seq (.pl zS [0] ?_)
 refine .seq (.pl zS [0] ?_)
 obtain rfl := sj h
 exact .rr
theorem zg1 (a0 : THome) (r : Int) (h : zei a0 = some r) : zaq Tryz.prog 16 [.agg [.int .i64 a0.Skeen.Clock, .imm 7 (a0.Skeen.Waits.map TWait.d) 4, .imm 2 (a0.Skeen.Done.map TStamp.d) 4, .imm 4 (a0.Stream.Topics.map TTopic.d) 4, .imm 1 (a0.Stream.Commits.map dL_inti64) 4, .imm 1 (a0.Last.map (D.int .i64)) 4]] (.int .i64 r) := by
 refine za2 Tryz.tmOk 3 Tryz.func16 rfl (by decide) rfl rfl (lb rfl) ?_
 intro hwf
 unfold zei at h
 refine .seq (.pl zS [0] ?_)
 refine .seq (.pl zS [1] ?_)
 refine .seq ?_
 obtain ⟨v1, hv1, h⟩ := bind_some h
 obtain ⟨v2, hv2, h⟩ := bind_some h
 obtain ⟨v3, hv3, h⟩ := bind_some h
 refine .seq (.rg zS [1, 3] ?_)
 refine .rn 2 ?_
 refine .cl (zk5 a0.Skeen v1 hv1) ?_
 refine .rn 4 ?_
 refine .gcall rfl rfl rfl rfl rfl (fun hg => ⟨[], [.agg [.imm 4 (a0.Stream.Topics.map TTopic.d) 4, .imm 1 (a0.Stream.Commits.map dL_inti64) 4]], _, rfl, gd hg, rfl, (zji a0.Stream v2 (za4 hv2 hg))⟩) ?_
 refine .rn 6 ?_
 refine .rn 6 ?_
 refine .glcall (r := .bool v3) [] rfl rfl rfl rfl rfl (fun hg => ⟨[], [.imm 1 (a0.Last.map (D.int .i64)) 4, .fn (.func 43) []], _, rfl, gd hg, (za1 rfl (za1 (zf6 za7) za7)), rfl, (zej a0.Last 43 [] (fun _ => rfl) (fun _ => rfl) (fun _ => rfl) zfs (fun x0 y hy => zmh x0 y hy) v3 (za4 hv3 hg))⟩) ?_
 refine .rn 1 ?_
 refine .nn ?_
 refine .cd (fun hc1 => ?_) (fun hc1 => ?_)
 replace h := za4 h hc1
 refine .seq (.pl zS [] ?_)
 obtain rfl := sj h
 exact .rr
 replace h := za9 h hc1
 refine .skip (.seq (.pl zS [] ?_))
 obtain rfl := sj h
 exact .rr
@[go_sem] def st5 (r : THome) : St := ⟨[(2, .ptr 1 0)], [(0, .arr 3 1 true (r.Last.map (D.int .i64))), (1, .box [.int .i64 r.Skeen.Clock, .imm 7 (r.Skeen.Waits.map TWait.d) 13, .imm 2 (r.Skeen.Done.map TStamp.d) 13, .imm 4 (r.Stream.Topics.map TTopic.d) 13, .imm 1 (r.Stream.Commits.map dL_inti64) 13, .ref 0 1 0 r.Last.length (some uC)])], 2⟩
theorem zoz (a0 : THome) (r : THome) (h : zhp a0 = some r) : zbo Tryz.prog 13 [.agg [.int .i64 a0.Skeen.Clock, .imm 7 (a0.Skeen.Waits.map TWait.d) 4, .imm 2 (a0.Skeen.Done.map TStamp.d) 4, .imm 4 (a0.Stream.Topics.map TTopic.d) 4, .imm 1 (a0.Stream.Commits.map dL_inti64) 4, .imm 1 (a0.Last.map (D.int .i64)) 4]] [] (.agg [.int .i64 r.Skeen.Clock, .imm 7 (r.Skeen.Waits.map TWait.d) 13, .imm 2 (r.Skeen.Done.map TStamp.d) 13, .imm 4 (r.Stream.Topics.map TTopic.d) 13, .imm 1 (r.Stream.Commits.map dL_inti64) 13, .ref 0 1 0 r.Last.length (some uC)]) [(0, some (.arr 3 1 true (r.Last.map (D.int .i64))))] (0, 8) := by
 refine zab Tryz.tmOk Tryz.func13 rfl (by decide) (lb rfl) (by simp) ?_
 intro hwf
 unfold zhp at h
 refine .ends 0 (Nat.le_refl _) ?_
 refine .seq (.pl zS [0] ?_)
 obtain ⟨v1, hv1, h⟩ := bind_some h
 obtain ⟨v2, hv2, h⟩ := bind_some h
 obtain ⟨v3, hv3, h⟩ := bind_some h
 refine .seq (.rg zS [1, 2] ?_)
 refine .rd 2 ?_
 refine .cl (zou a0.Skeen v1 hv1) ?_
 refine .rd 2 ?_
 refine .cl (zo6 a0.Stream v2 hv2) ?_
 refine .rd 2 ?_
 refine .ncall (r := .ref 3 1 0 v3.length (some uC)) (eff := [(3, some (.arr 3 1 true (v3.map (D.int .i64))))]) (nw := (3, 6)) [] rfl rfl rfl rfl rfl (za1 rfl za7) rfl (zcy 3 (lb rfl) (zg5 a0.Last v3 hv3)) (zb8 rfl rfl (zcp zcs _ _ _) zdl) (by intro i hi; simp [D.ids, D.idsL] at hi <;> omega) rfl ⟨lb rfl, lb rfl⟩ ?_
 refine .rd 2 ?_
 refine .nd ?_
 obtain rfl := sj h
 refine .ret ⟨st5 (⟨v1, v2, v3⟩ : THome), ?_, .inr rfl, retH [0] ?_ ?_⟩
 exact .m [2] [3, 1] [(3, 0)]
 exact rsi0
 rfl
theorem zfa (a0 : THome) (a1 : THome) (r : Bool) (h : zdx a0 a1 = some r) : zaq Tryz.prog 18 [.agg [.int .i64 a0.Skeen.Clock, .imm 7 (a0.Skeen.Waits.map TWait.d) 4, .imm 2 (a0.Skeen.Done.map TStamp.d) 4, .imm 4 (a0.Stream.Topics.map TTopic.d) 4, .imm 1 (a0.Stream.Commits.map dL_inti64) 4, .imm 1 (a0.Last.map (D.int .i64)) 4], .agg [.int .i64 a1.Skeen.Clock, .imm 7 (a1.Skeen.Waits.map TWait.d) 4, .imm 2 (a1.Skeen.Done.map TStamp.d) 4, .imm 4 (a1.Stream.Topics.map TTopic.d) 4, .imm 1 (a1.Stream.Commits.map dL_inti64) 4, .imm 1 (a1.Last.map (D.int .i64)) 4]] (.bool r) := by
 refine za2 Tryz.tmOk 4 Tryz.func18 rfl (by decide) rfl rfl (lb rfl) ?_
 intro hwf
 unfold zdx at h
 refine .seq (.pl zS [0, 1] ?_)
 obtain ⟨v1, hv1, h⟩ := bind_some h
 obtain ⟨v2, hv2, h⟩ := bind_some h
 obtain ⟨v3, hv3, h⟩ := bind_some h
 refine .seq (.rg zS [2, 3] ?_)
 refine .rn 4 ?_
 refine .cl (zov a0.Skeen a1.Skeen v1 hv1) ?_
 refine .rn 5 ?_
 refine .gcall rfl rfl rfl rfl rfl (fun hg => ⟨[], [.agg [.imm 4 (a0.Stream.Topics.map TTopic.d) 4, .imm 1 (a0.Stream.Commits.map dL_inti64) 4], .agg [.imm 4 (a1.Stream.Topics.map TTopic.d) 4, .imm 1 (a1.Stream.Commits.map dL_inti64) 4]], _, rfl, gd hg, rfl, (zo7 a0.Stream a1.Stream v2 (za4 hv2 hg))⟩) ?_
 refine .rn 6 ?_
 refine .gcall rfl rfl rfl rfl rfl (fun hg => ⟨[], [.imm 1 (a0.Last.map (D.int .i64)) 4, .imm 1 (a1.Last.map (D.int .i64)) 4], _, rfl, gd hg, rfl, (zd6 a0.Last a1.Last v3 (za4 hv3 hg))⟩) ?_
 refine .rn 2 ?_
 refine .nn ?_
 obtain rfl := sj h
 exact .rr
theorem zcz (a0 : List UInt8) (a1 : Int) (r : (Option (List UInt8 × Int))) (h : zdw a0 a1 = some r) : zaq Tryz.prog 68 [.str a0, .int .i64 a1] (erD r) := by
 refine za2 Tryz.tmOk 2 Tryz.func68 rfl (by decide) (by cases r <;> rfl) (by cases r <;> rfl) (lb rfl) ?_
 intro hwf
 unfold zdw at h
 refine .seq (.pl zS [0, 1] ?_)
 refine .seq (.seq (.pl zS [0, 1] ?_))
 refine .cd (fun hc1 => ?_) (fun hc1 => ?_)
 replace h := za4 h hc1
 refine .seq (.pl zS [] ?_)
 obtain rfl := sj h
 exact .rr
 replace h := za9 h hc1
 refine .skip (.seq (.pl zS [0, 1] ?_))
 obtain rfl := sj h
 exact .rr
theorem zk6 (a0 : Int) (r : (Option (List UInt8 × Int))) (h : zi6 a0 = some r) : zaq Tryz.prog 54 [.int .i64 a0] (erD r) := by
 refine za2 Tryz.tmOk 2 Tryz.func54 rfl (by decide) (by cases r <;> rfl) (by cases r <;> rfl) (lb rfl) ?_
 intro hwf
 unfold zi6 at h
 refine .seq (.pl zS [0] ?_)
 refine .seq (.seq (.pl zS [0] ?_))
 refine .cd (fun hc1 => ?_) (fun hc1 => ?_)
 replace h := za4 h hc1
 obtain ⟨v1, hv1, h⟩ := bind_some h
 rcases ziv v1 with hEer1 | ⟨er1, hEer1⟩
 rw [hEer1] at h
 dsimp only at h
 refine .seq (.rg zS [] ?_)
 refine .call rfl rfl rfl rfl rfl rfl (zhh (r' := .nilIface) (by rw [hEer1]; rfl) (zcz [103, 114, 111, 117, 112] 2 v1 hv1)) ?_
 refine .rn 1 ?_
 refine .nn ?_
 obtain rfl := sj h
 exact .rr
 rw [hEer1] at h
 dsimp only at h
 refine .seq (.rg zS [] ?_)
 refine .call rfl rfl rfl rfl rfl rfl (zhh (r' := .iface 179 (.agg [.str er1.1, .iface 106 (.agg [.int .i64 er1.2])])) (by rw [hEer1]; rfl) (zcz [103, 114, 111, 117, 112] 2 v1 hv1)) ?_
 refine .rn 1 ?_
 refine .nn ?_
 obtain rfl := sj h
 exact .rr
 replace h := za9 h hc1
 refine .skip (.seq (.pl zS [] ?_))
 obtain rfl := sj h
 exact .rr
@[go_sem] def st9 (r : Tgroup_home) : St := ⟨[(0, .ptr 20000 0)], [(20000, .box [.int .i64 r.Home.Skeen.Clock, .imm 7 (r.Home.Skeen.Waits.map TWait.d) 13, .imm 2 (r.Home.Skeen.Done.map TStamp.d) 13, .imm 4 (r.Home.Stream.Topics.map TTopic.d) 13, .imm 1 (r.Home.Stream.Commits.map dL_inti64) 13, .ref 20100 1 0 r.Home.Last.length (some uC)]), (20100, .arr 3 1 true (r.Home.Last.map (D.int .i64)))], 20101⟩
theorem zk8 (a0 : Tgroup_home) (a1 : TCommand) (r : Tgroup_home) (h : zc9 a0 a1 = some r) : zbo Tryz.prog 112 [.ptr 20000 0, .agg [.int .u8 a1.Kind, .int .i64 a1.Message.Id, .imm 1 (a1.Message.Groups.map (D.int .i64)) 4, .int .i64 a1.Message.Topic, .str a1.Message.Key, .str a1.Message.Body, .int .i64 a1.Id, .int .i64 a1.Time, .imm 1 (a1.Members.map (D.int .i64)) 4, .int .i64 a1.Topic, .int .i64 a1.Who, .int .i64 a1.N]] [(20000, .box [.int .i64 a0.Home.Skeen.Clock, .imm 7 (a0.Home.Skeen.Waits.map TWait.d) 13, .imm 2 (a0.Home.Skeen.Done.map TStamp.d) 13, .imm 4 (a0.Home.Stream.Topics.map TTopic.d) 13, .imm 1 (a0.Home.Stream.Commits.map dL_inti64) 13, .ref 20001 1 0 a0.Home.Last.length (some uC)]), (20001, .arr 3 1 true (a0.Home.Last.map (D.int .i64)))] (.tuple []) [(20000, some (.box [.int .i64 r.Home.Skeen.Clock, .imm 7 (r.Home.Skeen.Waits.map TWait.d) 13, .imm 2 (r.Home.Skeen.Done.map TStamp.d) 13, .imm 4 (r.Home.Stream.Topics.map TTopic.d) 13, .imm 1 (r.Home.Stream.Commits.map dL_inti64) 13, .ref 20100 1 0 r.Home.Last.length (some uC)])), (20001, none), (20100, some (.arr 3 1 true (r.Home.Last.map (D.int .i64))))] (20100, 20104) := by
 refine zab Tryz.tmOk Tryz.func112 rfl (by decide) (lb rfl) (by simp) ?_
 intro hwf
 unfold zc9 at h
 refine .ends 20100 (Nat.le_refl _) ?_
 refine .seq (.pl zS [0, 1] ?_)
 obtain ⟨v1, hv1, h⟩ := bind_some h
 refine .seq (.rg zS [0, 3] ?_)
 refine .rn 2 ?_
 refine .cl (zrt a1.Id v1 hv1) ?_
 refine .rn 7 ?_
 refine .nn ?_
 refine .seq (.seq ?_)
 obtain ⟨k1, h⟩ := zaz h
 have e1 := zbn (D.int .i64) a0.Home.Last v1.1
 replace e1 := e1 k1
 refine .rg zS [0, 3, 4, 5] ?_
 refine .rnx 6 e1 ?_
 refine .rnx 4 e1 ?_
 refine .nn ?_
 refine .cd (fun hc1 => ?_) (fun hc1 => ?_)
 replace h := za4 h hc1
 obtain rfl := sj h
 refine .ret ⟨st9 a0, ?_, .inr rfl, retH [20000, 20100] ?_ ?_⟩
 exact .m [0] [20000, 20001] [(20001, 20100)]
 exact rsi0
 rfl
 replace h := za9 h hc1
 refine .skip (.seq ?_)
 obtain ⟨k2, h⟩ := zaz h
 have e2 := zbn (D.int .i64) a0.Home.Last v1.1
 have es1 := zhg (D.int .i64) a0.Home.Last v1.1.toNat (wr .i64 (v1.2.1 + 1))
 replace e2 := e2 k2
 replace es1 : setN (a0.Home.Last.map (D.int .i64)) v1.1.toNat (.int .i64 (wr .i64 (v1.2.1 + 1))) = (a0.Home.Last.set v1.1.toNat (wr .i64 (v1.2.1 + 1))).map (D.int .i64) := es1
 refine .rg zS [0, 3, 4, 5] ?_
 refine .rnx 6 (ai e2 es1) ?_
 refine .rnx 4 (ai e2 es1) ?_
 refine .nn ?_
 obtain ⟨v2, hv2, h⟩ := bind_some h
 refine .seq (.rg zS [0, 3] ?_)
 refine .rd 6 ?_
 refine .call rfl rfl rfl rfl rfl rfl (zgg (WkL.cons (Wk.agg (WkL.cons Wk.iz (WkL.cons Wk.iz (WkL.refl _)))) (WkL.cons (Wk.refl _) (WkL.refl _))) (zr8 a0.Home.Stream a1 v2 hv2)) ?_
 refine .rd 6 ?_
 refine .nd ?_
 refine .seq (.pl zS [0, 7, 8] ?_)
 refine .cd (fun hc2 => ?_) (fun hc2 => ?_)
 replace h := za4 h hc2
 refine .pl zS [0, 7] ?_
 obtain rfl := sj h
 refine ⟨st9 (⟨(⟨a0.Home.Skeen, v2.1, (a0.Home.Last.set v1.1.toNat (wr .i64 (v1.2.1 + 1)))⟩ : THome)⟩ : Tgroup_home), ?_, .inl rfl, retH [20000, 20100] ?_ ?_⟩
 exact .m [0] [20000, 20001] [(20001, 20100)]
 exact rsi0
 rfl
 replace h := za9 h hc2
 refine .skip ?_
 obtain rfl := sj h
 refine ⟨st9 (⟨(⟨a0.Home.Skeen, a0.Home.Stream, (a0.Home.Last.set v1.1.toNat (wr .i64 (v1.2.1 + 1)))⟩ : THome)⟩ : Tgroup_home), ?_, .inl rfl, retH [20000, 20100] ?_ ?_⟩
 exact .m [0] [20000, 20001] [(20001, 20100)]
 exact rsi0
 rfl
@[go_sem] def st46 (a0 : Tgroup_home) (l1 : List TTopic) (l2 : List (List Int)) (l3 : List TTook) : St := ⟨[(0, .ptr 20000 0), (5, .ref 20100 3 0 l3.length (some uC))], [(20000, .box [.int .i64 a0.Home.Skeen.Clock, .imm 7 (a0.Home.Skeen.Waits.map TWait.d) 13, .imm 2 (a0.Home.Skeen.Done.map TStamp.d) 13, .imm 4 (l1.map TTopic.d) 13, .imm 1 (l2.map dL_inti64) 13, .ref 20001 1 0 a0.Home.Last.length (some uC)]), (20001, .arr 3 1 true (a0.Home.Last.map (D.int .i64))), (20100, .arr 68 3 true (l3.map TTook.d))], 20101⟩
@[go_sem] def st47 (a0 : Tgroup_home) (a1 : List TMessage) (n1 : Nat) (l4 : List TTopic) (l5 : List (List Int)) (l6 : List TTook) : St := ⟨[(0, .ptr 20000 0), (5, .ref 20100 3 0 l6.length (some uC)), (11, .imm 5 (a1.map TMessage.d) 4), (12, .int .i64 (a1.length : Int)), (13, .int .i64 (n1 : Int))], [(20000, .box [.int .i64 a0.Home.Skeen.Clock, .imm 7 (a0.Home.Skeen.Waits.map TWait.d) 13, .imm 2 (a0.Home.Skeen.Done.map TStamp.d) 13, .imm 4 (l4.map TTopic.d) 13, .imm 1 (l5.map dL_inti64) 13, .ref 20001 1 0 a0.Home.Last.length (some uC)]), (20001, .arr 3 1 true (a0.Home.Last.map (D.int .i64))), (20100, .arr 68 3 true (l6.map TTook.d))], 20101⟩
@[go_sem] def st48 (a0 : Tgroup_home) (a1 : List TMessage) (n1 : Nat) (l7 : List TTopic) (l8 : List (List Int)) (l9 : List TTook) : St := ⟨[(0, .ptr 20000 0), (5, .ref 20101 3 0 l9.length (some uC)), (11, .imm 5 (a1.map TMessage.d) 4), (12, .int .i64 (a1.length : Int)), (13, .int .i64 (n1 : Int))], [(20000, .box [.int .i64 a0.Home.Skeen.Clock, .imm 7 (a0.Home.Skeen.Waits.map TWait.d) 13, .imm 2 (a0.Home.Skeen.Done.map TStamp.d) 13, .imm 4 (l7.map TTopic.d) 13, .imm 1 (l8.map dL_inti64) 13, .ref 20001 1 0 a0.Home.Last.length (some uC)]), (20001, .arr 3 1 true (a0.Home.Last.map (D.int .i64))), (20101, .arr 68 3 true (l9.map TTook.d))], 20102⟩
@[go_sem] def st7 (r : (List TTook) × Tgroup_home) : St := ⟨[(0, .ptr 20000 0), (4, .ref 20100 3 0 r.1.length (some uC))], [(20000, .box [.int .i64 r.2.Home.Skeen.Clock, .imm 7 (r.2.Home.Skeen.Waits.map TWait.d) 13, .imm 2 (r.2.Home.Skeen.Done.map TStamp.d) 13, .imm 4 (r.2.Home.Stream.Topics.map TTopic.d) 13, .imm 1 (r.2.Home.Stream.Commits.map dL_inti64) 13, .ref 20101 1 0 r.2.Home.Last.length (some uC)]), (20100, .arr 68 3 true (r.1.map TTook.d)), (20101, .arr 3 1 true (r.2.Home.Last.map (D.int .i64)))], 20102⟩
theorem zk9 (a0 : Tgroup_home) (a1 : List TMessage) (r : (List TTook) × Tgroup_home) (h : zdr a0 a1 = some r) : zbo Tryz.prog 114 [.ptr 20000 0, .imm 5 (a1.map TMessage.d) 4] [(20000, .box [.int .i64 a0.Home.Skeen.Clock, .imm 7 (a0.Home.Skeen.Waits.map TWait.d) 13, .imm 2 (a0.Home.Skeen.Done.map TStamp.d) 13, .imm 4 (a0.Home.Stream.Topics.map TTopic.d) 13, .imm 1 (a0.Home.Stream.Commits.map dL_inti64) 13, .ref 20001 1 0 a0.Home.Last.length (some uC)]), (20001, .arr 3 1 true (a0.Home.Last.map (D.int .i64)))] (.ref 20100 3 0 r.1.length (some uC)) [(20000, some (.box [.int .i64 r.2.Home.Skeen.Clock, .imm 7 (r.2.Home.Skeen.Waits.map TWait.d) 13, .imm 2 (r.2.Home.Skeen.Done.map TStamp.d) 13, .imm 4 (r.2.Home.Stream.Topics.map TTopic.d) 13, .imm 1 (r.2.Home.Stream.Commits.map dL_inti64) 13, .ref 20101 1 0 r.2.Home.Last.length (some uC)])), (20001, none), (20100, some (.arr 68 3 true (r.1.map TTook.d))), (20101, some (.arr 3 1 true (r.2.Home.Last.map (D.int .i64))))] (20100, 20107) := by
 refine zab Tryz.tmOk Tryz.func114 rfl (by decide) (lb rfl) (by simp) ?_
 intro hwf
 unfold zdr at h
 refine .ends 20100 (Nat.le_refl _) ?_
 refine .seq (.pl zS [0, 1] ?_)
 refine .seq (.pl zS [0, 1] ?_)
 obtain ⟨x1, hx1, h⟩ := bind_some h
 refine .seqM 20100 (fun (j : (List TTopic) × (List (List Int)) × (List TTook)) => st46 a0 j.1 j.2.1 j.2.2) (fun j => x1 = j) (lb rfl) ?_ ?_
 refine .seq (.pl zS [0, 1, 5] ?_)
 refine .block ?_
 refine .loopG 20100 (fun (j : Nat × (List TTopic) × (List (List Int)) × (List TTook)) => st47 a0 a1 j.1 j.2.1 j.2.2.1 j.2.2.2) (fun j => j.1 <= a1.length /\ zbc (a1.drop j.1) j.2.1 j.2.2.1 j.2.2.2 = some x1) (fun j => a1.length - j.1) (0, a0.Home.Stream.Topics, a0.Home.Stream.Commits, []) (lb rfl) ?_ ⟨Nat.zero_le _, hx1⟩ ?_
 refine Goes.new0 3 68 (lb rfl) ?_
 refine Goes.wk 5 _ (.ref 20100 3 0 0 (some uC)) rfl (.own0 20100 _ _ _ (by decide)) ?_
 exact .m [0, 5, 11, 12, 13] [20000, 20001, 20100] []
 rintro ⟨n1, l4, l5, l6⟩ ⟨hi1, hx1⟩
 simp only [st47]
 simp only at hi1 hx1
 refine .wf 12 (.int .i64 (a1.length : Int)) rfl ?_
 intro hln1
 replace hln1 : (a1.length : Int) <= 9223372036854775807 := by simp only [wf, wfL, IntKind.max, IntKind.min, IntKind.signed, IntKind.bits, List.length_map] at hln1; first | exact hln1.2 | exact hln1.1 | (simp at hln1; omega)
 refine .seq (.pl zS [0, 5, 11, 12, 13] ?_)
 refine .seq (.cd (fun hc1 => ?_) (fun hc1 => ?_))
 have h1 : n1 < a1.length := by simpa using hc1
 have hwn1 : wr .i64 ((n1 : Int) + 1) = ((n1 + 1 : Nat) : Int) := zdg h1 hln1
 have hpn1 : wr .i64 ((n1 : Int) - 1) = (n1 : Int) - 1 := zdh h1 hln1
 rw [List.drop_eq_getElem_cons h1, zfl] at hx1
 refine .skip ?_
 obtain ⟨x2, hx2, hx1⟩ := bind_some hx1
 refine .seqM 20101 (fun (j : (List TTopic) × (List (List Int)) × (List TTook)) => st48 a0 a1 n1 j.1 j.2.1 j.2.2) (fun j => x2 = j) (lb rfl) ?_ ?_
 refine .block (.seq ?_)
 have e1 := zd0 TMessage.d a1 n1 h1
 refine .plx zS (ai e1 hwn1) [0, 5, 11, 12, 13] ?_
 refine .seq ?_
 obtain ⟨v1, hv1, hx2⟩ := bind_some hx2
 refine .rg zS [0, 5, 7, 11, 12, 13] ?_
 refine .rdx 6 hwn1 ?_
 refine .call rfl rfl rfl rfl rfl rfl (zgg (WkL.cons (Wk.agg (WkL.cons Wk.iz (WkL.cons Wk.iz (WkL.refl _)))) (WkL.cons (Wk.refl _) (WkL.refl _))) (zos (⟨l4, l5⟩ : TStream) (a1[n1]) v1 hv1)) ?_
 refine .rdx 8 hwn1 ?_
 refine .nd ?_
 refine .seq (.seq (.plx zS hwn1 [0, 5, 7, 8, 9, 10, 11, 12, 13] ?_))
 refine .cd (fun hc2 => ?_) (fun hc2 => ?_)
 replace hx2 := za4 hx2 hc2
 refine .exit ?_
 refine ⟨_, ?_, (sj hx2).symm⟩
 exact .m [0, 5, 11, 12, 13] [20000, 20001, 20100] [(20100, 20101)]
 replace hx2 := za9 hx2 hc2
 refine .skip (.seq (.plx zS hwn1 [0, 5, 7, 8, 9, 11, 12, 13] ?_))
 obtain ⟨k1, hx2⟩ := zaz hx2
 refine .rg zS [0, 5, 7, 9, 11, 12, 13] ?_
 refine .rnx 6 hwn1 ?_
 refine .rnx 4 hwn1 ?_
 refine .nn ?_
 refine ⟨_, ?_, (sj hx2).symm⟩
 exact .m [0, 5, 11, 12, 13] [20000, 20001, 20104] [(20104, 20101)]
 rintro ⟨l7, l8, l9⟩ hj1
 subst x2
 try dsimp only at hx1
 simp only [st48]
 refine .plx zS hwn1 [0, 5, 11, 12, 13] ?_
 refine ⟨(n1 + 1, _, _, _), ?_, ⟨by omega, hx1⟩, by dsimp only; omega⟩
 exact .m [0, 5, 11, 12, 13] [20000, 20001, 20101] [(20101, 20100)]
 have h2 : n1 = a1.length := by have h2b := of_decide_eq_false hc1; omega
 rw [List.drop_of_length_le (by omega), zi5] at hx1
 refine .exit ?_
 refine ⟨_, ?_, (sj hx1).symm⟩
 exact .m [0, 5] [20000, 20001, 20100] []
 rintro ⟨l1, l2, l3⟩ hj2
 subst x1
 try dsimp only at h
 simp only [st46]
 refine .seq (.pl zS [0, 5] ?_)
 obtain rfl := sj h
 refine .ret ⟨st7 (l3, (⟨(⟨a0.Home.Skeen, (⟨l1, l2⟩ : TStream), a0.Home.Last⟩ : THome)⟩ : Tgroup_home)), ?_, .inr rfl, retH [20000, 20101, 20100] ?_ ?_⟩
 exact .m [0, 4] [20000, 20100, 20001] [(20001, 20101)]
 exact rsi0
 rfl
@[go_sem] def st8 (r : (List TTook) × (Option (List UInt8 × Int)) × Tgroup_home) : St := ⟨[(0, .ptr 20000 0), (6, .ref 20100 3 0 r.1.length (some uC)), (7, erD r.2.1)], [(20000, .box [.int .i64 r.2.2.Home.Skeen.Clock, .imm 7 (r.2.2.Home.Skeen.Waits.map TWait.d) 13, .imm 2 (r.2.2.Home.Skeen.Done.map TStamp.d) 13, .imm 4 (r.2.2.Home.Stream.Topics.map TTopic.d) 13, .imm 1 (r.2.2.Home.Stream.Commits.map dL_inti64) 13, .ref 20101 1 0 r.2.2.Home.Last.length (some uC)]), (20100, .arr 68 3 true (r.1.map TTook.d)), (20101, .arr 3 1 true (r.2.2.Home.Last.map (D.int .i64)))], 20102⟩
theorem zj3 (a0 : Tgroup_home) (a1 : Int) (a2 : TCommand) (r : (List TTook) × (Option (List UInt8 × Int)) × Tgroup_home) (h : zfr a0 a1 a2 = some r) : zbo Tryz.prog 55 [.ptr 20000 0, .int .i64 a1, .agg [.int .u8 a2.Kind, .int .i64 a2.Message.Id, .imm 1 (a2.Message.Groups.map (D.int .i64)) 4, .int .i64 a2.Message.Topic, .str a2.Message.Key, .str a2.Message.Body, .int .i64 a2.Id, .int .i64 a2.Time, .imm 1 (a2.Members.map (D.int .i64)) 4, .int .i64 a2.Topic, .int .i64 a2.Who, .int .i64 a2.N]] [(20000, .box [.int .i64 a0.Home.Skeen.Clock, .imm 7 (a0.Home.Skeen.Waits.map TWait.d) 13, .imm 2 (a0.Home.Skeen.Done.map TStamp.d) 13, .imm 4 (a0.Home.Stream.Topics.map TTopic.d) 13, .imm 1 (a0.Home.Stream.Commits.map dL_inti64) 13, .ref 20001 1 0 a0.Home.Last.length (some uC)]), (20001, .arr 3 1 true (a0.Home.Last.map (D.int .i64)))] (.tuple [.ref 20100 3 0 r.1.length (some uC), erD r.2.1]) [(20000, some (.box [.int .i64 r.2.2.Home.Skeen.Clock, .imm 7 (r.2.2.Home.Skeen.Waits.map TWait.d) 13, .imm 2 (r.2.2.Home.Skeen.Done.map TStamp.d) 13, .imm 4 (r.2.2.Home.Stream.Topics.map TTopic.d) 13, .imm 1 (r.2.2.Home.Stream.Commits.map dL_inti64) 13, .ref 20101 1 0 r.2.2.Home.Last.length (some uC)])), (20001, none), (20100, some (.arr 68 3 true (r.1.map TTook.d))), (20101, some (.arr 3 1 true (r.2.2.Home.Last.map (D.int .i64))))] (20100, 20116) := by
 refine zab Tryz.tmOk Tryz.func55 rfl (by decide) (lb rfl) (by simp) ?_
 intro hwf
 unfold zfr at h
 refine .ends 20100 (Nat.le_refl _) ?_
 refine .seq (.pl zS [0, 1, 2] ?_)
 refine .seq (.seq (.pl zS [0, 1, 5] ?_))
 refine .cd (fun hc1 => ?_) (fun hc1 => ?_)
 replace h := za4 h hc1
 obtain ⟨v1, hv1, h⟩ := bind_some h
 refine .seq (.rg zS [0, 5] ?_)
 refine .rn 2 ?_
 refine .hcall (H := [(20000, .box [.int .i64 a0.Home.Skeen.Clock, .imm 7 (a0.Home.Skeen.Waits.map TWait.d) 13, .imm 2 (a0.Home.Skeen.Done.map TStamp.d) 13, .imm 4 (a0.Home.Stream.Topics.map TTopic.d) 13, .imm 1 (a0.Home.Stream.Commits.map dL_inti64) 13, .ref 20001 1 0 a0.Home.Last.length (some uC)]), (20001, .arr 3 1 true (a0.Home.Last.map (D.int .i64)))]) (eff := [(20000, some (.box [.int .i64 v1.Home.Skeen.Clock, .imm 7 (v1.Home.Skeen.Waits.map TWait.d) 13, .imm 2 (v1.Home.Skeen.Done.map TStamp.d) 13, .imm 4 (v1.Home.Stream.Topics.map TTopic.d) 13, .imm 1 (v1.Home.Stream.Commits.map dL_inti64) 13, .ref 20104 1 0 v1.Home.Last.length (some uC)])), (20001, none), (20104, some (.arr 3 1 true (v1.Home.Last.map (D.int .i64))))]) (nw := (20104, 20108)) (r := .tuple []) rfl rfl rfl rfl rfl (zdv 20001 20001 (zdv 20000 20000 (zof 20104 (zk8 a0 a2 v1 hv1)))) (fun id b h => zbi [20000, 20001] _ id b h) (by simp) (.inr ⟨lb rfl, lb rfl⟩) ?_
 refine .nn ?_
 refine .seq (.pl zS [0] ?_)
 obtain rfl := sj h
 refine .ret ⟨st8 ([], none, v1), ?_, .inr rfl, retH [20000, 20101, 20100] ?_ ?_⟩
 refine Goes.new0 3 68 (lb rfl) ?_
 refine Goes.wk 6 _ (.ref 20108 3 0 0 (some uC)) rfl (.own0 20108 _ _ _ (by decide)) ?_
 exact .m [0, 6, 7] [20000, 20108, 20104] [(20108, 20100), (20104, 20101)]
 exact rsi0
 rfl
 replace h := za9 h hc1
 refine .skip ?_
 obtain ⟨v2, hv2, h⟩ := bind_some h
 refine .seq (.rg zS [0, 1, 5] ?_)
 refine .rd 7 ?_
 refine .call rfl rfl rfl rfl rfl rfl (zgg (WkL.cons (Wk.agg (WkL.cons (Wk.refl _) (WkL.cons Wk.iz (WkL.cons Wk.iz (WkL.refl _))))) (WkL.cons (Wk.refl _) (WkL.cons (Wk.refl _) (WkL.refl _)))) (zo9 a0.Home.Skeen a1 a2 v2 hv2)) ?_
 refine .rd 8 ?_
 refine .nd ?_
 refine .seq (.seq (.pl zS [0, 8, 9, 10] ?_))
 refine .cd (fun hc2 => ?_) (fun hc2 => ?_)
 replace h := za4 h hc2
 obtain ⟨v3, hv3, h⟩ := bind_some h
 rcases ziv v3 with hEer1 | ⟨er1, hEer1⟩
 rw [hEer1] at h
 dsimp only at h
 refine .seq (.rg zS [0, 10] ?_)
 refine .rn 1 ?_
 refine .call rfl rfl rfl rfl rfl rfl (zhh (r' := .nilIface) (by rw [hEer1]; rfl) (zcz [97, 112, 112, 108, 121] v2.2.2 v3 hv3)) ?_
 refine .rn 2 ?_
 refine .nn ?_
 obtain rfl := sj h
 refine .ret ⟨st8 ([], none, a0), ?_, .inr rfl, retH [20000, 20101, 20100] ?_ ?_⟩
 refine Goes.new0 3 68 (lb rfl) ?_
 refine Goes.wk 6 _ (.ref 20102 3 0 0 (some uC)) rfl (.own0 20102 _ _ _ (by decide)) ?_
 exact .m [0, 6, 7] [20000, 20102, 20001] [(20102, 20100), (20001, 20101)]
 exact rsi0
 rfl
 rw [hEer1] at h
 dsimp only at h
 refine .seq (.rg zS [0, 10] ?_)
 refine .rn 1 ?_
 refine .call rfl rfl rfl rfl rfl rfl (zhh (r' := .iface 179 (.agg [.str er1.1, .iface 106 (.agg [.int .i64 er1.2])])) (by rw [hEer1]; rfl) (zcz [97, 112, 112, 108, 121] v2.2.2 v3 hv3)) ?_
 refine .rn 2 ?_
 refine .nn ?_
 obtain rfl := sj h
 refine .ret ⟨st8 ([], (some er1), a0), ?_, .inr rfl, retH [20000, 20101, 20100] ?_ ?_⟩
 refine Goes.new0 3 68 (lb rfl) ?_
 refine Goes.wk 6 _ (.ref 20102 3 0 0 (some uC)) rfl (.own0 20102 _ _ _ (by decide)) ?_
 exact .m [0, 6, 7] [20000, 20102, 20001] [(20102, 20100), (20001, 20101)]
 exact rsi0
 rfl
 replace h := za9 h hc2
 refine .skip (.seq (.pl zS [0, 8, 9] ?_))
 obtain ⟨v4, hv4, h⟩ := bind_some h
 refine .seq (.rg zS [0, 9] ?_)
 refine .rn 2 ?_
 refine .hcall (H := [(20000, .box [.int .i64 v2.1.Clock, .imm 7 (v2.1.Waits.map TWait.d) 13, .imm 2 (v2.1.Done.map TStamp.d) 13, .imm 4 (a0.Home.Stream.Topics.map TTopic.d) 13, .imm 1 (a0.Home.Stream.Commits.map dL_inti64) 13, .ref 20001 1 0 a0.Home.Last.length (some uC)]), (20001, .arr 3 1 true (a0.Home.Last.map (D.int .i64)))]) (eff := [(20000, some (.box [.int .i64 v4.2.Home.Skeen.Clock, .imm 7 (v4.2.Home.Skeen.Waits.map TWait.d) 13, .imm 2 (v4.2.Home.Skeen.Done.map TStamp.d) 13, .imm 4 (v4.2.Home.Stream.Topics.map TTopic.d) 13, .imm 1 (v4.2.Home.Stream.Commits.map dL_inti64) 13, .ref 20108 1 0 v4.2.Home.Last.length (some uC)])), (20001, none), (20107, some (.arr 68 3 true (v4.1.map TTook.d))), (20108, some (.arr 3 1 true (v4.2.Home.Last.map (D.int .i64))))]) (nw := (20107, 20114)) (r := .ref 20107 3 0 v4.1.length (some uC)) rfl rfl rfl rfl rfl (zdv 20001 20001 (zdv 20000 20000 (zof 20107 (zum (.keep (.cons (.new4 _ _ rfl) (.refl _))) (zk9 (⟨(⟨v2.1, a0.Home.Stream, a0.Home.Last⟩ : THome)⟩ : Tgroup_home) v2.2.1 v4 hv4))))) (fun id b h => zbi [20000, 20001] _ id b h) (by simp) (.inr ⟨lb rfl, lb rfl⟩) ?_
 refine .rn 2 ?_
 refine .nn ?_
 obtain rfl := sj h
 refine .ret ⟨st8 (v4.1, none, v4.2), ?_, .inr rfl, retH [20000, 20101, 20100] ?_ ?_⟩
 exact .m [0, 6, 7] [20000, 20107, 20108] [(20107, 20100), (20108, 20101)]
 exact rsi0
 rfl
@[go_sem] def st6 (r : THome × (List TTook) × (Option (List UInt8 × Int))) : St := ⟨[(6, .ptr 2 0), (7, .ref 1 3 0 r.2.1.length (some uC)), (8, erD r.2.2)], [(0, .arr 3 1 true (r.1.Last.map (D.int .i64))), (1, .arr 68 3 true (r.2.1.map TTook.d)), (2, .box [.int .i64 r.1.Skeen.Clock, .imm 7 (r.1.Skeen.Waits.map TWait.d) 13, .imm 2 (r.1.Skeen.Done.map TStamp.d) 13, .imm 4 (r.1.Stream.Topics.map TTopic.d) 13, .imm 1 (r.1.Stream.Commits.map dL_inti64) 13, .ref 0 1 0 r.1.Last.length (some uC)])], 3⟩
theorem zka (a0 : THome) (a1 : Int) (a2 : TCommand) (r : THome × (List TTook) × (Option (List UInt8 × Int))) (h : zi7 a0 a1 a2 = some r) : zbo Tryz.prog 33 [.agg [.int .i64 a0.Skeen.Clock, .imm 7 (a0.Skeen.Waits.map TWait.d) 4, .imm 2 (a0.Skeen.Done.map TStamp.d) 4, .imm 4 (a0.Stream.Topics.map TTopic.d) 4, .imm 1 (a0.Stream.Commits.map dL_inti64) 4, .imm 1 (a0.Last.map (D.int .i64)) 4], .int .i64 a1, .agg [.int .u8 a2.Kind, .int .i64 a2.Message.Id, .imm 1 (a2.Message.Groups.map (D.int .i64)) 4, .int .i64 a2.Message.Topic, .str a2.Message.Key, .str a2.Message.Body, .int .i64 a2.Id, .int .i64 a2.Time, .imm 1 (a2.Members.map (D.int .i64)) 4, .int .i64 a2.Topic, .int .i64 a2.Who, .int .i64 a2.N]] [] (.tuple [.agg [.int .i64 r.1.Skeen.Clock, .imm 7 (r.1.Skeen.Waits.map TWait.d) 13, .imm 2 (r.1.Skeen.Done.map TStamp.d) 13, .imm 4 (r.1.Stream.Topics.map TTopic.d) 13, .imm 1 (r.1.Stream.Commits.map dL_inti64) 13, .ref 0 1 0 r.1.Last.length (some uC)], .ref 1 3 0 r.2.1.length (some uC), erD r.2.2]) [(0, some (.arr 3 1 true (r.1.Last.map (D.int .i64)))), (1, some (.arr 68 3 true (r.2.1.map TTook.d)))] (0, 37) := by
 refine zab Tryz.tmOk Tryz.func33 rfl (by decide) (lb rfl) (by simp) ?_
 intro hwf
 unfold zi7 at h
 refine .ends 0 (Nat.le_refl _) ?_
 refine .seq (.pl zS [0, 1, 2] ?_)
 refine .seq ?_
 obtain ⟨v1, hv1, h⟩ := bind_some h
 obtain ⟨v2, hv2, h⟩ := bind_some h
 rcases ziv v2 with hEer1 | ⟨er1, hEer1⟩
 rw [hEer1] at h
 dsimp only at h
 refine .seq (.rg zS [1, 3, 5, 6] ?_)
 refine .rn 1 ?_
 refine .cl (zg1 a0 v1 hv1) ?_
 refine .rn 0 ?_
 refine .call rfl rfl rfl rfl rfl rfl (zhh (r' := .nilIface) (by rw [hEer1]; rfl) (zcz [99, 104, 101, 99, 107] v1 v2 hv2)) ?_
 refine .rn 1 ?_
 refine .nn ?_
 refine .seq (.pl zS [1, 3, 5, 6, 9] ?_)
 refine .cond rfl rfl (fun hc => by cases hc) (fun hc => ?_)
 refine .skip (.seq ?_)
 obtain ⟨v3, hv3, h⟩ := bind_some h
 rcases ziv v3 with hEer2 | ⟨er2, hEer2⟩
 rw [hEer2] at h
 dsimp only at h
 refine .seq (.rg zS [1, 3, 5, 6] ?_)
 refine .rn 1 ?_
 refine .call rfl rfl rfl rfl rfl rfl (zhh (r' := .nilIface) (by rw [hEer2]; rfl) (zk6 a1 v3 hv3)) ?_
 refine .rn 1 ?_
 refine .nn ?_
 refine .seq (.pl zS [1, 3, 5, 6, 10] ?_)
 refine .cond rfl rfl (fun hc => by cases hc) (fun hc => ?_)
 refine .skip (.seq ?_)
 obtain ⟨v4, hv4, h⟩ := bind_some h
 obtain ⟨v5, hv5, h⟩ := bind_some h
 rcases ziv v5 with hEer3 | ⟨er3, hEer3⟩
 rw [hEer3] at h
 dsimp only at h
 refine .seq (.rg zS [1, 3, 5, 6] ?_)
 refine .rn 1 ?_
 refine .cl (zgj a2 v4 hv4) ?_
 refine .rn 0 ?_
 refine .call rfl rfl rfl rfl rfl rfl (zhh (r' := .nilIface) (by rw [hEer3]; rfl) (zcz [99, 111, 109, 109, 97, 110, 100] v4 v5 hv5)) ?_
 refine .rn 1 ?_
 refine .nn ?_
 refine .seq (.pl zS [1, 3, 5, 6, 11] ?_)
 refine .cond rfl rfl (fun hc => by cases hc) (fun hc => ?_)
 refine .skip ?_
 obtain ⟨v6, hv6, h⟩ := bind_some h
 refine .seq (.rg zS [1, 3, 5, 6] ?_)
 refine .rn 1 ?_
 refine .ncall (r := .agg [.int .i64 v6.Skeen.Clock, .imm 7 (v6.Skeen.Waits.map TWait.d) 13, .imm 2 (v6.Skeen.Done.map TStamp.d) 13, .imm 4 (v6.Stream.Topics.map TTopic.d) 13, .imm 1 (v6.Stream.Commits.map dL_inti64) 13, .ref 8 1 0 v6.Last.length (some uC)]) (eff := [(8, some (.arr 3 1 true (v6.Last.map (D.int .i64))))]) (nw := (8, 16)) [] rfl rfl rfl rfl rfl (za1 rfl za7) rfl (zcy 8 (lb rfl) (zoz a0 v6 hv6)) (zb8 rfl rfl (zcp zcs _ _ _) zdl) (by intro i hi; simp [D.ids, D.idsL] at hi <;> omega) rfl ⟨lb rfl, lb rfl⟩ ?_
 refine .rn 3 ?_
 refine .nn ?_
 obtain ⟨v7, hv7, h⟩ := bind_some h
 rcases ziv v7.2.1 with hEer4 | ⟨er4, hEer4⟩
 rw [hEer4] at h
 dsimp only at h
 refine .seq (.rg zS [1, 5, 6, 12] ?_)
 refine .rn 3 ?_
 refine .hcall (H := [(16, .box [.int .i64 v6.Skeen.Clock, .imm 7 (v6.Skeen.Waits.map TWait.d) 13, .imm 2 (v6.Skeen.Done.map TStamp.d) 13, .imm 4 (v6.Stream.Topics.map TTopic.d) 13, .imm 1 (v6.Stream.Commits.map dL_inti64) 13, .ref 8 1 0 v6.Last.length (some uC)]), (8, .arr 3 1 true (v6.Last.map (D.int .i64)))]) (eff := [(16, some (.box [.int .i64 v7.2.2.Home.Skeen.Clock, .imm 7 (v7.2.2.Home.Skeen.Waits.map TWait.d) 13, .imm 2 (v7.2.2.Home.Skeen.Done.map TStamp.d) 13, .imm 4 (v7.2.2.Home.Stream.Topics.map TTopic.d) 13, .imm 1 (v7.2.2.Home.Stream.Commits.map dL_inti64) 13, .ref 18 1 0 v7.2.2.Home.Last.length (some uC)])), (8, none), (17, some (.arr 68 3 true (v7.1.map TTook.d))), (18, some (.arr 3 1 true (v7.2.2.Home.Last.map (D.int .i64))))]) (nw := (17, 33)) (r := .tuple [.ref 17 3 0 v7.1.length (some uC), .nilIface]) rfl rfl rfl rfl rfl (zgx 17 (zdv 20001 8 (zdv 20000 16 (zpa (r' := .tuple [.ref 20100 3 0 v7.1.length (some uC), .nilIface]) (by rw [hEer4]; rfl) (zj3 (⟨v6⟩ : Tgroup_home) a1 a2 v7 hv7))))) (fun id b h => zbi [16, 8] _ id b h) (by simp) (.inr ⟨lb rfl, lb rfl⟩) ?_
 refine .rn 5 ?_
 refine .nn ?_
 refine .seq (.seq (.pl zS [6, 12, 13, 14] ?_))
 refine .cond rfl rfl (fun hc => by cases hc) (fun hc => ?_)
 refine .skip (.seq (.pl zS [6, 12, 13] ?_))
 obtain rfl := sj h
 refine .ret ⟨st6 (v7.2.2.Home, v7.1, none), ?_, .inr rfl, retH [1, 0] ?_ ?_⟩
 exact .m [6, 7, 8] [18, 17, 2] [(18, 0), (17, 1)]
 exact rsi0
 rfl
 rw [hEer4] at h
 dsimp only at h
 refine .seq (.rg zS [1, 5, 6, 12] ?_)
 refine .rn 3 ?_
 refine .hcall (H := [(16, .box [.int .i64 v6.Skeen.Clock, .imm 7 (v6.Skeen.Waits.map TWait.d) 13, .imm 2 (v6.Skeen.Done.map TStamp.d) 13, .imm 4 (v6.Stream.Topics.map TTopic.d) 13, .imm 1 (v6.Stream.Commits.map dL_inti64) 13, .ref 8 1 0 v6.Last.length (some uC)]), (8, .arr 3 1 true (v6.Last.map (D.int .i64)))]) (eff := [(16, some (.box [.int .i64 v7.2.2.Home.Skeen.Clock, .imm 7 (v7.2.2.Home.Skeen.Waits.map TWait.d) 13, .imm 2 (v7.2.2.Home.Skeen.Done.map TStamp.d) 13, .imm 4 (v7.2.2.Home.Stream.Topics.map TTopic.d) 13, .imm 1 (v7.2.2.Home.Stream.Commits.map dL_inti64) 13, .ref 18 1 0 v7.2.2.Home.Last.length (some uC)])), (8, none), (17, some (.arr 68 3 true (v7.1.map TTook.d))), (18, some (.arr 3 1 true (v7.2.2.Home.Last.map (D.int .i64))))]) (nw := (17, 33)) (r := .tuple [.ref 17 3 0 v7.1.length (some uC), .iface 179 (.agg [.str er4.1, .iface 106 (.agg [.int .i64 er4.2])])]) rfl rfl rfl rfl rfl (zgx 17 (zdv 20001 8 (zdv 20000 16 (zpa (r' := .tuple [.ref 20100 3 0 v7.1.length (some uC), .iface 179 (.agg [.str er4.1, .iface 106 (.agg [.int .i64 er4.2])])]) (by rw [hEer4]; rfl) (zj3 (⟨v6⟩ : Tgroup_home) a1 a2 v7 hv7))))) (fun id b h => zbi [16, 8] _ id b h) (by simp) (.inr ⟨lb rfl, lb rfl⟩) ?_
 refine .rn 5 ?_
 refine .nn ?_
 refine .seq (.seq (.pl zS [6, 12, 13, 14] ?_))
 refine .cond rfl rfl (fun hc => ?_) (fun hc => by cases hc)
 refine .seq (.pl zS [6, 14] ?_)
 obtain rfl := sj h
 refine .ret ⟨st6 ((⟨(⟨0, [], []⟩ : TSkeen), (⟨[], []⟩ : TStream), []⟩ : THome), [], (some er4)), ?_, .inr rfl, retH [1, 0] ?_ ?_⟩
 refine Goes.new0 1 3 (lb rfl) ?_
 refine Goes.new0 3 68 (lb rfl) ?_
 refine Goes.boxs 2 _ [.int .i64 0, .imm 7 [] 13, .imm 2 [] 13, .imm 4 [] 13, .imm 1 [] 13, .ref 33 1 0 0 (some uC)] rfl (.keep (.cons (.nil12 _ _ 0 (by decide)) (.cons (.nil12 _ _ 0 (by decide)) (.cons (.nil12 _ _ 0 (by decide)) (.cons (.nil12 _ _ 0 (by decide)) (.cons (.own0 33 _ _ _ (by decide)) (.refl _))))))) ?_
 refine Goes.wk 7 _ (.ref 34 3 0 0 (some uC)) rfl (.own0 34 _ _ _ (by decide)) ?_
 exact .m [6, 7, 8] [33, 34, 2] [(33, 0), (34, 1)]
 exact rsi0
 rfl
 rw [hEer3] at h
 dsimp only at h
 refine .seq (.rg zS [1, 3, 5, 6] ?_)
 refine .rn 1 ?_
 refine .cl (zgj a2 v4 hv4) ?_
 refine .rn 0 ?_
 refine .call rfl rfl rfl rfl rfl rfl (zhh (r' := .iface 179 (.agg [.str er3.1, .iface 106 (.agg [.int .i64 er3.2])])) (by rw [hEer3]; rfl) (zcz [99, 111, 109, 109, 97, 110, 100] v4 v5 hv5)) ?_
 refine .rn 1 ?_
 refine .nn ?_
 refine .seq (.pl zS [1, 3, 5, 6, 11] ?_)
 refine .cond rfl rfl (fun hc => ?_) (fun hc => by cases hc)
 refine .seq (.pl zS [6, 11] ?_)
 obtain rfl := sj h
 refine .ret ⟨st6 ((⟨(⟨0, [], []⟩ : TSkeen), (⟨[], []⟩ : TStream), []⟩ : THome), [], (some er3)), ?_, .inr rfl, retH [1, 0] ?_ ?_⟩
 refine Goes.new0 1 3 (lb rfl) ?_
 refine Goes.new0 3 68 (lb rfl) ?_
 refine Goes.boxs 2 _ [.int .i64 0, .imm 7 [] 13, .imm 2 [] 13, .imm 4 [] 13, .imm 1 [] 13, .ref 3 1 0 0 (some uC)] rfl (.keep (.cons (.nil12 _ _ 0 (by decide)) (.cons (.nil12 _ _ 0 (by decide)) (.cons (.nil12 _ _ 0 (by decide)) (.cons (.nil12 _ _ 0 (by decide)) (.cons (.own0 3 _ _ _ (by decide)) (.refl _))))))) ?_
 refine Goes.wk 7 _ (.ref 4 3 0 0 (some uC)) rfl (.own0 4 _ _ _ (by decide)) ?_
 exact .m [6, 7, 8] [3, 4, 2] [(3, 0), (4, 1)]
 exact rsi0
 rfl
 rw [hEer2] at h
 dsimp only at h
 refine .seq (.rg zS [1, 3, 5, 6] ?_)
 refine .rn 1 ?_
 refine .call rfl rfl rfl rfl rfl rfl (zhh (r' := .iface 179 (.agg [.str er2.1, .iface 106 (.agg [.int .i64 er2.2])])) (by rw [hEer2]; rfl) (zk6 a1 v3 hv3)) ?_
 refine .rn 1 ?_
 refine .nn ?_
 refine .seq (.pl zS [1, 3, 5, 6, 10] ?_)
 refine .cond rfl rfl (fun hc => ?_) (fun hc => by cases hc)
 refine .seq (.pl zS [6, 10] ?_)
 obtain rfl := sj h
 refine .ret ⟨st6 ((⟨(⟨0, [], []⟩ : TSkeen), (⟨[], []⟩ : TStream), []⟩ : THome), [], (some er2)), ?_, .inr rfl, retH [1, 0] ?_ ?_⟩
 refine Goes.new0 1 3 (lb rfl) ?_
 refine Goes.new0 3 68 (lb rfl) ?_
 refine Goes.boxs 2 _ [.int .i64 0, .imm 7 [] 13, .imm 2 [] 13, .imm 4 [] 13, .imm 1 [] 13, .ref 3 1 0 0 (some uC)] rfl (.keep (.cons (.nil12 _ _ 0 (by decide)) (.cons (.nil12 _ _ 0 (by decide)) (.cons (.nil12 _ _ 0 (by decide)) (.cons (.nil12 _ _ 0 (by decide)) (.cons (.own0 3 _ _ _ (by decide)) (.refl _))))))) ?_
 refine Goes.wk 7 _ (.ref 4 3 0 0 (some uC)) rfl (.own0 4 _ _ _ (by decide)) ?_
 exact .m [6, 7, 8] [3, 4, 2] [(3, 0), (4, 1)]
 exact rsi0
 rfl
 rw [hEer1] at h
 dsimp only at h
 refine .seq (.rg zS [1, 3, 5, 6] ?_)
 refine .rn 1 ?_
 refine .cl (zg1 a0 v1 hv1) ?_
 refine .rn 0 ?_
 refine .call rfl rfl rfl rfl rfl rfl (zhh (r' := .iface 179 (.agg [.str er1.1, .iface 106 (.agg [.int .i64 er1.2])])) (by rw [hEer1]; rfl) (zcz [99, 104, 101, 99, 107] v1 v2 hv2)) ?_
 refine .rn 1 ?_
 refine .nn ?_
 refine .seq (.pl zS [1, 3, 5, 6, 9] ?_)
 refine .cond rfl rfl (fun hc => ?_) (fun hc => by cases hc)
 refine .seq (.pl zS [6, 9] ?_)
 obtain rfl := sj h
 refine .ret ⟨st6 ((⟨(⟨0, [], []⟩ : TSkeen), (⟨[], []⟩ : TStream), []⟩ : THome), [], (some er1)), ?_, .inr rfl, retH [1, 0] ?_ ?_⟩
 refine Goes.new0 1 3 (lb rfl) ?_
 refine Goes.new0 3 68 (lb rfl) ?_
 refine Goes.boxs 2 _ [.int .i64 0, .imm 7 [] 13, .imm 2 [] 13, .imm 4 [] 13, .imm 1 [] 13, .ref 3 1 0 0 (some uC)] rfl (.keep (.cons (.nil12 _ _ 0 (by decide)) (.cons (.nil12 _ _ 0 (by decide)) (.cons (.nil12 _ _ 0 (by decide)) (.cons (.nil12 _ _ 0 (by decide)) (.cons (.own0 3 _ _ _ (by decide)) (.refl _))))))) ?_
 refine Goes.wk 7 _ (.ref 4 3 0 0 (some uC)) rfl (.own0 4 _ _ _ (by decide)) ?_
 exact .m [6, 7, 8] [3, 4, 2] [(3, 0), (4, 1)]
 exact rsi0
 rfl
@[go_sem] def st3 (r : THome × (List TTook) × Int) : St := ⟨[(6, .ptr 2 0), (7, .ref 1 3 0 r.2.1.length (some uC)), (8, .int .i64 r.2.2)], [(0, .arr 3 1 true (r.1.Last.map (D.int .i64))), (1, .arr 68 3 true (r.2.1.map TTook.d)), (2, .box [.int .i64 r.1.Skeen.Clock, .imm 7 (r.1.Skeen.Waits.map TWait.d) 13, .imm 2 (r.1.Skeen.Done.map TStamp.d) 13, .imm 4 (r.1.Stream.Topics.map TTopic.d) 13, .imm 1 (r.1.Stream.Commits.map dL_inti64) 13, .ref 0 1 0 r.1.Last.length (some uC)])], 3⟩
theorem ze0 (a0 : THome) (a1 : Int) (a2 : TCommand) (r : THome × (List TTook) × Int) (h : zde a0 a1 a2 = some r) : zbo Tryz.prog 11 [.agg [.int .i64 a0.Skeen.Clock, .imm 7 (a0.Skeen.Waits.map TWait.d) 4, .imm 2 (a0.Skeen.Done.map TStamp.d) 4, .imm 4 (a0.Stream.Topics.map TTopic.d) 4, .imm 1 (a0.Stream.Commits.map dL_inti64) 4, .imm 1 (a0.Last.map (D.int .i64)) 4], .int .i64 a1, .agg [.int .u8 a2.Kind, .int .i64 a2.Message.Id, .imm 1 (a2.Message.Groups.map (D.int .i64)) 4, .int .i64 a2.Message.Topic, .str a2.Message.Key, .str a2.Message.Body, .int .i64 a2.Id, .int .i64 a2.Time, .imm 1 (a2.Members.map (D.int .i64)) 4, .int .i64 a2.Topic, .int .i64 a2.Who, .int .i64 a2.N]] [] (.tuple [.agg [.int .i64 r.1.Skeen.Clock, .imm 7 (r.1.Skeen.Waits.map TWait.d) 13, .imm 2 (r.1.Skeen.Done.map TStamp.d) 13, .imm 4 (r.1.Stream.Topics.map TTopic.d) 13, .imm 1 (r.1.Stream.Commits.map dL_inti64) 13, .ref 0 1 0 r.1.Last.length (some uC)], .ref 1 3 0 r.2.1.length (some uC), .int .i64 r.2.2]) [(0, some (.arr 3 1 true (r.1.Last.map (D.int .i64)))), (1, some (.arr 68 3 true (r.2.1.map TTook.d)))] (0, 77) := by
 refine zab Tryz.tmOk Tryz.func11 rfl (by decide) (lb rfl) (by simp) ?_
 intro hwf
 unfold zde at h
 refine .ends 0 (Nat.le_refl _) ?_
 refine .seq (.pl zS [0, 1, 2] ?_)
 obtain ⟨v1, hv1, h⟩ := bind_some h
 rcases ziv v1.2.2 with hEer1 | ⟨er1, hEer1⟩
 rw [hEer1] at h
 dsimp only at h
 refine .seq (.rg zS [1, 3, 5, 6] ?_)
 refine .rn 3 ?_
 refine .ncall (r := .tuple [.agg [.int .i64 v1.1.Skeen.Clock, .imm 7 (v1.1.Skeen.Waits.map TWait.d) 13, .imm 2 (v1.1.Skeen.Done.map TStamp.d) 13, .imm 4 (v1.1.Stream.Topics.map TTopic.d) 13, .imm 1 (v1.1.Stream.Commits.map dL_inti64) 13, .ref 37 1 0 v1.1.Last.length (some uC)], .ref 38 3 0 v1.2.1.length (some uC), .nilIface]) (eff := [(37, some (.arr 3 1 true (v1.1.Last.map (D.int .i64)))), (38, some (.arr 68 3 true (v1.2.1.map TTook.d)))]) (nw := (37, 74)) [] rfl rfl rfl rfl rfl (za1 rfl (za1 rfl (za1 rfl za7))) rfl (zcy 37 (lb rfl) (zpa (r' := .tuple [.agg [.int .i64 v1.1.Skeen.Clock, .imm 7 (v1.1.Skeen.Waits.map TWait.d) 13, .imm 2 (v1.1.Skeen.Done.map TStamp.d) 13, .imm 4 (v1.1.Stream.Topics.map TTopic.d) 13, .imm 1 (v1.1.Stream.Commits.map dL_inti64) 13, .ref 0 1 0 v1.1.Last.length (some uC)], .ref 1 3 0 v1.2.1.length (some uC), .nilIface]) (by rw [hEer1]; rfl) (zka a0 a1 a2 v1 hv1))) (zb8 rfl rfl (zcp zcs _ _ _) (zb8 rfl rfl (zcp zhj _ _ _) zdl)) (by intro i hi; simp [D.ids, D.idsL] at hi <;> omega) rfl ⟨lb rfl, lb rfl⟩ ?_
 refine .rn 8 ?_
 refine .nn ?_
 obtain ⟨v2, hv2, h⟩ := bind_some h
 refine .seq (.rg zS [6, 9, 10, 11] ?_)
 refine .rd 3 ?_
 refine .cl (zjj none v2 hv2) ?_
 refine .rd 3 ?_
 refine .nd ?_
 obtain rfl := sj h
 refine .ret ⟨st3 (v1.1, v1.2.1, v2), ?_, .inr rfl, retH [1, 0] ?_ ?_⟩
 exact .m [6, 7, 8] [37, 38, 2] [(37, 0), (38, 1)]
 exact rsi0
 rfl
 rw [hEer1] at h
 dsimp only at h
 refine .seq (.rg zS [1, 3, 5, 6] ?_)
 refine .rn 3 ?_
 refine .ncall (r := .tuple [.agg [.int .i64 v1.1.Skeen.Clock, .imm 7 (v1.1.Skeen.Waits.map TWait.d) 13, .imm 2 (v1.1.Skeen.Done.map TStamp.d) 13, .imm 4 (v1.1.Stream.Topics.map TTopic.d) 13, .imm 1 (v1.1.Stream.Commits.map dL_inti64) 13, .ref 37 1 0 v1.1.Last.length (some uC)], .ref 38 3 0 v1.2.1.length (some uC), .iface 179 (.agg [.str er1.1, .iface 106 (.agg [.int .i64 er1.2])])]) (eff := [(37, some (.arr 3 1 true (v1.1.Last.map (D.int .i64)))), (38, some (.arr 68 3 true (v1.2.1.map TTook.d)))]) (nw := (37, 74)) [] rfl rfl rfl rfl rfl (za1 rfl (za1 rfl (za1 rfl za7))) rfl (zcy 37 (lb rfl) (zpa (r' := .tuple [.agg [.int .i64 v1.1.Skeen.Clock, .imm 7 (v1.1.Skeen.Waits.map TWait.d) 13, .imm 2 (v1.1.Skeen.Done.map TStamp.d) 13, .imm 4 (v1.1.Stream.Topics.map TTopic.d) 13, .imm 1 (v1.1.Stream.Commits.map dL_inti64) 13, .ref 0 1 0 v1.1.Last.length (some uC)], .ref 1 3 0 v1.2.1.length (some uC), .iface 179 (.agg [.str er1.1, .iface 106 (.agg [.int .i64 er1.2])])]) (by rw [hEer1]; rfl) (zka a0 a1 a2 v1 hv1))) (zb8 rfl rfl (zcp zcs _ _ _) (zb8 rfl rfl (zcp zhj _ _ _) zdl)) (by intro i hi; simp [D.ids, D.idsL] at hi <;> omega) rfl ⟨lb rfl, lb rfl⟩ ?_
 refine .rn 8 ?_
 refine .nn ?_
 obtain ⟨v3, hv3, h⟩ := bind_some h
 refine .seq (.rg zS [6, 9, 10, 11] ?_)
 refine .rd 3 ?_
 refine .cl (zjj (some er1) v3 hv3) ?_
 refine .rd 3 ?_
 refine .nd ?_
 obtain rfl := sj h
 refine .ret ⟨st3 (v1.1, v1.2.1, v3), ?_, .inr rfl, retH [1, 0] ?_ ?_⟩
 exact .m [6, 7, 8] [37, 38, 2] [(37, 0), (38, 1)]
 exact rsi0
 rfl
end Go.Proofs
end
section
namespace Go.Tm
theorem zwj {α : Type} [Inhabited α] (f : α -> D) (l : List α) (i : Nat) (j : Int) (hj : j.toNat = i) (h : i < l.length) : nth (l.map f) j.toNat = f (l.getD i default) := by rw [hj]; exact zec f l i h
end Go.Tm
end
section
namespace Go.Proofs
open Go.Tm
set_option linter.unusedVariables false
def ze1 : Nat -> (List (List Int)) -> Int -> Option ((List (List Int)))
 | 0, _, _ => none
 | fu1 + 1, l2, n1 =>
  if n1 < 4 then
  if l2.length + [((List.replicate 8 0).take 8)].length < 1000000 then
  ze1 fu1 (l2 ++ [((List.replicate 8 0).take 8)]) (wr .i64 (n1 + 1))
  else none
  else
  some l2
def zi8 : Option ((List (List Int))) :=
 Option.bind (α := (List (List Int))) (ze1 (5) [] 0) fun l1 =>
 some l1
def zef : Nat -> (List TTopic) -> Int -> Option ((List TTopic))
 | 0, _, _ => none
 | fu1 + 1, l2, n1 =>
  if n1 < 4 then
  Option.bind (zkg ) fun v2 =>
  if l2.length + [v2].length < 1000000 then
  zef fu1 (l2 ++ [v2]) (wr .i64 (n1 + 1))
  else none
  else
  some l2
def zjf : Option TStream :=
 Option.bind (zi8 ) fun v1 =>
 Option.bind (α := (List TTopic)) (zef (5) [] 0) fun l1 =>
 some (⟨l1, v1⟩ : TStream)
def zmb : Option THome :=
 Option.bind (zkh ) fun v1 =>
 Option.bind (zjf ) fun v2 =>
 some (⟨v1, v2, ((List.replicate 6 0).take 6)⟩ : THome)
def zc5 (a0 : Int) : Option TCommand :=
 some (⟨4, (⟨0, [], 0, [], []⟩ : TMessage), a0, 0, [], 0, 0, 0⟩ : TCommand)
def ze3 : Option Bool :=
 Option.bind (zmb ) fun v1 =>
 Option.bind (zc5 5) fun v2 =>
 Option.bind (zde v1 0 v2) fun v3 =>
 Option.bind (zc5 5) fun v4 =>
 Option.bind (zde v3.1 0 v4) fun v5 =>
 Option.bind (zc5 4) fun v6 =>
 Option.bind (zde v3.1 0 v6) fun v7 =>
 if ((((v3.2.2 = 0) /\ (v5.2.2 = 0)) /\ (v7.2.2 = 0)) /\ ((v3.1.Last.length : Int) = 6)) -> 0 < v3.1.Last.length then
 if (((((v3.2.2 = 0) /\ (v5.2.2 = 0)) /\ (v7.2.2 = 0)) /\ ((v3.1.Last.length : Int) = 6)) /\ ((v3.1.Last.getD 0 default) = 6)) -> 1 < v3.1.Last.length then
 Option.bind (if (((((v3.2.2 = 0) /\ (v5.2.2 = 0)) /\ (v7.2.2 = 0)) /\ ((v3.1.Last.length : Int) = 6)) /\ ((v3.1.Last.getD 0 default) = 6)) /\ ((v3.1.Last.getD 1 default) = 0) then zdx v3.1 v5.1 else some default) fun v8 =>
 Option.bind (if ((((((v3.2.2 = 0) /\ (v5.2.2 = 0)) /\ (v7.2.2 = 0)) /\ ((v3.1.Last.length : Int) = 6)) /\ ((v3.1.Last.getD 0 default) = 6)) /\ ((v3.1.Last.getD 1 default) = 0)) /\ (v8 = true) then zdx v3.1 v7.1 else some default) fun v9 =>
 some ((((((((v3.2.2 == 0) && (v5.2.2 == 0)) && (v7.2.2 == 0)) && ((v3.1.Last.length : Int) == 6)) && ((v3.1.Last.getD 0 default) == 6)) && ((v3.1.Last.getD 1 default) == 0)) && v8) && v9)
 else none
 else none
def zaw (a0 : TTopic) : Nat -> Int -> Int -> Option (Int)
 | 0, _, _ => none
 | fu1 + 1, n2, n3 =>
  if (n3 < (a0.Entries.length : Int)) /\ (n2 <= 100000) then
  if (0 <= n3 /\ n3 < (a0.Entries.length : Int)) then
  zaw a0 fu1 (wr .i64 (n2 + (wr .i64 ((wr .i64 (30 + (((a0.Entries.getD n3.toNat default).Key).length : Int))) + (((a0.Entries.getD n3.toNat default).Body).length : Int))))) (wr .i64 (n3 + 1))
  else none
  else
  some n2
def zda (a0 : TTopic) : Option Bool :=
 Option.bind (α := Int) (zaw a0 (a0.Entries.length + 1) 0 0) fun n1 =>
 some ((decide (n1 > 100000)) || (decide ((a0.Entries.length : Int) > 1000)))
def zb5 : List (List Int) -> Int -> Option (Int)
 | [], n2 =>
  some n2
 | y1 :: rest1, n2 =>
  if (n2 <= 1000) then
  zb5 rest1 (wr .i64 (n2 + (wr .i64 (1 + ((y1).length : Int)))))
  else
  some n2
theorem zhk (n2 : Int) : zb5 [] n2 =
  (some n2 : Option (Int)) := rfl
theorem zdi (y1 : (List Int)) (rest1 : List (List Int)) (n2 : Int) : zb5 (y1 :: rest1) n2 =
  (if (n2 <= 1000) then
  zb5 rest1 (wr .i64 (n2 + (wr .i64 (1 + ((y1).length : Int)))))
  else
  some n2 : Option (Int)) := rfl
def zd9 (a0 : List (List Int)) : Option Bool :=
 Option.bind (α := Int) (zb5 a0 0) fun n1 =>
 some (decide (n1 > 1000))
def zav (a0 : TStream) : Nat -> Int -> Option (Bool ⊕ Unit)
 | 0, _ => none
 | fu1 + 1, n1 =>
  if (n1 < (a0.Topics.length : Int)) /\ (n1 < 50) then
  if (0 <= n1 /\ n1 < (a0.Topics.length : Int)) then
  Option.bind (zda (a0.Topics.getD n1.toNat default)) fun v1 =>
  if v1 = true then
  some (.inl true)
  else
  zav a0 fu1 (wr .i64 (n1 + 1))
  else none
  else
  some (.inr ())
def zd8 (a0 : TStream) : Option Bool :=
 Option.bind (α := Bool ⊕ Unit) (zav a0 (51) 0) fun z => match z with
 | (.inl r) => some r
 | (.inr _) =>
 Option.bind (if ¬ ((a0.Topics.length : Int) > 50) then zd9 a0.Commits else some default) fun v2 =>
 some ((decide ((a0.Topics.length : Int) > 50)) || v2)
def zd7 (a0 : THome) : Option Bool :=
 Option.bind (zdb a0.Skeen) fun v1 =>
 Option.bind (if ¬ (v1 = true) then zd8 a0.Stream else some default) fun v2 =>
 some ((v1 || v2) || (decide ((a0.Last.length : Int) > 1000)))
def zcg (a0 : TCommand) : Option Bool :=
 some ((((decide ((a0.Message.Groups.length : Int) > 1000)) || (decide ((a0.Members.length : Int) > 1000))) || (decide ((a0.Message.Key.length : Int) > 5000))) || (decide ((a0.Message.Body.length : Int) > 5000)))
end Go.Proofs
end
section
namespace Go.Proofs
open Go.Tm Go.RowKit Go.WideShapes
set_option maxRecDepth 100000
set_option maxHeartbeats 4000000
set_option linter.unusedSimpArgs false
set_option linter.unusedVariables false
@[go_sem] def st42 (l1 : List (List Int)) : St := ⟨[(1, .ref 0 1 0 l1.length (some uC))], [(0, .arr 30 1 true (l1.map zb9))], 1⟩
@[go_sem] def st43 (l2 : List (List Int)) (n1 : Int) : St := ⟨[(1, .ref 0 1 0 l2.length (some uC)), (2, .int .i64 n1)], [(0, .arr 30 1 true (l2.map zb9))], 1⟩
@[go_sem] def st1 (r : (List (List Int))) : St := ⟨[(0, .ref 0 1 0 r.length (some uC))], [(0, .arr 30 1 true (r.map zb9))], 1⟩
theorem zoe (r : (List (List Int))) (h : zi8  = some r) : zbo Tryz.prog 109 [] [] (.ref 0 1 0 r.length (some uC)) [(0, some (.arr 30 1 true (r.map zb9)))] (0, 6) := by
 refine zab Tryz.tmOk Tryz.func109 rfl (by decide) (lb rfl) (by simp) ?_
 intro hwf
 unfold zi8 at h
 refine .ends 0 (Nat.le_refl _) ?_
 refine .seq (.pl zS [] ?_)
 refine .seq (.pl zS [] ?_)
 obtain ⟨x1, hx1, h⟩ := bind_some h
 refine .seqM 0 (fun (j : (List (List Int))) => st42 j) (fun j => x1 = j) (lb rfl) ?_ ?_
 refine .seq (.pl zS [1] ?_)
 refine .block ?_
 refine .loopG 0 (fun (j : Nat × (List (List Int)) × Int) => st43 j.2.1 j.2.2) (fun j => ze1 j.1 j.2.1 j.2.2 = some x1) (fun j => j.1) (5, [], 0) (lb rfl) ?_ hx1 ?_
 refine Goes.new0 1 30 (lb rfl) ?_
 refine Goes.wk 1 _ (.ref 0 1 0 0 (some uC)) rfl (.own0 0 _ _ _ (by decide)) ?_
 exact .m [1, 2] [0] []
 rintro ⟨fu1, l2, n1⟩ hx1
 simp only [st43]
 try simp only at hx1
 obtain ⟨fu1, rfl⟩ : ∃ k, fu1 = k + 1 := by cases fu1 with | zero => (rw [ze1] at hx1; cases hx1) | succ k => exact ⟨k, rfl⟩
 rw [ze1] at hx1
 refine .seq (.pl zS [1, 2] ?_)
 refine .seq (.cd (fun hc1 => ?_) (fun hc1 => ?_))
 replace hx1 := za4 hx1 hc1
 refine .skip (.seq (.block ?_))
 obtain ⟨k1, hx1⟩ := zaz hx1
 refine .pl zS [1, 2] ?_
 refine .goes (.givl 3 (l2.map zb9 ++ [.ref 1 1 0 8 (some 8)]) ((l2 ++ [((List.replicate 8 0).take 8)]).map zb9) [3] rfl rfl (by rw [List.map_append]; exact zwy (zww (fun _ => rfl) _) (za5 (zcj zcs rfl rfl) zcr)) (zqf _ (fun _ => rfl) _) (by intro i hi; simp only [zqg, zqf (f := zb9) (hf := fun _ => rfl), D.idsL, D.ids, List.nil_append, List.append_nil, List.mem_singleton] at hi; subst hi; rfl) .refl) ?_
 refine .pl zS [1, 2] ?_
 refine ⟨(fu1, _, _), ?_, hx1, by dsimp only; omega⟩
 exact .m [1, 2] [3] [(3, 0)]
 replace hx1 := za9 hx1 hc1
 refine .exit ?_
 refine ⟨_, ?_, (sj hx1).symm⟩
 exact .m [1] [0] []
 rintro l1 hj1
 subst x1
 try dsimp only at h
 simp only [st42]
 refine .seq (.pl zS [1] ?_)
 obtain rfl := sj h
 refine .ret ⟨st1 l1, ?_, .inr rfl, retH [0] ?_ ?_⟩
 exact .m [0] [0] []
 exact rsi0
 rfl
theorem zoc (r : (List (List Int))) (h : zi8  = some r) : zaq Tryz.prog 109 [] (.imm 1 (r.map dL_inti64) 13) :=
 zey (ze8 zc4 rfl rfl) (zoe  r h)
@[go_sem] def st98 (v1 : List (List Int)) (l1 : List TTopic) : St := ⟨[(0, .ptr 0 0), (1, .ptr 1 0)], [(0, .box [.imm 0 [] 0, .imm 0 [] 0]), (1, .box [.ref 2 4 0 l1.length (some uC), .imm 1 (v1.map dL_inti64) 13]), (2, .arr 94 4 true (l1.map TTopic.n))], 3⟩
@[go_sem] def st99 (v1 : List (List Int)) (l2 : List TTopic) (n1 : Int) : St := ⟨[(0, .ptr 0 0), (1, .ptr 1 0), (4, .int .i64 n1)], [(0, .box [.imm 0 [] 0, .imm 0 [] 0]), (1, .box [.ref 2 4 0 l2.length (some uC), .imm 1 (v1.map dL_inti64) 13]), (2, .arr 94 4 true (l2.map TTopic.n))], 3⟩
@[go_sem] def st24 (r : TStream) : St := ⟨[(0, .ptr 1 0)], [(0, .arr 94 4 true (r.Topics.map TTopic.n)), (1, .box [.ref 0 4 0 r.Topics.length (some uC), .imm 1 (r.Commits.map dL_inti64) 13])], 2⟩
theorem zoy (r : TStream) (h : zjf  = some r) : zbo Tryz.prog 51 [] [] (.agg [.ref 0 4 0 r.Topics.length (some uC), .imm 1 (r.Commits.map dL_inti64) 13]) [(0, some (.arr 94 4 true (r.Topics.map TTopic.n)))] (0, 7) := by
 refine zab Tryz.tmOk Tryz.func51 rfl (by decide) (lb rfl) (by simp) ?_
 intro hwf
 unfold zjf at h
 refine .ends 0 (Nat.le_refl _) ?_
 refine .seq (.pl zS [] ?_)
 obtain ⟨v1, hv1, h⟩ := bind_some h
 refine .seq (.rg zS [0] ?_)
 refine .cl (zoc  v1 hv1) ?_
 refine .rn 3 ?_
 refine .nn ?_
 obtain ⟨x1, hx1, h⟩ := bind_some h
 refine .seqM 2 (fun (j : (List TTopic)) => st98 v1 j) (fun j => x1 = j) (lb rfl) ?_ ?_
 refine .seq (.pl zS [0, 1] ?_)
 refine .block ?_
 refine .loopG 2 (fun (j : Nat × (List TTopic) × Int) => st99 v1 j.2.1 j.2.2) (fun j => zef j.1 j.2.1 j.2.2 = some x1) (fun j => j.1) (5, [], 0) (lb rfl) ?_ hx1 ?_
 refine Goes.new0 4 94 (lb rfl) ?_
 refine Goes.boxs 1 _ [.ref 2 4 0 0 (some uC), .imm 1 (v1.map dL_inti64) 13] rfl (.cons (.own0 2 _ _ _ (by decide)) (.refl _)) ?_
 exact .m [0, 1, 4] [0, 1, 2] []
 rintro ⟨fu1, l2, n1⟩ hx1
 simp only [st99]
 try simp only at hx1
 obtain ⟨fu1, rfl⟩ : ∃ k, fu1 = k + 1 := by cases fu1 with | zero => (rw [zef] at hx1; cases hx1) | succ k => exact ⟨k, rfl⟩
 rw [zef] at hx1
 refine .seq (.pl zS [0, 1, 4] ?_)
 refine .seq (.cd (fun hc1 => ?_) (fun hc1 => ?_))
 replace hx1 := za4 hx1 hc1
 refine .skip (.seq (.block ?_))
 obtain ⟨v2, hv2, hx1⟩ := bind_some hx1
 obtain ⟨k1, hx1⟩ := zaz hx1
 refine .rg zS [0, 1, 4] ?_
 refine .rd 2 ?_
 refine .cl (zr6  v2 hv2) ?_
 refine .rd 4 ?_
 refine .nd ?_
 refine .pl zS [0, 1, 4] ?_
 refine ⟨(fu1, _, _), ?_, hx1, by dsimp only; omega⟩
 exact .m [0, 1, 4] [0, 1, 4] [(4, 2)]
 replace hx1 := za9 hx1 hc1
 refine .exit ?_
 refine ⟨_, ?_, (sj hx1).symm⟩
 exact .m [0, 1] [0, 1, 2] []
 rintro l1 hj1
 subst x1
 try dsimp only at h
 simp only [st98]
 refine .seq (.pl zS [0, 1] ?_)
 obtain rfl := sj h
 refine .ret ⟨st24 (⟨l1, v1⟩ : TStream), ?_, .inr rfl, retH [0] ?_ ?_⟩
 exact .m [0] [2, 0] [(2, 0), (0, 1)]
 exact rsi0
 rfl
theorem zot (r : TStream) (h : zjf  = some r) : zaq Tryz.prog 51 [] (.agg [.imm 4 (r.Topics.map TTopic.d) 13, .imm 1 (r.Commits.map dL_inti64) 13]) :=
 zey (ziz (za5 (ze8 zfx rfl rfl) (za5 rfl zcr))) (zoy  r h)
@[go_sem] def st4 (r : THome) : St := ⟨[(0, .ptr 1 0)], [(0, .arr 3 1 true (r.Last.map (D.int .i64))), (1, .box [.int .i64 r.Skeen.Clock, .imm 7 (r.Skeen.Waits.map TWait.d) 13, .imm 2 (r.Skeen.Done.map TStamp.d) 13, .imm 4 (r.Stream.Topics.map TTopic.d) 13, .imm 1 (r.Stream.Commits.map dL_inti64) 13, .ref 0 1 0 r.Last.length (some uC)])], 2⟩
theorem zrg (r : THome) (h : zmb  = some r) : zbo Tryz.prog 19 [] [] (.agg [.int .i64 r.Skeen.Clock, .imm 7 (r.Skeen.Waits.map TWait.d) 13, .imm 2 (r.Skeen.Done.map TStamp.d) 13, .imm 4 (r.Stream.Topics.map TTopic.d) 13, .imm 1 (r.Stream.Commits.map dL_inti64) 13, .ref 0 1 0 r.Last.length (some uC)]) [(0, some (.arr 3 1 true (r.Last.map (D.int .i64))))] (0, 4) := by
 refine zab Tryz.tmOk Tryz.func19 rfl (by decide) (lb rfl) (by simp) ?_
 intro hwf
 unfold zmb at h
 refine .ends 0 (Nat.le_refl _) ?_
 refine .seq (.pl zS [] ?_)
 obtain ⟨v1, hv1, h⟩ := bind_some h
 obtain ⟨v2, hv2, h⟩ := bind_some h
 refine .seq (.rg zS [0] ?_)
 refine .cl (zr9  v1 hv1) ?_
 refine .rd 0 ?_
 refine .cl (zot  v2 hv2) ?_
 refine .rd 3 ?_
 refine .nd ?_
 obtain rfl := sj h
 refine .ret ⟨st4 (⟨v1, v2, ((List.replicate 6 0).take 6)⟩ : THome), ?_, .inr rfl, retH [0] ?_ ?_⟩
 refine Goes.boxs 0 _ [.int .i64 v1.Clock, .imm 7 (v1.Waits.map TWait.d) 13, .imm 2 (v1.Done.map TStamp.d) 13, .imm 4 (v2.Topics.map TTopic.d) 13, .imm 1 (v2.Commits.map dL_inti64) 13, .ref 1 1 0 6 (some uC)] rfl (.keep (.keep (.keep (.keep (.keep (.cons (.unk _ _ _ _ _) (.refl _))))))) ?_
 exact .m [0] [1, 0] [(1, 0), (0, 1)]
 exact rsi0
 rfl
@[go_sem] def st32 (r : TCommand) : St := ⟨[(2, .ptr 0 0)], [(0, .box [.int .u8 r.Kind, .int .i64 r.Message.Id, .imm 1 (r.Message.Groups.map (D.int .i64)) 13, .int .i64 r.Message.Topic, .str r.Message.Key, .str r.Message.Body, .int .i64 r.Id, .int .i64 r.Time, .imm 1 (r.Members.map (D.int .i64)) 13, .int .i64 r.Topic, .int .i64 r.Who, .int .i64 r.N])], 1⟩
theorem zj2 (a0 : Int) (r : TCommand) (h : zc5 a0 = some r) : zbo Tryz.prog 53 [.int .i64 a0] [] (.agg [.int .u8 r.Kind, .int .i64 r.Message.Id, .imm 1 (r.Message.Groups.map (D.int .i64)) 13, .int .i64 r.Message.Topic, .str r.Message.Key, .str r.Message.Body, .int .i64 r.Id, .int .i64 r.Time, .imm 1 (r.Members.map (D.int .i64)) 13, .int .i64 r.Topic, .int .i64 r.Who, .int .i64 r.N]) [] (0, 3) := by
 refine zab Tryz.tmOk Tryz.func53 rfl (by decide) (lb rfl) (by simp) ?_
 intro hwf
 unfold zc5 at h
 refine .ends 0 (Nat.le_refl _) ?_
 refine .seq (.pl zS [0] ?_)
 refine .seq (.pl zS [0, 2] ?_)
 obtain rfl := sj h
 refine .ret ⟨st32 (⟨4, (⟨0, [], 0, [], []⟩ : TMessage), a0, 0, [], 0, 0, 0⟩ : TCommand), ?_, .inr rfl, retH [] ?_ ?_⟩
 refine Goes.boxs 0 _ [.int .u8 4, .int .i64 0, .imm 1 [] 13, .int .i64 0, .str [], .str [], .int .i64 a0, .int .i64 0, .imm 1 [] 13, .int .i64 0, .int .i64 0, .int .i64 0] rfl (.keep (.keep (.cons (.nil12 _ _ 0 (by decide)) (.keep (.keep (.keep (.keep (.keep (.cons (.nil12 _ _ 0 (by decide)) (.refl _)))))))))) ?_
 exact .m [2] [0] []
 exact rsi0
 rfl
theorem ze2 (a0 : Int) (r : TCommand) (h : zc5 a0 = some r) : zaq Tryz.prog 53 [.int .i64 a0] (.agg [.int .u8 r.Kind, .int .i64 r.Message.Id, .imm 1 (r.Message.Groups.map (D.int .i64)) 13, .int .i64 r.Message.Topic, .str r.Message.Key, .str r.Message.Body, .int .i64 r.Id, .int .i64 r.Time, .imm 1 (r.Members.map (D.int .i64)) 13, .int .i64 r.Topic, .int .i64 r.Who, .int .i64 r.N]) :=
 zey (ziz (za5 rfl (za5 rfl (za5 rfl (za5 rfl (za5 rfl (za5 rfl (za5 rfl (za5 rfl (za5 rfl (za5 rfl (za5 rfl (za5 rfl zcr))))))))))))) (zj2 a0 r h)
theorem zja (r : Bool) (h : ze3  = some r) (hr : r = true) : zaq Tryz.prog 22 [] (.bool r) := by
 refine za2 Tryz.tmOk 313 Tryz.func22 rfl (by decide) rfl rfl (lb rfl) ?_
 intro hwf
 unfold ze3 at h
 refine .seq (.pl zS [] ?_)
 obtain ⟨v1, hv1, h⟩ := bind_some h
 obtain ⟨v2, hv2, h⟩ := bind_some h
 obtain ⟨v3, hv3, h⟩ := bind_some h
 refine .seq (.rg zS [] ?_)
 refine .ncall (r := .agg [.int .i64 v1.Skeen.Clock, .imm 7 (v1.Skeen.Waits.map TWait.d) 13, .imm 2 (v1.Skeen.Done.map TStamp.d) 13, .imm 4 (v1.Stream.Topics.map TTopic.d) 13, .imm 1 (v1.Stream.Commits.map dL_inti64) 13, .ref 4 1 0 v1.Last.length (some uC)]) (eff := [(4, some (.arr 3 1 true (v1.Last.map (D.int .i64))))]) (nw := (4, 8)) [] rfl rfl rfl rfl rfl za7 rfl (zcy 4 (lb rfl) (zrg  v1 hv1)) (zb8 rfl rfl (zcp zcs _ _ _) zdl) (by intro i hi; simp [D.ids, D.idsL] at hi <;> omega) rfl ⟨lb rfl, lb rfl⟩ ?_
 refine .rn 0 ?_
 refine .cl (ze2 5 v2 hv2) ?_
 refine .rn 0 ?_
 refine .ncall (r := .tuple [.agg [.int .i64 v3.1.Skeen.Clock, .imm 7 (v3.1.Skeen.Waits.map TWait.d) 13, .imm 2 (v3.1.Skeen.Done.map TStamp.d) 13, .imm 4 (v3.1.Stream.Topics.map TTopic.d) 13, .imm 1 (v3.1.Stream.Commits.map dL_inti64) 13, .ref 77 1 0 v3.1.Last.length (some uC)], .ref 78 3 0 v3.2.1.length (some uC), .int .i64 v3.2.2]) (eff := [(77, some (.arr 3 1 true (v3.1.Last.map (D.int .i64)))), (78, some (.arr 68 3 true (v3.2.1.map TTook.d)))]) (nw := (77, 154)) [] rfl rfl rfl rfl rfl (za1 (ze7 (zep (za0 rfl (za0 rfl (za0 rfl (za0 rfl (za0 rfl (za0 (zdf (zh4 .i64) (by first | rfl | (simp only [go_sem, Nat.reduceBEq]; rfl)) (by first | rfl | (simp; done) | (simp <;> omega))) zc1))))))) trivial) (za1 rfl (za1 rfl za7))) rfl (zcy 77 (lb rfl) (zni (WkL.cons (Wk.agg (WkL.cons (Wk.refl _) (WkL.cons Wk.iz (WkL.cons Wk.iz (WkL.cons Wk.iz (WkL.cons Wk.iz (WkL.cons (Wk.refl _) (WkL.refl _)))))))) (WkL.cons (Wk.refl _) (WkL.cons (Wk.agg (WkL.cons (Wk.refl _) (WkL.cons (Wk.refl _) (WkL.cons Wk.iz (WkL.cons (Wk.refl _) (WkL.cons (Wk.refl _) (WkL.cons (Wk.refl _) (WkL.cons (Wk.refl _) (WkL.cons (Wk.refl _) (WkL.cons Wk.iz (WkL.cons (Wk.refl _) (WkL.cons (Wk.refl _) (WkL.cons (Wk.refl _) (WkL.refl _)))))))))))))) (WkL.refl _)))) (ze0 v1 0 v2 v3 hv3))) (zb8 rfl rfl (zcp zcs _ _ _) (zb8 rfl rfl (zcp zhj _ _ _) zdl)) (by intro i hi; simp [D.ids, D.idsL] at hi <;> omega) rfl ⟨lb rfl, lb rfl⟩ ?_
 refine .rn 8 ?_
 refine .nn ?_
 obtain ⟨v4, hv4, h⟩ := bind_some h
 obtain ⟨v5, hv5, h⟩ := bind_some h
 refine .seq (.rg zS [1, 3] ?_)
 refine .rd 1 ?_
 refine .cl (ze2 5 v4 hv4) ?_
 refine .rd 0 ?_
 refine .ncall (r := .tuple [.agg [.int .i64 v5.1.Skeen.Clock, .imm 7 (v5.1.Skeen.Waits.map TWait.d) 13, .imm 2 (v5.1.Skeen.Done.map TStamp.d) 13, .imm 4 (v5.1.Stream.Topics.map TTopic.d) 13, .imm 1 (v5.1.Stream.Commits.map dL_inti64) 13, .ref 155 1 0 v5.1.Last.length (some uC)], .ref 156 3 0 v5.2.1.length (some uC), .int .i64 v5.2.2]) (eff := [(155, some (.arr 3 1 true (v5.1.Last.map (D.int .i64)))), (156, some (.arr 68 3 true (v5.2.1.map TTook.d)))]) (nw := (155, 232)) [] rfl rfl rfl rfl rfl (za1 (ze7 (zep (za0 rfl (za0 rfl (za0 rfl (za0 rfl (za0 rfl (za0 (zdf (zh4 .i64) (by first | rfl | (simp only [go_sem, Nat.reduceBEq]; rfl)) (by first | rfl | (simp; done) | (simp <;> omega))) zc1))))))) trivial) (za1 rfl (za1 rfl za7))) rfl (zcy 155 (lb rfl) (zni (WkL.cons (Wk.agg (WkL.cons (Wk.refl _) (WkL.cons Wk.iz (WkL.cons Wk.iz (WkL.cons Wk.iz (WkL.cons Wk.iz (WkL.cons (Wk.refl _) (WkL.refl _)))))))) (WkL.cons (Wk.refl _) (WkL.cons (Wk.agg (WkL.cons (Wk.refl _) (WkL.cons (Wk.refl _) (WkL.cons Wk.iz (WkL.cons (Wk.refl _) (WkL.cons (Wk.refl _) (WkL.cons (Wk.refl _) (WkL.cons (Wk.refl _) (WkL.cons (Wk.refl _) (WkL.cons Wk.iz (WkL.cons (Wk.refl _) (WkL.cons (Wk.refl _) (WkL.cons (Wk.refl _) (WkL.refl _)))))))))))))) (WkL.refl _)))) (ze0 v3.1 0 v4 v5 hv5))) (zb8 rfl rfl (zcp zcs _ _ _) (zb8 rfl rfl (zcp zhj _ _ _) zdl)) (by intro i hi; simp [D.ids, D.idsL] at hi <;> omega) rfl ⟨lb rfl, lb rfl⟩ ?_
 refine .rd 8 ?_
 refine .nd ?_
 obtain ⟨v6, hv6, h⟩ := bind_some h
 obtain ⟨v7, hv7, h⟩ := bind_some h
 refine .seq (.rg zS [1, 3, 4, 6] ?_)
 refine .rd 1 ?_
 refine .cl (ze2 4 v6 hv6) ?_
 refine .rd 0 ?_
 refine .ncall (r := .tuple [.agg [.int .i64 v7.1.Skeen.Clock, .imm 7 (v7.1.Skeen.Waits.map TWait.d) 13, .imm 2 (v7.1.Skeen.Done.map TStamp.d) 13, .imm 4 (v7.1.Stream.Topics.map TTopic.d) 13, .imm 1 (v7.1.Stream.Commits.map dL_inti64) 13, .ref 233 1 0 v7.1.Last.length (some uC)], .ref 234 3 0 v7.2.1.length (some uC), .int .i64 v7.2.2]) (eff := [(233, some (.arr 3 1 true (v7.1.Last.map (D.int .i64)))), (234, some (.arr 68 3 true (v7.2.1.map TTook.d)))]) (nw := (233, 310)) [] rfl rfl rfl rfl rfl (za1 (ze7 (zep (za0 rfl (za0 rfl (za0 rfl (za0 rfl (za0 rfl (za0 (zdf (zh4 .i64) (by first | rfl | (simp only [go_sem, Nat.reduceBEq]; rfl)) (by first | rfl | (simp; done) | (simp <;> omega))) zc1))))))) trivial) (za1 rfl (za1 rfl za7))) rfl (zcy 233 (lb rfl) (zni (WkL.cons (Wk.agg (WkL.cons (Wk.refl _) (WkL.cons Wk.iz (WkL.cons Wk.iz (WkL.cons Wk.iz (WkL.cons Wk.iz (WkL.cons (Wk.refl _) (WkL.refl _)))))))) (WkL.cons (Wk.refl _) (WkL.cons (Wk.agg (WkL.cons (Wk.refl _) (WkL.cons (Wk.refl _) (WkL.cons Wk.iz (WkL.cons (Wk.refl _) (WkL.cons (Wk.refl _) (WkL.cons (Wk.refl _) (WkL.cons (Wk.refl _) (WkL.cons (Wk.refl _) (WkL.cons Wk.iz (WkL.cons (Wk.refl _) (WkL.cons (Wk.refl _) (WkL.cons (Wk.refl _) (WkL.refl _)))))))))))))) (WkL.refl _)))) (ze0 v3.1 0 v6 v7 hv7))) (zb8 rfl rfl (zcp zcs _ _ _) (zb8 rfl rfl (zcp zhj _ _ _) zdl)) (by intro i hi; simp [D.ids, D.idsL] at hi <;> omega) rfl ⟨lb rfl, lb rfl⟩ ?_
 refine .rd 8 ?_
 refine .nd ?_
 obtain ⟨k1, h⟩ := zaz h
 obtain ⟨k2, h⟩ := zaz h
 obtain ⟨v8, hv8, h⟩ := bind_some h
 obtain ⟨v9, hv9, h⟩ := bind_some h
 refine .seqM 311 (fun (_ : Unit) => ⟨[(0, .bool ((((((((v3.2.2 == 0) && (v5.2.2 == 0)) && (v7.2.2 == 0)) && ((v3.1.Last.length : Int) == 6)) && ((v3.1.Last.getD 0 default) == 6)) && ((v3.1.Last.getD 1 default) == 0)) && v8) && v9))], [], 311⟩) (fun _ => True) (lb rfl) ?_ (fun _ _ => ?_)
 have hall := sj h
 rw [hr] at hall
 simp only [Bool.and_eq_true, Bool.or_eq_true, beq_iff_eq, decide_eq_true_eq, Bool.not_eq_true'] at hall
 have hgd : (((v3.2.2 = 0) /\ (v5.2.2 = 0)) /\ (v7.2.2 = 0)) /\ ((v3.1.Last.length : Int) = 6) := by first | (simp only [hall]; done) | (simp [hall]; done) | grind
 have eg10 := ai (zec (D.int .i64) v3.1.Last 0 (k1 hgd)) (zwj (D.int .i64) v3.1.Last 0 0 rfl (k1 hgd))
 have hgd : ((((v3.2.2 = 0) /\ (v5.2.2 = 0)) /\ (v7.2.2 = 0)) /\ ((v3.1.Last.length : Int) = 6)) /\ ((v3.1.Last.getD 0 default) = 6) := by first | (simp only [hall]; done) | (simp [hall]; done) | grind
 have eg20 := ai (zec (D.int .i64) v3.1.Last 1 (k2 hgd)) (zwj (D.int .i64) v3.1.Last 1 1 rfl (k2 hgd))
 refine .rg zS [1, 3, 4, 6, 7, 9] ?_
 refine .rnx 6 (ai eg10 eg20) ?_
 refine .rnx 6 (ai eg10 eg20) ?_
 refine .rnx 6 (ai eg10 eg20) ?_
 refine .rnx 6 (ai eg10 eg20) ?_
 refine .rnx 6 (ai eg10 eg20) ?_
 refine .rnx 3 (ai eg10 eg20) ?_
 refine .glcall (r := .bool v8) [] rfl rfl rfl rfl rfl (fun hg => ⟨[], [.agg [.int .i64 v3.1.Skeen.Clock, .imm 7 (v3.1.Skeen.Waits.map TWait.d) 13, .imm 2 (v3.1.Skeen.Done.map TStamp.d) 13, .imm 4 (v3.1.Stream.Topics.map TTopic.d) 13, .imm 1 (v3.1.Stream.Commits.map dL_inti64) 13, .ref 77 1 0 v3.1.Last.length (some uC)], .agg [.int .i64 v5.1.Skeen.Clock, .imm 7 (v5.1.Skeen.Waits.map TWait.d) 13, .imm 2 (v5.1.Skeen.Done.map TStamp.d) 13, .imm 4 (v5.1.Stream.Topics.map TTopic.d) 13, .imm 1 (v5.1.Stream.Commits.map dL_inti64) 13, .ref 155 1 0 v5.1.Last.length (some uC)]], _, rfl, gd hg, (za1 (ze7 (zep (za0 rfl (za0 rfl (za0 rfl (za0 rfl (za0 rfl (za0 (zdf (zh4 .i64) (by first | rfl | (simp only [go_sem, Nat.reduceBEq]; rfl)) (by first | rfl | (simp; done) | (simp <;> omega))) zc1))))))) trivial) (za1 (ze7 (zep (za0 rfl (za0 rfl (za0 rfl (za0 rfl (za0 rfl (za0 (zdf (zh4 .i64) (by first | rfl | (simp only [go_sem, Nat.reduceBEq]; rfl)) (by first | rfl | (simp; done) | (simp <;> omega))) zc1))))))) trivial) za7)), rfl, (zgg (WkL.cons (Wk.agg (WkL.cons (Wk.refl _) (WkL.cons Wk.iz (WkL.cons Wk.iz (WkL.cons Wk.iz (WkL.cons Wk.iz (WkL.cons (Wk.refl _) (WkL.refl _)))))))) (WkL.cons (Wk.agg (WkL.cons (Wk.refl _) (WkL.cons Wk.iz (WkL.cons Wk.iz (WkL.cons Wk.iz (WkL.cons Wk.iz (WkL.cons (Wk.refl _) (WkL.refl _)))))))) (WkL.refl _))) (zfa v3.1 v5.1 v8 (za4 hv8 hg)))⟩) ?_
 refine .rnx 4 (ai eg10 eg20) ?_
 refine .glcall (r := .bool v9) [] rfl rfl rfl rfl rfl (fun hg => ⟨[], [.agg [.int .i64 v3.1.Skeen.Clock, .imm 7 (v3.1.Skeen.Waits.map TWait.d) 13, .imm 2 (v3.1.Skeen.Done.map TStamp.d) 13, .imm 4 (v3.1.Stream.Topics.map TTopic.d) 13, .imm 1 (v3.1.Stream.Commits.map dL_inti64) 13, .ref 77 1 0 v3.1.Last.length (some uC)], .agg [.int .i64 v7.1.Skeen.Clock, .imm 7 (v7.1.Skeen.Waits.map TWait.d) 13, .imm 2 (v7.1.Skeen.Done.map TStamp.d) 13, .imm 4 (v7.1.Stream.Topics.map TTopic.d) 13, .imm 1 (v7.1.Stream.Commits.map dL_inti64) 13, .ref 233 1 0 v7.1.Last.length (some uC)]], _, rfl, gd hg, (za1 (ze7 (zep (za0 rfl (za0 rfl (za0 rfl (za0 rfl (za0 rfl (za0 (zdf (zh4 .i64) (by first | rfl | (simp only [go_sem, Nat.reduceBEq]; rfl)) (by first | rfl | (simp; done) | (simp <;> omega))) zc1))))))) trivial) (za1 (ze7 (zep (za0 rfl (za0 rfl (za0 rfl (za0 rfl (za0 rfl (za0 (zdf (zh4 .i64) (by first | rfl | (simp only [go_sem, Nat.reduceBEq]; rfl)) (by first | rfl | (simp; done) | (simp <;> omega))) zc1))))))) trivial) za7)), rfl, (zgg (WkL.cons (Wk.agg (WkL.cons (Wk.refl _) (WkL.cons Wk.iz (WkL.cons Wk.iz (WkL.cons Wk.iz (WkL.cons Wk.iz (WkL.cons (Wk.refl _) (WkL.refl _)))))))) (WkL.cons (Wk.agg (WkL.cons (Wk.refl _) (WkL.cons Wk.iz (WkL.cons Wk.iz (WkL.cons Wk.iz (WkL.cons Wk.iz (WkL.cons (Wk.refl _) (WkL.refl _)))))))) (WkL.refl _))) (zfa v3.1 v7.1 v9 (za4 hv9 hg)))⟩) ?_
 refine .rnx 2 (ai eg10 eg20) ?_
 refine .nn ?_
 refine ⟨(), ?_, trivial⟩
 exact .m [0] [] []
 have hq := sj h
 clear hr
 subst r
 exact .rr
@[go_sem] def ya4b (a0 : TTopic) (n1 : Int) : St := ⟨[(1, .ptr 0 0), (3, .int .i64 n1)], [(0, .box [.int .i64 a0.Base, .int .i64 a0.Next, .int .i64 a0.Mark, .imm 4 (a0.Entries.map TEntry.d) 4])], 1⟩
@[go_sem] def ya4a (a0 : TTopic) (n2 : Int) (n3 : Int) : St := ⟨[(1, .ptr 0 0), (3, .int .i64 n2), (4, .int .i64 n3)], [(0, .box [.int .i64 a0.Base, .int .i64 a0.Next, .int .i64 a0.Mark, .imm 4 (a0.Entries.map TEntry.d) 4])], 1⟩
theorem zj8 (a0 : TTopic) (r : Bool) (h : zda a0 = some r) : zaq Tryz.prog 63 [.agg [.int .i64 a0.Base, .int .i64 a0.Next, .int .i64 a0.Mark, .imm 4 (a0.Entries.map TEntry.d) 4]] (.bool r) := by
 refine za2 Tryz.tmOk 3 Tryz.func63 rfl (by decide) rfl rfl (lb rfl) ?_
 intro hwf
 unfold zda at h
 refine .seq (.pl zS [0] ?_)
 refine .seq (.pl zS [1] ?_)
 obtain ⟨x1, hx1, h⟩ := bind_some h
 refine .seqM 1 (fun (j : Int) => ya4b a0 j) (fun j => x1 = j) (lb rfl) ?_ ?_
 refine .seq (.pl zS [1, 3] ?_)
 refine .block ?_
 refine .loopG 1 (fun (j : Nat × Int × Int) => ya4a a0 j.2.1 j.2.2) (fun j => zaw a0 j.1 j.2.1 j.2.2 = some x1) (fun j => j.1) (a0.Entries.length + 1, 0, 0) (lb rfl) ?_ hx1 ?_
 exact .m [1, 3, 4] [0] []
 rintro ⟨fu1, n2, n3⟩ hx1
 simp only [ya4a]
 try simp only at hx1
 obtain ⟨fu1, rfl⟩ : ∃ k, fu1 = k + 1 := by cases fu1 with | zero => (rw [zaw] at hx1; cases hx1) | succ k => exact ⟨k, rfl⟩
 rw [zaw] at hx1
 refine .seq (.seq (.rg zS [1, 3, 4] ?_))
 refine .rn 6 ?_
 refine .rn 3 ?_
 refine .nn ?_
 refine .cd (fun hc1 => ?_) (fun hc1 => ?_)
 replace hx1 := za4 hx1 hc1
 refine .skip (.seq (.block ?_))
 obtain ⟨k1, hx1⟩ := zaz hx1
 have e1 := zbn TEntry.d a0.Entries n3
 have e2 := zbn TEntry.d a0.Entries n3
 replace e1 := e1 k1
 replace e2 := e2 k1
 refine .rg zS [1, 3, 4] ?_
 refine .rdx 6 (ai e1 e2) ?_
 refine .rdx 6 (ai e1 e2) ?_
 refine .rdx 7 (ai e1 e2) ?_
 refine .nd ?_
 refine .pl zS [1, 3, 4] ?_
 refine ⟨(fu1, _, _), ?_, hx1, by dsimp only; omega⟩
 exact .m [1, 3, 4] [0] []
 replace hx1 := za9 hx1 hc1
 refine .exit ?_
 refine ⟨_, ?_, (sj hx1).symm⟩
 exact .m [1, 3] [0] []
 rintro n1 hj1
 subst x1
 try dsimp only at h
 simp only [ya4b]
 refine .seq (.rg zS [1, 3] ?_)
 refine .rn 6 ?_
 refine .rn 3 ?_
 refine .nn ?_
 obtain rfl := sj h
 exact .rr
@[go_sem] def ya49 (n1 : Int) : St := ⟨[(3, .int .i64 n1)], [], 0⟩
@[go_sem] def ya48 (a0 : List (List Int)) (n3 : Nat) (n2 : Int) : St := ⟨[(0, .imm 1 (a0.map dL_inti64) 4), (3, .int .i64 n2), (4, .int .i64 (n3 : Int))], [], 0⟩
theorem zj7 (a0 : List (List Int)) (r : Bool) (h : zd9 a0 = some r) : zaq Tryz.prog 64 [.imm 1 (a0.map dL_inti64) 4] (.bool r) := by
 refine za2 Tryz.tmOk 2 Tryz.func64 rfl (by decide) rfl rfl (lb rfl) ?_
 intro hwf
 unfold zd9 at h
 refine .seq (.pl zS [0] ?_)
 refine .seq (.pl zS [0] ?_)
 obtain ⟨x1, hx1, h⟩ := bind_some h
 refine .seqM 0 (fun (j : Int) => ya49 j) (fun j => x1 = j) (lb rfl) ?_ ?_
 refine .seq (.pl zS [0, 3] ?_)
 refine .block ?_
 refine .loopG 0 (fun (j : Nat × Int) => ya48 a0 j.1 j.2) (fun j => j.1 <= a0.length /\ zb5 (a0.drop j.1) j.2 = some x1) (fun j => a0.length - j.1) (0, 0) (lb rfl) ?_ ⟨Nat.zero_le _, hx1⟩ ?_
 exact .m [0, 3, 4] [] []
 rintro ⟨n3, n2⟩ ⟨hi1, hx1⟩
 simp only [ya48]
 simp only at hi1 hx1
 refine .wf 0 (.imm 1 (a0.map dL_inti64) 4) rfl ?_
 intro hln3
 replace hln3 : (a0.length : Int) <= 9223372036854775807 := by simp only [wf, wfL, IntKind.max, IntKind.min, IntKind.signed, IntKind.bits, List.length_map] at hln3; first | exact hln3.2 | exact hln3.1 | (simp at hln3; omega)
 refine .seq (.seq (.pl zS [0, 3, 4] ?_))
 refine .cd (fun hc1 => ?_) (fun hc1 => ?_)
 have h1 : n3 < a0.length := by have hq := hc1; simp at hq; omega
 have hwn3 : wr .i64 ((n3 : Int) + 1) = ((n3 + 1 : Nat) : Int) := zdg h1 hln3
 have hpn3 : wr .i64 ((n3 : Int) - 1) = (n3 : Int) - 1 := zdh h1 hln3
 rw [List.drop_eq_getElem_cons h1, zdi] at hx1
 replace hx1 := za4 hx1 hc1
 refine .skip (.seq (.block ?_))
 have e1 := zd0 dL_inti64 a0 n3 h1
 refine .rg zS [0, 3, 4] ?_
 refine .rnx 6 (ai e1 hwn3) ?_
 refine .rnx 3 (ai e1 hwn3) ?_
 refine .nn ?_
 refine .plx zS hwn3 [0, 3, 4] ?_
 refine ⟨(n3 + 1, _), ?_, ⟨by omega, hx1⟩, by dsimp only; omega⟩
 exact .m [0, 3, 4] [] []
 by_cases h2 : n3 < a0.length
 rw [List.drop_eq_getElem_cons h2, zdi] at hx1
 replace hx1 := ya33 hx1 (by have hq := hc1; simp at hq ⊢; first | exact hq (by omega) | omega | grind)
 refine .exit ?_
 refine ⟨_, ?_, (sj hx1).symm⟩
 exact .m [3] [] []
 rw [List.drop_of_length_le (by omega), zhk] at hx1
 refine .exit ?_
 refine ⟨_, ?_, (sj hx1).symm⟩
 exact .m [3] [] []
 rintro n1 hj1
 subst x1
 try dsimp only at h
 simp only [ya49]
 refine .seq (.pl zS [3] ?_)
 obtain rfl := sj h
 exact .rr
@[go_sem] def ya47 (a0 : TStream) : St := ⟨[(1, .ptr 0 0)], [(0, .box [.imm 4 (a0.Topics.map TTopic.d) 4, .imm 1 (a0.Commits.map dL_inti64) 4])], 1⟩
@[go_sem] def ya46 (a0 : TStream) (n1 : Int) : St := ⟨[(1, .ptr 0 0), (3, .int .i64 n1)], [(0, .box [.imm 4 (a0.Topics.map TTopic.d) 4, .imm 1 (a0.Commits.map dL_inti64) 4])], 1⟩
theorem zj6 (a0 : TStream) (r : Bool) (h : zd8 a0 = some r) : zaq Tryz.prog 30 [.agg [.imm 4 (a0.Topics.map TTopic.d) 4, .imm 1 (a0.Commits.map dL_inti64) 4]] (.bool r) := by
 refine za2 Tryz.tmOk 3 Tryz.func30 rfl (by decide) rfl rfl (lb rfl) ?_
 intro hwf
 unfold zd8 at h
 refine .seq (.pl zS [0] ?_)
 obtain ⟨x1, hx1, h⟩ := bind_some h
 refine .seqM 1 (fun (j : Unit) => ya47 a0) (fun j => x1 = (.inr j)) (lb rfl) ?_ ?_
 refine .seq (.pl zS [1] ?_)
 refine .block ?_
 refine .loopG 1 (fun (j : Nat × Int) => ya46 a0 j.2) (fun j => zav a0 j.1 j.2 = some x1) (fun j => j.1) (51, 0) (lb rfl) ?_ hx1 ?_
 exact .m [1, 3] [0] []
 rintro ⟨fu1, n1⟩ hx1
 simp only [ya46]
 try simp only at hx1
 obtain ⟨fu1, rfl⟩ : ∃ k, fu1 = k + 1 := by cases fu1 with | zero => (rw [zav] at hx1; cases hx1) | succ k => exact ⟨k, rfl⟩
 rw [zav] at hx1
 refine .seq (.seq (.rg zS [1, 3] ?_))
 refine .rn 6 ?_
 refine .rn 3 ?_
 refine .nn ?_
 refine .cd (fun hc1 => ?_) (fun hc1 => ?_)
 replace hx1 := za4 hx1 hc1
 refine .skip (.seq (.block (.seq ?_)))
 obtain ⟨k1, hx1⟩ := zaz hx1
 obtain ⟨v1, hv1, hx1⟩ := bind_some hx1
 have e1 := zbn TTopic.d a0.Topics n1
 replace e1 := e1 k1
 refine .rg zS [1, 3] ?_
 refine .rnx 5 e1 ?_
 refine .cl (zj8 (a0.Topics.getD n1.toNat default) v1 hv1) ?_
 refine .nn ?_
 refine .cd (fun hc2 => ?_) (fun hc2 => ?_)
 replace hx1 := za4 hx1 hc2
 refine .seq (.pl zS [] ?_)
 have hq := sj hx1
 subst x1
 try dsimp only at h
 obtain rfl := sj h
 exact .rr
 replace hx1 := za9 hx1 hc2
 refine .skip (.pl zS [1, 3] ?_)
 refine ⟨(fu1, _), ?_, hx1, by dsimp only; omega⟩
 exact .m [1, 3] [0] []
 replace hx1 := za9 hx1 hc1
 refine .exit ?_
 refine ⟨_, ?_, (sj hx1).symm⟩
 exact .m [1] [0] []
 rintro ⟨⟩ hj1
 subst x1
 try dsimp only at h
 simp only [ya47]
 obtain ⟨v2, hv2, h⟩ := bind_some h
 refine .seq (.rg zS [1] ?_)
 refine .rn 7 ?_
 refine .gcall rfl rfl rfl rfl rfl (fun hg => ⟨[], [.imm 1 (a0.Commits.map dL_inti64) 4], _, rfl, gd hg, rfl, (zj7 a0.Commits v2 (za4 hv2 hg))⟩) ?_
 refine .rn 2 ?_
 refine .nn ?_
 obtain rfl := sj h
 exact .rr
theorem zj5 (a0 : THome) (r : Bool) (h : zd7 a0 = some r) : zaq Tryz.prog 8 [.agg [.int .i64 a0.Skeen.Clock, .imm 7 (a0.Skeen.Waits.map TWait.d) 4, .imm 2 (a0.Skeen.Done.map TStamp.d) 4, .imm 4 (a0.Stream.Topics.map TTopic.d) 4, .imm 1 (a0.Stream.Commits.map dL_inti64) 4, .imm 1 (a0.Last.map (D.int .i64)) 4]] (.bool r) := by
 refine za2 Tryz.tmOk 3 Tryz.func8 rfl (by decide) rfl rfl (lb rfl) ?_
 intro hwf
 unfold zd7 at h
 refine .seq (.pl zS [0] ?_)
 obtain ⟨v1, hv1, h⟩ := bind_some h
 obtain ⟨v2, hv2, h⟩ := bind_some h
 refine .seq (.rg zS [1] ?_)
 refine .rn 2 ?_
 refine .cl (zj9 a0.Skeen v1 hv1) ?_
 refine .rn 3 ?_
 refine .gcall rfl rfl rfl rfl rfl (fun hg => ⟨[], [.agg [.imm 4 (a0.Stream.Topics.map TTopic.d) 4, .imm 1 (a0.Stream.Commits.map dL_inti64) 4]], _, rfl, gd hg, rfl, (zj6 a0.Stream v2 (za4 hv2 hg))⟩) ?_
 refine .rn 8 ?_
 refine .nn ?_
 obtain rfl := sj h
 exact .rr
theorem zg2 (a0 : TCommand) (r : Bool) (h : zcg a0 = some r) : zaq Tryz.prog 9 [.agg [.int .u8 a0.Kind, .int .i64 a0.Message.Id, .imm 1 (a0.Message.Groups.map (D.int .i64)) 4, .int .i64 a0.Message.Topic, .str a0.Message.Key, .str a0.Message.Body, .int .i64 a0.Id, .int .i64 a0.Time, .imm 1 (a0.Members.map (D.int .i64)) 4, .int .i64 a0.Topic, .int .i64 a0.Who, .int .i64 a0.N]] (.bool r) := by
 refine za2 Tryz.tmOk 3 Tryz.func9 rfl (by decide) rfl rfl (lb rfl) ?_
 intro hwf
 unfold zcg at h
 refine .seq (.pl zS [0] ?_)
 refine .seq (.rg zS [1] ?_)
 refine .rn 6 ?_
 refine .rn 6 ?_
 refine .rn 6 ?_
 refine .rn 8 ?_
 refine .nn ?_
 obtain rfl := sj h
 exact .rr
end Go.Proofs
end
section
namespace Go.Proofs
open Go.Tm
set_option linter.unusedVariables false
def zd1 (a0 : THome) (a1 : Int) (a2 : TCommand) (a3 : TCommand) : Option Bool :=
 Option.bind (ze3 ) fun v1 =>
 if v1 = true then
 Option.bind (zd7 a0) fun v2 =>
 Option.bind (if ¬ (v2 = true) then zcg a2 else some default) fun v3 =>
 Option.bind (if ¬ ((v2 = true) \/ (v3 = true)) then zcg a3 else some default) fun v4 =>
 if (((v2 = true) \/ (v3 = true)) \/ (v4 = true)) \/ (¬ (v1 = true)) then
 some v1
 else
 Option.bind (zde a0 a1 a2) fun v5 =>
 if ¬ (v5.2.2 = 0) then
 Option.bind (if (v5.2.1.length : Int) = 0 then zdx v5.1 (⟨(⟨0, [], []⟩ : TSkeen), (⟨[], []⟩ : TStream), []⟩ : THome) else some default) fun v6 =>
 some (((v5.2.1.length : Int) == 0) && v6)
 else
 Option.bind (if ¬ (a2.Kind < 4) then zei v5.1 else some default) fun v7 =>
 if (a2.Kind < 4) \/ (¬ (v7 = 0)) then
 Option.bind (zei v5.1) fun v8 =>
 some (v8 == 0)
 else
 Option.bind (zde v5.1 a1 a2) fun v9 =>
 Option.bind (if ¬ (((¬ (v9.2.2 = 0)) \/ ((v5.2.1.length : Int) > 0)) \/ ((v9.2.1.length : Int) > 0)) then zdx v5.1 v9.1 else some default) fun v10 =>
 if (((¬ (v9.2.2 = 0)) \/ ((v5.2.1.length : Int) > 0)) \/ ((v9.2.1.length : Int) > 0)) \/ (¬ (v10 = true)) then
 some false
 else
 Option.bind (zde v5.1 a1 a3) fun v11 =>
 if (((¬ (v11.2.2 = 0)) \/ (a3.Kind < 4)) \/ (¬ ((wr .i64 (a3.Id.tdiv 1048576)) = (wr .i64 (a2.Id.tdiv 1048576))))) \/ (a3.Id > a2.Id) then
 some true
 else
 Option.bind (zdx v11.1 v5.1) fun v12 =>
 some v12
 else none
end Go.Proofs
end
section
namespace Go.Proofs
open Go.Tm Go.RowKit Go.WideShapes
set_option maxRecDepth 100000
set_option maxHeartbeats 4000000
set_option linter.unusedSimpArgs false
set_option linter.unusedVariables false
theorem zhr (a0 : THome) (a1 : Int) (a2 : TCommand) (a3 : TCommand) (r : Bool) (h : zd1 a0 a1 a2 a3 = some r) : zaq Tryz.prog 4 [.agg [.int .i64 a0.Skeen.Clock, .imm 7 (a0.Skeen.Waits.map TWait.d) 4, .imm 2 (a0.Skeen.Done.map TStamp.d) 4, .imm 4 (a0.Stream.Topics.map TTopic.d) 4, .imm 1 (a0.Stream.Commits.map dL_inti64) 4, .imm 1 (a0.Last.map (D.int .i64)) 4], .int .i64 a1, .agg [.int .u8 a2.Kind, .int .i64 a2.Message.Id, .imm 1 (a2.Message.Groups.map (D.int .i64)) 4, .int .i64 a2.Message.Topic, .str a2.Message.Key, .str a2.Message.Body, .int .i64 a2.Id, .int .i64 a2.Time, .imm 1 (a2.Members.map (D.int .i64)) 4, .int .i64 a2.Topic, .int .i64 a2.Who, .int .i64 a2.N], .agg [.int .u8 a3.Kind, .int .i64 a3.Message.Id, .imm 1 (a3.Message.Groups.map (D.int .i64)) 4, .int .i64 a3.Message.Topic, .str a3.Message.Key, .str a3.Message.Body, .int .i64 a3.Id, .int .i64 a3.Time, .imm 1 (a3.Members.map (D.int .i64)) 4, .int .i64 a3.Topic, .int .i64 a3.Who, .int .i64 a3.N]] (.bool r) := by
 refine za2 Tryz.tmOk 313 Tryz.func4 rfl (by decide) rfl rfl (lb rfl) ?_
 intro hwf
 unfold zd1 at h
 refine .seq (.pl zS [0, 1, 2, 3] ?_)
 obtain ⟨v1, hv1, h⟩ := bind_some h
 obtain ⟨k1, h⟩ := zaz h
 refine .seq (.rg zS [1, 4, 6, 7] ?_)
 refine .cl (zja  v1 hv1 k1) ?_
 refine .rn 1 ?_
 refine .nn ?_
 refine .seq ?_
 obtain ⟨v2, hv2, h⟩ := bind_some h
 obtain ⟨v3, hv3, h⟩ := bind_some h
 obtain ⟨v4, hv4, h⟩ := bind_some h
 refine .seq (.rg zS [1, 4, 6, 7, 9] ?_)
 refine .rn 1 ?_
 refine .cl (zj5 a0 v2 hv2) ?_
 refine .rn 2 ?_
 refine .gcall rfl rfl rfl rfl rfl (fun hg => ⟨[], [.agg [.int .u8 a2.Kind, .int .i64 a2.Message.Id, .imm 1 (a2.Message.Groups.map (D.int .i64)) 4, .int .i64 a2.Message.Topic, .str a2.Message.Key, .str a2.Message.Body, .int .i64 a2.Id, .int .i64 a2.Time, .imm 1 (a2.Members.map (D.int .i64)) 4, .int .i64 a2.Topic, .int .i64 a2.Who, .int .i64 a2.N]], _, rfl, gd hg, rfl, (zg2 a2 v3 (za4 hv3 hg))⟩) ?_
 refine .rn 3 ?_
 refine .gcall rfl rfl rfl rfl rfl (fun hg => ⟨[], [.agg [.int .u8 a3.Kind, .int .i64 a3.Message.Id, .imm 1 (a3.Message.Groups.map (D.int .i64)) 4, .int .i64 a3.Message.Topic, .str a3.Message.Key, .str a3.Message.Body, .int .i64 a3.Id, .int .i64 a3.Time, .imm 1 (a3.Members.map (D.int .i64)) 4, .int .i64 a3.Topic, .int .i64 a3.Who, .int .i64 a3.N]], _, rfl, gd hg, rfl, (zg2 a3 v4 (za4 hv4 hg))⟩) ?_
 refine .rn 5 ?_
 refine .nn ?_
 refine .cd (fun hc1 => ?_) (fun hc1 => ?_)
 replace h := za4 h hc1
 refine .seq (.pl zS [9] ?_)
 obtain rfl := sj h
 exact .rr
 replace h := za9 h hc1
 refine .skip ?_
 obtain ⟨v5, hv5, h⟩ := bind_some h
 refine .seq (.rg zS [1, 4, 6, 7] ?_)
 refine .rn 3 ?_
 refine .ncall (r := .tuple [.agg [.int .i64 v5.1.Skeen.Clock, .imm 7 (v5.1.Skeen.Waits.map TWait.d) 13, .imm 2 (v5.1.Skeen.Done.map TStamp.d) 13, .imm 4 (v5.1.Stream.Topics.map TTopic.d) 13, .imm 1 (v5.1.Stream.Commits.map dL_inti64) 13, .ref 77 1 0 v5.1.Last.length (some uC)], .ref 78 3 0 v5.2.1.length (some uC), .int .i64 v5.2.2]) (eff := [(77, some (.arr 3 1 true (v5.1.Last.map (D.int .i64)))), (78, some (.arr 68 3 true (v5.2.1.map TTook.d)))]) (nw := (77, 154)) [] rfl rfl rfl rfl rfl (za1 rfl (za1 rfl (za1 rfl za7))) rfl (zcy 77 (lb rfl) (ze0 a0 a1 a2 v5 hv5)) (zb8 rfl rfl (zcp zcs _ _ _) (zb8 rfl rfl (zcp zhj _ _ _) zdl)) (by intro i hi; simp [D.ids, D.idsL] at hi <;> omega) rfl ⟨lb rfl, lb rfl⟩ ?_
 refine .rn 8 ?_
 refine .nn ?_
 refine .seq (.seq (.pl zS [1, 6, 7, 10, 11, 12] ?_))
 refine .cd (fun hc2 => ?_) (fun hc2 => ?_)
 replace h := za4 h hc2
 obtain ⟨v6, hv6, h⟩ := bind_some h
 refine .seq (.rg zS [10, 11] ?_)
 refine .rn 6 ?_
 refine .glcall (r := .bool v6) [] rfl rfl rfl rfl rfl (fun hg => ⟨[], [.agg [.int .i64 v5.1.Skeen.Clock, .imm 7 (v5.1.Skeen.Waits.map TWait.d) 13, .imm 2 (v5.1.Skeen.Done.map TStamp.d) 13, .imm 4 (v5.1.Stream.Topics.map TTopic.d) 13, .imm 1 (v5.1.Stream.Commits.map dL_inti64) 13, .ref 77 1 0 v5.1.Last.length (some uC)], .agg [.int .i64 0, .imm 0 [] 0, .imm 0 [] 0, .imm 0 [] 0, .imm 0 [] 0, .imm 0 [] 0]], _, rfl, gd hg, (za1 (ze7 (zep (za0 rfl (za0 rfl (za0 rfl (za0 rfl (za0 rfl (za0 (zdf (zh4 .i64) (by first | rfl | (simp only [go_sem, Nat.reduceBEq]; rfl)) (by first | rfl | (simp; done) | (simp <;> omega))) zc1))))))) trivial) (za1 rfl za7)), rfl, (zgg (WkL.cons (Wk.agg (WkL.cons (Wk.refl _) (WkL.cons Wk.iz (WkL.cons Wk.iz (WkL.cons Wk.iz (WkL.cons Wk.iz (WkL.cons (Wk.refl _) (WkL.refl _)))))))) (WkL.cons (Wk.agg (WkL.cons (Wk.refl _) (WkL.cons (Wk.nil4 0 7 0 rfl) (WkL.cons (Wk.nil4 0 2 0 rfl) (WkL.cons (Wk.nil4 0 4 0 rfl) (WkL.cons (Wk.nil4 0 1 0 rfl) (WkL.cons (Wk.nil4 0 1 0 rfl) (WkL.refl _)))))))) (WkL.refl _))) (zfa v5.1 (⟨(⟨0, [], []⟩ : TSkeen), (⟨[], []⟩ : TStream), []⟩ : THome) v6 (za4 hv6 hg)))⟩) ?_
 refine .rn 2 ?_
 refine .nn ?_
 obtain rfl := sj h
 exact .rr
 replace h := za9 h hc2
 refine .skip (.seq ?_)
 obtain ⟨v7, hv7, h⟩ := bind_some h
 refine .seq (.rg zS [1, 6, 7, 10, 11] ?_)
 refine .rn 5 ?_
 refine .glcall (r := .int .i64 v7) [] rfl rfl rfl rfl rfl (fun hg => ⟨[], [.agg [.int .i64 v5.1.Skeen.Clock, .imm 7 (v5.1.Skeen.Waits.map TWait.d) 13, .imm 2 (v5.1.Skeen.Done.map TStamp.d) 13, .imm 4 (v5.1.Stream.Topics.map TTopic.d) 13, .imm 1 (v5.1.Stream.Commits.map dL_inti64) 13, .ref 77 1 0 v5.1.Last.length (some uC)]], _, rfl, gd hg, (za1 (ze7 (zep (za0 rfl (za0 rfl (za0 rfl (za0 rfl (za0 rfl (za0 (zdf (zh4 .i64) (by first | rfl | (simp only [go_sem, Nat.reduceBEq]; rfl)) (by first | rfl | (simp; done) | (simp <;> omega))) zc1))))))) trivial) za7), rfl, (zgg (WkL.cons (Wk.agg (WkL.cons (Wk.refl _) (WkL.cons Wk.iz (WkL.cons Wk.iz (WkL.cons Wk.iz (WkL.cons Wk.iz (WkL.cons (Wk.refl _) (WkL.refl _)))))))) (WkL.refl _)) (zg1 v5.1 v7 (za4 hv7 hg)))⟩) ?_
 refine .rn 2 ?_
 refine .nn ?_
 refine .cd (fun hc3 => ?_) (fun hc3 => ?_)
 replace h := za4 h hc3
 obtain ⟨v8, hv8, h⟩ := bind_some h
 refine .seq (.rg zS [10] ?_)
 refine .rn 1 ?_
 refine .lcall (r := .int .i64 v8) [] rfl rfl rfl rfl rfl (za1 (ze7 (zep (za0 rfl (za0 rfl (za0 rfl (za0 rfl (za0 rfl (za0 (zdf (zh4 .i64) (by first | rfl | (simp only [go_sem, Nat.reduceBEq]; rfl)) (by first | rfl | (simp; done) | (simp <;> omega))) zc1))))))) trivial) za7) rfl (zgg (WkL.cons (Wk.agg (WkL.cons (Wk.refl _) (WkL.cons Wk.iz (WkL.cons Wk.iz (WkL.cons Wk.iz (WkL.cons Wk.iz (WkL.cons (Wk.refl _) (WkL.refl _)))))))) (WkL.refl _)) (zg1 v5.1 v8 hv8)) ?_
 refine .rn 2 ?_
 refine .nn ?_
 obtain rfl := sj h
 exact .rr
 replace h := za9 h hc3
 refine .skip ?_
 obtain ⟨v9, hv9, h⟩ := bind_some h
 refine .seq (.rg zS [1, 6, 7, 10, 11] ?_)
 refine .rn 3 ?_
 refine .ncall (r := .tuple [.agg [.int .i64 v9.1.Skeen.Clock, .imm 7 (v9.1.Skeen.Waits.map TWait.d) 13, .imm 2 (v9.1.Skeen.Done.map TStamp.d) 13, .imm 4 (v9.1.Stream.Topics.map TTopic.d) 13, .imm 1 (v9.1.Stream.Commits.map dL_inti64) 13, .ref 155 1 0 v9.1.Last.length (some uC)], .ref 156 3 0 v9.2.1.length (some uC), .int .i64 v9.2.2]) (eff := [(155, some (.arr 3 1 true (v9.1.Last.map (D.int .i64)))), (156, some (.arr 68 3 true (v9.2.1.map TTook.d)))]) (nw := (155, 232)) [] rfl rfl rfl rfl rfl (za1 (ze7 (zep (za0 rfl (za0 rfl (za0 rfl (za0 rfl (za0 rfl (za0 (zdf (zh4 .i64) (by first | rfl | (simp only [go_sem, Nat.reduceBEq]; rfl)) (by first | rfl | (simp; done) | (simp <;> omega))) zc1))))))) trivial) (za1 rfl (za1 rfl za7))) rfl (zcy 155 (lb rfl) (zni (WkL.cons (Wk.agg (WkL.cons (Wk.refl _) (WkL.cons Wk.iz (WkL.cons Wk.iz (WkL.cons Wk.iz (WkL.cons Wk.iz (WkL.cons (Wk.refl _) (WkL.refl _)))))))) (WkL.cons (Wk.refl _) (WkL.cons (Wk.refl _) (WkL.refl _)))) (ze0 v5.1 a1 a2 v9 hv9))) (zb8 rfl rfl (zcp zcs _ _ _) (zb8 rfl rfl (zcp zhj _ _ _) zdl)) (by intro i hi; simp [D.ids, D.idsL] at hi <;> omega) rfl ⟨lb rfl, lb rfl⟩ ?_
 refine .rn 8 ?_
 refine .nn ?_
 refine .seq ?_
 obtain ⟨v10, hv10, h⟩ := bind_some h
 refine .seq (.rg zS [1, 6, 7, 10, 11, 13, 14, 15] ?_)
 refine .rn 6 ?_
 refine .rn 6 ?_
 refine .rn 3 ?_
 refine .glcall (r := .bool v10) [] rfl rfl rfl rfl rfl (fun hg => ⟨[], [.agg [.int .i64 v5.1.Skeen.Clock, .imm 7 (v5.1.Skeen.Waits.map TWait.d) 13, .imm 2 (v5.1.Skeen.Done.map TStamp.d) 13, .imm 4 (v5.1.Stream.Topics.map TTopic.d) 13, .imm 1 (v5.1.Stream.Commits.map dL_inti64) 13, .ref 77 1 0 v5.1.Last.length (some uC)], .agg [.int .i64 v9.1.Skeen.Clock, .imm 7 (v9.1.Skeen.Waits.map TWait.d) 13, .imm 2 (v9.1.Skeen.Done.map TStamp.d) 13, .imm 4 (v9.1.Stream.Topics.map TTopic.d) 13, .imm 1 (v9.1.Stream.Commits.map dL_inti64) 13, .ref 155 1 0 v9.1.Last.length (some uC)]], _, rfl, gd hg, (za1 (ze7 (zep (za0 rfl (za0 rfl (za0 rfl (za0 rfl (za0 rfl (za0 (zdf (zh4 .i64) (by first | rfl | (simp only [go_sem, Nat.reduceBEq]; rfl)) (by first | rfl | (simp; done) | (simp <;> omega))) zc1))))))) trivial) (za1 (ze7 (zep (za0 rfl (za0 rfl (za0 rfl (za0 rfl (za0 rfl (za0 (zdf (zh4 .i64) (by first | rfl | (simp only [go_sem, Nat.reduceBEq]; rfl)) (by first | rfl | (simp; done) | (simp <;> omega))) zc1))))))) trivial) za7)), rfl, (zgg (WkL.cons (Wk.agg (WkL.cons (Wk.refl _) (WkL.cons Wk.iz (WkL.cons Wk.iz (WkL.cons Wk.iz (WkL.cons Wk.iz (WkL.cons (Wk.refl _) (WkL.refl _)))))))) (WkL.cons (Wk.agg (WkL.cons (Wk.refl _) (WkL.cons Wk.iz (WkL.cons Wk.iz (WkL.cons Wk.iz (WkL.cons Wk.iz (WkL.cons (Wk.refl _) (WkL.refl _)))))))) (WkL.refl _))) (zfa v5.1 v9.1 v10 (za4 hv10 hg)))⟩) ?_
 refine .rn 2 ?_
 refine .nn ?_
 refine .cd (fun hc4 => ?_) (fun hc4 => ?_)
 replace h := za4 h hc4
 refine .seq (.pl zS [] ?_)
 obtain rfl := sj h
 exact .rr
 replace h := za9 h hc4
 refine .skip ?_
 obtain ⟨v11, hv11, h⟩ := bind_some h
 refine .seq (.rg zS [1, 6, 7, 10] ?_)
 refine .rn 3 ?_
 refine .ncall (r := .tuple [.agg [.int .i64 v11.1.Skeen.Clock, .imm 7 (v11.1.Skeen.Waits.map TWait.d) 13, .imm 2 (v11.1.Skeen.Done.map TStamp.d) 13, .imm 4 (v11.1.Stream.Topics.map TTopic.d) 13, .imm 1 (v11.1.Stream.Commits.map dL_inti64) 13, .ref 233 1 0 v11.1.Last.length (some uC)], .ref 234 3 0 v11.2.1.length (some uC), .int .i64 v11.2.2]) (eff := [(233, some (.arr 3 1 true (v11.1.Last.map (D.int .i64)))), (234, some (.arr 68 3 true (v11.2.1.map TTook.d)))]) (nw := (233, 310)) [] rfl rfl rfl rfl rfl (za1 (ze7 (zep (za0 rfl (za0 rfl (za0 rfl (za0 rfl (za0 rfl (za0 (zdf (zh4 .i64) (by first | rfl | (simp only [go_sem, Nat.reduceBEq]; rfl)) (by first | rfl | (simp; done) | (simp <;> omega))) zc1))))))) trivial) (za1 rfl (za1 rfl za7))) rfl (zcy 233 (lb rfl) (zni (WkL.cons (Wk.agg (WkL.cons (Wk.refl _) (WkL.cons Wk.iz (WkL.cons Wk.iz (WkL.cons Wk.iz (WkL.cons Wk.iz (WkL.cons (Wk.refl _) (WkL.refl _)))))))) (WkL.cons (Wk.refl _) (WkL.cons (Wk.refl _) (WkL.refl _)))) (ze0 v5.1 a1 a3 v11 hv11))) (zb8 rfl rfl (zcp zcs _ _ _) (zb8 rfl rfl (zcp zhj _ _ _) zdl)) (by intro i hi; simp [D.ids, D.idsL] at hi <;> omega) rfl ⟨lb rfl, lb rfl⟩ ?_
 refine .rn 8 ?_
 refine .nn ?_
 refine .seq (.seq (.rg zS [6, 7, 10, 16, 18] ?_))
 refine .rn 6 ?_
 refine .rn 6 ?_
 refine .rn 6 ?_
 refine .rn 5 ?_
 refine .nn ?_
 refine .cd (fun hc5 => ?_) (fun hc5 => ?_)
 replace h := za4 h hc5
 refine .seq (.pl zS [] ?_)
 obtain rfl := sj h
 exact .rr
 replace h := za9 h hc5
 refine .skip ?_
 obtain ⟨v12, hv12, h⟩ := bind_some h
 refine .seq (.rg zS [10, 16] ?_)
 refine .rn 2 ?_
 refine .lcall (r := .bool v12) [] rfl rfl rfl rfl rfl (za1 (ze7 (zep (za0 rfl (za0 rfl (za0 rfl (za0 rfl (za0 rfl (za0 (zdf (zh4 .i64) (by first | rfl | (simp only [go_sem, Nat.reduceBEq]; rfl)) (by first | rfl | (simp; done) | (simp <;> omega))) zc1))))))) trivial) (za1 (ze7 (zep (za0 rfl (za0 rfl (za0 rfl (za0 rfl (za0 rfl (za0 (zdf (zh4 .i64) (by first | rfl | (simp only [go_sem, Nat.reduceBEq]; rfl)) (by first | rfl | (simp; done) | (simp <;> omega))) zc1))))))) trivial) za7)) rfl (zgg (WkL.cons (Wk.agg (WkL.cons (Wk.refl _) (WkL.cons Wk.iz (WkL.cons Wk.iz (WkL.cons Wk.iz (WkL.cons Wk.iz (WkL.cons (Wk.refl _) (WkL.refl _)))))))) (WkL.cons (Wk.agg (WkL.cons (Wk.refl _) (WkL.cons Wk.iz (WkL.cons Wk.iz (WkL.cons Wk.iz (WkL.cons Wk.iz (WkL.cons (Wk.refl _) (WkL.refl _)))))))) (WkL.refl _))) (zfa v11.1 v5.1 v12 hv12)) ?_
 refine .rn 1 ?_
 refine .nn ?_
 obtain rfl := sj h
 exact .rr
end Go.Proofs
end
