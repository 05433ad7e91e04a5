/- Texts of the proof. -/
import Derived.Test.YtafdfmkjjhimaaaGreatDoorGroupGoesOnCardPg
import Derived.Test.YtafdfmkjjhimaaaGreatDoorGroupGoesOnCardPl
import Derived.Test.YtafdfmkjjhimaaaGreatDoorGroupGoesOnCardPi
import Derived.Test.YtafdfmkjjhimaaaGreatDoorGroupGoesOnCardPj
import Derived.Test.YtafdfmkjjhimaaaGreatDoorGroupGoesOnCardPh
section
namespace Go.Proofs
open Go.Tm Go.RowKit Go.WideShapes
set_option maxRecDepth 100000
set_option maxHeartbeats 4000000
set_option linter.unusedSimpArgs false
set_option linter.unusedVariables false
@[go_sem] def st54 (l1 : List (List Int)) : St := ⟨[(1, .ref 0 1 0 l1.length (some uC))], [(0, .arr 30 1 true (l1.map zbb))], 1⟩
@[go_sem] def st55 (l2 : List (List Int)) (n1 : Int) : St := ⟨[(1, .ref 0 1 0 l2.length (some uC)), (2, .int .i64 n1)], [(0, .arr 30 1 true (l2.map zbb))], 1⟩
@[go_sem] def st7 (r : (List (List Int))) : St := ⟨[(0, .ref 0 1 0 r.length (some uC))], [(0, .arr 30 1 true (r.map zbb))], 1⟩
theorem zp0 (r : (List (List Int))) (h : zim  = some r) : zbi Tryz.prog 109 [] [] (.ref 0 1 0 r.length (some uC)) [(0, some (.arr 30 1 true (r.map zbb)))] (0, 6) := by
 refine za6 Tryz.tmOk Tryz.func109 rfl (by decide) (lb rfl) (by simp) ?_
 intro hwf
 unfold zim at h
 refine .ends 0 (Nat.le_refl _) ?_
 refine .seq (.pl zS [] ?_)
 refine .seq (.pl zS [] ?_)
 obtain ⟨x1, hx1, h⟩ := bind_some h
 refine .seqM 0 (fun (j : (List (List Int))) => st54 j) (fun j => x1 = j) (lb rfl) ?_ ?_
 refine .seq (.pl zS [1] ?_)
 refine .block ?_
 refine .loopG 0 (fun (j : Nat × (List (List Int)) × Int) => st55 j.2.1 j.2.2) (fun j => ze1 j.1 j.2.1 j.2.2 = some x1) (fun j => j.1) (5, [], 0) (lb rfl) ?_ hx1 ?_
 refine Goes.new0 1 30 (lb rfl) ?_
 refine Goes.wk 1 _ (.ref 0 1 0 0 (some uC)) rfl (.own0 0 _ _ _ (by decide)) ?_
 exact .m [1, 2] [0] []
 rintro ⟨fu1, l2, n1⟩ hx1
 simp only [st55]
 try simp only at hx1
 obtain ⟨fu1, rfl⟩ : ∃ k, fu1 = k + 1 := by cases fu1 with | zero => (rw [ze1] at hx1; cases hx1) | succ k => exact ⟨k, rfl⟩
 rw [ze1] at hx1
 refine .seq (.pl zS [1, 2] ?_)
 refine .seq (.cd (fun hc1 => ?_) (fun hc1 => ?_))
 replace hx1 := za4 hx1 hc1
 refine .skip (.seq (.block ?_))
 obtain ⟨k1, hx1⟩ := zat hx1
 refine .pl zS [1, 2] ?_
 refine .goes (.givl 3 (l2.map zbb ++ [.ref 1 1 0 8 (some 8)]) ((l2 ++ [((List.replicate 8 0).take 8)]).map zbb) [3] rfl rfl (by rw [List.map_append]; exact zxv (zxt (fun _ => rfl) _) (za0 (zbs zc1 rfl rfl) zbr)) (zqz _ (fun _ => rfl) _) (by intro i hi; simp only [zr0, zqz (f := zbb) (hf := fun _ => rfl), D.idsL, D.ids, List.nil_append, List.append_nil, List.mem_singleton] at hi; subst hi; rfl) .refl) ?_
 refine .pl zS [1, 2] ?_
 refine ⟨(fu1, _, _), ?_, hx1, by dsimp only; omega⟩
 exact .m [1, 2] [3] [(3, 0)]
 replace hx1 := za7 hx1 hc1
 refine .exit ?_
 refine ⟨_, ?_, (sj hx1).symm⟩
 exact .m [1] [0] []
 rintro l1 hj1
 subst x1
 try dsimp only at h
 simp only [st54]
 refine .seq (.pl zS [1] ?_)
 obtain rfl := sj h
 refine .ret ⟨st7 l1, ?_, .inr rfl, retH [0] ?_ ?_⟩
 exact .m [0] [0] []
 exact rsi0
 rfl
theorem zox (r : (List (List Int))) (h : zim  = some r) : zap Tryz.prog 109 [] (.imm 1 (r.map dL_inti64) 13) :=
 zdf (zdx zc9 rfl rfl) (zp0  r h)
@[go_sem] def ya5f (v1 : List (List Int)) (l1 : List TTopic) : St := ⟨[(0, .ptr 0 0), (1, .ptr 1 0)], [(0, .box [.imm 0 [] 0, .imm 0 [] 0]), (1, .box [.ref 2 4 0 l1.length (some uC), .imm 1 (v1.map dL_inti64) 13]), (2, .arr 94 4 true (l1.map TTopic.n))], 3⟩
@[go_sem] def ya5e (v1 : List (List Int)) (l2 : List TTopic) (n1 : Int) : St := ⟨[(0, .ptr 0 0), (1, .ptr 1 0), (4, .int .i64 n1)], [(0, .box [.imm 0 [] 0, .imm 0 [] 0]), (1, .box [.ref 2 4 0 l2.length (some uC), .imm 1 (v1.map dL_inti64) 13]), (2, .arr 94 4 true (l2.map TTopic.n))], 3⟩
@[go_sem] def st33 (r : TStream) : St := ⟨[(0, .ptr 1 0)], [(0, .arr 94 4 true (r.Topics.map TTopic.n)), (1, .box [.ref 0 4 0 r.Topics.length (some uC), .imm 1 (r.Commits.map dL_inti64) 13])], 2⟩
theorem zpk (r : TStream) (h : zjp  = some r) : zbi Tryz.prog 51 [] [] (.agg [.ref 0 4 0 r.Topics.length (some uC), .imm 1 (r.Commits.map dL_inti64) 13]) [(0, some (.arr 94 4 true (r.Topics.map TTopic.n)))] (0, 7) := by
 refine za6 Tryz.tmOk Tryz.func51 rfl (by decide) (lb rfl) (by simp) ?_
 intro hwf
 unfold zjp at h
 refine .ends 0 (Nat.le_refl _) ?_
 refine .seq (.pl zS [] ?_)
 obtain ⟨v1, hv1, h⟩ := bind_some h
 refine .seq (.rg zS [0] ?_)
 refine .cl (zox  v1 hv1) ?_
 refine .rn 3 ?_
 refine .nn ?_
 obtain ⟨x1, hx1, h⟩ := bind_some h
 refine .seqM 2 (fun (j : (List TTopic)) => ya5f v1 j) (fun j => x1 = j) (lb rfl) ?_ ?_
 refine .seq (.pl zS [0, 1] ?_)
 refine .block ?_
 refine .loopG 2 (fun (j : Nat × (List TTopic) × Int) => ya5e v1 j.2.1 j.2.2) (fun j => zed j.1 j.2.1 j.2.2 = some x1) (fun j => j.1) (5, [], 0) (lb rfl) ?_ hx1 ?_
 refine Goes.new0 4 94 (lb rfl) ?_
 refine Goes.boxs 1 _ [.ref 2 4 0 0 (some uC), .imm 1 (v1.map dL_inti64) 13] rfl (.cons (.own0 2 _ _ _ (by decide)) (.refl _)) ?_
 exact .m [0, 1, 4] [0, 1, 2] []
 rintro ⟨fu1, l2, n1⟩ hx1
 simp only [ya5e]
 try simp only at hx1
 obtain ⟨fu1, rfl⟩ : ∃ k, fu1 = k + 1 := by cases fu1 with | zero => (rw [zed] at hx1; cases hx1) | succ k => exact ⟨k, rfl⟩
 rw [zed] at hx1
 refine .seq (.pl zS [0, 1, 4] ?_)
 refine .seq (.cd (fun hc1 => ?_) (fun hc1 => ?_))
 replace hx1 := za4 hx1 hc1
 refine .skip (.seq (.block ?_))
 obtain ⟨v2, hv2, hx1⟩ := bind_some hx1
 obtain ⟨k1, hx1⟩ := zat hx1
 refine .rg zS [0, 1, 4] ?_
 refine .rd 2 ?_
 refine .cl (zrr  v2 hv2) ?_
 refine .rd 4 ?_
 refine .nd ?_
 refine .pl zS [0, 1, 4] ?_
 refine ⟨(fu1, _, _), ?_, hx1, by dsimp only; omega⟩
 exact .m [0, 1, 4] [0, 1, 4] [(4, 2)]
 replace hx1 := za7 hx1 hc1
 refine .exit ?_
 refine ⟨_, ?_, (sj hx1).symm⟩
 exact .m [0, 1] [0, 1, 2] []
 rintro l1 hj1
 subst x1
 try dsimp only at h
 simp only [ya5f]
 refine .seq (.pl zS [0, 1] ?_)
 obtain rfl := sj h
 refine .ret ⟨st33 (⟨l1, v1⟩ : TStream), ?_, .inr rfl, retH [0] ?_ ?_⟩
 exact .m [0] [2, 0] [(2, 0), (0, 1)]
 exact rsi0
 rfl
theorem zpe (r : TStream) (h : zjp  = some r) : zap Tryz.prog 51 [] (.agg [.imm 4 (r.Topics.map TTopic.d) 13, .imm 1 (r.Commits.map dL_inti64) 13]) :=
 zdf (zgt (za0 (zdx zg4 rfl rfl) (za0 rfl zbr))) (zpk  r h)
@[go_sem] def st10 (r : THome) : St := ⟨[(0, .ptr 1 0)], [(0, .arr 3 1 true (r.Last.map (D.int .i64))), (1, .box [.int .i64 r.Skeen.Clock, .imm 7 (r.Skeen.Waits.map TWait.d) 13, .imm 2 (r.Skeen.Done.map TStamp.d) 13, .imm 4 (r.Stream.Topics.map TTopic.d) 13, .imm 1 (r.Stream.Commits.map dL_inti64) 13, .ref 0 1 0 r.Last.length (some uC)])], 2⟩
theorem zji (r : THome) (h : zf7  = some r) : zbi Tryz.prog 19 [] [] (.agg [.int .i64 r.Skeen.Clock, .imm 7 (r.Skeen.Waits.map TWait.d) 13, .imm 2 (r.Skeen.Done.map TStamp.d) 13, .imm 4 (r.Stream.Topics.map TTopic.d) 13, .imm 1 (r.Stream.Commits.map dL_inti64) 13, .ref 0 1 0 r.Last.length (some uC)]) [(0, some (.arr 3 1 true (r.Last.map (D.int .i64))))] (0, 4) := by
 refine za6 Tryz.tmOk Tryz.func19 rfl (by decide) (lb rfl) (by simp) ?_
 intro hwf
 unfold zf7 at h
 refine .ends 0 (Nat.le_refl _) ?_
 refine .seq (.pl zS [] ?_)
 obtain ⟨v1, hv1, h⟩ := bind_some h
 obtain ⟨v2, hv2, h⟩ := bind_some h
 refine .seq (.rg zS [0] ?_)
 refine .cl (zru  v1 hv1) ?_
 refine .rd 0 ?_
 refine .cl (zpe  v2 hv2) ?_
 refine .rd 3 ?_
 refine .nd ?_
 obtain rfl := sj h
 refine .ret ⟨st10 (⟨v1, v2, ((List.replicate 6 0).take 6)⟩ : THome), ?_, .inr rfl, retH [0] ?_ ?_⟩
 refine Goes.boxs 0 _ [.int .i64 v1.Clock, .imm 7 (v1.Waits.map TWait.d) 13, .imm 2 (v1.Done.map TStamp.d) 13, .imm 4 (v2.Topics.map TTopic.d) 13, .imm 1 (v2.Commits.map dL_inti64) 13, .ref 1 1 0 6 (some uC)] rfl (.keep (.keep (.keep (.keep (.keep (.cons (.unk _ _ _ _ _) (.refl _))))))) ?_
 exact .m [0] [1, 0] [(1, 0), (0, 1)]
 exact rsi0
 rfl
theorem zrw (r : THome) (h : zf7  = some r) : zap Tryz.prog 19 [] (.agg [.int .i64 r.Skeen.Clock, .imm 7 (r.Skeen.Waits.map TWait.d) 13, .imm 2 (r.Skeen.Done.map TStamp.d) 13, .imm 4 (r.Stream.Topics.map TTopic.d) 13, .imm 1 (r.Stream.Commits.map dL_inti64) 13, .imm 1 (r.Last.map (D.int .i64)) 13]) :=
 zdf (zgt (za0 rfl (za0 rfl (za0 rfl (za0 rfl (za0 rfl (za0 (zbs zc1 rfl rfl) zbr))))))) (zji  r h)
@[go_sem] def st41 (r : TCommand) : St := ⟨[(2, .ptr 0 0)], [(0, .box [.int .u8 r.Kind, .int .i64 r.Message.Id, .imm 1 (r.Message.Groups.map (D.int .i64)) 13, .int .i64 r.Message.Topic, .str r.Message.Key, .str r.Message.Body, .int .i64 r.Id, .int .i64 r.Time, .imm 1 (r.Members.map (D.int .i64)) 13, .int .i64 r.Topic, .int .i64 r.Who, .int .i64 r.N])], 1⟩
theorem zjh (a0 : Int) (r : TCommand) (h : zca a0 = some r) : zbi Tryz.prog 53 [.int .i64 a0] [] (.agg [.int .u8 r.Kind, .int .i64 r.Message.Id, .imm 1 (r.Message.Groups.map (D.int .i64)) 13, .int .i64 r.Message.Topic, .str r.Message.Key, .str r.Message.Body, .int .i64 r.Id, .int .i64 r.Time, .imm 1 (r.Members.map (D.int .i64)) 13, .int .i64 r.Topic, .int .i64 r.Who, .int .i64 r.N]) [] (0, 3) := by
 refine za6 Tryz.tmOk Tryz.func53 rfl (by decide) (lb rfl) (by simp) ?_
 intro hwf
 unfold zca at h
 refine .ends 0 (Nat.le_refl _) ?_
 refine .seq (.pl zS [0] ?_)
 refine .seq (.pl zS [0, 2] ?_)
 obtain rfl := sj h
 refine .ret ⟨st41 (⟨4, (⟨0, [], 0, [], []⟩ : TMessage), a0, 0, [], 0, 0, 0⟩ : TCommand), ?_, .inr rfl, retH [] ?_ ?_⟩
 refine Goes.boxs 0 _ [.int .u8 4, .int .i64 0, .imm 1 [] 13, .int .i64 0, .str [], .str [], .int .i64 a0, .int .i64 0, .imm 1 [] 13, .int .i64 0, .int .i64 0, .int .i64 0] rfl (.keep (.keep (.cons (.nil12 _ _ 0 (by decide)) (.keep (.keep (.keep (.keep (.keep (.cons (.nil12 _ _ 0 (by decide)) (.refl _)))))))))) ?_
 exact .m [2] [0] []
 exact rsi0
 rfl
theorem ze2 (a0 : Int) (r : TCommand) (h : zca a0 = some r) : zap Tryz.prog 53 [.int .i64 a0] (.agg [.int .u8 r.Kind, .int .i64 r.Message.Id, .imm 1 (r.Message.Groups.map (D.int .i64)) 13, .int .i64 r.Message.Topic, .str r.Message.Key, .str r.Message.Body, .int .i64 r.Id, .int .i64 r.Time, .imm 1 (r.Members.map (D.int .i64)) 13, .int .i64 r.Topic, .int .i64 r.Who, .int .i64 r.N]) :=
 zdf (zgt (za0 rfl (za0 rfl (za0 rfl (za0 rfl (za0 rfl (za0 rfl (za0 rfl (za0 rfl (za0 rfl (za0 rfl (za0 rfl (za0 rfl zbr))))))))))))) (zjh a0 r h)
theorem zjk (r : Bool) (h : ze3  = some r) (hr : r = true) : zap Tryz.prog 22 [] (.bool r) := by
 refine za3 Tryz.tmOk 313 Tryz.func22 rfl (by decide) rfl rfl (lb rfl) ?_
 intro hwf
 unfold ze3 at h
 refine .seq (.pl zS [] ?_)
 obtain ⟨v1, hv1, h⟩ := bind_some h
 obtain ⟨v2, hv2, h⟩ := bind_some h
 obtain ⟨v3, hv3, h⟩ := bind_some h
 refine .seq (.rg zS [] ?_)
 refine .ncall (r := .agg [.int .i64 v1.Skeen.Clock, .imm 7 (v1.Skeen.Waits.map TWait.d) 13, .imm 2 (v1.Skeen.Done.map TStamp.d) 13, .imm 4 (v1.Stream.Topics.map TTopic.d) 13, .imm 1 (v1.Stream.Commits.map dL_inti64) 13, .ref 4 1 0 v1.Last.length (some uC)]) (eff := [(4, some (.arr 3 1 true (v1.Last.map (D.int .i64))))]) (nw := (4, 8)) [] rfl rfl rfl rfl rfl za8 rfl (zd8 4 (lb rfl) (zji  v1 hv1)) (zbl rfl rfl (zdk zc1 _ _ _) zdo) (by intro i hi; simp [D.ids, D.idsL] at hi <;> omega) rfl ⟨lb rfl, lb rfl⟩ ?_
 refine .rn 0 ?_
 refine .cl (ze2 5 v2 hv2) ?_
 refine .rn 0 ?_
 refine .ncall (r := .tuple [.agg [.int .i64 v3.1.Skeen.Clock, .imm 7 (v3.1.Skeen.Waits.map TWait.d) 13, .imm 2 (v3.1.Skeen.Done.map TStamp.d) 13, .imm 4 (v3.1.Stream.Topics.map TTopic.d) 13, .imm 1 (v3.1.Stream.Commits.map dL_inti64) 13, .ref 77 1 0 v3.1.Last.length (some uC)], .ref 78 3 0 v3.2.1.length (some uC), .int .i64 v3.2.2]) (eff := [(77, some (.arr 3 1 true (v3.1.Last.map (D.int .i64)))), (78, some (.arr 68 3 true (v3.2.1.map TTook.d)))]) (nw := (77, 154)) [] rfl rfl rfl rfl rfl (za2 (zgp (zin (za1 rfl (za1 rfl (za1 rfl (za1 rfl (za1 rfl (za1 (zeq (zky .i64) (by first | rfl | (simp only [go_sem, Nat.reduceBEq]; rfl)) (by first | rfl | (simp; done) | (simp <;> omega))) zdu))))))) trivial) (za2 rfl (za2 rfl za8))) rfl (zd8 77 (lb rfl) (zpw (WkL.cons (Wk.agg (WkL.cons (Wk.refl _) (WkL.cons Wk.iz (WkL.cons Wk.iz (WkL.cons Wk.iz (WkL.cons Wk.iz (WkL.cons (Wk.refl _) (WkL.refl _)))))))) (WkL.cons (Wk.refl _) (WkL.cons (Wk.agg (WkL.cons (Wk.refl _) (WkL.cons (Wk.refl _) (WkL.cons Wk.iz (WkL.cons (Wk.refl _) (WkL.cons (Wk.refl _) (WkL.cons (Wk.refl _) (WkL.cons (Wk.refl _) (WkL.cons (Wk.refl _) (WkL.cons Wk.iz (WkL.cons (Wk.refl _) (WkL.cons (Wk.refl _) (WkL.cons (Wk.refl _) (WkL.refl _)))))))))))))) (WkL.refl _)))) (zga v1 0 v2 v3 hv3))) (zbl rfl rfl (zdk zc1 _ _ _) (zbl rfl rfl (zdk zjb _ _ _) zdo)) (by intro i hi; simp [D.ids, D.idsL] at hi <;> omega) rfl ⟨lb rfl, lb rfl⟩ ?_
 refine .rn 8 ?_
 refine .nn ?_
 obtain ⟨v4, hv4, h⟩ := bind_some h
 obtain ⟨v5, hv5, h⟩ := bind_some h
 refine .seq (.rg zS [1, 3] ?_)
 refine .rd 1 ?_
 refine .cl (ze2 5 v4 hv4) ?_
 refine .rd 0 ?_
 refine .ncall (r := .tuple [.agg [.int .i64 v5.1.Skeen.Clock, .imm 7 (v5.1.Skeen.Waits.map TWait.d) 13, .imm 2 (v5.1.Skeen.Done.map TStamp.d) 13, .imm 4 (v5.1.Stream.Topics.map TTopic.d) 13, .imm 1 (v5.1.Stream.Commits.map dL_inti64) 13, .ref 155 1 0 v5.1.Last.length (some uC)], .ref 156 3 0 v5.2.1.length (some uC), .int .i64 v5.2.2]) (eff := [(155, some (.arr 3 1 true (v5.1.Last.map (D.int .i64)))), (156, some (.arr 68 3 true (v5.2.1.map TTook.d)))]) (nw := (155, 232)) [] rfl rfl rfl rfl rfl (za2 (zgp (zin (za1 rfl (za1 rfl (za1 rfl (za1 rfl (za1 rfl (za1 (zeq (zky .i64) (by first | rfl | (simp only [go_sem, Nat.reduceBEq]; rfl)) (by first | rfl | (simp; done) | (simp <;> omega))) zdu))))))) trivial) (za2 rfl (za2 rfl za8))) rfl (zd8 155 (lb rfl) (zpw (WkL.cons (Wk.agg (WkL.cons (Wk.refl _) (WkL.cons Wk.iz (WkL.cons Wk.iz (WkL.cons Wk.iz (WkL.cons Wk.iz (WkL.cons (Wk.refl _) (WkL.refl _)))))))) (WkL.cons (Wk.refl _) (WkL.cons (Wk.agg (WkL.cons (Wk.refl _) (WkL.cons (Wk.refl _) (WkL.cons Wk.iz (WkL.cons (Wk.refl _) (WkL.cons (Wk.refl _) (WkL.cons (Wk.refl _) (WkL.cons (Wk.refl _) (WkL.cons (Wk.refl _) (WkL.cons Wk.iz (WkL.cons (Wk.refl _) (WkL.cons (Wk.refl _) (WkL.cons (Wk.refl _) (WkL.refl _)))))))))))))) (WkL.refl _)))) (zga v3.1 0 v4 v5 hv5))) (zbl rfl rfl (zdk zc1 _ _ _) (zbl rfl rfl (zdk zjb _ _ _) zdo)) (by intro i hi; simp [D.ids, D.idsL] at hi <;> omega) rfl ⟨lb rfl, lb rfl⟩ ?_
 refine .rd 8 ?_
 refine .nd ?_
 obtain ⟨v6, hv6, h⟩ := bind_some h
 obtain ⟨v7, hv7, h⟩ := bind_some h
 refine .seq (.rg zS [1, 3, 4, 6] ?_)
 refine .rd 1 ?_
 refine .cl (ze2 4 v6 hv6) ?_
 refine .rd 0 ?_
 refine .ncall (r := .tuple [.agg [.int .i64 v7.1.Skeen.Clock, .imm 7 (v7.1.Skeen.Waits.map TWait.d) 13, .imm 2 (v7.1.Skeen.Done.map TStamp.d) 13, .imm 4 (v7.1.Stream.Topics.map TTopic.d) 13, .imm 1 (v7.1.Stream.Commits.map dL_inti64) 13, .ref 233 1 0 v7.1.Last.length (some uC)], .ref 234 3 0 v7.2.1.length (some uC), .int .i64 v7.2.2]) (eff := [(233, some (.arr 3 1 true (v7.1.Last.map (D.int .i64)))), (234, some (.arr 68 3 true (v7.2.1.map TTook.d)))]) (nw := (233, 310)) [] rfl rfl rfl rfl rfl (za2 (zgp (zin (za1 rfl (za1 rfl (za1 rfl (za1 rfl (za1 rfl (za1 (zeq (zky .i64) (by first | rfl | (simp only [go_sem, Nat.reduceBEq]; rfl)) (by first | rfl | (simp; done) | (simp <;> omega))) zdu))))))) trivial) (za2 rfl (za2 rfl za8))) rfl (zd8 233 (lb rfl) (zpw (WkL.cons (Wk.agg (WkL.cons (Wk.refl _) (WkL.cons Wk.iz (WkL.cons Wk.iz (WkL.cons Wk.iz (WkL.cons Wk.iz (WkL.cons (Wk.refl _) (WkL.refl _)))))))) (WkL.cons (Wk.refl _) (WkL.cons (Wk.agg (WkL.cons (Wk.refl _) (WkL.cons (Wk.refl _) (WkL.cons Wk.iz (WkL.cons (Wk.refl _) (WkL.cons (Wk.refl _) (WkL.cons (Wk.refl _) (WkL.cons (Wk.refl _) (WkL.cons (Wk.refl _) (WkL.cons Wk.iz (WkL.cons (Wk.refl _) (WkL.cons (Wk.refl _) (WkL.cons (Wk.refl _) (WkL.refl _)))))))))))))) (WkL.refl _)))) (zga v3.1 0 v6 v7 hv7))) (zbl rfl rfl (zdk zc1 _ _ _) (zbl rfl rfl (zdk zjb _ _ _) zdo)) (by intro i hi; simp [D.ids, D.idsL] at hi <;> omega) rfl ⟨lb rfl, lb rfl⟩ ?_
 refine .rd 8 ?_
 refine .nd ?_
 obtain ⟨k1, h⟩ := zat h
 obtain ⟨k2, h⟩ := zat h
 obtain ⟨v8, hv8, h⟩ := bind_some h
 obtain ⟨v9, hv9, h⟩ := bind_some h
 refine .seqM 311 (fun (_ : Unit) => ⟨[(0, .bool ((((((((v3.2.2 == 0) && (v5.2.2 == 0)) && (v7.2.2 == 0)) && ((v3.1.Last.length : Int) == 6)) && ((v3.1.Last.getD 0 default) == 6)) && ((v3.1.Last.getD 1 default) == 0)) && v8) && v9))], [], 311⟩) (fun _ => True) (lb rfl) ?_ (fun _ _ => ?_)
 have hall := sj h
 rw [hr] at hall
 simp only [Bool.and_eq_true, Bool.or_eq_true, beq_iff_eq, decide_eq_true_eq, Bool.not_eq_true'] at hall
 have hgd : (((v3.2.2 = 0) /\ (v5.2.2 = 0)) /\ (v7.2.2 = 0)) /\ ((v3.1.Last.length : Int) = 6) := by first | (simp only [hall]; done) | (simp [hall]; done) | grind
 have eg10 := ai (zea (D.int .i64) v3.1.Last 0 (k1 hgd)) (zxe (D.int .i64) v3.1.Last 0 0 rfl (k1 hgd))
 have hgd : ((((v3.2.2 = 0) /\ (v5.2.2 = 0)) /\ (v7.2.2 = 0)) /\ ((v3.1.Last.length : Int) = 6)) /\ ((v3.1.Last.getD 0 default) = 6) := by first | (simp only [hall]; done) | (simp [hall]; done) | grind
 have eg20 := ai (zea (D.int .i64) v3.1.Last 1 (k2 hgd)) (zxe (D.int .i64) v3.1.Last 1 1 rfl (k2 hgd))
 refine .rg zS [1, 3, 4, 6, 7, 9] ?_
 refine .rnx 6 (ai eg10 eg20) ?_
 refine .rnx 6 (ai eg10 eg20) ?_
 refine .rnx 6 (ai eg10 eg20) ?_
 refine .rnx 6 (ai eg10 eg20) ?_
 refine .rnx 6 (ai eg10 eg20) ?_
 refine .rnx 3 (ai eg10 eg20) ?_
 refine .glcall (r := .bool v8) [] rfl rfl rfl rfl rfl (fun hg => ⟨[], [.agg [.int .i64 v3.1.Skeen.Clock, .imm 7 (v3.1.Skeen.Waits.map TWait.d) 13, .imm 2 (v3.1.Skeen.Done.map TStamp.d) 13, .imm 4 (v3.1.Stream.Topics.map TTopic.d) 13, .imm 1 (v3.1.Stream.Commits.map dL_inti64) 13, .ref 77 1 0 v3.1.Last.length (some uC)], .agg [.int .i64 v5.1.Skeen.Clock, .imm 7 (v5.1.Skeen.Waits.map TWait.d) 13, .imm 2 (v5.1.Skeen.Done.map TStamp.d) 13, .imm 4 (v5.1.Stream.Topics.map TTopic.d) 13, .imm 1 (v5.1.Stream.Commits.map dL_inti64) 13, .ref 155 1 0 v5.1.Last.length (some uC)]], _, rfl, gd hg, (za2 (zgp (zin (za1 rfl (za1 rfl (za1 rfl (za1 rfl (za1 rfl (za1 (zeq (zky .i64) (by first | rfl | (simp only [go_sem, Nat.reduceBEq]; rfl)) (by first | rfl | (simp; done) | (simp <;> omega))) zdu))))))) trivial) (za2 (zgp (zin (za1 rfl (za1 rfl (za1 rfl (za1 rfl (za1 rfl (za1 (zeq (zky .i64) (by first | rfl | (simp only [go_sem, Nat.reduceBEq]; rfl)) (by first | rfl | (simp; done) | (simp <;> omega))) zdu))))))) trivial) za8)), rfl, (zha (WkL.cons (Wk.agg (WkL.cons (Wk.refl _) (WkL.cons Wk.iz (WkL.cons Wk.iz (WkL.cons Wk.iz (WkL.cons Wk.iz (WkL.cons (Wk.refl _) (WkL.refl _)))))))) (WkL.cons (Wk.agg (WkL.cons (Wk.refl _) (WkL.cons Wk.iz (WkL.cons Wk.iz (WkL.cons Wk.iz (WkL.cons Wk.iz (WkL.cons (Wk.refl _) (WkL.refl _)))))))) (WkL.refl _))) (zig v3.1 v5.1 v8 (za4 hv8 hg)))⟩) ?_
 refine .rnx 4 (ai eg10 eg20) ?_
 refine .glcall (r := .bool v9) [] rfl rfl rfl rfl rfl (fun hg => ⟨[], [.agg [.int .i64 v3.1.Skeen.Clock, .imm 7 (v3.1.Skeen.Waits.map TWait.d) 13, .imm 2 (v3.1.Skeen.Done.map TStamp.d) 13, .imm 4 (v3.1.Stream.Topics.map TTopic.d) 13, .imm 1 (v3.1.Stream.Commits.map dL_inti64) 13, .ref 77 1 0 v3.1.Last.length (some uC)], .agg [.int .i64 v7.1.Skeen.Clock, .imm 7 (v7.1.Skeen.Waits.map TWait.d) 13, .imm 2 (v7.1.Skeen.Done.map TStamp.d) 13, .imm 4 (v7.1.Stream.Topics.map TTopic.d) 13, .imm 1 (v7.1.Stream.Commits.map dL_inti64) 13, .ref 233 1 0 v7.1.Last.length (some uC)]], _, rfl, gd hg, (za2 (zgp (zin (za1 rfl (za1 rfl (za1 rfl (za1 rfl (za1 rfl (za1 (zeq (zky .i64) (by first | rfl | (simp only [go_sem, Nat.reduceBEq]; rfl)) (by first | rfl | (simp; done) | (simp <;> omega))) zdu))))))) trivial) (za2 (zgp (zin (za1 rfl (za1 rfl (za1 rfl (za1 rfl (za1 rfl (za1 (zeq (zky .i64) (by first | rfl | (simp only [go_sem, Nat.reduceBEq]; rfl)) (by first | rfl | (simp; done) | (simp <;> omega))) zdu))))))) trivial) za8)), rfl, (zha (WkL.cons (Wk.agg (WkL.cons (Wk.refl _) (WkL.cons Wk.iz (WkL.cons Wk.iz (WkL.cons Wk.iz (WkL.cons Wk.iz (WkL.cons (Wk.refl _) (WkL.refl _)))))))) (WkL.cons (Wk.agg (WkL.cons (Wk.refl _) (WkL.cons Wk.iz (WkL.cons Wk.iz (WkL.cons Wk.iz (WkL.cons Wk.iz (WkL.cons (Wk.refl _) (WkL.refl _)))))))) (WkL.refl _))) (zig v3.1 v7.1 v9 (za4 hv9 hg)))⟩) ?_
 refine .rnx 2 (ai eg10 eg20) ?_
 refine .nn ?_
 refine ⟨(), ?_, trivial⟩
 exact .m [0] [] []
 have hq := sj h
 clear hr
 subst r
 exact .rr
end Go.Proofs
end
section
namespace Go.Tm
open Go.RowKit Go.WideShapes
section
variable {P : Program} {tab : Nat -> TI} {lim n : Nat}
theorem WRun.mcall {ops : Array Oper} {o : Oper} {l : List Oper} {st : St} {acc : List FP} {Q : St -> List FP -> Prop} {c : Call} {f : Operand} {K : FuncId} {pre ds : List D} {H : List (Nat × Blk)} {r : D} {eff : List (Nat × Option Blk)} {nw : Nat × Nat}
  (ho : o.op = .call c) (hc : c.callee = .value f) (hg : o.guard = none) (hf : opd true (getR st.vars) f = (.fn (.yield K) pre, true)) (hds : opds true (getR st.vars) c.args.toList = (ds, true))
  (hK : zbi P K (pre ++ ds) H r eff nw) (hH : ∀ id b, getL H id = some b -> getL st.heap id = some b) (hE : ∀ x ∈ eff, x.1 ∈ H.map (·.1) \/ nw.1 <= x.1 /\ x.1 < nw.2) (hn : nw.1 = nw.2 \/ st.nx <= nw.1 /\ nw.2 <= lim)
  (hQ : WRun P tab true lim ops l (st.app o.dst { d := r, vc := true, eff := eff, nw := nw, met := H.map (·.1) }) (acc ++ [fpOf o (st.fs lim) { d := r, vc := true, eff := eff, nw := nw, met := H.map (·.1) }]) Q) : WRun P tab true lim ops (o :: l) st acc Q := by
 obtain ⟨os, st', hch, hq⟩ := hQ
 have hnn : ∀ id, nw.1 <= id -> id < nw.2 -> st.nx <= id /\ id < lim := by
  intro id h1 h2
  rcases hn with h | ⟨h3, h4⟩ <;> omega
 refine ⟨_, st', .cons (out := { d := r, vc := true, eff := eff, nw := nw, met := H.map (·.1) }) ?_ (fun id h1 h2 => (hnn id h1 h2).1) hch, by simpa using hq⟩
 unfold zjz
 simp only [hg]
 unfold Core
 simp only [ho, hc]
 refine .inr ⟨K, pre, ds, r, H, eff, nw, hf, hds, hK, hH, fun id h1 h2 => ?_, hE, rfl⟩
 have := hnn id h1 h2
 simp only [St.fs, Bool.and_eq_true, decide_eq_true_eq]
 exact this
end
end Go.Tm
namespace Go.Tm
theorem WkG.newR (s : Nat) (l : List D) {c : Nat} (hc : c / 8 = 1) : WkG (.imm s l c) (.imm s l 12) := by
 intro fr w g hp nu hM v h
 simp only [rep, hc] at h ⊢
 obtain ⟨a, cap, rfl, h1, h2, _, _, _, h6, hfl, h7⟩ := h
 refine ⟨a, cap, rfl, h1, h2, by simp, by simp, by simp, h6, fun _ => hfl (by omega), h7.imp id fun h Z hz => ?_⟩
 obtain ⟨a0, k1, k2, k3, k4, k5, k6⟩ := h Z hz
 exact ⟨a0, k1, k2, k3, k4, k5.any (by decide), k6⟩
end Go.Tm
end
section
namespace Go.Proofs
open Go.Tm
set_option linter.unusedVariables false
def zdn : List Int -> Nat -> Int -> Option ((Int × Int × Int) ⊕ Unit)
 | [], n2, n1 =>
  some (.inr ())
 | y1 :: rest1, n2, n1 =>
  if (n2 : Int) > 5 then
  some (.inr ())
  else
  if 0 <= (wr .i64 (7 * (n2 : Int))) then
  if y1 > 127 then
  zdn rest1 (n2 + 1) (bitw .or .i64 n1 (shw true .i64 (wr .i64 (bitw .and .u8 (y1) 127)) (wr .i64 (7 * (n2 : Int)))))
  else
  Option.bind (if ¬ ((y1 = 0) /\ ((n2 : Int) > 0)) then zni (bitw .or .i64 n1 (shw true .i64 (wr .i64 (bitw .and .u8 (y1) 127)) (wr .i64 (7 * (n2 : Int))))) else some default) fun v1 =>
  if ((y1 = 0) /\ ((n2 : Int) > 0)) \/ (¬ (v1 = true)) then
  some (.inr ())
  else
  some (.inl ((bitw .or .i64 n1 (shw true .i64 (wr .i64 (bitw .and .u8 (y1) 127)) (wr .i64 (7 * (n2 : Int))))), (wr .i64 ((n2 : Int) + 1)), 0))
  else none
def zi2 (a0 : List Int) : Option (Int × Int × Int) :=
 Option.bind (α := (Int × Int × Int) ⊕ Unit) (zdn a0 0 0) fun z => match z with
 | (.inl r) => some r
 | (.inr _) =>
 some (0, 0, 8)
def zh5 (a0 : List Int) : Option ((List UInt8) × Int × Int) :=
 Option.bind (zi2 a0) fun v1 =>
 if ((¬ (v1.2.2 = 0)) \/ (v1.1 > 4096)) \/ (v1.1 > (wr .i64 ((a0.length : Int) - v1.2.1))) then
 some ([], 0, 8)
 else
 if (0 <= v1.2.1 /\ v1.2.1 <= (wr .i64 (v1.2.1 + v1.1)) /\ (wr .i64 (v1.2.1 + v1.1)) <= (a0.length : Int)) then
 some ((zvn ((a0.take (wr .i64 (v1.2.1 + v1.1)).toNat).drop v1.2.1.toNat)), (wr .i64 (v1.2.1 + v1.1)), 0)
 else none
def zc5 (a0 : List Int) (v1 : Int × Int × Int) : Nat -> (List Int) -> Int -> Int -> Option (((List Int) × Int × Int) ⊕ ((List Int) × Int))
 | 0, _, _, _ => none
 | fu1 + 1, l2, n2, n3 =>
  if n3 < v1.1 then
  if (0 <= n2 /\ n2 <= (a0.length : Int)) then
  Option.bind (zi2 (a0.drop n2.toNat)) fun v2 =>
  if ¬ (v2.2.2 = 0) then
  some (.inl ([], 0, v2.2.2))
  else
  if l2.length + [v2.1].length < 1000000 then
  zc5 a0 v1 fu1 (l2 ++ [v2.1]) (wr .i64 (n2 + v2.2.1)) (wr .i64 (n3 + 1))
  else none
  else none
  else
  some (.inr (l2, n2))
def zh6 (a0 : List Int) (a1 : Int) : Option ((List Int) × Int × Int) :=
 if (a1 < 0) \/ (a1 > 4096) then
 some ([], 0, 2)
 else
 Option.bind (zi2 a0) fun v1 =>
 if (¬ (v1.2.2 = 0)) \/ (v1.1 > a1) then
 some ([], 0, 8)
 else
 Option.bind (α := ((List Int) × Int × Int) ⊕ ((List Int) × Int)) (zc5 a0 v1 (v1.1.toNat + 1) [] v1.2.1 0) fun z => match z with
 | (.inl r) => some r
 | (.inr (l1, n1)) =>
 some (l1, n1, 0)
def zc7 (a0 : Tcommand_reader) (a1 : Int) (a2 : Int) : Option Tcommand_reader :=
 if (0 <= (min a1 (a0.fB.length : Int)) /\ (min a1 (a0.fB.length : Int)) <= (a0.fB.length : Int)) then
 some (⟨(a0.fB.drop (min a1 (a0.fB.length : Int)).toNat), (a0.fOk && (a2 == 0))⟩ : Tcommand_reader)
 else none
def zai (a0 : Tcommand_reader) : Option (Int × Tcommand_reader) :=
 Option.bind (zi2 a0.fB) fun v1 =>
 Option.bind (zc7 a0 v1.2.1 v1.2.2) fun v2 =>
 some (v1.1, v2)
def zcs (a0 : Tcommand_reader) : Option ((List UInt8) × Tcommand_reader) :=
 Option.bind (zh5 a0.fB) fun v1 =>
 Option.bind (zc7 a0 v1.2.1 v1.2.2) fun v2 =>
 some (v1.1, v2)
def zct (a0 : Tcommand_reader) (a1 : Int) : Option ((List Int) × Tcommand_reader) :=
 Option.bind (zh6 a0.fB a1) fun v1 =>
 Option.bind (zc7 a0 v1.2.1 v1.2.2) fun v2 =>
 some (v1.1, v2)
def zcu (a0 : Tcommand_reader) : Option (TCommand × Tcommand_reader) :=
 Option.bind (zai a0) fun v1 =>
 Option.bind (α := (List Int) × Bool × Int × (List Int) × Int × (List UInt8) × (List UInt8) × Int × Int × (List Int) × Int × Int × Int) (if (wr .u8 (min v1.1 255)) = 1 then
 Option.bind (zai v1.2) fun v2 =>
 Option.bind (zct v2.2 4) fun v3 =>
 Option.bind (zai v3.2) fun v4 =>
 Option.bind (zcs v4.2) fun v5 =>
 Option.bind (zcs v5.2) fun v6 =>
 some (v6.2.fB, v6.2.fOk, v2.1, v3.1, v4.1, v5.1, v6.1, 0, 0, [], 0, 0, 0)
 else
 if (wr .u8 (min v1.1 255)) = 2 then
 Option.bind (zai v1.2) fun v7 =>
 Option.bind (zai v7.2) fun v8 =>
 some (v8.2.fB, v8.2.fOk, 0, [], 0, [], [], v7.1, v8.1, [], 0, 0, 0)
 else
 if (wr .u8 (min v1.1 255)) = 3 then
 Option.bind (zct v1.2 6) fun v9 =>
 some (v9.2.fB, v9.2.fOk, 0, [], 0, [], [], 0, 0, v9.1, 0, 0, 0)
 else
 Option.bind (α := Bool) (if (wr .u8 (min v1.1 255)) = 4 then
 some ((wr .u8 (min v1.1 255)) == 4)
 else
 if (wr .u8 (min v1.1 255)) = 5 then
 some ((wr .u8 (min v1.1 255)) == 5)
 else
 some ((wr .u8 (min v1.1 255)) == 6)) fun b2 =>
 if b2 = true then
 Option.bind (zai v1.2) fun v10 =>
 Option.bind (zai v10.2) fun v11 =>
 Option.bind (α := (List Int) × Bool × Int) (if (wr .u8 (min v1.1 255)) = 4 then
 Option.bind (zai v11.2) fun v12 =>
 some (v12.2.fB, v12.2.fOk, v12.1)
 else
 some (v11.2.fB, v11.2.fOk, 0)) fun (l4, b3, n8) =>
 Option.bind (zai (⟨l4, b3⟩ : Tcommand_reader)) fun v13 =>
 some (v13.2.fB, v13.2.fOk, 0, [], 0, [], [], v10.1, 0, [], v11.1, n8, v13.1)
 else
 some (v1.2.fB, v1.2.fOk, 0, [], 0, [], [], 0, 0, [], 0, 0, 0)) fun (l1, b1, n1, l2, n2, s1, s2, n3, n4, l3, n5, n6, n7) =>
 some ((⟨(wr .u8 (min v1.1 255)), (⟨n1, l2, n2, s1, s2⟩ : TMessage), n3, n4, l3, n5, n6, n7⟩ : TCommand), (⟨l1, b1⟩ : Tcommand_reader))
def zd1 (a0 : List UInt8) : Option (TCommand × Int) :=
 if (a0.length : Int) > 1024 then
 some ((⟨0, (⟨0, [], 0, [], []⟩ : TMessage), 0, 0, [], 0, 0, 0⟩ : TCommand), 3)
 else
 Option.bind (zcu (⟨(zlg a0), true⟩ : Tcommand_reader)) fun v1 =>
 Option.bind (if ¬ ((¬ (v1.2.fOk = true)) \/ ((v1.2.fB.length : Int) > 0)) then zar v1.1 else some default) fun v2 =>
 if ((¬ (v1.2.fOk = true)) \/ ((v1.2.fB.length : Int) > 0)) \/ (¬ (v2 = 0)) then
 some ((⟨0, (⟨0, [], 0, [], []⟩ : TMessage), 0, 0, [], 0, 0, 0⟩ : TCommand), 8)
 else
 some (v1.1, 0)
def zcf : List (List UInt8) -> (List TCommand) -> Option (((List TCommand) × Int) ⊕ ((List TCommand)))
 | [], l2 =>
  some (.inr l2)
 | y1 :: rest1, l2 =>
  Option.bind (zd1 (y1)) fun v1 =>
  if ¬ (v1.2 = 0) then
  some (.inl ([], 8))
  else
  if l2.length + [v1.1].length < 1000000 then
  zcf rest1 (l2 ++ [v1.1])
  else none
theorem zhk (l2 : List TCommand) : zcf [] l2 =
  (some (.inr l2) : Option (((List TCommand) × Int) ⊕ ((List TCommand)))) := rfl
theorem zhl (y1 : (List UInt8)) (rest1 : List (List UInt8)) (l2 : List TCommand) : zcf (y1 :: rest1) l2 =
  (Option.bind (zd1 (y1)) fun v1 =>
  if ¬ (v1.2 = 0) then
  some (.inl ([], 8))
  else
  if l2.length + [v1.1].length < 1000000 then
  zcf rest1 (l2 ++ [v1.1])
  else none : Option (((List TCommand) × Int) ⊕ ((List TCommand)))) := rfl
def zdy (a0 : List (List UInt8)) : Option ((List TCommand) × Int) :=
 if (a0.length : Int) > 200 then
 some ([], 4)
 else
 Option.bind (α := ((List TCommand) × Int) ⊕ ((List TCommand))) (zcf a0 []) fun z => match z with
 | (.inl r) => some r
 | (.inr l1) =>
 some (l1, 0)
end Go.Proofs
end
section
namespace Go.Proofs
open Go.Tm Go.RowKit Go.WideShapes
set_option maxRecDepth 100000
set_option maxHeartbeats 4000000
set_option linter.unusedSimpArgs false
set_option linter.unusedVariables false
@[go_sem] def st69 : St := ⟨[], [], 0⟩
@[go_sem] def st70 (a0 : List Int) (n2 : Nat) (n1 : Int) : St := ⟨[(2, .int .i64 n1), (7, .imm 1 (a0.map (D.int .u8)) 4), (8, .int .i64 (a0.length : Int)), (9, .int .i64 (n2 : Int))], [], 0⟩
theorem zir (a0 : List Int) (r : Int × Int × Int) (h : zi2 a0 = some r) : zap Tryz.prog 188 [.imm 1 (a0.map (D.int .u8)) 4] (.tuple [.int .i64 r.1, .int .i64 r.2.1, .int .i64 r.2.2]) := by
 refine za3 Tryz.tmOk 2 Tryz.func188 rfl (by decide) rfl rfl (lb rfl) ?_
 intro hwf
 unfold zi2 at h
 refine .seq (.pl zS [0] ?_)
 obtain ⟨x1, hx1, h⟩ := bind_some h
 refine .seqM 0 (fun (j : Unit) => st69) (fun j => x1 = (.inr j)) (lb rfl) ?_ ?_
 refine .seq (.pl zS [0, 2] ?_)
 refine .block ?_
 refine .loopG 0 (fun (j : Nat × Int) => st70 a0 j.1 j.2) (fun j => j.1 <= a0.length /\ zdn (a0.drop j.1) j.1 j.2 = some x1) (fun j => a0.length - j.1) (0, 0) (lb rfl) ?_ ⟨Nat.zero_le _, hx1⟩ ?_
 exact .m [2, 7, 8, 9] [] []
 rintro ⟨n2, n1⟩ ⟨hi1, hx1⟩
 simp only [st70]
 simp only at hi1 hx1
 refine .wf 8 (.int .i64 (a0.length : Int)) rfl ?_
 intro hln2
 replace hln2 := wfn hln2
 refine .seq (.pl zS [2, 7, 8, 9] ?_)
 refine .seq (.cd (fun hc1 => ?_) (fun hc1 => ?_))
 have h1 : n2 < a0.length := by simpa using hc1
 have hwn2 := zdg h1 hln2
 have hpn2 := zdh h1 hln2
 rw [List.drop_eq_getElem_cons h1, zdn] at hx1
 refine .skip (.seq (.block (.seq ?_)))
 have e1 := zd3 (D.int .u8) a0 n2 h1
 refine .plx zS (ai e1 hwn2) [2, 7, 8, 9] ?_
 refine .seq (.seq (.plx zS hwn2 [2, 5, 6, 7, 8, 9] ?_))
 refine .cd (fun hc2 => ?_) (fun hc2 => ?_)
 replace hx1 := za4 hx1 hc2
 refine .exit ?_
 refine ⟨_, ?_, (sj hx1).symm⟩
 exact .m [] [] []
 replace hx1 := za7 hx1 hc2
 refine .skip (.seq ?_)
 obtain ⟨k1, hx1⟩ := zat hx1
 refine .rg zS [2, 5, 6, 7, 8, 9] ?_
 refine .rnx 6 hwn2 ?_
 refine .rnx 3 hwn2 ?_
 refine .nn ?_
 refine .seq (.seq (.plx zS hwn2 [2, 5, 6, 7, 8, 9] ?_))
 refine .cd (fun hc3 => ?_) (fun hc3 => ?_)
 replace hx1 := za4 hx1 hc3
 refine .exit ?_
 refine .plx zS hwn2 [2, 7, 8, 9] ?_
 refine ⟨(n2 + 1, _), ?_, ⟨by omega, hx1⟩, by dsimp only; omega⟩
 exact .m [2, 7, 8, 9] [] []
 replace hx1 := za7 hx1 hc3
 refine .skip (.seq (.seq ?_))
 obtain ⟨v1, hv1, hx1⟩ := bind_some hx1
 refine .rg zS [2, 5, 6] ?_
 refine .rnx 8 hwn2 ?_
 refine .gcall rfl rfl rfl rfl rfl (fun hg => ⟨[], [.int .i64 (bitw .or .i64 n1 (shw true .i64 (wr .i64 (bitw .and .u8 (a0[n2]) 127)) (wr .i64 (7 * (n2 : Int)))))], _, rfl, gd hg, rfl, (zvc (bitw .or .i64 n1 (shw true .i64 (wr .i64 (bitw .and .u8 (a0[n2]) 127)) (wr .i64 (7 * (n2 : Int))))) v1 (za4 hv1 hg))⟩) ?_
 refine .rnx 2 hwn2 ?_
 refine .nn ?_
 refine .cd (fun hc4 => ?_) (fun hc4 => ?_)
 replace hx1 := za4 hx1 hc4
 refine .exit ?_
 refine ⟨_, ?_, (sj hx1).symm⟩
 exact .m [] [] []
 replace hx1 := za7 hx1 hc4
 refine .skip (.seq (.plx zS hwn2 [2, 5] ?_))
 have hq := sj hx1
 subst x1
 try dsimp only at h
 obtain rfl := sj h
 rw [hwn2]
 exact .rr
 have h2 : n2 = a0.length := by have h2b := of_decide_eq_false hc1; omega
 rw [List.drop_of_length_le (by omega), zdn] at hx1
 refine .exit ?_
 refine ⟨_, ?_, (sj hx1).symm⟩
 exact .m [] [] []
 rintro ⟨⟩ hj1
 subst x1
 try dsimp only at h
 simp only [st69]
 refine .seq (.pl zS [] ?_)
 obtain rfl := sj h
 exact .rr
theorem zot (a0 : List Int) (r : (List UInt8) × Int × Int) (h : zh5 a0 = some r) : zap Tryz.prog 191 [.imm 1 (a0.map (D.int .u8)) 4] (.tuple [.str r.1, .int .i64 r.2.1, .int .i64 r.2.2]) := by
 refine za3 Tryz.tmOk 2 Tryz.func191 rfl (by decide) rfl rfl (lb rfl) ?_
 intro hwf
 unfold zh5 at h
 refine .seq (.pl zS [0] ?_)
 obtain ⟨v1, hv1, h⟩ := bind_some h
 refine .seq (.rg zS [0] ?_)
 refine .rn 1 ?_
 refine .cl (zir a0 v1 hv1) ?_
 refine .rn 7 ?_
 refine .nn ?_
 refine .seq (.seq (.rg zS [0, 4, 5, 6] ?_))
 refine .rn 6 ?_
 refine .rn 8 ?_
 refine .nn ?_
 refine .cd (fun hc1 => ?_) (fun hc1 => ?_)
 replace h := za4 h hc1
 refine .seq (.pl zS [] ?_)
 obtain rfl := sj h
 exact .rr
 replace h := za7 h hc1
 refine .skip ?_
 obtain ⟨k1, h⟩ := zat h
 refine .seq (.rg zS [0, 5, 6] ?_)
 refine .rn 6 ?_
 refine .rn 7 ?_
 refine .nn ?_
 obtain rfl := sj h
 exact .rr
@[go_sem] def st67 (l1 : List Int) (n1 : Int) : St := ⟨[(4, .ref 0 1 0 l1.length (some uC)), (5, .int .i64 n1)], [(0, .arr 3 1 true (l1.map (D.int .i64)))], 1⟩
@[go_sem] def st68 (a0 : List Int) (v1 : Int × Int × Int) (l2 : List Int) (n2 : Int) (n3 : Int) : St := ⟨[(0, .imm 1 (a0.map (D.int .u8)) 4), (4, .ref 0 1 0 l2.length (some uC)), (5, .int .i64 n2), (30, .int .i64 v1.1), (31, .int .i64 n3)], [(0, .arr 3 1 true (l2.map (D.int .i64)))], 1⟩
@[go_sem] def st19 (r : (List Int) × Int × Int) : St := ⟨[(4, .ref 0 1 0 r.1.length (some uC)), (5, .int .i64 r.2.1), (6, .int .i64 r.2.2)], [(0, .arr 3 1 true (r.1.map (D.int .i64)))], 1⟩
theorem zoz (a0 : List Int) (a1 : Int) (r : (List Int) × Int × Int) (h : zh6 a0 a1 = some r) : zbi Tryz.prog 190 [.imm 1 (a0.map (D.int .u8)) 4, .int .i64 a1] [] (.tuple [.ref 0 1 0 r.1.length (some uC), .int .i64 r.2.1, .int .i64 r.2.2]) [(0, some (.arr 3 1 true (r.1.map (D.int .i64))))] (0, 5) := by
 refine za6 Tryz.tmOk Tryz.func190 rfl (by decide) (lb rfl) (by simp) ?_
 intro hwf
 unfold zh6 at h
 refine .ends 0 (Nat.le_refl _) ?_
 refine .seq (.pl zS [0, 1] ?_)
 refine .seq (.seq (.pl zS [0, 1, 4] ?_))
 refine .cd (fun hc1 => ?_) (fun hc1 => ?_)
 replace h := za4 h hc1
 refine .seq (.pl zS [] ?_)
 obtain rfl := sj h
 refine .ret ⟨st19 ([], 0, 2), ?_, .inr rfl, retH [0] ?_ ?_⟩
 refine Goes.new0 1 3 (lb rfl) ?_
 refine Goes.wk 4 _ (.ref 0 1 0 0 (some uC)) rfl (.own0 0 _ _ _ (by decide)) ?_
 exact .m [4, 5, 6] [0] []
 exact rsi0
 rfl
 replace h := za7 h hc1
 refine .skip ?_
 obtain ⟨v1, hv1, h⟩ := bind_some h
 refine .seq (.rg zS [0, 1, 4] ?_)
 refine .rn 1 ?_
 refine .cl (zir a0 v1 hv1) ?_
 refine .rn 7 ?_
 refine .nn ?_
 refine .seq (.seq (.pl zS [0, 1, 4, 5, 6, 7] ?_))
 refine .cd (fun hc2 => ?_) (fun hc2 => ?_)
 replace h := za4 h hc2
 refine .seq (.pl zS [] ?_)
 obtain rfl := sj h
 refine .ret ⟨st19 ([], 0, 8), ?_, .inr rfl, retH [0] ?_ ?_⟩
 refine Goes.new0 1 3 (lb rfl) ?_
 refine Goes.wk 4 _ (.ref 0 1 0 0 (some uC)) rfl (.own0 0 _ _ _ (by decide)) ?_
 exact .m [4, 5, 6] [0] []
 exact rsi0
 rfl
 replace h := za7 h hc2
 obtain ⟨x1, hx1, h⟩ := bind_some h
 refine .skip ?_
 refine .seqM 0 (fun (j : (List Int) × Int) => st67 j.1 j.2) (fun j => x1 = (.inr j)) (lb rfl) ?_ ?_
 refine .seq (.pl zS [0, 4, 5, 7] ?_)
 refine .block ?_
 refine .loopG 0 (fun (j : Nat × (List Int) × Int × Int) => st68 a0 v1 j.2.1 j.2.2.1 j.2.2.2) (fun j => zc5 a0 v1 j.1 j.2.1 j.2.2.1 j.2.2.2 = some x1) (fun j => j.1) (v1.1.toNat + 1, [], v1.2.1, 0) (lb rfl) ?_ hx1 ?_
 refine Goes.new0 1 3 (lb rfl) ?_
 refine Goes.wk 4 _ (.ref 0 1 0 0 (some uC)) rfl (.own0 0 _ _ _ (by decide)) ?_
 exact .m [0, 4, 5, 30, 31] [0] []
 rintro ⟨fu1, l2, n2, n3⟩ hx1
 simp only [st68]
 try simp only at hx1
 obtain ⟨fu1, rfl⟩ : ∃ k, fu1 = k + 1 := by cases fu1 with | zero => (rw [zc5] at hx1; cases hx1) | succ k => exact ⟨k, rfl⟩
 rw [zc5] at hx1
 refine .seq (.pl zS [0, 4, 5, 30, 31] ?_)
 refine .seq (.cd (fun hc3 => ?_) (fun hc3 => ?_))
 replace hx1 := za4 hx1 hc3
 refine .skip (.seq (.block (.seq ?_)))
 obtain ⟨k1, hx1⟩ := zat hx1
 obtain ⟨v2, hv2, hx1⟩ := bind_some hx1
 refine .rg zS [0, 4, 5, 30, 31] ?_
 refine .rn 3 ?_
 refine .cl (zir (a0.drop n2.toNat) v2 hv2) ?_
 refine .rn 7 ?_
 refine .nn ?_
 refine .seq (.seq (.pl zS [0, 4, 5, 8, 9, 10, 30, 31] ?_))
 refine .cd (fun hc4 => ?_) (fun hc4 => ?_)
 replace hx1 := za4 hx1 hc4
 refine .seq (.pl zS [10] ?_)
 have hq := sj hx1
 subst x1
 try dsimp only at h
 obtain rfl := sj h
 refine .ret ⟨st19 ([], 0, v2.2.2), ?_, .inr rfl, retH [0] ?_ ?_⟩
 refine Goes.new0 1 3 (lb rfl) ?_
 refine Goes.wk 4 _ (.ref 1 1 0 0 (some uC)) rfl (.own0 1 _ _ _ (by decide)) ?_
 exact .m [4, 5, 6] [1] [(1, 0)]
 exact rsi0
 rfl
 replace hx1 := za7 hx1 hc4
 refine .skip (.seq ?_)
 obtain ⟨k2, hx1⟩ := zat hx1
 refine .pl zS [0, 4, 5, 8, 9, 30, 31] ?_
 refine .pl zS [0, 4, 5, 9, 30, 31] ?_
 refine .pl zS [0, 4, 5, 30, 31] ?_
 refine ⟨(fu1, _, _, _), ?_, hx1, by dsimp only; omega⟩
 exact .m [0, 4, 5, 30, 31] [2] [(2, 0)]
 replace hx1 := za7 hx1 hc3
 refine .exit ?_
 refine ⟨_, ?_, (sj hx1).symm⟩
 exact .m [4, 5] [0] []
 rintro ⟨l1, n1⟩ hj1
 subst x1
 try dsimp only at h
 simp only [st67]
 refine .seq (.pl zS [4, 5] ?_)
 obtain rfl := sj h
 refine .ret ⟨st19 (l1, n1, 0), ?_, .inr rfl, retH [0] ?_ ?_⟩
 exact .m [4, 5, 6] [0] []
 exact rsi0
 rfl
@[go_sem] def st5 (r : Tcommand_reader) : St := ⟨[(0, .ptr 20000 0)], [(20000, .box [.imm 1 (r.fB.map (D.int .u8)) 12, .bool r.fOk])], 20100⟩
theorem zem (a0 : Tcommand_reader) (a1 : Int) (a2 : Int) (r : Tcommand_reader) (h : zc7 a0 a1 a2 = some r) : zbi Tryz.prog 189 [.ptr 20000 0, .int .i64 a1, .int .i64 a2] [(20000, .box [.imm 1 (a0.fB.map (D.int .u8)) 12, .bool a0.fOk])] (.tuple []) [(20000, some (.box [.imm 1 (r.fB.map (D.int .u8)) 12, .bool r.fOk]))] (20100, 20102) := by
 refine za6 Tryz.tmOk Tryz.func189 rfl (by decide) (lb rfl) (by simp) ?_
 intro hwf
 unfold zc7 at h
 refine .ends 20100 (Nat.le_refl _) ?_
 refine .seq (.rg zS [0, 1, 2] ?_)
 refine .rn 6 ?_
 refine .rn 6 ?_
 refine .nn ?_
 obtain ⟨k1, h⟩ := zat h
 refine .rg zS [0, 1] ?_
 refine .rd 6 ?_
 refine .rd 6 ?_
 refine .rd 4 ?_
 refine .nd ?_
 obtain rfl := sj h
 refine ⟨st5 (⟨(a0.fB.drop (min a1 (a0.fB.length : Int)).toNat), (a0.fOk && (a2 == 0))⟩ : Tcommand_reader), ?_, .inl rfl, retH [20000] ?_ ?_⟩
 exact .m [0] [20000] []
 exact rsi0
 rfl
@[go_sem] def st4 (r : Int × Tcommand_reader) : St := ⟨[(0, .ptr 20000 0), (2, .int .i64 r.1)], [(20000, .box [.imm 1 (r.2.fB.map (D.int .u8)) 12, .bool r.2.fOk])], 20100⟩
theorem zaw (a0 : Tcommand_reader) (r : Int × Tcommand_reader) (h : zai a0 = some r) : zbi Tryz.prog 162 [.ptr 20000 0] [(20000, .box [.imm 1 (a0.fB.map (D.int .u8)) 12, .bool a0.fOk])] (.int .i64 r.1) [(20000, some (.box [.imm 1 (r.2.fB.map (D.int .u8)) 12, .bool r.2.fOk]))] (20100, 20106) := by
 refine za6 Tryz.tmOk Tryz.func162 rfl (by decide) (lb rfl) (by simp) ?_
 intro hwf
 unfold zai at h
 refine .ends 20100 (Nat.le_refl _) ?_
 refine .seq (.pl zS [0] ?_)
 obtain ⟨v1, hv1, h⟩ := bind_some h
 refine .seq (.rg zS [0] ?_)
 refine .rn 4 ?_
 refine .cl (zir a0.fB v1 hv1) ?_
 refine .rn 7 ?_
 refine .nn ?_
 obtain ⟨v2, hv2, h⟩ := bind_some h
 refine .seq (.rg zS [0, 3, 4, 5] ?_)
 refine .rn 3 ?_
 refine .hcall (H := [(20000, .box [.imm 1 (a0.fB.map (D.int .u8)) 12, .bool a0.fOk])]) (eff := [(20000, some (.box [.imm 1 (v2.fB.map (D.int .u8)) 12, .bool v2.fOk]))]) (nw := (20102, 20104)) (r := .tuple []) rfl rfl rfl rfl rfl (zb9 20000 20000 (zcb 20102 (zem a0 v1.2.1 v1.2.2 v2 hv2))) (fun id b h => zah [20000] _ id b h) (by simp) (.inr ⟨lb rfl, lb rfl⟩) ?_
 refine .nn ?_
 refine .seq (.pl zS [0, 3] ?_)
 obtain rfl := sj h
 refine .ret ⟨st4 (v1.1, v2), ?_, .inr rfl, retH [20000] ?_ ?_⟩
 exact .m [0, 2] [20000] []
 exact rsi0
 rfl
@[go_sem] def st6 (r : (List UInt8) × Tcommand_reader) : St := ⟨[(0, .ptr 20000 0), (2, .str r.1)], [(20000, .box [.imm 1 (r.2.fB.map (D.int .u8)) 12, .bool r.2.fOk])], 20100⟩
theorem zgn (a0 : Tcommand_reader) (r : (List UInt8) × Tcommand_reader) (h : zcs a0 = some r) : zbi Tryz.prog 164 [.ptr 20000 0] [(20000, .box [.imm 1 (a0.fB.map (D.int .u8)) 12, .bool a0.fOk])] (.str r.1) [(20000, some (.box [.imm 1 (r.2.fB.map (D.int .u8)) 12, .bool r.2.fOk]))] (20100, 20106) := by
 refine za6 Tryz.tmOk Tryz.func164 rfl (by decide) (lb rfl) (by simp) ?_
 intro hwf
 unfold zcs at h
 refine .ends 20100 (Nat.le_refl _) ?_
 refine .seq (.pl zS [0] ?_)
 obtain ⟨v1, hv1, h⟩ := bind_some h
 refine .seq (.rg zS [0] ?_)
 refine .rn 4 ?_
 refine .cl (zot a0.fB v1 hv1) ?_
 refine .rn 7 ?_
 refine .nn ?_
 obtain ⟨v2, hv2, h⟩ := bind_some h
 refine .seq (.rg zS [0, 3, 4, 5] ?_)
 refine .rn 3 ?_
 refine .hcall (H := [(20000, .box [.imm 1 (a0.fB.map (D.int .u8)) 12, .bool a0.fOk])]) (eff := [(20000, some (.box [.imm 1 (v2.fB.map (D.int .u8)) 12, .bool v2.fOk]))]) (nw := (20102, 20104)) (r := .tuple []) rfl rfl rfl rfl rfl (zb9 20000 20000 (zcb 20102 (zem a0 v1.2.1 v1.2.2 v2 hv2))) (fun id b h => zah [20000] _ id b h) (by simp) (.inr ⟨lb rfl, lb rfl⟩) ?_
 refine .nn ?_
 refine .seq (.pl zS [0, 3] ?_)
 obtain rfl := sj h
 refine .ret ⟨st6 (v1.1, v2), ?_, .inr rfl, retH [20000] ?_ ?_⟩
 exact .m [0, 2] [20000] []
 exact rsi0
 rfl
@[go_sem] def st3 (r : (List Int) × Tcommand_reader) : St := ⟨[(0, .ptr 20000 0), (4, .ref 20100 1 0 r.1.length (some uC))], [(20000, .box [.imm 1 (r.2.fB.map (D.int .u8)) 12, .bool r.2.fOk]), (20100, .arr 3 1 true (r.1.map (D.int .i64)))], 20101⟩
theorem zgo (a0 : Tcommand_reader) (a1 : Int) (r : (List Int) × Tcommand_reader) (h : zct a0 a1 = some r) : zbi Tryz.prog 163 [.ptr 20000 0, .int .i64 a1] [(20000, .box [.imm 1 (a0.fB.map (D.int .u8)) 12, .bool a0.fOk])] (.ref 20100 1 0 r.1.length (some uC)) [(20000, some (.box [.imm 1 (r.2.fB.map (D.int .u8)) 12, .bool r.2.fOk])), (20100, some (.arr 3 1 true (r.1.map (D.int .i64))))] (20100, 20109) := by
 refine za6 Tryz.tmOk Tryz.func163 rfl (by decide) (lb rfl) (by simp) ?_
 intro hwf
 unfold zct at h
 refine .ends 20100 (Nat.le_refl _) ?_
 refine .seq (.pl zS [0, 1] ?_)
 obtain ⟨v1, hv1, h⟩ := bind_some h
 refine .seq (.rg zS [0, 1] ?_)
 refine .rn 5 ?_
 refine .ncall (r := .tuple [.ref 20100 1 0 v1.1.length (some uC), .int .i64 v1.2.1, .int .i64 v1.2.2]) (eff := [(20100, some (.arr 3 1 true (v1.1.map (D.int .i64))))]) (nw := (20100, 20105)) [] rfl rfl rfl rfl rfl (za2 rfl (za2 rfl za8)) rfl (zd8 20100 (lb rfl) (zoz a0.fB a1 v1 hv1)) (zbl rfl rfl (zdk zc1 _ _ _) zdo) (by intro i hi; simp [D.ids, D.idsL] at hi <;> omega) rfl ⟨lb rfl, lb rfl⟩ ?_
 refine .rn 7 ?_
 refine .nn ?_
 obtain ⟨v2, hv2, h⟩ := bind_some h
 refine .seq (.rg zS [0, 5, 6, 7] ?_)
 refine .rn 3 ?_
 refine .hcall (H := [(20000, .box [.imm 1 (a0.fB.map (D.int .u8)) 12, .bool a0.fOk])]) (eff := [(20000, some (.box [.imm 1 (v2.fB.map (D.int .u8)) 12, .bool v2.fOk]))]) (nw := (20105, 20107)) (r := .tuple []) rfl rfl rfl rfl rfl (zb9 20000 20000 (zcb 20105 (zem a0 v1.2.1 v1.2.2 v2 hv2))) (fun id b h => zah [20000] _ id b h) (by simp) (.inr ⟨lb rfl, lb rfl⟩) ?_
 refine .nn ?_
 refine .seq (.pl zS [0, 5] ?_)
 obtain rfl := sj h
 refine .ret ⟨st3 (v1.1, v2), ?_, .inr rfl, retH [20000, 20100] ?_ ?_⟩
 exact .m [0, 4] [20000, 20100] []
 exact rsi0
 rfl
@[go_sem] def st51 (v1 : Int × Tcommand_reader) (l1 : List Int) (b1 : Bool) (n1 : Int) (l2 : List Int) (n2 : Int) (s1 : List UInt8) (s2 : List UInt8) (n3 : Int) (n4 : Int) (l3 : List Int) (n5 : Int) (n6 : Int) (n7 : Int) : St := ⟨[(0, .ptr 20000 0), (2, .ptr 20100 0), (4, .ptr 20112 0)], [(20000, .box [.imm 1 (l1.map (D.int .u8)) 12, .bool b1]), (20100, .box [.int .u8 0, .int .i64 0, .imm 0 [] 0, .int .i64 0, .str [], .str [], .int .i64 0, .int .i64 0, .imm 0 [] 0, .int .i64 0, .int .i64 0, .int .i64 0]), (20112, .box [.int .u8 (wr .u8 (min v1.1 255)), .int .i64 n1, .ref 20113 1 0 l2.length (some uC), .int .i64 n2, .str s1, .str s2, .int .i64 n3, .int .i64 n4, .ref 20114 1 0 l3.length (some uC), .int .i64 n5, .int .i64 n6, .int .i64 n7]), (20113, .arr 3 1 true (l2.map (D.int .i64))), (20114, .arr 3 1 true (l3.map (D.int .i64)))], 20115⟩
@[go_sem] def st52 (v1 : Int × Tcommand_reader) (b2 : Bool) : St := ⟨[(0, .ptr 20000 0), (2, .ptr 20100 0), (4, .ptr 20112 0), (48, .bool b2)], [(20000, .box [.imm 1 (v1.2.fB.map (D.int .u8)) 12, .bool v1.2.fOk]), (20100, .box [.int .u8 0, .int .i64 0, .imm 0 [] 0, .int .i64 0, .str [], .str [], .int .i64 0, .int .i64 0, .imm 0 [] 0, .int .i64 0, .int .i64 0, .int .i64 0]), (20112, .box [.int .u8 (wr .u8 (min v1.1 255)), .int .i64 0, .imm 0 [] 0, .int .i64 0, .str [], .str [], .int .i64 0, .int .i64 0, .imm 0 [] 0, .int .i64 0, .int .i64 0, .int .i64 0])], 20113⟩
@[go_sem] def st53 (v1 : Int × Tcommand_reader) (v10 : Int × Tcommand_reader) (v11 : Int × Tcommand_reader) (l4 : List Int) (b3 : Bool) (n8 : Int) : St := ⟨[(0, .ptr 20000 0), (2, .ptr 20100 0), (4, .ptr 20112 0)], [(20000, .box [.imm 1 (l4.map (D.int .u8)) 12, .bool b3]), (20100, .box [.int .u8 0, .int .i64 0, .imm 0 [] 0, .int .i64 0, .str [], .str [], .int .i64 0, .int .i64 0, .imm 0 [] 0, .int .i64 0, .int .i64 0, .int .i64 0]), (20112, .box [.int .u8 (wr .u8 (min v1.1 255)), .int .i64 0, .imm 0 [] 0, .int .i64 0, .str [], .str [], .int .i64 v10.1, .int .i64 0, .imm 0 [] 0, .int .i64 v11.1, .int .i64 n8, .int .i64 0])], 20125⟩
@[go_sem] def st2 (r : TCommand × Tcommand_reader) : St := ⟨[(0, .ptr 20000 0), (2, .ptr 20102 0)], [(20000, .box [.imm 1 (r.2.fB.map (D.int .u8)) 12, .bool r.2.fOk]), (20100, .arr 3 1 true (r.1.Message.Groups.map (D.int .i64))), (20101, .arr 3 1 true (r.1.Members.map (D.int .i64))), (20102, .box [.int .u8 r.1.Kind, .int .i64 r.1.Message.Id, .ref 20100 1 0 r.1.Message.Groups.length (some uC), .int .i64 r.1.Message.Topic, .str r.1.Message.Key, .str r.1.Message.Body, .int .i64 r.1.Id, .int .i64 r.1.Time, .ref 20101 1 0 r.1.Members.length (some uC), .int .i64 r.1.Topic, .int .i64 r.1.Who, .int .i64 r.1.N])], 20103⟩
theorem zit (a0 : Tcommand_reader) (r : TCommand × Tcommand_reader) (h : zcu a0 = some r) : zbi Tryz.prog 119 [.ptr 20000 0] [(20000, .box [.imm 1 (a0.fB.map (D.int .u8)) 12, .bool a0.fOk])] (.agg [.int .u8 r.1.Kind, .int .i64 r.1.Message.Id, .ref 20100 1 0 r.1.Message.Groups.length (some uC), .int .i64 r.1.Message.Topic, .str r.1.Message.Key, .str r.1.Message.Body, .int .i64 r.1.Id, .int .i64 r.1.Time, .ref 20101 1 0 r.1.Members.length (some uC), .int .i64 r.1.Topic, .int .i64 r.1.Who, .int .i64 r.1.N]) [(20000, some (.box [.imm 1 (r.2.fB.map (D.int .u8)) 12, .bool r.2.fOk])), (20100, some (.arr 3 1 true (r.1.Message.Groups.map (D.int .i64)))), (20101, some (.arr 3 1 true (r.1.Members.map (D.int .i64))))] (20100, 20149) := by
 refine za6 Tryz.tmOk Tryz.func119 rfl (by decide) (lb rfl) (by simp) ?_
 intro hwf
 unfold zcu at h
 refine .ends 20100 (Nat.le_refl _) ?_
 refine .seq (.pl zS [0] ?_)
 obtain ⟨v1, hv1, h⟩ := bind_some h
 refine .seq (.rg zS [0, 2] ?_)
 refine .rn 1 ?_
 refine .hcall (H := [(20000, .box [.imm 1 (a0.fB.map (D.int .u8)) 12, .bool a0.fOk])]) (eff := [(20000, some (.box [.imm 1 (v1.2.fB.map (D.int .u8)) 12, .bool v1.2.fOk]))]) (nw := (20106, 20112)) (r := .int .i64 v1.1) rfl rfl rfl rfl rfl (zb9 20000 20000 (zcb 20106 (zaw a0 v1 hv1))) (fun id b h => zah [20000] _ id b h) (by simp) (.inr ⟨lb rfl, lb rfl⟩) ?_
 refine .rn 1 ?_
 refine .nn ?_
 refine .seq (.pl zS [0, 2, 3] ?_)
 obtain ⟨x1, hx1, h⟩ := bind_some h
 refine .seqM 20113 (fun (j : (List Int) × Bool × Int × (List Int) × Int × (List UInt8) × (List UInt8) × Int × Int × (List Int) × Int × Int × Int) => st51 v1 j.1 j.2.1 j.2.2.1 j.2.2.2.1 j.2.2.2.2.1 j.2.2.2.2.2.1 j.2.2.2.2.2.2.1 j.2.2.2.2.2.2.2.1 j.2.2.2.2.2.2.2.2.1 j.2.2.2.2.2.2.2.2.2.1 j.2.2.2.2.2.2.2.2.2.2.1 j.2.2.2.2.2.2.2.2.2.2.2.1 j.2.2.2.2.2.2.2.2.2.2.2.2) (fun j => x1 = j) (lb rfl) ?_ ?_
 refine .seq (.pl zS [0, 2, 4] ?_)
 refine .block (.seq (.pl zS [0, 2, 4, 12] ?_))
 refine .cd (fun hc1 => ?_) (fun hc1 => ?_)
 replace hx1 := za4 hx1 hc1
 refine .seq ?_
 obtain ⟨v2, hv2, hx1⟩ := bind_some hx1
 refine .rg zS [0, 2, 4] ?_
 refine .rn 1 ?_
 refine .hcall (H := [(20000, .box [.imm 1 (v1.2.fB.map (D.int .u8)) 12, .bool v1.2.fOk])]) (eff := [(20000, some (.box [.imm 1 (v2.2.fB.map (D.int .u8)) 12, .bool v2.2.fOk]))]) (nw := (20113, 20119)) (r := .int .i64 v2.1) rfl rfl rfl rfl rfl (zb9 20000 20000 (zcb 20113 (zaw v1.2 v2 hv2))) (fun id b h => zah [20000] _ id b h) (by simp) (.inr ⟨lb rfl, lb rfl⟩) ?_
 refine .rn 3 ?_
 refine .nn ?_
 refine .seq ?_
 obtain ⟨v3, hv3, hx1⟩ := bind_some hx1
 refine .rg zS [0, 2, 4] ?_
 refine .rn 1 ?_
 refine .hcall (H := [(20000, .box [.imm 1 (v2.2.fB.map (D.int .u8)) 12, .bool v2.2.fOk])]) (eff := [(20000, some (.box [.imm 1 (v3.2.fB.map (D.int .u8)) 12, .bool v3.2.fOk])), (20119, some (.arr 3 1 true (v3.1.map (D.int .i64))))]) (nw := (20119, 20128)) (r := .ref 20119 1 0 v3.1.length (some uC)) rfl rfl rfl rfl rfl (zb9 20000 20000 (zcb 20119 (zgo v2.2 4 v3 hv3))) (fun id b h => zah [20000] _ id b h) (by simp) (.inr ⟨lb rfl, lb rfl⟩) ?_
 refine .rn 3 ?_
 refine .nn ?_
 refine .seq ?_
 obtain ⟨v4, hv4, hx1⟩ := bind_some hx1
 refine .rg zS [0, 2, 4] ?_
 refine .rn 1 ?_
 refine .hcall (H := [(20000, .box [.imm 1 (v3.2.fB.map (D.int .u8)) 12, .bool v3.2.fOk])]) (eff := [(20000, some (.box [.imm 1 (v4.2.fB.map (D.int .u8)) 12, .bool v4.2.fOk]))]) (nw := (20128, 20134)) (r := .int .i64 v4.1) rfl rfl rfl rfl rfl (zb9 20000 20000 (zcb 20128 (zaw v3.2 v4 hv4))) (fun id b h => zah [20000] _ id b h) (by simp) (.inr ⟨lb rfl, lb rfl⟩) ?_
 refine .rn 3 ?_
 refine .nn ?_
 refine .seq ?_
 obtain ⟨v5, hv5, hx1⟩ := bind_some hx1
 refine .rg zS [0, 2, 4] ?_
 refine .rn 1 ?_
 refine .hcall (H := [(20000, .box [.imm 1 (v4.2.fB.map (D.int .u8)) 12, .bool v4.2.fOk])]) (eff := [(20000, some (.box [.imm 1 (v5.2.fB.map (D.int .u8)) 12, .bool v5.2.fOk]))]) (nw := (20134, 20140)) (r := .str v5.1) rfl rfl rfl rfl rfl (zb9 20000 20000 (zcb 20134 (zgn v4.2 v5 hv5))) (fun id b h => zah [20000] _ id b h) (by simp) (.inr ⟨lb rfl, lb rfl⟩) ?_
 refine .rn 3 ?_
 refine .nn ?_
 obtain ⟨v6, hv6, hx1⟩ := bind_some hx1
 refine .rg zS [0, 2, 4] ?_
 refine .rn 1 ?_
 refine .hcall (H := [(20000, .box [.imm 1 (v5.2.fB.map (D.int .u8)) 12, .bool v5.2.fOk])]) (eff := [(20000, some (.box [.imm 1 (v6.2.fB.map (D.int .u8)) 12, .bool v6.2.fOk]))]) (nw := (20140, 20146)) (r := .str v6.1) rfl rfl rfl rfl rfl (zb9 20000 20000 (zcb 20140 (zgn v5.2 v6 hv6))) (fun id b h => zah [20000] _ id b h) (by simp) (.inr ⟨lb rfl, lb rfl⟩) ?_
 refine .rn 3 ?_
 refine .nn ?_
 refine ⟨_, ?_, (sj hx1).symm⟩
 refine Goes.new0 1 3 (lb rfl) ?_
 refine Goes.boxs 20112 _ [.int .u8 (wr .u8 (min v1.1 255)), .int .i64 v2.1, .ref 20119 1 0 v3.1.length (some uC), .int .i64 v4.1, .str v5.1, .str v6.1, .int .i64 0, .int .i64 0, .ref 20146 1 0 0 (some uC), .int .i64 0, .int .i64 0, .int .i64 0] rfl (.keep (.keep (.keep (.keep (.keep (.keep (.keep (.keep (.cons (.own0 20146 _ _ _ (by decide)) (.refl _)))))))))) ?_
 exact .m [0, 2, 4] [20000, 20100, 20112, 20119, 20146] [(20119, 20113), (20146, 20114)]
 replace hx1 := za7 hx1 hc1
 refine .seq (.pl zS [0, 2, 4, 12] ?_)
 refine .cd (fun hc2 => ?_) (fun hc2 => ?_)
 replace hx1 := za4 hx1 hc2
 refine .seq ?_
 obtain ⟨v7, hv7, hx1⟩ := bind_some hx1
 refine .rg zS [0, 2, 4] ?_
 refine .rn 1 ?_
 refine .hcall (H := [(20000, .box [.imm 1 (v1.2.fB.map (D.int .u8)) 12, .bool v1.2.fOk])]) (eff := [(20000, some (.box [.imm 1 (v7.2.fB.map (D.int .u8)) 12, .bool v7.2.fOk]))]) (nw := (20113, 20119)) (r := .int .i64 v7.1) rfl rfl rfl rfl rfl (zb9 20000 20000 (zcb 20113 (zaw v1.2 v7 hv7))) (fun id b h => zah [20000] _ id b h) (by simp) (.inr ⟨lb rfl, lb rfl⟩) ?_
 refine .rn 2 ?_
 refine .nn ?_
 obtain ⟨v8, hv8, hx1⟩ := bind_some hx1
 refine .rg zS [0, 2, 4] ?_
 refine .rn 1 ?_
 refine .hcall (H := [(20000, .box [.imm 1 (v7.2.fB.map (D.int .u8)) 12, .bool v7.2.fOk])]) (eff := [(20000, some (.box [.imm 1 (v8.2.fB.map (D.int .u8)) 12, .bool v8.2.fOk]))]) (nw := (20119, 20125)) (r := .int .i64 v8.1) rfl rfl rfl rfl rfl (zb9 20000 20000 (zcb 20119 (zaw v7.2 v8 hv8))) (fun id b h => zah [20000] _ id b h) (by simp) (.inr ⟨lb rfl, lb rfl⟩) ?_
 refine .rn 2 ?_
 refine .nn ?_
 refine ⟨_, ?_, (sj hx1).symm⟩
 refine Goes.new0 1 3 (lb rfl) ?_
 refine Goes.new0 1 3 (lb rfl) ?_
 refine Goes.boxs 20112 _ [.int .u8 (wr .u8 (min v1.1 255)), .int .i64 0, .ref 20125 1 0 0 (some uC), .int .i64 0, .str [], .str [], .int .i64 v7.1, .int .i64 v8.1, .ref 20126 1 0 0 (some uC), .int .i64 0, .int .i64 0, .int .i64 0] rfl (.keep (.keep (.cons (.own0 20125 _ _ _ (by decide)) (.keep (.keep (.keep (.keep (.keep (.cons (.own0 20126 _ _ _ (by decide)) (.refl _)))))))))) ?_
 exact .m [0, 2, 4] [20000, 20100, 20112, 20125, 20126] [(20125, 20113), (20126, 20114)]
 replace hx1 := za7 hx1 hc2
 refine .seq (.pl zS [0, 2, 4, 12] ?_)
 refine .cd (fun hc3 => ?_) (fun hc3 => ?_)
 replace hx1 := za4 hx1 hc3
 obtain ⟨v9, hv9, hx1⟩ := bind_some hx1
 refine .rg zS [0, 2, 4] ?_
 refine .rn 1 ?_
 refine .hcall (H := [(20000, .box [.imm 1 (v1.2.fB.map (D.int .u8)) 12, .bool v1.2.fOk])]) (eff := [(20000, some (.box [.imm 1 (v9.2.fB.map (D.int .u8)) 12, .bool v9.2.fOk])), (20113, some (.arr 3 1 true (v9.1.map (D.int .i64))))]) (nw := (20113, 20122)) (r := .ref 20113 1 0 v9.1.length (some uC)) rfl rfl rfl rfl rfl (zb9 20000 20000 (zcb 20113 (zgo v1.2 6 v9 hv9))) (fun id b h => zah [20000] _ id b h) (by simp) (.inr ⟨lb rfl, lb rfl⟩) ?_
 refine .rn 2 ?_
 refine .nn ?_
 refine ⟨_, ?_, (sj hx1).symm⟩
 refine Goes.new0 1 3 (lb rfl) ?_
 refine Goes.boxs 20112 _ [.int .u8 (wr .u8 (min v1.1 255)), .int .i64 0, .ref 20122 1 0 0 (some uC), .int .i64 0, .str [], .str [], .int .i64 0, .int .i64 0, .ref 20113 1 0 v9.1.length (some uC), .int .i64 0, .int .i64 0, .int .i64 0] rfl (.keep (.keep (.cons (.own0 20122 _ _ _ (by decide)) (.refl _)))) ?_
 exact .m [0, 2, 4] [20000, 20100, 20112, 20122, 20113] [(20122, 20113), (20113, 20114)]
 replace hx1 := za7 hx1 hc3
 obtain ⟨x2, hx2, hx1⟩ := bind_some hx1
 refine .seqM 20113 (fun (j : Bool) => st52 v1 j) (fun j => x2 = j) (lb rfl) ?_ ?_
 refine .seq (.pl zS [0, 2, 4, 12] ?_)
 refine .cd (fun hc4 => ?_) (fun hc4 => ?_)
 replace hx2 := za4 hx2 hc4
 refine .skip ?_
 refine ⟨_, ?_, (sj hx2).symm⟩
 exact .m [0, 2, 4, 48] [20000, 20100, 20112] []
 replace hx2 := za7 hx2 hc4
 refine .seq (.pl zS [0, 2, 4, 12] ?_)
 refine .cd (fun hc5 => ?_) (fun hc5 => ?_)
 replace hx2 := za4 hx2 hc5
 refine .skip ?_
 refine ⟨_, ?_, (sj hx2).symm⟩
 exact .m [0, 2, 4, 48] [20000, 20100, 20112] []
 replace hx2 := za7 hx2 hc5
 refine .pl zS [0, 2, 4, 12] ?_
 refine ⟨_, ?_, (sj hx2).symm⟩
 exact .m [0, 2, 4, 48] [20000, 20100, 20112] []
 rintro b2 hj1
 subst x2
 try dsimp only at hx1
 simp only [st52]
 refine .cd (fun hc6 => ?_) (fun hc6 => ?_)
 replace hx1 := za4 hx1 hc6
 refine .seq ?_
 obtain ⟨v10, hv10, hx1⟩ := bind_some hx1
 refine .rg zS [0, 2, 4] ?_
 refine .rn 1 ?_
 refine .hcall (H := [(20000, .box [.imm 1 (v1.2.fB.map (D.int .u8)) 12, .bool v1.2.fOk])]) (eff := [(20000, some (.box [.imm 1 (v10.2.fB.map (D.int .u8)) 12, .bool v10.2.fOk]))]) (nw := (20113, 20119)) (r := .int .i64 v10.1) rfl rfl rfl rfl rfl (zb9 20000 20000 (zcb 20113 (zaw v1.2 v10 hv10))) (fun id b h => zah [20000] _ id b h) (by simp) (.inr ⟨lb rfl, lb rfl⟩) ?_
 refine .rn 2 ?_
 refine .nn ?_
 refine .seq ?_
 obtain ⟨v11, hv11, hx1⟩ := bind_some hx1
 refine .rg zS [0, 2, 4] ?_
 refine .rn 1 ?_
 refine .hcall (H := [(20000, .box [.imm 1 (v10.2.fB.map (D.int .u8)) 12, .bool v10.2.fOk])]) (eff := [(20000, some (.box [.imm 1 (v11.2.fB.map (D.int .u8)) 12, .bool v11.2.fOk]))]) (nw := (20119, 20125)) (r := .int .i64 v11.1) rfl rfl rfl rfl rfl (zb9 20000 20000 (zcb 20119 (zaw v10.2 v11 hv11))) (fun id b h => zah [20000] _ id b h) (by simp) (.inr ⟨lb rfl, lb rfl⟩) ?_
 refine .rn 2 ?_
 refine .nn ?_
 obtain ⟨x3, hx3, hx1⟩ := bind_some hx1
 refine .seqM 20125 (fun (j : (List Int) × Bool × Int) => st53 v1 v10 v11 j.1 j.2.1 j.2.2) (fun j => x3 = j) (lb rfl) ?_ ?_
 refine .seq (.pl zS [0, 2, 4] ?_)
 refine .cd (fun hc7 => ?_) (fun hc7 => ?_)
 replace hx3 := za4 hx3 hc7
 obtain ⟨v12, hv12, hx3⟩ := bind_some hx3
 refine .rg zS [0, 2, 4] ?_
 refine .rn 1 ?_
 refine .hcall (H := [(20000, .box [.imm 1 (v11.2.fB.map (D.int .u8)) 12, .bool v11.2.fOk])]) (eff := [(20000, some (.box [.imm 1 (v12.2.fB.map (D.int .u8)) 12, .bool v12.2.fOk]))]) (nw := (20125, 20131)) (r := .int .i64 v12.1) rfl rfl rfl rfl rfl (zb9 20000 20000 (zcb 20125 (zaw v11.2 v12 hv12))) (fun id b h => zah [20000] _ id b h) (by simp) (.inr ⟨lb rfl, lb rfl⟩) ?_
 refine .rn 2 ?_
 refine .nn ?_
 refine ⟨_, ?_, (sj hx3).symm⟩
 exact .m [0, 2, 4] [20000, 20100, 20112] []
 replace hx3 := za7 hx3 hc7
 refine .skip ?_
 refine ⟨_, ?_, (sj hx3).symm⟩
 exact .m [0, 2, 4] [20000, 20100, 20112] []
 rintro ⟨l4, b3, n8⟩ hj2
 subst x3
 try dsimp only at hx1
 simp only [st53]
 obtain ⟨v13, hv13, hx1⟩ := bind_some hx1
 refine .rg zS [0, 2, 4] ?_
 refine .rn 1 ?_
 refine .hcall (H := [(20000, .box [.imm 1 (l4.map (D.int .u8)) 12, .bool b3])]) (eff := [(20000, some (.box [.imm 1 (v13.2.fB.map (D.int .u8)) 12, .bool v13.2.fOk]))]) (nw := (20125, 20131)) (r := .int .i64 v13.1) rfl rfl rfl rfl rfl (zb9 20000 20000 (zcb 20125 (zaw (⟨l4, b3⟩ : Tcommand_reader) v13 hv13))) (fun id b h => zah [20000] _ id b h) (by simp) (.inr ⟨lb rfl, lb rfl⟩) ?_
 refine .rn 2 ?_
 refine .nn ?_
 refine ⟨_, ?_, (sj hx1).symm⟩
 refine Goes.new0 1 3 (lb rfl) ?_
 refine Goes.new0 1 3 (lb rfl) ?_
 refine Goes.boxs 20112 _ [.int .u8 (wr .u8 (min v1.1 255)), .int .i64 0, .ref 20131 1 0 0 (some uC), .int .i64 0, .str [], .str [], .int .i64 v10.1, .int .i64 0, .ref 20132 1 0 0 (some uC), .int .i64 v11.1, .int .i64 n8, .int .i64 v13.1] rfl (.keep (.keep (.cons (.own0 20131 _ _ _ (by decide)) (.keep (.keep (.keep (.keep (.keep (.cons (.own0 20132 _ _ _ (by decide)) (.refl _)))))))))) ?_
 exact .m [0, 2, 4] [20000, 20100, 20112, 20131, 20132] [(20131, 20113), (20132, 20114)]
 replace hx1 := za7 hx1 hc6
 refine .skip ?_
 refine ⟨_, ?_, (sj hx1).symm⟩
 refine Goes.new0 1 3 (lb rfl) ?_
 refine Goes.new0 1 3 (lb rfl) ?_
 refine Goes.boxs 20112 _ [.int .u8 (wr .u8 (min v1.1 255)), .int .i64 0, .ref 20113 1 0 0 (some uC), .int .i64 0, .str [], .str [], .int .i64 0, .int .i64 0, .ref 20114 1 0 0 (some uC), .int .i64 0, .int .i64 0, .int .i64 0] rfl (.keep (.keep (.cons (.own0 20113 _ _ _ (by decide)) (.keep (.keep (.keep (.keep (.keep (.cons (.own0 20114 _ _ _ (by decide)) (.refl _)))))))))) ?_
 exact .m [0, 2, 4] [20000, 20100, 20112, 20113, 20114] []
 rintro ⟨l1, b1, n1, l2, n2, s1, s2, n3, n4, l3, n5, n6, n7⟩ hj3
 subst x1
 try dsimp only at h
 simp only [st51]
 refine .seq (.pl zS [0, 2, 4] ?_)
 obtain rfl := sj h
 refine .ret ⟨st2 ((⟨(wr .u8 (min v1.1 255)), (⟨n1, l2, n2, s1, s2⟩ : TMessage), n3, n4, l3, n5, n6, n7⟩ : TCommand), (⟨l1, b1⟩ : Tcommand_reader)), ?_, .inr rfl, retH [20000, 20101, 20100] ?_ ?_⟩
 exact .m [0, 2] [20000, 20113, 20114, 20100] [(20113, 20100), (20114, 20101), (20100, 20102)]
 exact rsi0
 rfl
@[go_sem] def st0 (r : TCommand × Int) : St := ⟨[(2, .ptr 2 0), (3, .int .i64 r.2)], [(0, .arr 3 1 true (r.1.Message.Groups.map (D.int .i64))), (1, .arr 3 1 true (r.1.Members.map (D.int .i64))), (2, .box [.int .u8 r.1.Kind, .int .i64 r.1.Message.Id, .ref 0 1 0 r.1.Message.Groups.length (some uC), .int .i64 r.1.Message.Topic, .str r.1.Message.Key, .str r.1.Message.Body, .int .i64 r.1.Id, .int .i64 r.1.Time, .ref 1 1 0 r.1.Members.length (some uC), .int .i64 r.1.Topic, .int .i64 r.1.Who, .int .i64 r.1.N])], 3⟩
theorem zo3 (a0 : List UInt8) (r : TCommand × Int) (h : zd1 a0 = some r) : zbi Tryz.prog 59 [.str a0] [] (.tuple [.agg [.int .u8 r.1.Kind, .int .i64 r.1.Message.Id, .ref 0 1 0 r.1.Message.Groups.length (some uC), .int .i64 r.1.Message.Topic, .str r.1.Message.Key, .str r.1.Message.Body, .int .i64 r.1.Id, .int .i64 r.1.Time, .ref 1 1 0 r.1.Members.length (some uC), .int .i64 r.1.Topic, .int .i64 r.1.Who, .int .i64 r.1.N], .int .i64 r.2]) [(0, some (.arr 3 1 true (r.1.Message.Groups.map (D.int .i64)))), (1, some (.arr 3 1 true (r.1.Members.map (D.int .i64))))] (0, 56) := by
 refine za6 Tryz.tmOk Tryz.func59 rfl (by decide) (lb rfl) (by simp) ?_
 intro hwf
 unfold zd1 at h
 refine .ends 0 (Nat.le_refl _) ?_
 refine .seq (.pl zS [0] ?_)
 refine .seq (.seq (.pl zS [0, 2] ?_))
 refine .cd (fun hc1 => ?_) (fun hc1 => ?_)
 replace h := za4 h hc1
 refine .seq (.pl zS [2] ?_)
 obtain rfl := sj h
 refine .ret ⟨st0 ((⟨0, (⟨0, [], 0, [], []⟩ : TMessage), 0, 0, [], 0, 0, 0⟩ : TCommand), 3), ?_, .inr rfl, retH [1, 0] ?_ ?_⟩
 refine Goes.new0 1 3 (lb rfl) ?_
 refine Goes.new0 1 3 (lb rfl) ?_
 refine Goes.boxs 0 _ [.int .u8 0, .int .i64 0, .ref 1 1 0 0 (some uC), .int .i64 0, .str [], .str [], .int .i64 0, .int .i64 0, .ref 2 1 0 0 (some uC), .int .i64 0, .int .i64 0, .int .i64 0] rfl (.keep (.keep (.cons (.own0 1 _ _ _ (by decide)) (.keep (.keep (.keep (.keep (.keep (.cons (.own0 2 _ _ _ (by decide)) (.refl _)))))))))) ?_
 exact .m [2, 3] [1, 2, 0] [(1, 0), (2, 1), (0, 2)]
 exact rsi0
 rfl
 replace h := za7 h hc1
 refine .skip (.seq (.pl zS [0, 2] ?_))
 refine .goes (.boxs 1 _ [.imm 1 ((zlg a0).map (D.int .u8)) 12, .bool true] rfl (.cons (.newR _ _ rfl) (.refl _)) .refl) ?_
 obtain ⟨v1, hv1, h⟩ := bind_some h
 refine .seq (.rg zS [2, 4] ?_)
 refine .rn 1 ?_
 refine .hcall (H := [(1, .box [.imm 1 ((zlg a0).map (D.int .u8)) 12, .bool true])]) (eff := [(1, some (.box [.imm 1 (v1.2.fB.map (D.int .u8)) 12, .bool v1.2.fOk])), (2, some (.arr 3 1 true (v1.1.Message.Groups.map (D.int .i64)))), (3, some (.arr 3 1 true (v1.1.Members.map (D.int .i64))))]) (nw := (2, 51)) (r := .agg [.int .u8 v1.1.Kind, .int .i64 v1.1.Message.Id, .ref 2 1 0 v1.1.Message.Groups.length (some uC), .int .i64 v1.1.Message.Topic, .str v1.1.Message.Key, .str v1.1.Message.Body, .int .i64 v1.1.Id, .int .i64 v1.1.Time, .ref 3 1 0 v1.1.Members.length (some uC), .int .i64 v1.1.Topic, .int .i64 v1.1.Who, .int .i64 v1.1.N]) rfl rfl rfl rfl rfl (zff 2 (zb9 20000 1 (zit (⟨(zlg a0), true⟩ : Tcommand_reader) v1 hv1))) (fun id b h => zah [1] _ id b h) (by simp) (.inr ⟨lb rfl, lb rfl⟩) ?_
 refine .rn 2 ?_
 refine .nn ?_
 refine .seq ?_
 obtain ⟨v2, hv2, h⟩ := bind_some h
 refine .seq (.rg zS [2, 4, 5] ?_)
 refine .rn 6 ?_
 refine .rn 6 ?_
 refine .rn 3 ?_
 refine .glcall (r := .int .i64 v2) [] rfl rfl rfl rfl rfl (fun hg => ⟨[], [.agg [.int .u8 v1.1.Kind, .int .i64 v1.1.Message.Id, .ref 2 1 0 v1.1.Message.Groups.length (some uC), .int .i64 v1.1.Message.Topic, .str v1.1.Message.Key, .str v1.1.Message.Body, .int .i64 v1.1.Id, .int .i64 v1.1.Time, .ref 3 1 0 v1.1.Members.length (some uC), .int .i64 v1.1.Topic, .int .i64 v1.1.Who, .int .i64 v1.1.N]], _, rfl, gd hg, (za2 (zgp (zin (za1 rfl (za1 rfl (za1 (zeq (zky .i64) (by first | rfl | (simp only [go_sem, Nat.reduceBEq]; rfl)) (by first | rfl | (simp; done) | (simp <;> omega))) (za1 rfl (za1 rfl (za1 rfl (za1 rfl (za1 rfl (za1 (zeq (zky .i64) (by first | rfl | (simp only [go_sem, Nat.reduceBEq]; rfl)) (by first | rfl | (simp; done) | (simp <;> omega))) (za1 rfl (za1 rfl (za1 rfl zdu))))))))))))) trivial) za8), rfl, (zfc v1.1 v2 (za4 hv2 hg))⟩) ?_
 refine .rn 2 ?_
 refine .nn ?_
 refine .cd (fun hc2 => ?_) (fun hc2 => ?_)
 replace h := za4 h hc2
 refine .seq (.pl zS [2] ?_)
 obtain rfl := sj h
 refine .ret ⟨st0 ((⟨0, (⟨0, [], 0, [], []⟩ : TMessage), 0, 0, [], 0, 0, 0⟩ : TCommand), 8), ?_, .inr rfl, retH [1, 0] ?_ ?_⟩
 refine Goes.new0 1 3 (lb rfl) ?_
 refine Goes.new0 1 3 (lb rfl) ?_
 refine Goes.boxs 0 _ [.int .u8 0, .int .i64 0, .ref 52 1 0 0 (some uC), .int .i64 0, .str [], .str [], .int .i64 0, .int .i64 0, .ref 53 1 0 0 (some uC), .int .i64 0, .int .i64 0, .int .i64 0] rfl (.keep (.keep (.cons (.own0 52 _ _ _ (by decide)) (.keep (.keep (.keep (.keep (.keep (.cons (.own0 53 _ _ _ (by decide)) (.refl _)))))))))) ?_
 exact .m [2, 3] [52, 53, 0] [(52, 0), (53, 1), (0, 2)]
 exact rsi0
 rfl
 replace h := za7 h hc2
 refine .skip (.seq (.pl zS [2, 5] ?_))
 obtain rfl := sj h
 refine .ret ⟨st0 (v1.1, 0), ?_, .inr rfl, retH [1, 0] ?_ ?_⟩
 exact .m [2, 3] [2, 3, 0] [(2, 0), (3, 1), (0, 2)]
 exact rsi0
 rfl
theorem zny (a0 : List UInt8) (r : TCommand × Int) (h : zd1 a0 = some r) : zap Tryz.prog 59 [.str a0] (.tuple [.agg [.int .u8 r.1.Kind, .int .i64 r.1.Message.Id, .imm 1 (r.1.Message.Groups.map (D.int .i64)) 13, .int .i64 r.1.Message.Topic, .str r.1.Message.Key, .str r.1.Message.Body, .int .i64 r.1.Id, .int .i64 r.1.Time, .imm 1 (r.1.Members.map (D.int .i64)) 13, .int .i64 r.1.Topic, .int .i64 r.1.Who, .int .i64 r.1.N], .int .i64 r.2]) :=
 zdf (zlm (za0 (zgt (za0 rfl (za0 rfl (za0 (zbs zc1 rfl rfl) (za0 rfl (za0 rfl (za0 rfl (za0 rfl (za0 rfl (za0 (zbs zc1 rfl rfl) (za0 rfl (za0 rfl (za0 rfl zbr))))))))))))) (za0 rfl zbr))) (zo3 a0 r h)
@[go_sem] def st65 (l1 : List TCommand) : St := ⟨[(2, .ref 0 12 0 l1.length (some uC))], [(0, .arr 36 12 true (l1.map TCommand.n))], 1⟩
@[go_sem] def st66 (a0 : List (List UInt8)) (n1 : Nat) (l2 : List TCommand) : St := ⟨[(2, .ref 0 12 0 l2.length (some uC)), (11, .imm 1 (a0.map D.str) 4), (12, .int .i64 (a0.length : Int)), (13, .int .i64 (n1 : Int))], [(0, .arr 36 12 true (l2.map TCommand.n))], 1⟩
@[go_sem] def st18 (r : (List TCommand) × Int) : St := ⟨[(2, .ref 0 12 0 r.1.length (some uC)), (3, .int .i64 r.2)], [(0, .arr 36 12 true (r.1.map TCommand.n))], 1⟩
theorem zo1 (a0 : List (List UInt8)) (r : (List TCommand) × Int) (h : zdy a0 = some r) : zbi Tryz.prog 26 [.imm 1 (a0.map D.str) 4] [] (.tuple [.ref 0 12 0 r.1.length (some uC), .int .i64 r.2]) [(0, some (.arr 36 12 true (r.1.map TCommand.n)))] (0, 6) := by
 refine za6 Tryz.tmOk Tryz.func26 rfl (by decide) (lb rfl) (by simp) ?_
 intro hwf
 unfold zdy at h
 refine .ends 0 (Nat.le_refl _) ?_
 refine .seq (.pl zS [0] ?_)
 refine .seq (.seq (.pl zS [0, 2] ?_))
 refine .cd (fun hc1 => ?_) (fun hc1 => ?_)
 replace h := za4 h hc1
 refine .seq (.pl zS [] ?_)
 obtain rfl := sj h
 refine .ret ⟨st18 ([], 4), ?_, .inr rfl, retH [0] ?_ ?_⟩
 refine Goes.new0 12 36 (lb rfl) ?_
 refine Goes.wk 2 _ (.ref 0 12 0 0 (some uC)) rfl (.own0 0 _ _ _ (by decide)) ?_
 exact .m [2, 3] [0] []
 exact rsi0
 rfl
 replace h := za7 h hc1
 obtain ⟨x1, hx1, h⟩ := bind_some h
 refine .skip ?_
 refine .seqM 0 (fun (j : (List TCommand)) => st65 j) (fun j => x1 = (.inr j)) (lb rfl) ?_ ?_
 refine .seq (.pl zS [0, 2] ?_)
 refine .block ?_
 refine .loopG 0 (fun (j : Nat × (List TCommand)) => st66 a0 j.1 j.2) (fun j => j.1 <= a0.length /\ zcf (a0.drop j.1) j.2 = some x1) (fun j => a0.length - j.1) (0, []) (lb rfl) ?_ ⟨Nat.zero_le _, hx1⟩ ?_
 refine Goes.new0 12 36 (lb rfl) ?_
 refine Goes.wk 2 _ (.ref 0 12 0 0 (some uC)) rfl (.own0 0 _ _ _ (by decide)) ?_
 exact .m [2, 11, 12, 13] [0] []
 rintro ⟨n1, l2⟩ ⟨hi1, hx1⟩
 simp only [st66]
 simp only at hi1 hx1
 refine .wf 12 (.int .i64 (a0.length : Int)) rfl ?_
 intro hln1
 replace hln1 := wfn hln1
 refine .seq (.pl zS [2, 11, 12, 13] ?_)
 refine .seq (.cd (fun hc2 => ?_) (fun hc2 => ?_))
 have h1 : n1 < a0.length := by simpa using hc2
 have hwn1 := zdg h1 hln1
 have hpn1 := zdh h1 hln1
 rw [List.drop_eq_getElem_cons h1, zhl] at hx1
 refine .skip (.seq (.block (.seq ?_)))
 have e1 := zd3 D.str a0 n1 h1
 refine .plx zS (ai e1 hwn1) [2, 11, 12, 13] ?_
 refine .seq ?_
 obtain ⟨v1, hv1, hx1⟩ := bind_some hx1
 refine .rg zS [2, 5, 11, 12, 13] ?_
 refine .rnx 1 hwn1 ?_
 refine .cl (zny (a0[n1]) v1 hv1) ?_
 refine .rnx 6 hwn1 ?_
 refine .nn ?_
 refine .seq (.seq (.plx zS hwn1 [2, 6, 7, 11, 12, 13] ?_))
 refine .cd (fun hc3 => ?_) (fun hc3 => ?_)
 replace hx1 := za4 hx1 hc3
 refine .seq (.plx zS hwn1 [] ?_)
 have hq := sj hx1
 subst x1
 try dsimp only at h
 obtain rfl := sj h
 refine .ret ⟨st18 ([], 8), ?_, .inr rfl, retH [0] ?_ ?_⟩
 refine Goes.new0 12 36 (lb rfl) ?_
 refine Goes.wk 2 _ (.ref 2 12 0 0 (some uC)) rfl (.own0 2 _ _ _ (by decide)) ?_
 exact .m [2, 3] [2] [(2, 0)]
 exact rsi0
 rfl
 replace hx1 := za7 hx1 hc3
 refine .skip ?_
 obtain ⟨k1, hx1⟩ := zat hx1
 refine .plx zS hwn1 [2, 6, 11, 12, 13] ?_
 refine .plx zS hwn1 [2, 11, 12, 13] ?_
 refine ⟨(n1 + 1, _), ?_, ⟨by omega, hx1⟩, by dsimp only; omega⟩
 exact .m [2, 11, 12, 13] [3] [(3, 0)]
 have h2 : n1 = a0.length := by have h2b := of_decide_eq_false hc2; omega
 rw [List.drop_of_length_le (by omega), zhk] at hx1
 refine .exit ?_
 refine ⟨_, ?_, (sj hx1).symm⟩
 exact .m [2] [0] []
 rintro l1 hj1
 subst x1
 try dsimp only at h
 simp only [st65]
 refine .seq (.pl zS [2] ?_)
 obtain rfl := sj h
 refine .ret ⟨st18 (l1, 0), ?_, .inr rfl, retH [0] ?_ ?_⟩
 exact .m [2, 3] [0] []
 exact rsi0
 rfl
theorem zjt (a0 : List (List UInt8)) (r : (List TCommand) × Int) (h : zdy a0 = some r) : zap Tryz.prog 26 [.imm 1 (a0.map D.str) 4] (.tuple [.imm 12 (r.1.map TCommand.d) 13, .int .i64 r.2]) :=
 zdf (zlm (za0 (zdx zul rfl rfl) (za0 rfl zbr))) (zo1 a0 r h)
end Go.Proofs
end
section
namespace Go.Proofs
open Go.RowKit Go.Extern.Stop Go.Stop Go.Extern
theorem Tryz.mCmp (h : Value) (w : World) : (Go.method 429 227 (.agg #[h]) "Comparable").run Tryz.prog w = .ok (242, .agg #[h]) w := by kernel_rfl
theorem Tryz.cmpW (w : World) : ((ReflectliteType.method fun t => do Rtype.noPackHeld "Comparable" t; (fun a : TypeInfo => Value.bool a.comparable) <$> typeInfo t) #[.agg #[.pointer (some ⟨1, 106, none⟩)]]).run Tryz.prog w = .ok (.bool true) w := by kernel_rfl
theorem Tryz.noIsF (v : Value) (xT : TypeId) (w : World) : (Instr.typeAssert (.iface 179 v) xT 229 true).run Tryz.prog w = .ok (.tuple #[.nilIface, .bool false]) w := run_typeAssert_lacksB Tryz.underlying229 (by kernel_rfl) (by kernel_rfl) v xT w
theorem Tryz.noIsW (v : Value) (xT : TypeId) (w : World) : (Instr.typeAssert (.iface 106 v) xT 229 true).run Tryz.prog w = .ok (.tuple #[.nilIface, .bool false]) w := run_typeAssert_lacksB Tryz.underlying229 (by kernel_rfl) (by kernel_rfl) v xT w
theorem Tryz.noUnW (v : Value) (xT : TypeId) (w : World) : (Instr.typeAssert (.iface 106 v) xT 232 true).run Tryz.prog w = .ok (.tuple #[.nilIface, .bool false]) w := run_typeAssert_lacksB Tryz.underlying232 (by kernel_rfl) (by kernel_rfl) v xT w
theorem Tryz.noUsW (v : Value) (xT : TypeId) (w : World) : (Instr.typeAssert (.iface 106 v) xT 234 true).run Tryz.prog w = .ok (.tuple #[.nilIface, .bool false]) w := run_typeAssert_lacksB Tryz.underlying234 (by kernel_rfl) (by kernel_rfl) v xT w
theorem Tryz.eqFW (v x : Value) (w : World) : (binOp .eql 76 (.iface 179 v) (.iface 106 x)).run Tryz.prog w = .ok (.bool false) w := by
 have h : ∀ d : Nat, (Op.equalIn (d + 1) 76 (.iface 179 v) (.iface 106 x)).run Tryz.prog w = .ok false w := fun d => by simp [Op.equalIn, run_underlying Tryz.underlying76]
 simp only [binOp]
 simp [Op.equal, Op.maxDepth, h 9999]
theorem Tryz.eqWW (e n : Int) (w : World) : (binOp .eql 76 (.iface 106 (.agg #[.int .i64 e])) (.iface 106 (.agg #[.int .i64 n]))).run Tryz.prog w = .ok (.bool (decide (e = n))) w := by
 have h1 : (Tryz.prog.info? 106).map (·.comparable) = some true := by kernel_rfl
 obtain ⟨i, hi, hc⟩ := Option.map_eq_some_iff.1 h1
 have hh : Tryz.prog.stoodInHeld 106 = false := by kernel_rfl
 have h0 : ∀ d : Nat, (Op.equalIn (d + 2) 106 (.agg #[.int .i64 e]) (.agg #[.int .i64 n])).run Tryz.prog w = .ok (e == n) w := fun d => by
  have hp : ∀ (x : Int) (w : World), (part 41 #[.int .i64 x] 0).run Tryz.prog w = .ok (.int .i64 x) w := fun x w => by kernel_rfl
  simp [Op.equalIn, run_underlying Tryz.underlying106, hh, hp]
  by_cases h : e = n <;> simp [h]
 have h : ∀ d : Nat, (Op.equalIn (d + 3) 76 (.iface 106 (.agg #[.int .i64 e])) (.iface 106 (.agg #[.int .i64 n]))).run Tryz.prog w = .ok (e == n) w := fun d => by
  rw [Op.equalIn.eq_def]
  simp [run_underlying Tryz.underlying76, typeInfo, hi, hc, h0 d]
 simp only [binOp]
 simp [Op.equal, Op.maxDepth, h 9997]
 cases hb : (e == n) <;> simp_all
set_option maxRecDepth 100000 in
set_option maxHeartbeats 4000000 in
theorem Tryz.is_hit (s : ByteArray) (e n : Int) (w : World) :
  Calls Tryz.prog 56 #[.iface 179 (.agg #[.string s, .iface 106 (.agg #[.int .i64 e])]), .iface 106 (.agg #[.int .i64 n])] w fun ev w' => ev = .returned (.bool (decide (e = n))) /\ Go.RowKit.Below w.heap.size w w' := by
 have h10 := @run_callFunc_extern Tryz.prog 115 _ ReflectliteType.typeOf Tryz.func115 (by kernel_rfl) (by kernel_rfl) (by kernel_rfl) (by kernel_rfl)
 have h11 := @run_callFunc_extern Tryz.prog 242 _ (ReflectliteType.method fun t => do Rtype.noPackHeld "Comparable" t; pure (.bool (<- typeInfo t).comparable)) Tryz.func242 (by kernel_rfl) (by kernel_rfl) (by kernel_rfl) (by kernel_rfl)
 have t2 := Tryz.typeOfW
 have m1 := Tryz.mCmp
 have c1 := Tryz.cmpW
 have a1 := Tryz.noIsF
 have a2 := Tryz.noIsW
 have a3 := Tryz.noUnW
 have a4 := Tryz.noUsW
 have u1 := Tryz.hasUnF
 have mU := Tryz.mUnw
 have q1 := Tryz.eqFW
 have q2 := Tryz.eqWW
 go_enter Tryz.func56, Tryz.ntmps56
 go_wp2
 refine wp_loop_rounds 2 ?_
 rw [rounds_succ]
 go_wp2
 rw [rounds_succ]
 by_cases hen : e = n
 ·subst hen
  go_wp2
  go_ret
  exact ⟨by simp, (Below.refl _ w).alloc (Nat.le_refl _) _⟩
 ·go_wp2
  go_ret
  exact ⟨by simp [hen], (Below.refl _ w).alloc (Nat.le_refl _) _⟩
end Go.Proofs
end
section
namespace Go.Proofs
open Go.Tm
def zgs (a0 : Option (List UInt8 × Int)) (n : Int) : Option Bool := match a0 with
 | none => some false
 | some x => some (decide (x.2 = n))
end Go.Proofs
end
section
namespace Go.Proofs
open Go.Tm Go.RowKit
theorem Tryz.isEn : zl4 Tryz.prog 56 := ⟨Tryz.f56, Tryz.func56, by decide, by kernel_rfl⟩
theorem zlq (a0 : Option (List UInt8 × Int)) (n : Int) (r : Bool) (h : zgs a0 n = some r) : zap Tryz.prog 56 [erD a0, .iface 106 (.agg [.int .i64 n])] (.bool r) := by
 cases a0 with
 | none =>
  obtain rfl := sj h
  refine zel rfl rfl (zm7 (v0 := .bool false) 0 Tryz.isEn ?_)
  intro w C vs hg hvs
  simp only [erD, reps, rep] at hvs
  obtain ⟨v, vs', rfl, rfl, v2, vs2, rfl, ⟨y, rfl, -⟩, rfl⟩ := hvs
  refine ⟨fun C => zx6.2 rfl, (Tryz.is_nil 106 y w).mono fun ev w' h => ⟨h.1, ?_⟩⟩
  rw [h.2]; exact Below.refl _ w
 | some x =>
  obtain rfl := sj h
  refine zel rfl rfl (zm7 (v0 := .bool (decide (x.2 = n))) 0 Tryz.isEn ?_)
  intro w' C vs hg hvs
  simp only [erD, reps, rep] at hvs
  obtain ⟨v, vs', rfl, ⟨x1, rfl, cs, rfl, v1, vs1, rfl, ⟨rfl, -⟩, v2, vs2, rfl, ⟨y, rfl, cs2, rfl, v3, vs3, rfl, ⟨rfl, h1, h2⟩, rfl⟩, rfl⟩, v4, vs4, rfl, ⟨z, rfl, cs4, rfl, v5, vs5, rfl, ⟨rfl, -, -⟩, rfl⟩, rfl⟩ := hvs
  exact ⟨fun C => zx6.2 rfl, Tryz.is_hit _ x.2 n w'⟩
end Go.Proofs
end
section
namespace Go.Proofs
open Go.Tm
set_option linter.unusedVariables false
def zb3 (a0 : List (List UInt8)) : Nat -> Int -> Int -> Option (Int)
 | 0, _, _ => none
 | fu1 + 1, n2, n3 =>
  if (n3 < (a0.length : Int)) /\ (n3 < 1000) then
  if (0 <= n3 /\ n3 < (a0.length : Int)) then
  zb3 a0 fu1 (wr .i64 (n2 + (wr .i64 (10 + (min ((a0.getD n3.toNat default).length : Int) 5000))))) (wr .i64 (n3 + 1))
  else none
  else
  some n2
def zdl (a0 : List (List UInt8)) : Option Bool :=
 Option.bind (α := Int) (zb3 a0 (1002) 0 0) fun n1 =>
 some ((decide ((a0.length : Int) > 400)) || (decide (n1 > 60000)))
def zaq (a0 : List TTook) (a1 : List TTook) : Nat -> Int -> Option (Bool ⊕ Unit)
 | 0, _ => none
 | fu1 + 1, n1 =>
  if n1 < (a0.length : Int) then
  if (0 <= n1 /\ n1 < (a0.length : Int)) then
  if (0 <= n1 /\ n1 < (a1.length : Int)) then
  if ¬ (((a0.getD n1.toNat default).Id = (a1.getD n1.toNat default).Id) /\ ((a0.getD n1.toNat default).Topic = (a1.getD n1.toNat default).Topic) /\ ((a0.getD n1.toNat default).Offset = (a1.getD n1.toNat default).Offset)) then
  some (.inl false)
  else
  zaq a0 a1 fu1 (wr .i64 (n1 + 1))
  else none
  else none
  else
  some (.inr ())
def zcn (a0 : List TTook) (a1 : List TTook) : Option Bool :=
 if ¬ ((a0.length : Int) = (a1.length : Int)) then
 some false
 else
 Option.bind (α := Bool ⊕ Unit) (zaq a0 a1 (a0.length + 1) 0) fun z => match z with
 | (.inl r) => some r
 | (.inr _) =>
 some true
def zd6 (a0 : Int) : List TCommand -> Int -> (List TWait) -> (List TStamp) -> (List TTopic) -> (List (List Int)) -> (List Int) -> (List TTook) -> Option (Int × (List TWait) × (List TStamp) × (List TTopic) × (List (List Int)) × (List Int) × (List TTook))
 | [], n2, l7, l8, l9, l10, l11, l12 =>
  some (n2, l7, l8, l9, l10, l11, l12)
 | y1 :: rest1, n2, l7, l8, l9, l10, l11, l12 =>
  Option.bind (α := Int × (List TWait) × (List TStamp) × (List TTopic) × (List (List Int)) × (List Int) × (List TTook)) (Option.bind (zc6 (⟨(⟨(⟨n2, l7, l8⟩ : TSkeen), (⟨l9, l10⟩ : TStream), l11⟩ : THome)⟩ : Tgroup_home) a0 (y1)) fun v4 =>
  (match v4.2.1 with
  | none =>
  Option.bind (zgs none 9) fun v5 =>
  if v5 = true then
  some (v4.2.2.Home.Skeen.Clock, v4.2.2.Home.Skeen.Waits, v4.2.2.Home.Skeen.Done, v4.2.2.Home.Stream.Topics, v4.2.2.Home.Stream.Commits, v4.2.2.Home.Last, l12)
  else
  if l12.length + v4.1.length < 1000000 then
  some (v4.2.2.Home.Skeen.Clock, v4.2.2.Home.Skeen.Waits, v4.2.2.Home.Skeen.Done, v4.2.2.Home.Stream.Topics, v4.2.2.Home.Stream.Commits, v4.2.2.Home.Last, (l12 ++ v4.1))
  else none
  | some er2 =>
  Option.bind (zgs (some er2) 9) fun v6 =>
  if v6 = true then
  some (v4.2.2.Home.Skeen.Clock, v4.2.2.Home.Skeen.Waits, v4.2.2.Home.Skeen.Done, v4.2.2.Home.Stream.Topics, v4.2.2.Home.Stream.Commits, v4.2.2.Home.Last, l12)
  else
  if l12.length + v4.1.length < 1000000 then
  some (v4.2.2.Home.Skeen.Clock, v4.2.2.Home.Skeen.Waits, v4.2.2.Home.Skeen.Done, v4.2.2.Home.Stream.Topics, v4.2.2.Home.Stream.Commits, v4.2.2.Home.Last, (l12 ++ v4.1))
  else none)) fun (n4, l13, l14, l15, l16, l17, l18) =>
  zd6 a0 rest1 n4 l13 l14 l15 l16 l17 l18
theorem zmb (a0 : Int) (n2 : Int) (l7 : List TWait) (l8 : List TStamp) (l9 : List TTopic) (l10 : List (List Int)) (l11 : List Int) (l12 : List TTook) : zd6 a0 [] n2 l7 l8 l9 l10 l11 l12 =
  (some (n2, l7, l8, l9, l10, l11, l12) : Option (Int × (List TWait) × (List TStamp) × (List TTopic) × (List (List Int)) × (List Int) × (List TTook))) := rfl
theorem zij (a0 : Int) (y1 : TCommand) (rest1 : List TCommand) (n2 : Int) (l7 : List TWait) (l8 : List TStamp) (l9 : List TTopic) (l10 : List (List Int)) (l11 : List Int) (l12 : List TTook) : zd6 a0 (y1 :: rest1) n2 l7 l8 l9 l10 l11 l12 =
  (Option.bind (α := Int × (List TWait) × (List TStamp) × (List TTopic) × (List (List Int)) × (List Int) × (List TTook)) (Option.bind (zc6 (⟨(⟨(⟨n2, l7, l8⟩ : TSkeen), (⟨l9, l10⟩ : TStream), l11⟩ : THome)⟩ : Tgroup_home) a0 (y1)) fun v4 =>
  (match v4.2.1 with
  | none =>
  Option.bind (zgs none 9) fun v5 =>
  if v5 = true then
  some (v4.2.2.Home.Skeen.Clock, v4.2.2.Home.Skeen.Waits, v4.2.2.Home.Skeen.Done, v4.2.2.Home.Stream.Topics, v4.2.2.Home.Stream.Commits, v4.2.2.Home.Last, l12)
  else
  if l12.length + v4.1.length < 1000000 then
  some (v4.2.2.Home.Skeen.Clock, v4.2.2.Home.Skeen.Waits, v4.2.2.Home.Skeen.Done, v4.2.2.Home.Stream.Topics, v4.2.2.Home.Stream.Commits, v4.2.2.Home.Last, (l12 ++ v4.1))
  else none
  | some er2 =>
  Option.bind (zgs (some er2) 9) fun v6 =>
  if v6 = true then
  some (v4.2.2.Home.Skeen.Clock, v4.2.2.Home.Skeen.Waits, v4.2.2.Home.Skeen.Done, v4.2.2.Home.Stream.Topics, v4.2.2.Home.Stream.Commits, v4.2.2.Home.Last, l12)
  else
  if l12.length + v4.1.length < 1000000 then
  some (v4.2.2.Home.Skeen.Clock, v4.2.2.Home.Skeen.Waits, v4.2.2.Home.Skeen.Done, v4.2.2.Home.Stream.Topics, v4.2.2.Home.Stream.Commits, v4.2.2.Home.Last, (l12 ++ v4.1))
  else none)) fun (n4, l13, l14, l15, l16, l17, l18) =>
  zd6 a0 rest1 n4 l13 l14 l15 l16 l17 l18 : Option (Int × (List TWait) × (List TStamp) × (List TTopic) × (List (List Int)) × (List Int) × (List TTook))) := rfl
def zfz (a0 : Int) (a1 : List (List UInt8)) : Option (THome × (List TTook) × Int) :=
 Option.bind (zg6 a0) fun v1 =>
 (match v1 with
 | none =>
 Option.bind (zdy a1) fun v2 =>
 if ¬ (v2.2 = 0) then
 some ((⟨(⟨0, [], []⟩ : TSkeen), (⟨[], []⟩ : TStream), []⟩ : THome), [], v2.2)
 else
 Option.bind (zf7 ) fun v3 =>
 Option.bind (α := Int × (List TWait) × (List TStamp) × (List TTopic) × (List (List Int)) × (List Int) × (List TTook)) (zd6 a0 v2.1 v3.Skeen.Clock v3.Skeen.Waits v3.Skeen.Done v3.Stream.Topics v3.Stream.Commits v3.Last []) fun (n1, l1, l2, l3, l4, l5, l6) =>
 Option.bind (zfy (⟨(⟨n1, l1, l2⟩ : TSkeen), (⟨l3, l4⟩ : TStream), l5⟩ : THome)) fun v7 =>
 some (v7, l6, 0)
 | some er1 =>
 Option.bind (zhx (some er1)) fun v8 =>
 some ((⟨(⟨0, [], []⟩ : TSkeen), (⟨[], []⟩ : TStream), []⟩ : THome), [], v8))
end Go.Proofs
end
section
namespace Go.Proofs
open Go.Tm Go.RowKit Go.WideShapes
set_option maxRecDepth 100000
set_option maxHeartbeats 4000000
set_option linter.unusedSimpArgs false
set_option linter.unusedVariables false
@[go_sem] def ya53 (a0 : List (List UInt8)) (n1 : Int) : St := ⟨[(0, .imm 1 (a0.map D.str) 4), (3, .int .i64 n1)], [], 0⟩
@[go_sem] def ya52 (a0 : List (List UInt8)) (n2 : Int) (n3 : Int) : St := ⟨[(0, .imm 1 (a0.map D.str) 4), (3, .int .i64 n2), (4, .int .i64 n3)], [], 0⟩
theorem zjx (a0 : List (List UInt8)) (r : Bool) (h : zdl a0 = some r) : zap Tryz.prog 23 [.imm 1 (a0.map D.str) 4] (.bool r) := by
 refine za3 Tryz.tmOk 2 Tryz.func23 rfl (by decide) rfl rfl (lb rfl) ?_
 intro hwf
 unfold zdl at h
 refine .seq (.pl zS [0] ?_)
 refine .seq (.pl zS [0] ?_)
 obtain ⟨x1, hx1, h⟩ := bind_some h
 refine .seqM 0 (fun (j : Int) => ya53 a0 j) (fun j => x1 = j) (lb rfl) ?_ ?_
 refine .seq (.pl zS [0, 3] ?_)
 refine .block ?_
 refine .loopG 0 (fun (j : Nat × Int × Int) => ya52 a0 j.2.1 j.2.2) (fun j => zb3 a0 j.1 j.2.1 j.2.2 = some x1) (fun j => j.1) (1002, 0, 0) (lb rfl) ?_ hx1 ?_
 exact .m [0, 3, 4] [] []
 rintro ⟨fu1, n2, n3⟩ hx1
 simp only [ya52]
 try simp only at hx1
 obtain ⟨fu1, rfl⟩ : ∃ k, fu1 = k + 1 := by cases fu1 with | zero => (rw [zb3] at hx1; cases hx1) | succ k => exact ⟨k, rfl⟩
 rw [zb3] at hx1
 refine .seq (.seq (.pl zS [0, 3, 4] ?_))
 refine .cd (fun hc1 => ?_) (fun hc1 => ?_)
 replace hx1 := za4 hx1 hc1
 refine .skip (.seq (.block ?_))
 obtain ⟨k1, hx1⟩ := zat hx1
 have e1 := zbq D.str a0 n3
 replace e1 := e1 k1
 refine .rg zS [0, 3, 4] ?_
 refine .rnx 6 e1 ?_
 refine .rnx 4 e1 ?_
 refine .nn ?_
 refine .pl zS [0, 3, 4] ?_
 refine ⟨(fu1, _, _), ?_, hx1, by dsimp only; omega⟩
 exact .m [0, 3, 4] [] []
 replace hx1 := za7 hx1 hc1
 refine .exit ?_
 refine ⟨_, ?_, (sj hx1).symm⟩
 exact .m [0, 3] [] []
 rintro n1 hj1
 subst x1
 try dsimp only at h
 simp only [ya53]
 refine .seq (.pl zS [0, 3] ?_)
 obtain rfl := sj h
 exact .rr
@[go_sem] def ya51 : St := ⟨[], [], 0⟩
@[go_sem] def ya50 (a0 : List TTook) (a1 : List TTook) (n1 : Int) : St := ⟨[(0, .imm 3 (a0.map TTook.d) 4), (1, .imm 3 (a1.map TTook.d) 4), (5, .int .i64 n1)], [], 0⟩
theorem zid (a0 : List TTook) (a1 : List TTook) (r : Bool) (h : zcn a0 a1 = some r) : zap Tryz.prog 15 [.imm 3 (a0.map TTook.d) 4, .imm 3 (a1.map TTook.d) 4] (.bool r) := by
 refine za3 Tryz.tmOk 2 Tryz.func15 rfl (by decide) rfl rfl (lb rfl) ?_
 intro hwf
 unfold zcn at h
 refine .seq (.pl zS [0, 1] ?_)
 refine .seq (.seq (.pl zS [0, 1] ?_))
 refine .cd (fun hc1 => ?_) (fun hc1 => ?_)
 replace h := za4 h hc1
 refine .seq (.pl zS [] ?_)
 obtain rfl := sj h
 exact .rr
 replace h := za7 h hc1
 obtain ⟨x1, hx1, h⟩ := bind_some h
 refine .skip ?_
 refine .seqM 0 (fun (j : Unit) => ya51) (fun j => x1 = (.inr j)) (lb rfl) ?_ ?_
 refine .seq (.pl zS [0, 1] ?_)
 refine .block ?_
 refine .loopG 0 (fun (j : Nat × Int) => ya50 a0 a1 j.2) (fun j => zaq a0 a1 j.1 j.2 = some x1) (fun j => j.1) (a0.length + 1, 0) (lb rfl) ?_ hx1 ?_
 exact .m [0, 1, 5] [] []
 rintro ⟨fu1, n1⟩ hx1
 simp only [ya50]
 try simp only at hx1
 obtain ⟨fu1, rfl⟩ : ∃ k, fu1 = k + 1 := by cases fu1 with | zero => (rw [zaq] at hx1; cases hx1) | succ k => exact ⟨k, rfl⟩
 rw [zaq] at hx1
 refine .seq (.seq (.pl zS [0, 1, 5] ?_))
 refine .cd (fun hc2 => ?_) (fun hc2 => ?_)
 replace hx1 := za4 hx1 hc2
 refine .skip (.seq (.block (.seq ?_)))
 obtain ⟨k1, hx1⟩ := zat hx1
 obtain ⟨k2, hx1⟩ := zat hx1
 have e1 := zbq TTook.d a0 n1
 have e2 := zbq TTook.d a1 n1
 replace e1 := e1 k1
 replace e2 := e2 k2
 refine .rg zS [0, 1, 5] ?_
 refine .rdx 6 (ai e1 e2) ?_
 refine .rdx 3 (ai e1 e2) ?_
 refine .nd ?_
 refine .cd (fun hc3 => ?_) (fun hc3 => ?_)
 replace hx1 := za4 hx1 hc3
 refine .seq (.pl zS [] ?_)
 have hq := sj hx1
 subst x1
 try dsimp only at h
 obtain rfl := sj h
 exact .rr
 replace hx1 := za7 hx1 hc3
 refine .skip (.pl zS [0, 1, 5] ?_)
 refine ⟨(fu1, _), ?_, hx1, by dsimp only; omega⟩
 exact .m [0, 1, 5] [] []
 replace hx1 := za7 hx1 hc2
 refine .exit ?_
 refine ⟨_, ?_, (sj hx1).symm⟩
 exact .m [] [] []
 rintro ⟨⟩ hj1
 subst x1
 try dsimp only at h
 simp only [ya51]
 refine .seq (.pl zS [] ?_)
 obtain rfl := sj h
 exact .rr
@[go_sem] def st58 (n1 : Int) (l1 : List TWait) (l2 : List TStamp) (l3 : List TTopic) (l4 : List (List Int)) (l5 : List Int) (l6 : List TTook) : St := ⟨[(4, .ptr 0 0), (10, .ptr 8 0), (12, .ref 10 3 0 l6.length (some uC))], [(0, .box [.int .i64 0, .imm 0 [] 0, .imm 0 [] 0, .imm 0 [] 0, .imm 0 [] 0, .imm 0 [] 0]), (8, .box [.int .i64 n1, .imm 7 (l1.map TWait.d) 13, .imm 2 (l2.map TStamp.d) 13, .imm 4 (l3.map TTopic.d) 13, .imm 1 (l4.map dL_inti64) 13, .ref 9 1 0 l5.length (some uC)]), (9, .arr 3 1 true (l5.map (D.int .i64))), (10, .arr 68 3 true (l6.map TTook.d))], 11⟩
@[go_sem] def st59 (a0 : Int) (v2 : (List TCommand) × Int) (n3 : Nat) (n2 : Int) (l7 : List TWait) (l8 : List TStamp) (l9 : List TTopic) (l10 : List (List Int)) (l11 : List Int) (l12 : List TTook) : St := ⟨[(0, .int .i64 a0), (4, .ptr 0 0), (10, .ptr 8 0), (11, .fn (.yield 55) [.ptr 8 0]), (12, .ref 10 3 0 l12.length (some uC)), (38, .imm 12 (v2.1.map TCommand.d) 13), (39, .int .i64 (v2.1.length : Int)), (40, .int .i64 (n3 : Int))], [(0, .box [.int .i64 0, .imm 0 [] 0, .imm 0 [] 0, .imm 0 [] 0, .imm 0 [] 0, .imm 0 [] 0]), (8, .box [.int .i64 n2, .imm 7 (l7.map TWait.d) 13, .imm 2 (l8.map TStamp.d) 13, .imm 4 (l9.map TTopic.d) 13, .imm 1 (l10.map dL_inti64) 13, .ref 9 1 0 l11.length (some uC)]), (9, .arr 3 1 true (l11.map (D.int .i64))), (10, .arr 68 3 true (l12.map TTook.d))], 11⟩
@[go_sem] def st60 (a0 : Int) (v2 : (List TCommand) × Int) (n3 : Nat) (n4 : Int) (l13 : List TWait) (l14 : List TStamp) (l15 : List TTopic) (l16 : List (List Int)) (l17 : List Int) (l18 : List TTook) : St := ⟨[(0, .int .i64 a0), (4, .ptr 0 0), (10, .ptr 8 0), (11, .fn (.yield 55) [.ptr 8 0]), (12, .ref 12 3 0 l18.length (some uC)), (38, .imm 12 (v2.1.map TCommand.d) 13), (39, .int .i64 (v2.1.length : Int)), (40, .int .i64 (n3 : Int))], [(0, .box [.int .i64 0, .imm 0 [] 0, .imm 0 [] 0, .imm 0 [] 0, .imm 0 [] 0, .imm 0 [] 0]), (8, .box [.int .i64 n4, .imm 7 (l13.map TWait.d) 13, .imm 2 (l14.map TStamp.d) 13, .imm 4 (l15.map TTopic.d) 13, .imm 1 (l16.map dL_inti64) 13, .ref 11 1 0 l17.length (some uC)]), (11, .arr 3 1 true (l17.map (D.int .i64))), (12, .arr 68 3 true (l18.map TTook.d))], 13⟩
@[go_sem] def st11 (r : THome × (List TTook) × Int) : St := ⟨[(4, .ptr 2 0), (5, .ref 1 3 0 r.2.1.length (some uC)), (6, .int .i64 r.2.2)], [(0, .arr 3 1 true (r.1.Last.map (D.int .i64))), (1, .arr 68 3 true (r.2.1.map TTook.d)), (2, .box [.int .i64 r.1.Skeen.Clock, .imm 7 (r.1.Skeen.Waits.map TWait.d) 13, .imm 2 (r.1.Skeen.Done.map TStamp.d) 13, .imm 4 (r.1.Stream.Topics.map TTopic.d) 13, .imm 1 (r.1.Stream.Commits.map dL_inti64) 13, .ref 0 1 0 r.1.Last.length (some uC)])], 3⟩
theorem zpl (a0 : Int) (a1 : List (List UInt8)) (r : THome × (List TTook) × Int) (h : zfz a0 a1 = some r) : zbi Tryz.prog 24 [.int .i64 a0, .imm 1 (a1.map D.str) 4] [] (.tuple [.agg [.int .i64 r.1.Skeen.Clock, .imm 7 (r.1.Skeen.Waits.map TWait.d) 13, .imm 2 (r.1.Skeen.Done.map TStamp.d) 13, .imm 4 (r.1.Stream.Topics.map TTopic.d) 13, .imm 1 (r.1.Stream.Commits.map dL_inti64) 13, .ref 0 1 0 r.1.Last.length (some uC)], .ref 1 3 0 r.2.1.length (some uC), .int .i64 r.2.2]) [(0, some (.arr 3 1 true (r.1.Last.map (D.int .i64)))), (1, some (.arr 68 3 true (r.2.1.map TTook.d)))] (0, 31) := by
 refine za6 Tryz.tmOk Tryz.func24 rfl (by decide) (lb rfl) (by simp) ?_
 intro hwf
 unfold zfz at h
 refine .ends 0 (Nat.le_refl _) ?_
 refine .seq (.pl zS [0, 1] ?_)
 refine .seq ?_
 obtain ⟨v1, hv1, h⟩ := bind_some h
 rcases zh2 v1 with hEer1 | ⟨er1, hEer1⟩
 rw [hEer1] at h
 dsimp only at h
 refine .seq (.rg zS [0, 1, 4] ?_)
 refine .rn 1 ?_
 refine .call rfl rfl rfl rfl rfl rfl (zgr (r' := .nilIface) (by rw [hEer1]; rfl) (zg9 a0 v1 hv1)) ?_
 refine .rn 1 ?_
 refine .nn ?_
 refine .seq (.pl zS [0, 1, 4, 7] ?_)
 refine .cond rfl rfl (fun hc => by cases hc) (fun hc => ?_)
 refine .skip ?_
 obtain ⟨v2, hv2, h⟩ := bind_some h
 refine .seq (.rg zS [0, 1, 4] ?_)
 refine .rn 1 ?_
 refine .cl (zjt a1 v2 hv2) ?_
 refine .rn 5 ?_
 refine .nn ?_
 refine .seq (.seq (.pl zS [0, 4, 8, 9] ?_))
 refine .cd (fun hc1 => ?_) (fun hc1 => ?_)
 replace h := za4 h hc1
 refine .seq (.pl zS [4, 9] ?_)
 obtain rfl := sj h
 refine .ret ⟨st11 ((⟨(⟨0, [], []⟩ : TSkeen), (⟨[], []⟩ : TStream), []⟩ : THome), [], v2.2), ?_, .inr rfl, retH [1, 0] ?_ ?_⟩
 refine Goes.new0 1 3 (lb rfl) ?_
 refine Goes.new0 3 68 (lb rfl) ?_
 refine Goes.boxs 0 _ [.int .i64 0, .imm 7 [] 13, .imm 2 [] 13, .imm 4 [] 13, .imm 1 [] 13, .ref 1 1 0 0 (some uC)] rfl (.keep (.cons (.nil12 _ _ 0 (by decide)) (.cons (.nil12 _ _ 0 (by decide)) (.cons (.nil12 _ _ 0 (by decide)) (.cons (.nil12 _ _ 0 (by decide)) (.cons (.own0 1 _ _ _ (by decide)) (.refl _))))))) ?_
 refine Goes.wk 5 _ (.ref 2 3 0 0 (some uC)) rfl (.own0 2 _ _ _ (by decide)) ?_
 exact .m [4, 5, 6] [1, 2, 0] [(1, 0), (2, 1), (0, 2)]
 exact rsi0
 rfl
 replace h := za7 h hc1
 refine .skip ?_
 obtain ⟨v3, hv3, h⟩ := bind_some h
 refine .seq (.rg zS [0, 4, 8] ?_)
 refine .ncall (r := .agg [.int .i64 v3.Skeen.Clock, .imm 7 (v3.Skeen.Waits.map TWait.d) 13, .imm 2 (v3.Skeen.Done.map TStamp.d) 13, .imm 4 (v3.Stream.Topics.map TTopic.d) 13, .imm 1 (v3.Stream.Commits.map dL_inti64) 13, .ref 4 1 0 v3.Last.length (some uC)]) (eff := [(4, some (.arr 3 1 true (v3.Last.map (D.int .i64))))]) (nw := (4, 8)) [] rfl rfl rfl rfl rfl za8 rfl (zd8 4 (lb rfl) (zji  v3 hv3)) (zbl rfl rfl (zdk zc1 _ _ _) zdo) (by intro i hi; simp [D.ids, D.idsL] at hi <;> omega) rfl ⟨lb rfl, lb rfl⟩ ?_
 refine .rn 3 ?_
 refine .nn ?_
 refine .seq (.pl zS [0, 4, 8, 10] ?_)
 refine .seq (.pl zS [0, 4, 8, 10, 11] ?_)
 obtain ⟨x1, hx1, h⟩ := bind_some h
 refine .seqM 9 (fun (j : Int × (List TWait) × (List TStamp) × (List TTopic) × (List (List Int)) × (List Int) × (List TTook)) => st58 j.1 j.2.1 j.2.2.1 j.2.2.2.1 j.2.2.2.2.1 j.2.2.2.2.2.1 j.2.2.2.2.2.2) (fun j => x1 = j) (lb rfl) ?_ ?_
 refine .seq (.pl zS [0, 4, 8, 10, 11, 12] ?_)
 refine .block ?_
 refine .loopG 9 (fun (j : Nat × Int × (List TWait) × (List TStamp) × (List TTopic) × (List (List Int)) × (List Int) × (List TTook)) => st59 a0 v2 j.1 j.2.1 j.2.2.1 j.2.2.2.1 j.2.2.2.2.1 j.2.2.2.2.2.1 j.2.2.2.2.2.2.1 j.2.2.2.2.2.2.2) (fun j => j.1 <= v2.1.length /\ zd6 a0 (v2.1.drop j.1) j.2.1 j.2.2.1 j.2.2.2.1 j.2.2.2.2.1 j.2.2.2.2.2.1 j.2.2.2.2.2.2.1 j.2.2.2.2.2.2.2 = some x1) (fun j => v2.1.length - j.1) (0, v3.Skeen.Clock, v3.Skeen.Waits, v3.Skeen.Done, v3.Stream.Topics, v3.Stream.Commits, v3.Last, []) (lb rfl) ?_ ⟨Nat.zero_le _, hx1⟩ ?_
 refine Goes.new0 3 68 (lb rfl) ?_
 refine Goes.wk 12 _ (.ref 9 3 0 0 (some uC)) rfl (.own0 9 _ _ _ (by decide)) ?_
 exact .m [0, 4, 10, 11, 12, 38, 39, 40] [0, 8, 4, 9] [(4, 9), (9, 10)]
 rintro ⟨n3, n2, l7, l8, l9, l10, l11, l12⟩ ⟨hi1, hx1⟩
 simp only [st59]
 simp only at hi1 hx1
 refine .wf 39 (.int .i64 (v2.1.length : Int)) rfl ?_
 intro hln3
 replace hln3 := wfn hln3
 refine .seq (.pl zS [0, 4, 10, 11, 12, 38, 39, 40] ?_)
 refine .seq (.cd (fun hc2 => ?_) (fun hc2 => ?_))
 have h1 : n3 < v2.1.length := by simpa using hc2
 have hwn3 := zdg h1 hln3
 have hpn3 := zdh h1 hln3
 rw [List.drop_eq_getElem_cons h1, zij] at hx1
 refine .skip ?_
 obtain ⟨x2, hx2, hx1⟩ := bind_some hx1
 refine .seqM 11 (fun (j : Int × (List TWait) × (List TStamp) × (List TTopic) × (List (List Int)) × (List Int) × (List TTook)) => st60 a0 v2 n3 j.1 j.2.1 j.2.2.1 j.2.2.2.1 j.2.2.2.2.1 j.2.2.2.2.2.1 j.2.2.2.2.2.2) (fun j => x2 = j) (lb rfl) ?_ ?_
 refine .block (.seq ?_)
 have e1 := zd3 TCommand.d v2.1 n3 h1
 refine .plx zS (ai e1 hwn3) [0, 4, 10, 11, 12, 38, 39, 40] ?_
 obtain ⟨v4, hv4, hx2⟩ := bind_some hx2
 rcases zh2 v4.2.1 with hEer2 | ⟨er2, hEer2⟩
 rw [hEer2] at hx2
 dsimp only at hx2
 refine .seq (.rg zS [0, 4, 10, 11, 12, 14, 38, 39, 40] ?_)
 refine .rnx 3 hwn3 ?_
 refine .mcall (H := [(8, .box [.int .i64 n2, .imm 7 (l7.map TWait.d) 13, .imm 2 (l8.map TStamp.d) 13, .imm 4 (l9.map TTopic.d) 13, .imm 1 (l10.map dL_inti64) 13, .ref 9 1 0 l11.length (some uC)]), (9, .arr 3 1 true (l11.map (D.int .i64)))]) (eff := [(8, some (.box [.int .i64 v4.2.2.Home.Skeen.Clock, .imm 7 (v4.2.2.Home.Skeen.Waits.map TWait.d) 13, .imm 2 (v4.2.2.Home.Skeen.Done.map TStamp.d) 13, .imm 4 (v4.2.2.Home.Stream.Topics.map TTopic.d) 13, .imm 1 (v4.2.2.Home.Stream.Commits.map dL_inti64) 13, .ref 13 1 0 v4.2.2.Home.Last.length (some uC)])), (9, none), (12, some (.arr 68 3 true (v4.1.map TTook.d))), (13, some (.arr 3 1 true (v4.2.2.Home.Last.map (D.int .i64))))]) (nw := (12, 28)) (r := .tuple [.ref 12 3 0 v4.1.length (some uC), .nilIface]) rfl rfl rfl rfl rfl (zff 12 (zb9 20001 9 (zb9 20000 8 (znz (.keep (.keep (.cons (.aggs (.keep (.keep (.cons (.new4 _ _ rfl) (.keep (.keep (.keep (.keep (.keep (.cons (.new4 _ _ rfl) (.refl _))))))))))) (.refl _)))) (zm8 (r' := .tuple [.ref 20100 3 0 v4.1.length (some uC), .nilIface]) (by rw [hEer2]; rfl) (zfd (⟨(⟨(⟨n2, l7, l8⟩ : TSkeen), (⟨l9, l10⟩ : TStream), l11⟩ : THome)⟩ : Tgroup_home) a0 (v2.1[n3]) v4 hv4)))))) (fun id b h => zah [8, 9] _ id b h) (by simp) (.inr ⟨lb rfl, lb rfl⟩) ?_
 refine .rnx 5 hwn3 ?_
 refine .nn ?_
 refine .seq (.seq ?_)
 obtain ⟨v5, hv5, hx2⟩ := bind_some hx2
 refine .rg zS [0, 4, 10, 11, 12, 15, 16, 38, 39, 40] ?_
 refine .rnx 3 hwn3 ?_
 refine .cl (zlq none 9 v5 hv5) ?_
 refine .nn ?_
 refine .cd (fun hc3 => ?_) (fun hc3 => ?_)
 replace hx2 := za4 hx2 hc3
 refine .exit ?_
 refine ⟨_, ?_, (sj hx2).symm⟩
 exact .m [0, 4, 10, 11, 12, 38, 39, 40] [0, 8, 13, 10] [(13, 11), (10, 12)]
 replace hx2 := za7 hx2 hc3
 refine .skip ?_
 obtain ⟨k1, hx2⟩ := zat hx2
 refine .plx zS hwn3 [0, 4, 10, 11, 12, 15, 38, 39, 40] ?_
 refine ⟨_, ?_, (sj hx2).symm⟩
 exact .m [0, 4, 10, 11, 12, 38, 39, 40] [0, 8, 13, 28] [(13, 11), (28, 12)]
 rw [hEer2] at hx2
 dsimp only at hx2
 refine .seq (.rg zS [0, 4, 10, 11, 12, 14, 38, 39, 40] ?_)
 refine .rnx 3 hwn3 ?_
 refine .mcall (H := [(8, .box [.int .i64 n2, .imm 7 (l7.map TWait.d) 13, .imm 2 (l8.map TStamp.d) 13, .imm 4 (l9.map TTopic.d) 13, .imm 1 (l10.map dL_inti64) 13, .ref 9 1 0 l11.length (some uC)]), (9, .arr 3 1 true (l11.map (D.int .i64)))]) (eff := [(8, some (.box [.int .i64 v4.2.2.Home.Skeen.Clock, .imm 7 (v4.2.2.Home.Skeen.Waits.map TWait.d) 13, .imm 2 (v4.2.2.Home.Skeen.Done.map TStamp.d) 13, .imm 4 (v4.2.2.Home.Stream.Topics.map TTopic.d) 13, .imm 1 (v4.2.2.Home.Stream.Commits.map dL_inti64) 13, .ref 13 1 0 v4.2.2.Home.Last.length (some uC)])), (9, none), (12, some (.arr 68 3 true (v4.1.map TTook.d))), (13, some (.arr 3 1 true (v4.2.2.Home.Last.map (D.int .i64))))]) (nw := (12, 28)) (r := .tuple [.ref 12 3 0 v4.1.length (some uC), .iface 179 (.agg [.str er2.1, .iface 106 (.agg [.int .i64 er2.2])])]) rfl rfl rfl rfl rfl (zff 12 (zb9 20001 9 (zb9 20000 8 (znz (.keep (.keep (.cons (.aggs (.keep (.keep (.cons (.new4 _ _ rfl) (.keep (.keep (.keep (.keep (.keep (.cons (.new4 _ _ rfl) (.refl _))))))))))) (.refl _)))) (zm8 (r' := .tuple [.ref 20100 3 0 v4.1.length (some uC), .iface 179 (.agg [.str er2.1, .iface 106 (.agg [.int .i64 er2.2])])]) (by rw [hEer2]; rfl) (zfd (⟨(⟨(⟨n2, l7, l8⟩ : TSkeen), (⟨l9, l10⟩ : TStream), l11⟩ : THome)⟩ : Tgroup_home) a0 (v2.1[n3]) v4 hv4)))))) (fun id b h => zah [8, 9] _ id b h) (by simp) (.inr ⟨lb rfl, lb rfl⟩) ?_
 refine .rnx 5 hwn3 ?_
 refine .nn ?_
 refine .seq (.seq ?_)
 obtain ⟨v6, hv6, hx2⟩ := bind_some hx2
 refine .rg zS [0, 4, 10, 11, 12, 15, 16, 38, 39, 40] ?_
 refine .rnx 3 hwn3 ?_
 refine .cl (zlq (some er2) 9 v6 hv6) ?_
 refine .nn ?_
 refine .cd (fun hc4 => ?_) (fun hc4 => ?_)
 replace hx2 := za4 hx2 hc4
 refine .exit ?_
 refine ⟨_, ?_, (sj hx2).symm⟩
 exact .m [0, 4, 10, 11, 12, 38, 39, 40] [0, 8, 13, 10] [(13, 11), (10, 12)]
 replace hx2 := za7 hx2 hc4
 refine .skip ?_
 obtain ⟨k2, hx2⟩ := zat hx2
 refine .plx zS hwn3 [0, 4, 10, 11, 12, 15, 38, 39, 40] ?_
 refine ⟨_, ?_, (sj hx2).symm⟩
 exact .m [0, 4, 10, 11, 12, 38, 39, 40] [0, 8, 13, 28] [(13, 11), (28, 12)]
 rintro ⟨n4, l13, l14, l15, l16, l17, l18⟩ hj1
 subst x2
 try dsimp only at hx1
 simp only [st60]
 refine .plx zS hwn3 [0, 4, 10, 11, 12, 38, 39, 40] ?_
 refine ⟨(n3 + 1, _, _, _, _, _, _, _), ?_, ⟨by omega, hx1⟩, by dsimp only; omega⟩
 exact .m [0, 4, 10, 11, 12, 38, 39, 40] [0, 8, 11, 12] [(11, 9), (12, 10)]
 have h2 : n3 = v2.1.length := by have h2b := of_decide_eq_false hc2; omega
 rw [List.drop_of_length_le (by omega), zmb] at hx1
 refine .exit ?_
 refine ⟨_, ?_, (sj hx1).symm⟩
 exact .m [4, 10, 12] [0, 8, 9, 10] []
 rintro ⟨n1, l1, l2, l3, l4, l5, l6⟩ hj2
 subst x1
 try dsimp only at h
 simp only [st58]
 obtain ⟨v7, hv7, h⟩ := bind_some h
 refine .seq (.rg zS [4, 10, 12] ?_)
 refine .rn 4 ?_
 refine .ncall (r := .agg [.int .i64 v7.Skeen.Clock, .imm 7 (v7.Skeen.Waits.map TWait.d) 13, .imm 2 (v7.Skeen.Done.map TStamp.d) 13, .imm 4 (v7.Stream.Topics.map TTopic.d) 13, .imm 1 (v7.Stream.Commits.map dL_inti64) 13, .ref 11 1 0 v7.Last.length (some uC)]) (eff := [(11, some (.arr 3 1 true (v7.Last.map (D.int .i64))))]) (nw := (11, 19)) [] rfl rfl rfl rfl rfl (za2 (zgp (zin (za1 rfl (za1 rfl (za1 rfl (za1 rfl (za1 rfl (za1 (zeq (zky .i64) (by first | rfl | (simp only [go_sem, Nat.reduceBEq]; rfl)) (by first | rfl | (simp; done) | (simp <;> omega))) zdu))))))) trivial) za8) rfl (zd8 11 (lb rfl) (zpw (WkL.cons (Wk.agg (WkL.cons (Wk.refl _) (WkL.cons Wk.iz (WkL.cons Wk.iz (WkL.cons Wk.iz (WkL.cons Wk.iz (WkL.cons (Wk.refl _) (WkL.refl _)))))))) (WkL.refl _)) (zl2 (⟨(⟨n1, l1, l2⟩ : TSkeen), (⟨l3, l4⟩ : TStream), l5⟩ : THome) v7 hv7))) (zbl rfl rfl (zdk zc1 _ _ _) zdo) (by intro i hi; simp [D.ids, D.idsL] at hi <;> omega) rfl ⟨lb rfl, lb rfl⟩ ?_
 refine .rn 4 ?_
 refine .nn ?_
 obtain rfl := sj h
 refine .ret ⟨st11 (v7, l6, 0), ?_, .inr rfl, retH [1, 0] ?_ ?_⟩
 exact .m [4, 5, 6] [11, 10, 0] [(11, 0), (10, 1), (0, 2)]
 exact rsi0
 rfl
 rw [hEer1] at h
 dsimp only at h
 refine .seq (.rg zS [0, 1, 4] ?_)
 refine .rn 1 ?_
 refine .call rfl rfl rfl rfl rfl rfl (zgr (r' := .iface 179 (.agg [.str er1.1, .iface 106 (.agg [.int .i64 er1.2])])) (by rw [hEer1]; rfl) (zg9 a0 v1 hv1)) ?_
 refine .rn 1 ?_
 refine .nn ?_
 refine .seq (.pl zS [0, 1, 4, 7] ?_)
 refine .cond rfl rfl (fun hc => ?_) (fun hc => by cases hc)
 obtain ⟨v8, hv8, h⟩ := bind_some h
 refine .seq (.rg zS [4, 7] ?_)
 refine .rn 2 ?_
 refine .cl (zhb (some er1) v8 hv8) ?_
 refine .rn 3 ?_
 refine .nn ?_
 obtain rfl := sj h
 refine .ret ⟨st11 ((⟨(⟨0, [], []⟩ : TSkeen), (⟨[], []⟩ : TStream), []⟩ : THome), [], v8), ?_, .inr rfl, retH [1, 0] ?_ ?_⟩
 refine Goes.new0 1 3 (lb rfl) ?_
 refine Goes.new0 3 68 (lb rfl) ?_
 refine Goes.boxs 0 _ [.int .i64 0, .imm 7 [] 13, .imm 2 [] 13, .imm 4 [] 13, .imm 1 [] 13, .ref 1 1 0 0 (some uC)] rfl (.keep (.cons (.nil12 _ _ 0 (by decide)) (.cons (.nil12 _ _ 0 (by decide)) (.cons (.nil12 _ _ 0 (by decide)) (.cons (.nil12 _ _ 0 (by decide)) (.cons (.own0 1 _ _ _ (by decide)) (.refl _))))))) ?_
 refine Goes.wk 5 _ (.ref 2 3 0 0 (some uC)) rfl (.own0 2 _ _ _ (by decide)) ?_
 exact .m [4, 5, 6] [1, 2, 0] [(1, 0), (2, 1), (0, 2)]
 exact rsi0
 rfl
theorem zph (a0 : Int) (a1 : List (List UInt8)) (r : THome × (List TTook) × Int) (h : zfz a0 a1 = some r) : zap Tryz.prog 24 [.int .i64 a0, .imm 1 (a1.map D.str) 4] (.tuple [.agg [.int .i64 r.1.Skeen.Clock, .imm 7 (r.1.Skeen.Waits.map TWait.d) 13, .imm 2 (r.1.Skeen.Done.map TStamp.d) 13, .imm 4 (r.1.Stream.Topics.map TTopic.d) 13, .imm 1 (r.1.Stream.Commits.map dL_inti64) 13, .imm 1 (r.1.Last.map (D.int .i64)) 13], .imm 3 (r.2.1.map TTook.d) 13, .int .i64 r.2.2]) :=
 zdf (zlm (za0 (zgt (za0 rfl (za0 rfl (za0 rfl (za0 rfl (za0 rfl (za0 (zbs zc1 rfl rfl) zbr))))))) (za0 (zbs zjb rfl rfl) (za0 rfl zbr)))) (zpl a0 a1 r h)
end Go.Proofs
end
section
namespace Go.Proofs
open Go.Tm
set_option linter.unusedVariables false
def zaj (a0 : Int) (v4 : (List TCommand) × Int) : Nat -> Int -> (List TWait) -> (List TStamp) -> (List TTopic) -> (List (List Int)) -> (List Int) -> (List TTook) -> Int -> Option (Int × (List TWait) × (List TStamp) × (List TTopic) × (List (List Int)) × (List Int) × (List TTook))
 | 0, _, _, _, _, _, _, _, _ => none
 | fu1 + 1, n2, l7, l8, l9, l10, l11, l12, n3 =>
  if n3 < (v4.1.length : Int) then
  Option.bind (α := Int × (List TWait) × (List TStamp) × (List TTopic) × (List (List Int)) × (List Int) × (List TTook)) (if (0 <= n3 /\ n3 < (v4.1.length : Int)) then
  Option.bind (zd7 (⟨(⟨n2, l7, l8⟩ : TSkeen), (⟨l9, l10⟩ : TStream), l11⟩ : THome) a0 (v4.1.getD n3.toNat default)) fun v6 =>
  if v6.2.2 = 0 then
  if l12.length + v6.2.1.length < 1000000 then
  some (v6.1.Skeen.Clock, v6.1.Skeen.Waits, v6.1.Skeen.Done, v6.1.Stream.Topics, v6.1.Stream.Commits, v6.1.Last, (l12 ++ v6.2.1))
  else none
  else
  some (n2, l7, l8, l9, l10, l11, l12)
  else none) fun (n4, l13, l14, l15, l16, l17, l18) =>
  zaj a0 v4 fu1 n4 l13 l14 l15 l16 l17 l18 (wr .i64 (n3 + 1))
  else
  some (n2, l7, l8, l9, l10, l11, l12)
def zcx (a0 : Int) (a1 : List (List UInt8)) : Option Bool :=
 Option.bind (ze3 ) fun v1 =>
 if v1 = true then
 Option.bind (zdl a1) fun v2 =>
 if (v2 = true) \/ (¬ (v1 = true)) then
 some v1
 else
 Option.bind (zfz a0 a1) fun v3 =>
 Option.bind (zdy a1) fun v4 =>
 if (¬ (v3.2.2 = 0)) \/ (¬ (v4.2 = 0)) then
 some (((v3.2.1.length : Int) == 0) && (v3.2.2 != 0))
 else
 Option.bind (zf7 ) fun v5 =>
 Option.bind (α := Int × (List TWait) × (List TStamp) × (List TTopic) × (List (List Int)) × (List Int) × (List TTook)) (zaj a0 v4 (201) v5.Skeen.Clock v5.Skeen.Waits v5.Skeen.Done v5.Stream.Topics v5.Stream.Commits v5.Last [] 0) fun (n1, l1, l2, l3, l4, l5, l6) =>
 Option.bind (zf0 (⟨(⟨n1, l1, l2⟩ : TSkeen), (⟨l3, l4⟩ : TStream), l5⟩ : THome) v3.1) fun v7 =>
 Option.bind (if v7 = true then zcn l6 v3.2.1 else some default) fun v8 =>
 Option.bind (if (v7 = true) /\ (v8 = true) then zf8 v3.1 else some default) fun v9 =>
 some ((v7 && v8) && (v9 == 0))
 else none
end Go.Proofs
end
