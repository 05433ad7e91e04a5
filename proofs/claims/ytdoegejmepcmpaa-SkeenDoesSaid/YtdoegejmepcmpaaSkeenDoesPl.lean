/- Texts of the proof. -/
import Derived.Test.YtdoegejmepcmpaaSkeenDoesPf
import Derived.Test.YtdoegejmepcmpaaSkeenDoesPg
import Derived.Test.YtdoegejmepcmpaaSkeenDoesPh
import Derived.Test.YtdoegejmepcmpaaSkeenDoesPi
import Derived.Test.YtdoegejmepcmpaaSkeenDoesPj
import Derived.Test.YtdoegejmepcmpaaSkeenDoesPk
import Derived.Test.YtdoegejmepcmpaaSkeenDoesPe
section
namespace Go.Proofs
open Go.Tm Go.RowKit Go.WideShapes
set_option maxRecDepth 100000
set_option maxHeartbeats 4000000
set_option linter.unusedSimpArgs false
set_option linter.unusedVariables false
attribute [local go_sem] argVars runE runK isCallV stepE aop opd opdsL opds opdO ev ofVal keep List.any natbeq Bool.false_or Bool.true_or aggEq cond_true cond_false Bool.cond_false_right Bool.cond_true_left beq_true beq_false imp_self implies_true getR getL put St.app effL del nwB blt_dec Nat.lt_irrefl Nat.lt_add_one ble_dec Nat.le_refl Nat.beq_refl roomNZ appendIn capS capK mkZ_zero mkZL_zero zeroEl D.ids D.idsL bin arith sarith binT dpick Tm.part splice fillD oneD loadD storeD srcD sliceD idxOk decide_true gval dstAt D.cells List.map_cons List.map_nil List.take List.drop List.length_map List.append Int.toNat_natCast and_true true_and decide_false List.length_cons List.length_nil List.append_nil List.nil_append Bool.and_true Bool.true_and Bool.not_false Bool.not_true ne_eq not_false_eq_true BEq.rfl List.getElem?_cons_zero List.getElem?_cons_succ List.getElem?_nil Nat.zero_add List.all_cons List.all_nil List.isEmpty_cons List.isEmpty_nil Option.getD_some Option.getD_none List.any_cons List.any_nil List.drop_succ_cons List.drop_zero unfL unf okM okML low3 List.cons_append true_or or_true Nat.zero_mul Nat.zero_le findD_int findD_str  getD_int getD_str getD_bool Option.isSome_map keyD List.length_replicate List.map_replicate setEl List.length_set bytesD_map map_ub mx_len mkZ_one mkZL_one mkM mkML mk1_int mk1_str mk1_bool drop_map take_map take_map_len List.take_length Int.toNat_zero toNat_pred fpOf metIds opIds mvV mvH mvF pickL D.ren D.renL Blk.ren List.map_append List.length_append Bool.not_not Bool.or_not_self Bool.not_or_self Bool.or_true
attribute [local go_sem] Try.tm_1 Try.tm_2 Try.tm_3 Try.tm_4 Try.tm_5 Try.tm_6 Try.tm_7 Try.tm_8 Try.tm_9 Try.tm_10 Try.tm_11 Try.tm_12 Try.tm_13 Try.tm_14 Try.tm_15 Try.tm_16 Try.tm_17 Try.tm_18 Try.tm_19 Try.tm_20 Try.tm_21 Try.tm_22 Try.tm_23 Try.tm_24 Try.tm_25 Try.tm_26 Try.tm_27 Try.tm_28 Try.tm_29 Try.tm_30 Try.tm_31 Try.tm_32 Try.tm_33 Try.tm_34 Try.tm_35 Try.tm_37 Try.tm_39 Try.tm_41 Try.tm_43 Try.tm_44 Try.tm_45 Try.tm_46 Try.tm_47 Try.tm_48 Try.tm_49 Try.tm_50 Try.tm_51 Try.tm_52 Try.tm_53 Try.tm_54 Try.tm_55 Try.tm_56 Try.tm_57 Try.tm_58 Try.tm_59 Try.tm_60 Try.tm_61 Try.tm_63 Try.tm_65 Try.tm_66 Try.tm_67 Try.tm_68 Try.tm_69 Try.tm_70 Try.tm_71 Try.tm_72 Try.tm_73 Try.tm_74 Try.tm_75 Try.tm_76 Try.tm_77 Try.tm_78 Try.tm_79 Try.tm_80 Try.tm_81 Try.tm_82 Try.tm_83 Try.tm_84 Try.tm_85 Try.tm_86 Try.tm_87 Try.tm_89 Try.tm_90 Try.tm_91 Try.tm_92 Try.tm_93 Try.tm_94 Try.tm_95 Try.tm_96 Try.tm_97 Try.tm_98 Try.tm_99 Try.tm_100 Try.tm_101 Try.tm_102 Try.tm_103 Try.tm_104 Try.tm_105 Try.tm_106 Try.tm_107 Try.tm_108 Try.tm_109 Try.tm_110 Try.tm_111 Try.tm_112 Try.tm_113 Try.tm_114 Try.tm_117 Try.tm_118 Try.tm_119 Try.tm_120 Try.tm_121 Try.tm_122 Try.tm_123 Try.tm_124 Try.tm_125 Try.tm_126 TMessage.d TMessage.n TWait.d TWait.n TStamp.d TSkeen.d TSkeen.n TCommand.d TCommand.n Tskeen_clock.d Tskeen_clock.n mk1_TStamp Try.f3
theorem vs1 {b : Bool} : ∀ x ∈ [((10 : Nat), D.bool b)], ∃ b', x.2 = .bool b' := fun x hx => ⟨b, by rw [List.mem_singleton.1 hx]⟩
theorem vs2 {b : Bool} {vars : List (Nat × D)} (hb : getL vars 10 = some (.bool b)) : ∀ t d, getL [((10 : Nat), D.bool b)] t = some d → getL vars t = some d := fun t d hd => by
 simp only [getL] at hd
 cases hq : Nat.beq 10 t
 ·rw [hq] at hd; cases hd
 ·rw [hq] at hd
  have := Nat.eq_of_beq_eq_true hq
  subst this
  cases hd
  exact hb
theorem mkZ_two (d : D) : mkZ 2 d = mkM 2 d := rfl
theorem mkZL_two (l : List D) : mkZL 2 l = mkML 2 l := rfl
attribute [local go_sem] mkZ_two mkZL_two scL_length TMessage.z
theorem callP_skeen_Apply_e (a0 : TSkeen) (a1 : Int) (a2 : TCommand) (r : TSkeen × (List TMessage) × Int) (h : m_skeen_Apply a0 a1 a2 = some r) : CallP Try.prog 7 [.agg [.int .i64 a0.Clock, .imm 7 (a0.Waits.map TWait.d) 4, .imm 2 (a0.Done.map TStamp.d) 4], .int .i64 a1, .agg [.int .u8 a2.Kind, .int .i64 a2.Message.Id, .imm 1 (a2.Message.Groups.map (D.int .i64)) 4, .int .i64 a2.Message.Topic, .str a2.Message.Key, .str a2.Message.Body, .int .i64 a2.Id, .int .i64 a2.Time, .imm 1 (a2.Members.map (D.int .i64)) 4, .int .i64 a2.Topic, .int .i64 a2.Who, .int .i64 a2.N]] (.tuple [.agg [.int .i64 r.1.Clock, .imm 7 (r.1.Waits.map TWait.e) 13, .imm 2 (r.1.Done.map TStamp.d) 13], .imm 5 (r.2.1.map TMessage.e) 13, .int .i64 r.2.2]) :=
 callP_frzE (frzE_tup (frzEs_cons (frzE_agg (frzEs_cons rfl (frzEs_cons (frzE_ref ple_TWait rfl rfl) (frzEs_cons (frzE_ref ple_TStamp rfl rfl) frzEs_nil)))) (frzEs_cons (frzE_ref ple_TMessage rfl rfl) (frzEs_cons rfl frzEs_nil)))) (callH_skeen_Apply a0 a1 a2 r h)
theorem callP_skeen_Twin_e (a0 : TSkeen) (r : TSkeen) (h : m_skeen_Twin a0 = some r) : CallP Try.prog 11 [.agg [.int .i64 a0.Clock, .imm 7 (a0.Waits.map TWait.d) 4, .imm 2 (a0.Done.map TStamp.d) 4]] (.agg [.int .i64 r.Clock, .imm 7 (r.Waits.map TWait.e) 13, .imm 2 (r.Done.map TStamp.d) 13]) :=
 callP_frzE (frzE_agg (frzEs_cons rfl (frzEs_cons (frzE_ref ple_TWait rfl rfl) (frzEs_cons (frzE_ref ple_TStamp rfl rfl) frzEs_nil)))) (callH_skeen_Twin a0 r h)
theorem okH_all {H : List (Nat × Blk)} {l : List (Nat × D)} (h : (l.all fun x => okH H x.2) = true) : ∀ x ∈ l, okH H x.2 = true := fun x hx => List.all_eq_true.1 h x hx
theorem callP_towncrierlaw15_SkeenDoes (a0 : TSkeen) (a1 : TSkeen) (a2 : Int) (a3 : TCommand) (a4 : Int) (r : Bool) (h : m_towncrierlaw15_SkeenDoes a0 a1 a2 a3 a4 = some r) : CallP Try.prog 3 [.agg [.int .i64 a0.Clock, .imm 7 (a0.Waits.map TWait.d) 4, .imm 2 (a0.Done.map TStamp.d) 4], .agg [.int .i64 a1.Clock, .imm 7 (a1.Waits.map TWait.d) 4, .imm 2 (a1.Done.map TStamp.d) 4], .int .i64 a2, .agg [.int .u8 a3.Kind, .int .i64 a3.Message.Id, .imm 1 (a3.Message.Groups.map (D.int .i64)) 4, .int .i64 a3.Message.Topic, .str a3.Message.Key, .str a3.Message.Body, .int .i64 a3.Id, .int .i64 a3.Time, .imm 1 (a3.Members.map (D.int .i64)) 4, .int .i64 a3.Topic, .int .i64 a3.Who, .int .i64 a3.N], .int .i64 a4] (.bool r) := by
 refine callP_intro Try.tmOk 100 Try.func3 rfl (by decide) rfl rfl (Nat.le_of_ble_eq_true rfl) ?_
 intro hwf
 unfold m_towncrierlaw15_SkeenDoes at h
 refine .seq ?_
 refine .pl Try.S [0, 1, 2, 3, 4] ?_
 refine .seq ?_
 refine .seq ?_
 obtain ⟨v1, hv1, h⟩ := bind_some h
 obtain ⟨v2, hv2, h⟩ := bind_some h
 refine .rg Try.S [2, 4, 5, 6, 8] ?_
 refine .rn 1 ?_
 refine .call (r := .bool v1) rfl rfl rfl rfl rfl rfl (callP_towncrierref15_Great a0 v1 hv1) ?_
 refine .rn 2 ?_
 refine .gcall (r := .bool v2) rfl rfl rfl rfl rfl (fun hg => ⟨[], [.agg [.int .i64 a1.Clock, .imm 7 (a1.Waits.map TWait.d) 4, .imm 2 (a1.Done.map TStamp.d) 4]], _, rfl, gd hg, rfl, (callP_towncrierref15_Great a1 v2 (ite_lc hv2 hg))⟩) ?_
 refine .rn 6 ?_
 refine .rn 6 ?_
 refine .rn 6 ?_
 refine .rn 8 ?_
 refine .nil ⟨nofun, ?_⟩
 refine .cond rfl rfl (fun hc1 => ?_) (fun hc1 => ?_)
 ·skip
  replace h := ite_lc h hc1
  refine .seq ?_
  refine .pl Try.S [] ?_
  have hq := Option.some.inj h
  subst r
  exact .ret ⟨.inr rfl, rsi⟩
 ·skip
  replace h := ite_rc h hc1
  refine .skip ?_
  refine .seq ?_
  obtain ⟨v3, hv3, h⟩ := bind_some h
  obtain ⟨v4, hv4, h⟩ := bind_some h
  refine .rg Try.S [2, 4, 5, 6, 8] ?_
  refine .rd 1 ?_
  refine .call (r := .agg [.int .i64 v3.Clock, .imm 7 (v3.Waits.map TWait.d) 13, .imm 2 (v3.Done.map TStamp.d) 13]) rfl rfl rfl rfl rfl rfl (callP_towncrierref15_Twin a0 v3 hv3) ?_
  refine .rd 1 ?_
  refine .call (r := .agg [.int .u8 v4.Kind, .int .i64 v4.Message.Id, .imm 1 (v4.Message.Groups.map (D.int .i64)) 13, .int .i64 v4.Message.Topic, .str v4.Message.Key, .str v4.Message.Body, .int .i64 v4.Id, .int .i64 v4.Time, .imm 1 (v4.Members.map (D.int .i64)) 13, .int .i64 v4.Topic, .int .i64 v4.Who, .int .i64 v4.N]) rfl rfl rfl rfl rfl rfl (callP_towncrierref12_Twin a3 v4 hv4) ?_
  refine .rd 4 ?_
  refine .nil ⟨fun _ => schedB_of (by kernel_rfl), ?_⟩
  refine Ok.rebaseH [2, 4, 5, 6, 8, 11, 12] (okH_all rfl) ?_
  show OkQ _ _ _ _ ⟨[(2, .int .i64 a2), (4, .int .i64 a4), (5, .iptr 2 [.int .i64 a0.Clock, .imm 7 (a0.Waits.map TWait.d) 4, .imm 2 (a0.Done.map TStamp.d) 4]), (6, .iptr 2 [.int .i64 a1.Clock, .imm 7 (a1.Waits.map TWait.d) 4, .imm 2 (a1.Done.map TStamp.d) 4]), (8, .iptr 2 [.int .u8 a3.Kind, .int .i64 a3.Message.Id, .imm 1 (a3.Message.Groups.map (D.int .i64)) 4, .int .i64 a3.Message.Topic, .str a3.Message.Key, .str a3.Message.Body, .int .i64 a3.Id, .int .i64 a3.Time, .imm 1 (a3.Members.map (D.int .i64)) 4, .int .i64 a3.Topic, .int .i64 a3.Who, .int .i64 a3.N]), (11, .iptr 2 [.int .i64 v3.Clock, .imm 7 (v3.Waits.map TWait.d) 4, .imm 2 (v3.Done.map TStamp.d) 4]), (12, .iptr 2 [.int .u8 v4.Kind, .int .i64 v4.Message.Id, .imm 1 (v4.Message.Groups.map (D.int .i64)) 4, .int .i64 v4.Message.Topic, .str v4.Message.Key, .str v4.Message.Body, .int .i64 v4.Id, .int .i64 v4.Time, .imm 1 (v4.Members.map (D.int .i64)) 4, .int .i64 v4.Topic, .int .i64 v4.Who, .int .i64 v4.N])], [], _⟩ _
  refine OkQ.seq (.of ?_)
  obtain ⟨v5, hv5, h⟩ := bind_some h
  refine .rg Try.S [2, 4, 5, 6, 8, 11, 12] ?_
  refine .rn 3 ?_
  refine .call (r := .tuple [.agg [.int .i64 v5.1.Clock, .imm 7 (v5.1.Waits.map TWait.e) 13, .imm 2 (v5.1.Done.map TStamp.d) 13], .imm 5 (v5.2.1.map TMessage.e) 13, .int .i64 v5.2.2]) rfl rfl rfl rfl rfl rfl (callP_wk (WkL.cons (Wk.agg (WkL.cons (Wk.refl _) (WkL.cons (Wk.imm4 _ _ (by decide)) (WkL.cons (Wk.imm4 _ _ (by decide)) (WkL.refl _))))) (WkL.cons (Wk.refl _) (WkL.cons (Wk.agg (WkL.cons (Wk.refl _) (WkL.cons (Wk.refl _) (WkL.cons (Wk.imm4 _ _ (by decide)) (WkL.cons (Wk.refl _) (WkL.cons (Wk.refl _) (WkL.cons (Wk.refl _) (WkL.cons (Wk.refl _) (WkL.cons (Wk.refl _) (WkL.cons (Wk.imm4 _ _ (by decide)) (WkL.cons (Wk.refl _) (WkL.cons (Wk.refl _) (WkL.cons (Wk.refl _) (WkL.refl _)))))))))))))) (WkL.refl _)))) (callP_skeen_Apply_e v3 a2 v4 v5 hv5)) ?_
  refine .rn 8 ?_
  refine .nil ⟨nofun, ?_⟩
  refine OkQ.seq (.of ?_)
  obtain ⟨v6, hv6, h⟩ := bind_some h
  refine .rg Try.S [2, 4, 5, 6, 8, 11, 12, 13, 14, 15] ?_
  refine .rn 3 ?_
  refine .call (r := .tuple [.agg [.int .i64 v6.1.Clock, .imm 7 (v6.1.Waits.map TWait.d) 13, .imm 2 (v6.1.Done.map TStamp.d) 13], .imm 5 (v6.2.1.map TMessage.d) 13, .int .i64 v6.2.2]) rfl rfl rfl rfl rfl rfl (callP_towncrierref15_Apply a0 a2 a3 v6 hv6) ?_
  refine .rn 8 ?_
  refine .nil ⟨nofun, ?_⟩
  refine OkQ.seq (.of ?_)
  obtain ⟨v7, hv7, h⟩ := bind_some h
  refine .rg Try.S [4, 5, 6, 8, 11, 12, 13, 14, 15, 16, 17, 18] ?_
  refine .rn 2 ?_
  refine .call (r := .tuple [.int .i64 v7.1, .bool v7.2.1, .int .i64 v7.2.2]) rfl rfl rfl rfl rfl rfl (callP_wk (WkL.cons (Wk.agg (WkL.cons (Wk.refl _) (WkL.cons (Wk.imm4 _ _ (by decide)) (WkL.cons (Wk.imm4 _ _ (by decide)) (WkL.refl _))))) (WkL.cons (Wk.refl _) (WkL.refl _))) (callP_skeen_Local v3 a4 v7 hv7)) ?_
  refine .rn 7 ?_
  refine .nil ⟨nofun, ?_⟩
  refine OkQ.seq (.of ?_)
  obtain ⟨v8, hv8, h⟩ := bind_some h
  refine .rg Try.S [4, 5, 6, 8, 11, 12, 13, 14, 15, 16, 17, 18, 19, 20, 21] ?_
  refine .rn 2 ?_
  refine .call (r := .tuple [.int .i64 v8.1, .bool v8.2.1, .int .i64 v8.2.2]) rfl rfl rfl rfl rfl rfl (callP_towncrierref15_Local a0 a4 v8 hv8) ?_
  refine .rn 7 ?_
  refine .nil ⟨nofun, ?_⟩
  refine OkQ.seq (.of ?_)
  obtain ⟨v9, hv9, h⟩ := bind_some h
  refine .rg Try.S [5, 6, 8, 11, 12, 13, 14, 15, 16, 17, 18, 19, 20, 21, 22, 23, 24] ?_
  refine .rn 1 ?_
  refine .call (r := .agg [.int .i64 v9.Clock, .imm 7 (v9.Waits.map TWait.e) 13, .imm 2 (v9.Done.map TStamp.d) 13]) rfl rfl rfl rfl rfl rfl (callP_wk (WkL.cons (Wk.agg (WkL.cons (Wk.refl _) (WkL.cons (Wk.imm4 _ _ (by decide)) (WkL.cons (Wk.imm4 _ _ (by decide)) (WkL.refl _))))) (WkL.refl _)) (callP_skeen_Twin_e v3 v9 hv9)) ?_
  refine .rn 2 ?_
  refine .nil ⟨nofun, ?_⟩
  refine OkQ.seq ?_
  refine OkQ.seq (.of ?_)
  obtain ⟨v10, hv10, h⟩ := bind_some h
  obtain ⟨v11, hv11, h⟩ := bind_some h
  obtain ⟨v12, hv12, h⟩ := bind_some h
  obtain ⟨v13, hv13, h⟩ := bind_some h
  obtain ⟨v14, hv14, h⟩ := bind_some h
  obtain ⟨v15, hv15, h⟩ := bind_some h
  obtain ⟨v16, hv16, h⟩ := bind_some h
  obtain ⟨v17, hv17, h⟩ := bind_some h
  obtain ⟨v18, hv18, h⟩ := bind_some h
  refine .rg Try.S [5, 6, 8, 11, 12, 13, 14, 15, 16, 17, 18, 19, 20, 21, 22, 23, 24, 25] ?_
  refine .rd 2 ?_
  refine .call (r := .bool v10) rfl rfl rfl rfl rfl rfl (callP_wk (WkL.cons (Wk.agg (WkL.cons (Wk.refl _) (WkL.cons (Wk.immf TWait.ed _ _ _) (WkL.cons (Wk.imm4 _ _ (by decide)) (WkL.refl _))))) (WkL.cons (Wk.agg (WkL.cons (Wk.refl _) (WkL.cons (Wk.imm4 _ _ (by decide)) (WkL.cons (Wk.imm4 _ _ (by decide)) (WkL.refl _))))) (WkL.refl _))) (callP_towncrierref15_Same v5.1 v6.1 v10 hv10)) ?_
  refine .rd 4 ?_
  refine .gcall (r := .bool v11) rfl rfl rfl rfl rfl (fun hg => ⟨[], [.imm 5 (v5.2.1.map TMessage.e) 13, .imm 5 (v6.2.1.map TMessage.d) 13], _, rfl, gd hg, rfl, (callP_wk (WkL.cons (Wk.immf TMessage.ed _ _ _) (WkL.cons (Wk.imm4 _ _ (by decide)) (WkL.refl _))) (callP_towncrierref15_SameMessages v5.2.1 v6.2.1 v11 (ite_lc hv11 hg)))⟩) ?_
  refine .rd 6 ?_
  refine .rd 6 ?_
  refine .rd 6 ?_
  refine .rd 7 ?_
  refine .gcall (r := .bool v12) rfl rfl rfl rfl rfl (fun hg => ⟨[], [.agg [.int .i64 v9.Clock, .imm 7 (v9.Waits.map TWait.e) 13, .imm 2 (v9.Done.map TStamp.d) 13], .agg [.int .i64 a0.Clock, .imm 7 (a0.Waits.map TWait.d) 20, .imm 2 (a0.Done.map TStamp.d) 20]], _, rfl, gd hg, rfl, (callP_wk (WkL.cons (Wk.agg (WkL.cons (Wk.refl _) (WkL.cons (Wk.immf TWait.ed _ _ _) (WkL.cons (Wk.imm4 _ _ (by decide)) (WkL.refl _))))) (WkL.cons (Wk.refl _) (WkL.refl _))) (callP_towncrierref15_Same v9 a0 v12 (ite_lc hv12 hg)))⟩) ?_
  refine .rd 4 ?_
  refine .gcall (r := .int .i64 v13) rfl rfl rfl rfl rfl (fun hg => ⟨[], [.agg [.int .i64 v3.Clock, .imm 7 (v3.Waits.map TWait.d) 20, .imm 2 (v3.Done.map TStamp.d) 20]], _, rfl, gd hg, rfl, (callP_wk (WkL.cons (Wk.agg (WkL.cons (Wk.refl _) (WkL.cons (Wk.imm4 _ _ (by decide)) (WkL.cons (Wk.imm4 _ _ (by decide)) (WkL.refl _))))) (WkL.refl _)) (callP_skeen_Check v3 v13 (ite_lc hv13 hg)))⟩) ?_
  refine .rd 2 ?_
  refine .gcall (r := .bool v14) rfl rfl rfl rfl rfl (fun hg => ⟨[], [.agg [.int .i64 a0.Clock, .imm 7 (a0.Waits.map TWait.d) 20, .imm 2 (a0.Done.map TStamp.d) 20]], _, rfl, gd hg, rfl, (callP_towncrierref15_May a0 v14 (ite_lc hv14 hg))⟩) ?_
  refine .rd 5 ?_
  refine .gcall (r := .bool v15) rfl rfl rfl rfl rfl (fun hg => ⟨[], [.agg [.int .i64 v3.Clock, .imm 7 (v3.Waits.map TWait.d) 20, .imm 2 (v3.Done.map TStamp.d) 20], .agg [.int .i64 a1.Clock, .imm 7 (a1.Waits.map TWait.d) 20, .imm 2 (a1.Done.map TStamp.d) 20]], _, rfl, gd hg, rfl, (callP_wk (WkL.cons (Wk.agg (WkL.cons (Wk.refl _) (WkL.cons (Wk.imm4 _ _ (by decide)) (WkL.cons (Wk.imm4 _ _ (by decide)) (WkL.refl _))))) (WkL.cons (Wk.refl _) (WkL.refl _))) (callP_skeen_Same v3 a1 v15 (ite_lc hv15 hg)))⟩) ?_
  refine .rd 2 ?_
  refine .gcall (r := .bool v16) rfl rfl rfl rfl rfl (fun hg => ⟨[], [.agg [.int .i64 a0.Clock, .imm 7 (a0.Waits.map TWait.d) 20, .imm 2 (a0.Done.map TStamp.d) 20], .agg [.int .i64 a1.Clock, .imm 7 (a1.Waits.map TWait.d) 20, .imm 2 (a1.Done.map TStamp.d) 20]], _, rfl, gd hg, rfl, (callP_towncrierref15_Same a0 a1 v16 (ite_lc hv16 hg))⟩) ?_
  refine .rd 3 ?_
  refine .gcall (r := .agg [.int .i64 v17.Clock, .imm 7 (v17.Waits.map TWait.d) 13, .imm 2 (v17.Done.map TStamp.d) 13]) rfl rfl rfl rfl rfl (fun hg => ⟨[], [], _, rfl, gd hg, rfl, (callP_skeen_New  v17 (ite_lc hv17 hg))⟩) ?_
  refine .rd 1 ?_
  refine .gcall (r := .bool v18) rfl rfl rfl rfl rfl (fun hg => ⟨[], [.agg [.int .i64 v17.Clock, .imm 7 (v17.Waits.map TWait.d) 13, .imm 2 (v17.Done.map TStamp.d) 13], .agg [.int .i64 0, .imm 0 [] 0, .imm 0 [] 0]], _, rfl, gd hg, rfl, (callP_wk (WkL.cons (Wk.agg (WkL.cons (Wk.refl _) (WkL.cons (Wk.imm4 _ _ (by decide)) (WkL.cons (Wk.imm4 _ _ (by decide)) (WkL.refl _))))) (WkL.cons (Wk.agg (WkL.cons (Wk.refl _) (WkL.cons (Wk.nil4 0 7 0 rfl) (WkL.cons (Wk.nil4 0 2 0 rfl) (WkL.refl _))))) (WkL.refl _))) (callP_towncrierref15_Same v17 (⟨0, [], []⟩ : TSkeen) v18 (ite_lc hv18 hg)))⟩) ?_
  refine .rd 2 ?_
  refine .nil ⟨fun _ => schedB_of (by kernel_rfl), ?_⟩
  refine OkQ.cond rfl rfl (fun hc2 => ?_) (fun hc2 => ?_)
  ·skip
   replace h := ite_lc h hc2
   refine OkQ.seq (.of ?_)
   refine .pl Try.S [] ?_
   have hq := Option.some.inj h
   subst r
   exact OkQ.ret ⟨[(10, .bool _)], vs1, vs2 rfl, .inr rfl, rsi⟩
  ·skip
   replace h := ite_rc h hc2
   refine OkQ.skip ?_
   refine OkQ.goes (s := ⟨[(5, .iptr 2 [.int .i64 a0.Clock, .imm 7 (a0.Waits.map TWait.d) 4, .imm 2 (a0.Done.map TStamp.d) 4]), (8, .iptr 2 [.int .u8 a3.Kind, .int .i64 a3.Message.Id, .imm 1 (a3.Message.Groups.map (D.int .i64)) 4, .int .i64 a3.Message.Topic, .str a3.Message.Key, .str a3.Message.Body, .int .i64 a3.Id, .int .i64 a3.Time, .imm 1 (a3.Members.map (D.int .i64)) 4, .int .i64 a3.Topic, .int .i64 a3.Who, .int .i64 a3.N]), (11, .iptr 2 [.int .i64 v3.Clock, .imm 7 (v3.Waits.map TWait.d) 4, .imm 2 (v3.Done.map TStamp.d) 4]), (12, .iptr 2 [.int .u8 v4.Kind, .int .i64 v4.Message.Id, .imm 1 (v4.Message.Groups.map (D.int .i64)) 4, .int .i64 v4.Message.Topic, .str v4.Message.Key, .str v4.Message.Body, .int .i64 v4.Id, .int .i64 v4.Time, .imm 1 (v4.Members.map (D.int .i64)) 4, .int .i64 v4.Topic, .int .i64 v4.Who, .int .i64 v4.N]), (13, .ptr 5 0), (14, .imm 5 (v5.2.1.map TMessage.z) 13), (25, .ptr 7 0)], [(5, .box [.sc, .imm 7 (v5.1.Waits.map TWait.z) 13, .imm 2 (v5.1.Done.map TStamp.z) 13]), (7, .box [.sc, .imm 7 (v9.Waits.map TWait.z) 13, .imm 2 (v9.Done.map TStamp.z) 13])], 8⟩) ?_ ?_
   ·refine Goes.boxs 5 _ [.sc, .imm 7 (v5.1.Waits.map TWait.z) 13, .imm 2 (v5.1.Done.map TStamp.z) 13] rfl (.cons (.of (Wk.scI _ _)) (.cons (.of (Wk.immf TWait.ez _ _ _)) (.cons (.of (Wk.immf TStamp.dz _ _ _)) .nil))) ?_
    refine Goes.boxs 7 _ [.sc, .imm 7 (v9.Waits.map TWait.z) 13, .imm 2 (v9.Done.map TStamp.z) 13] rfl (.cons (.of (Wk.scI _ _)) (.cons (.of (Wk.immf TWait.ez _ _ _)) (.cons (.of (Wk.immf TStamp.dz _ _ _)) .nil))) ?_
    refine Goes.wk 14 _ (.imm 5 (v5.2.1.map TMessage.z) 13) rfl (.of (Wk.immf TMessage.ez _ _ _)) ?_
    exact .m [5, 8, 11, 12, 13, 14, 25] [5, 7] []
   refine OkQ.seq ?_
   refine OkQ.zc Try.tmOk [5, 8, 11, 12, 13, 14, 25] [5, 7] 1 (callZ_turn v5.1.Waits v5.1.Done) ?_ rfl (by decide +kernel)
   refine .rnx 1 trivial ?_ (.inr fun _ _ _ h => h)
   refine .nil ⟨⟨rfl, rfl, ⟨Nat.le_of_ble_eq_true rfl, Nat.le_of_ble_eq_true rfl⟩, fun t h => by cases h; rfl, ?v1, ?w1⟩, ?_⟩
   case v1 => exact ⟨.inl rfl, .inl rfl, .inl rfl, .inl rfl, trivial, .inr (lm_msgs _), trivial, ⟨trivial, .inr (lm_waits _), .inr (lm_stamps _), trivial⟩, trivial⟩
   case w1 => exact ⟨⟨trivial, .inr (lm_waits _), .inr (lm_stamps _), trivial⟩, ⟨trivial, .inr (lm_waits _), .inr (lm_stamps _), trivial⟩, trivial⟩
   refine OkQ.seq ?_
   refine OkQ.zc Try.tmOk [5, 8, 11, 12, 14, 25] [7] 1 (callZ_turn v9.Waits v9.Done) ?_ rfl (by decide +kernel)
   refine .rnx 1 trivial ?_ (.inr fun _ _ _ h => h)
   refine .nil ⟨⟨rfl, rfl, ⟨Nat.le_of_ble_eq_true rfl, Nat.le_of_ble_eq_true rfl⟩, fun t h => by cases h; rfl, ?v2, ?w2⟩, ?_⟩
   case v2 => exact ⟨.inl rfl, .inl rfl, .inl rfl, .inl rfl, .inr (lm_msgs _), trivial, ⟨trivial, .inr (lm_waits _), .inr (lm_stamps _), trivial⟩, trivial⟩
   case w2 => exact ⟨⟨trivial, .inr (lm_waits _), .inr (lm_stamps _), trivial⟩, ⟨trivial, .inr (lm_waits _), .inr (lm_stamps _), trivial⟩, trivial⟩
   refine OkQ.seq ?_
   refine OkQ.seq (.of ?_)
   refine .pl Try.S [5, 8, 11, 12, 14] ?_
   refine OkQ.block ?_
   refine OkQ.loop (fun i : Nat => (⟨[(5, .iptr 2 [.int .i64 a0.Clock, .imm 7 (a0.Waits.map TWait.d) 4, .imm 2 (a0.Done.map TStamp.d) 4]), (8, .iptr 2 [.int .u8 a3.Kind, .int .i64 a3.Message.Id, .imm 1 (a3.Message.Groups.map (D.int .i64)) 4, .int .i64 a3.Message.Topic, .str a3.Message.Key, .str a3.Message.Body, .int .i64 a3.Id, .int .i64 a3.Time, .imm 1 (a3.Members.map (D.int .i64)) 4, .int .i64 a3.Topic, .int .i64 a3.Who, .int .i64 a3.N]), (11, .iptr 2 [.int .i64 v3.Clock, .imm 7 (v3.Waits.map TWait.d) 4, .imm 2 (v3.Done.map TStamp.d) 4]), (12, .iptr 2 [.int .u8 v4.Kind, .int .i64 v4.Message.Id, .imm 1 (v4.Message.Groups.map (D.int .i64)) 4, .int .i64 v4.Message.Topic, .str v4.Message.Key, .str v4.Message.Body, .int .i64 v4.Id, .int .i64 v4.Time, .imm 1 (v4.Members.map (D.int .i64)) 4, .int .i64 v4.Topic, .int .i64 v4.Who, .int .i64 v4.N]), (14, .imm 5 (v5.2.1.map TMessage.z) 13), (26, .int .i64 (i : Int))], [], 8⟩ : St)) (fun i : Nat => i ≤ v5.2.1.length) (fun i : Nat => v5.2.1.length - i) 0 (.m [5, 8, 11, 12, 14, 26] [] []) (Nat.zero_le _) ?_
   intro i hi
   refine OkQ.seq ?_
   refine OkQ.seq (.of ?_)
   refine .pl Try.S [5, 8, 11, 12, 14, 26] ?_
   refine OkQ.wf 159 (.imm 5 (v5.2.1.map TMessage.z) 13) rfl fun hl1 => ?_
   replace hl1 : (v5.2.1.length : Int) ≤ 9223372036854775807 := by simp only [wf, List.length_map] at hl1; first | exact hl1 | exact hl1.1 | exact hl1.2
   refine OkQ.cond rfl rfl (fun hd1 => ?_) (fun hd1 => ?_)
   ·skip
    have h1 : i < v5.2.1.length := by simpa using hd1
    have hw1 : wr .i64 ((i : Int) + 1) = ((i + 1 : Nat) : Int) := wr_succ h1 hl1
    have e1 := nth_map TMessage.z v5.2.1 i h1
    refine OkQ.skip ?_
    refine OkQ.seq ?_
    refine OkQ.block ?_
    refine OkQ.seq (.of ?_)
    refine .pl Try.S [5, 8, 11, 12, 14, 26] ?_
    refine OkQ.block ?_
    refine OkQ.loop (fun j : Nat => (⟨[(5, .iptr 2 [.int .i64 a0.Clock, .imm 7 (a0.Waits.map TWait.d) 4, .imm 2 (a0.Done.map TStamp.d) 4]), (8, .iptr 2 [.int .u8 a3.Kind, .int .i64 a3.Message.Id, .imm 1 (a3.Message.Groups.map (D.int .i64)) 4, .int .i64 a3.Message.Topic, .str a3.Message.Key, .str a3.Message.Body, .int .i64 a3.Id, .int .i64 a3.Time, .imm 1 (a3.Members.map (D.int .i64)) 4, .int .i64 a3.Topic, .int .i64 a3.Who, .int .i64 a3.N]), (11, .iptr 2 [.int .i64 v3.Clock, .imm 7 (v3.Waits.map TWait.d) 4, .imm 2 (v3.Done.map TStamp.d) 4]), (12, .iptr 2 [.int .u8 v4.Kind, .int .i64 v4.Message.Id, .imm 1 (v4.Message.Groups.map (D.int .i64)) 4, .int .i64 v4.Message.Topic, .str v4.Message.Key, .str v4.Message.Body, .int .i64 v4.Id, .int .i64 v4.Time, .imm 1 (v4.Members.map (D.int .i64)) 4, .int .i64 v4.Topic, .int .i64 v4.Who, .int .i64 v4.N]), (14, .imm 5 (v5.2.1.map TMessage.z) 13), (26, .int .i64 (i : Int)), (27, .int .i64 (j : Int))], [], 8⟩ : St)) (fun j : Nat => j ≤ v5.2.1[i].Groups.length) (fun j : Nat => v5.2.1[i].Groups.length - j) 0 (.m [5, 8, 11, 12, 14, 26, 27] [] []) (Nat.zero_le _) ?_
    intro j hj
    refine OkQ.seq ?_
    refine OkQ.seq (.of ?_)
    refine .px Try.S (And.intro e1 hw1) [5, 8, 11, 12, 14, 26, 27] ?_
    refine OkQ.wf 169 (.imm 1 (scL v5.2.1[i].Groups) 13) rfl fun hl2 => ?_
    replace hl2 : (v5.2.1[i].Groups.length : Int) ≤ 9223372036854775807 := by simp only [wf, scL_length] at hl2; first | exact hl2 | exact hl2.1 | exact hl2.2
    refine OkQ.cond rfl rfl (fun hd2 => ?_) (fun hd2 => ?_)
    ·skip
     have h2 : j < v5.2.1[i].Groups.length := by simpa [scL_length] using hd2
     have hw2 : wr .i64 ((j : Int) + 1) = ((j + 1 : Nat) : Int) := wr_succ h2 hl2
     refine OkQ.skip ?_
     refine OkQ.seq ?_
     refine OkQ.block ?_
     refine OkQ.fs1 Try.tmOk [5, 8, 11, 12, 14, 26, 27] [5, 8, 11, 12, 14, 26, 27, 178, 179] 6 26 3 (.tmp 178) (.tmp 179) 180 1 (.int .i64 77) ?_ ?h0 ?h1 rfl rfl (fun h => by cases h) rfl rfl rfl ⟨rfl, rfl, rfl⟩
     case h0 => exact rfl
     case h1 => decide +kernel
     refine .rnx 6 (And.intro e1 hw1) ?_ (.inr fun _ _ _ h => h)
     refine .nil ⟨⟨⟨_, _, _, rfl, rfl, ⟨by omega, by rw [scL_length]; omega⟩, by rw [Int.toNat_natCast, nth_scL _ _ h2]; rfl⟩, fun p hp => ?_, ?_, trivial⟩, ?_⟩
     ·simp at hp; subst hp; rfl
     ·exact ⟨.inl rfl, .inl rfl, .inl rfl, .inl rfl, .inr (lm_msgs _), trivial, trivial, .inr (lm_scL _), trivial, trivial⟩
     ·refine OkQ.of ?_
      refine .px Try.S hw2 [5, 8, 11, 12, 14, 26, 27] ?_
      refine ⟨j + 1, ?_, h2, by dsimp only; omega⟩
      exact .m [5, 8, 11, 12, 14, 26, 27] [] []
    ·skip
     refine OkQ.exit ?_
     refine OkQ.of ?_
     refine .px Try.S hw1 [5, 8, 11, 12, 14, 26] ?_
     refine ⟨i + 1, ?_, h1, by dsimp only; omega⟩
     exact .m [5, 8, 11, 12, 14, 26] [] []
   skip
   refine OkQ.exit ?_
   refine OkQ.seq (.of ?_)
   obtain ⟨v19, hv19, h⟩ := bind_some h
   obtain ⟨v20, hv20, h⟩ := bind_some h
   refine .rg Try.S [5, 8, 11, 12] ?_
   refine .rn 2 ?_
   refine .call (r := .bool v19) rfl rfl rfl rfl rfl rfl (callP_wk (WkL.cons (Wk.agg (WkL.cons (Wk.refl _) (WkL.cons (Wk.imm4 _ _ (by decide)) (WkL.cons (Wk.imm4 _ _ (by decide)) (WkL.refl _))))) (WkL.cons (Wk.refl _) (WkL.refl _))) (callP_towncrierref15_Same v3 a0 v19 hv19)) ?_
   refine .rn 3 ?_
   refine .gcall (r := .bool v20) rfl rfl rfl rfl rfl (fun hg => ⟨[], [.agg [.int .u8 v4.Kind, .int .i64 v4.Message.Id, .imm 1 (v4.Message.Groups.map (D.int .i64)) 20, .int .i64 v4.Message.Topic, .str v4.Message.Key, .str v4.Message.Body, .int .i64 v4.Id, .int .i64 v4.Time, .imm 1 (v4.Members.map (D.int .i64)) 20, .int .i64 v4.Topic, .int .i64 v4.Who, .int .i64 v4.N], .agg [.int .u8 a3.Kind, .int .i64 a3.Message.Id, .imm 1 (a3.Message.Groups.map (D.int .i64)) 20, .int .i64 a3.Message.Topic, .str a3.Message.Key, .str a3.Message.Body, .int .i64 a3.Id, .int .i64 a3.Time, .imm 1 (a3.Members.map (D.int .i64)) 20, .int .i64 a3.Topic, .int .i64 a3.Who, .int .i64 a3.N]], _, rfl, gd hg, rfl, (callP_wk (WkL.cons (Wk.agg (WkL.cons (Wk.refl _) (WkL.cons (Wk.refl _) (WkL.cons (Wk.imm4 _ _ (by decide)) (WkL.cons (Wk.refl _) (WkL.cons (Wk.refl _) (WkL.cons (Wk.refl _) (WkL.cons (Wk.refl _) (WkL.cons (Wk.refl _) (WkL.cons (Wk.imm4 _ _ (by decide)) (WkL.cons (Wk.refl _) (WkL.cons (Wk.refl _) (WkL.cons (Wk.refl _) (WkL.refl _)))))))))))))) (WkL.cons (Wk.refl _) (WkL.refl _))) (callP_towncrierref12_Same v4 a3 v20 (ite_lc hv20 hg)))⟩) ?_
   refine .rn 2 ?_
   refine .nil ⟨nofun, ?_⟩
   have hq := Option.some.inj h
   subst r
   exact OkQ.ret ⟨[(10, .bool _)], vs1, vs2 rfl, .inr rfl, rsi⟩
end Go.Proofs
end
section
namespace Go.Proofs
open Go.Tm
def risesP : Int → List Int → Bool
 | _, [] => true
 | last, n :: r => decide (last < n) && decide (n < 6) && risesP n r
end Go.Proofs
end
section
namespace Go.Proofs
open Go.Tm
set_option linter.unusedSimpArgs false
set_option linter.unusedVariables false
theorem index_loop (v : Int) (l : List Int) : ∀ n : Nat, (v ∈ l → ∃ k : Nat, m_slices_Index_int_int_loop1 v l n = some (.inl (k : Int))) ∧ (v ∉ l → m_slices_Index_int_int_loop1 v l n = some (.inr ())) := by
 induction l with
 | nil => intro n; exact ⟨(fun h => by cases h), fun _ => rfl⟩
 | cons y l ih =>
  intro n
  rw [m_slices_Index_int_int_loop1]
  by_cases h : v = y
  ·rw [if_pos h]
   exact ⟨fun _ => ⟨n, rfl⟩, fun hn => absurd (h ▸ List.mem_cons_self) hn⟩
  ·rw [if_neg h]
   refine ⟨fun hv => (ih (n + 1)).1 ?_, fun hv => (ih (n + 1)).2 fun hh => hv (List.mem_cons_of_mem _ hh)⟩
   rcases List.mem_cons.1 hv with hv | hv
   ·exact absurd hv h
   ·exact hv
theorem contains_eq (l : List Int) (v : Int) : m_slices_Contains_int_int l v = some (decide (v ∈ l)) := by
 rw [m_slices_Contains_int_int, m_slices_Index_int_int]
 by_cases h : v ∈ l
 ·obtain ⟨k, hk⟩ := (index_loop v l 0).1 h
  rw [hk]
  simp [h]
 ·rw [(index_loop v l 0).2 h]
  simp [h]
theorem hasR_loop (v : Int) (l : List Int) : m_towncrierref06_Has_loop1 v l = some (if v ∈ l then .inl true else .inr ()) := by
 induction l with
 | nil => rfl
 | cons y l ih =>
  rw [m_towncrierref06_Has_loop1]
  by_cases h : y = v
  ·rw [if_pos h, if_pos (by rw [h]; exact List.mem_cons_self)]
  ·rw [if_neg h, ih]
   have : (v ∈ y :: l) ↔ v ∈ l := by simp [Ne.symm h]
   simp only [this]
theorem hasR_eq (l : List Int) (v : Int) : m_towncrierref06_Has l v = some (decide (v ∈ l)) := by
 rw [m_towncrierref06_Has, hasR_loop]
 by_cases h : v ∈ l <;> simp [h]
theorem rises_lt : ∀ (l : List Int) (k : Int), risesP k l = true → ∀ x ∈ l, k < x ∧ x < 6 := by
 intro l
 induction l with
 | nil => intro _ _ x hx; cases hx
 | cons y l ih =>
  intro k h x hx
  simp only [risesP, Bool.and_eq_true, decide_eq_true_eq] at h
  rcases List.mem_cons.1 hx with rfl | hx
  ·exact h.1
  ·have := ih y h.2 x hx
   omega
theorem qcheck_loop (l : List Int) : ∀ n, m_quorum_Check_loop1 l n = some (if risesP n l = true then .inr (l.getLastD n) else .inl 60) := by
 induction l with
 | nil => intro n; simp [m_quorum_Check_loop1, risesP]
 | cons y l ih =>
  intro n
  rw [m_quorum_Check_loop1]
  by_cases h : (y ≤ n) ∨ (y ≥ 6)
  ·rw [if_pos h, if_neg (by simp only [risesP, Bool.and_eq_true, decide_eq_true_eq]; omega)]
  ·rw [if_neg h, ih]
   have : risesP n (y :: l) = risesP y l := by
    simp only [risesP]
    have h1 : decide (n < y) = true := by simp; omega
    have h2 : decide (y < 6) = true := by simp; omega
    simp [h1, h2]
   rw [this, List.getLastD_cons]
def qerr (l : List Int) : Int := if l.length > 6 then 4 else if risesP (-1) l = true ∧ l ≠ [] then 0 else 60
theorem qcheck_eq (l : List Int) : m_quorum_Check l = some (qerr l) := by
 rw [m_quorum_Check]
 unfold qerr
 by_cases h : (l.length : Int) > 6
 ·rw [if_pos h, if_pos (by omega)]
 ·rw [if_neg h, if_neg (by omega), qcheck_loop]
  by_cases hr : risesP (-1) l = true
  ·rw [if_pos hr]
   cases l with
   | nil => simp
   | cons y l =>
    have hl := (rises_lt (y :: l) (-1) hr ((y :: l).getLastD (-1)) (by rw [List.getLastD_eq_getLast?, List.getLast?_eq_some_getLast (by simp)]; exact List.getLast_mem (by simp))).1
    simp only [Option.bind_some, ne_eq, reduceCtorEq, not_false_eq_true, and_true, if_pos hr]
    rw [if_neg (by omega)]
  ·rw [if_neg hr]
   simp [hr]
theorem may_loop (l : List Int) : ∀ (pre : List Int) (k : Int), (pre = [] ∧ k = -1 ∨ 0 ≤ k ∧ pre.getLast? = some k) → m_towncrierref06_May_loop1 (pre ++ l) l pre.length = some (if risesP k l = true then .inr () else .inl false) := by
 induction l with
 | nil => intro pre k _; simp [m_towncrierref06_May_loop1, risesP]
 | cons y l ih =>
  intro pre k hk
  rw [m_towncrierref06_May_loop1]
  have hc : (((y < 0) ∨ (y ≥ 6)) ∨ (((pre.length : Int) > 0) ∧ (y ≤ ((pre ++ y :: l).getD (pre.length - 1) default)))) ↔ ¬ (k < y ∧ y < 6) := by
   rcases hk with ⟨rfl, rfl⟩ | ⟨h0, hl⟩
   ·simp; omega
   ·have hne : pre ≠ [] := by rintro rfl; simp at hl
    have hp : 0 < pre.length := List.length_pos_iff.2 hne
    have hg : (pre ++ y :: l).getD (pre.length - 1) default = k := by
     rw [List.getD_eq_getElem?_getD, List.getElem?_append_left (by omega), ← List.getLast?_eq_getElem?, hl]; rfl
    rw [hg]; omega
  by_cases h : k < y ∧ y < 6
  ·rw [if_neg (fun hh => hc.1 hh h)]
   have e : risesP k (y :: l) = risesP y l := by simp [risesP, h.1, h.2]
   have := ih (pre ++ [y]) y (.inr ⟨by rcases hk with ⟨_, rfl⟩ | ⟨h0, _⟩ <;> omega, by simp⟩)
   rw [List.append_assoc, List.singleton_append, List.length_append, List.length_singleton] at this
   rw [e]; exact this
  ·rw [if_pos (hc.2 h), if_neg]
   simp only [risesP, Bool.and_eq_true, decide_eq_true_eq]
   exact fun hh => h hh.1
theorem may_eq (l : List Int) : m_towncrierref06_May l = some (risesP (-1) l && decide (1 ≤ l.length) && decide (l.length ≤ 6)) := by
 rw [m_towncrierref06_May]
 have := may_loop l [] (-1) (.inl ⟨rfl, rfl⟩)
 rw [List.nil_append, List.length_nil] at this
 rw [this]
 by_cases h : risesP (-1) l = true
 ·simp only [h, if_true, Option.bind_some, Bool.true_and]
  congr 1
  have e1 : decide ((l.length : Int) ≥ 1) = decide (1 ≤ l.length) := decide_eq_decide.2 (by omega)
  have e2 : decide ((l.length : Int) ≤ 6) = decide (l.length ≤ 6) := decide_eq_decide.2 (by omega)
  rw [e1, e2]
 ·simp [h]
theorem qcheckR_eq (l : List Int) : m_towncrierref06_Check l = some (qerr l) := by
 rw [m_towncrierref06_Check, may_eq]
 unfold qerr
 by_cases h : (l.length : Int) > 6
 ·rw [if_pos h, if_pos (by omega)]
 ·rw [if_neg h, if_neg (by omega)]
  simp only [Option.bind_some]
  have h6 : decide (l.length ≤ 6) = true := by simp; omega
  rw [h6, Bool.and_true]
  by_cases hr : risesP (-1) l = true
  ·cases l with
   | nil => simp
   | cons y l => simp [hr]
  ·simp [hr]
theorem equal_loop (b : List Int) : ∀ (l : List Int) (n : Nat), n + l.length = b.length → m_slices_Equal_int_int_loop1 b l n = some (if l = b.drop n then .inr () else .inl false) := by
 intro l
 induction l with
 | nil => intro n h; simp [m_slices_Equal_int_int_loop1]; simp at h; omega
 | cons y l ih =>
  intro n h
  simp only [List.length_cons] at h
  have hn : n < b.length := by omega
  have hg : b.getD n default = b[n] := by simp [List.getD, List.getElem?_eq_getElem hn]
  have hd := List.drop_eq_getElem_cons hn
  rw [m_slices_Equal_int_int_loop1, if_pos hn, hg]
  generalize b[n] = z at hd
  rw [hd]
  by_cases hy : y = z
  ·rw [if_neg (by simpa using hy), ih (n + 1) (by omega)]
   simp only [hy, List.cons.injEq, true_and]
  ·rw [if_pos hy]
   simp only [hy, List.cons.injEq, false_and, if_false]
theorem equal_eq (a b : List Int) : m_slices_Equal_int_int a b = some (decide (a = b)) := by
 rw [m_slices_Equal_int_int]
 by_cases h : (a.length : Int) = (b.length : Int)
 ·rw [if_neg (by simpa using h), equal_loop b a 0 (by omega), List.drop_zero]
  by_cases hab : a = b <;> simp [hab]
 ·rw [if_pos h]
  have : a ≠ b := fun hh => h (by rw [hh])
  simp [this]
theorem half_eq (i j : Nat) (h : i + j < 4000000) : wr .i64 (shw false .u64 (wr .u64 (wr .i64 ((i : Int) + (j : Int)))) 1) = (((i + j) / 2 : Nat) : Int) := by
 have e1 : wr .i64 ((i : Int) + (j : Int)) = (i : Int) + (j : Int) := wr_eq _ _ (by show (-9223372036854775808 : Int) ≤ _; omega) (by show _ ≤ (9223372036854775807 : Int); omega)
 have e2 : wr .u64 ((i : Int) + (j : Int)) = (i : Int) + (j : Int) := wr_eq _ _ (by show (0 : Int) ≤ _; omega) (by show _ ≤ (18446744073709551615 : Int); omega)
 have e3 : shw false .u64 ((i : Int) + (j : Int)) 1 = (((i + j) / 2 : Nat) : Int) := by
  unfold shw
  show Int.fdiv ((i : Int) + (j : Int)) 2 = _
  rw [Int.fdiv_eq_ediv_of_nonneg _ (by omega)]
  omega
 rw [e1, e2, e3]
 exact wr_eq _ _ (by show (-9223372036854775808 : Int) ≤ _; omega) (by show _ ≤ (9223372036854775807 : Int); omega)
end Go.Proofs
end
section
namespace Go.Proofs
open Go.Tm
set_option linter.unusedSimpArgs false
def stW (w : TWait) : TStamp := ⟨w.Time, w.Message.Id⟩
def ltS (a b : TStamp) : Prop := a.Time < b.Time ∨ (a.Time = b.Time ∧ a.Id < b.Id)
instance (a b : TStamp) : Decidable (ltS a b) := by unfold ltS; infer_instance
theorem ltS_trans {a b c : TStamp} (h : ltS a b) (k : ltS b c) : ltS a c := by unfold ltS at *; omega
theorem ltS_irrefl (a : TStamp) : ¬ ltS a a := by unfold ltS; omega
theorem ltS_total {a b : TStamp} (h : a.Id ≠ b.Id) (k : ¬ ltS b a) : ltS a b := by unfold ltS at *; omega
theorem or2 (x y : Int) : m_cmp_Or_int [x, y] = some (if x = 0 then y else x) := by
 rw [m_cmp_Or_int, m_cmp_Or_int_loop1]
 by_cases hx : x = 0
 ·rw [if_neg (by simpa using hx), m_cmp_Or_int_loop1, if_pos hx]
  by_cases hy : y = 0
  ·rw [if_neg (by simpa using hy), m_cmp_Or_int_loop1]; simp [hy]
  ·rw [if_pos hy]; rfl
 ·rw [if_pos hx, if_neg hx]; rfl
theorem cmp_eq (x y : Int) : m_cmp_Compare_int x y = some (if x < y then -1 else if x > y then 1 else 0) := by
 have e : ∀ z : Int, m_cmp_isNaN_int z = some false := fun z => by rw [m_cmp_isNaN_int]; simp
 rw [m_cmp_Compare_int, e, e]
 simp only [Option.bind_some, Bool.false_eq_true, if_false]
 split
 ·rfl
 ·split <;> rfl
theorem less_eq (a b : TStamp) : m_stamp_Less a b = some (decide (ltS a b)) := by
 rw [m_stamp_Less, cmp_eq, cmp_eq]
 simp only [Option.bind_some, or2, Option.some.injEq, decide_eq_decide, ltS]
 by_cases h1 : a.Time < b.Time
 ·simp [h1]
 ·by_cases h2 : a.Time > b.Time
  ·simp [h1, h2]; omega
  ·have : a.Time = b.Time := by omega
   by_cases h3 : a.Id < b.Id
   ·simp [this, h3]
   ·by_cases h4 : a.Id > b.Id <;> simp [this, h3, h4]
theorem order_eq (a b : TWait) : m_skeen_order a b = some (if ltS (stW a) (stW b) then -1 else if ltS (stW b) (stW a) then 1 else 0) := by
 simp only [m_skeen_order, m_skeen_of, Option.bind_some, less_eq, decide_eq_true_eq]
 show (if ltS (stW a) (stW b) then _ else if ltS (stW b) (stW a) then _ else _) = _
 split
 ·rfl
 ·split <;> rfl
def minW : TWait → List TWait → TWait
 | m, [] => m
 | m, x :: l => minW (if ltS (stW x) (stW m) then x else m) l
theorem minW_mem : ∀ (l : List TWait) (m : TWait), minW m l = m ∨ minW m l ∈ l := by
 intro l
 induction l with
 | nil => intro m; exact .inl rfl
 | cons x l ih =>
  intro m
  rw [minW]
  rcases ih (if ltS (stW x) (stW m) then x else m) with h | h
  ·rw [h]; split
   ·exact .inr (by simp)
   ·exact .inl rfl
  ·exact .inr (List.mem_cons_of_mem _ h)
theorem minW_le : ∀ (l : List TWait) (m : TWait), ¬ ltS (stW m) (stW (minW m l)) ∧ ∀ x ∈ l, ¬ ltS (stW x) (stW (minW m l)) := by
 intro l
 induction l with
 | nil => intro m; exact ⟨ltS_irrefl _, by simp⟩
 | cons x l ih =>
  intro m
  rw [minW]
  obtain ⟨h1, h2⟩ := ih (if ltS (stW x) (stW m) then x else m)
  have key : ¬ ltS (stW m) (stW (minW (if ltS (stW x) (stW m) then x else m) l)) ∧ ¬ ltS (stW x) (stW (minW (if ltS (stW x) (stW m) then x else m) l)) := by
   by_cases h : ltS (stW x) (stW m)
   ·rw [if_pos h] at h1 ⊢
    exact ⟨fun k => h1 (ltS_trans h k), h1⟩
   ·rw [if_neg h] at h1 ⊢
    refine ⟨h1, fun k => ?_⟩
    have := @ltS_trans
    unfold ltS at *; omega
  refine ⟨key.1, fun y hy => ?_⟩
  rcases List.mem_cons.1 hy with rfl | hy
  ·exact key.2
  ·exact h2 y hy
theorem min_loop (l : List TWait) (hl : l.length < 1000000) : ∀ (fu k : Nat) (m : TWait), l.length - k < fu → k ≤ l.length →
  m_slices_MinFunc_Wait_Wait_loop1 l m_skeen_order fu m.Message.Id m.Message.Groups m.Message.Topic m.Message.Key m.Message.Body m.Time m.Final (k : Int)
   = some (let r := minW m (l.drop k); (r.Message.Id, r.Message.Groups, r.Message.Topic, r.Message.Key, r.Message.Body, r.Time, r.Final)) := by
 intro fu
 induction fu with
 | zero => intro k m h; omega
 | succ fu ih =>
  intro k m h hk
  rw [m_slices_MinFunc_Wait_Wait_loop1]
  by_cases hlt : k < l.length
  ·have hd := List.drop_eq_getElem_cons hlt
   have hg : l.getD (k : Int).toNat default = l[k] := by simp [List.getD, List.getElem?_eq_getElem hlt]
   have hw : wr .i64 ((k : Int) + 1) = ((k + 1 : Nat) : Int) := wr_eq _ _ (by show (-9223372036854775808 : Int) ≤ _; omega) (by show _ ≤ (9223372036854775807 : Int); omega)
   rw [if_pos (by omega), if_pos (by omega), hg, order_eq, hd, minW]
   show Option.bind (Option.bind (some (if ltS (stW l[k]) (stW m) then (-1 : Int) else if ltS (stW m) (stW l[k]) then 1 else 0)) _) _ = _
   simp only [Option.bind_some]
   by_cases hc : ltS (stW l[k]) (stW m)
   ·simp only [hc, if_true]
    rw [if_pos (by decide), if_pos (by omega)]
    simp only [Option.bind_some]
    rw [hw, ih (k + 1) l[k] (by omega) (by omega)]
   ·simp only [hc, if_false]
    rw [if_neg (by split <;> decide)]
    simp only [Option.bind_some]
    rw [hw, ih (k + 1) m (by omega) (by omega)]
  ·rw [if_neg (by omega), List.drop_of_length_le (by omega), minW]
theorem min_eq (y : TWait) (l : List TWait) (hl : l.length < 900000) : m_slices_MinFunc_Wait_Wait (y :: l) m_skeen_order = some (minW y l) := by
 rw [m_slices_MinFunc_Wait_Wait, if_neg (by simp; omega), if_pos (by simp)]
 have := min_loop (y :: l) (by simp; omega) ((y :: l).length + 1) 1 y (by simp; omega) (by simp)
 rw [show ((1 : Nat) : Int) = 1 from rfl] at this
 have e : (y :: l).getD 0 default = y := rfl
 rw [e, this]
 rfl
theorem minw_loop (l : List TWait) (f : TWait → TWait → Option Int) : ∀ (fu : Nat) (a : Int) (b : List Int) (c : Int) (d e : List UInt8) (g : Int) (h : Bool) (i : Int), m_slices_MinFunc_Wait_Wait_w_loop1 l f fu a b c d e g h i = m_slices_MinFunc_Wait_Wait_loop1 l f fu a b c d e g h i := by
 intro fu
 induction fu with
 | zero => intros; rfl
 | succ fu ih =>
  intros
  rw [m_slices_MinFunc_Wait_Wait_w_loop1, m_slices_MinFunc_Wait_Wait_loop1]
  simp only [ih]
theorem minw_eq (y : TWait) (l : List TWait) (hl : l.length < 900000) : m_slices_MinFunc_Wait_Wait_w (y :: l) m_skeen_order = some (minW y l) := by
 rw [← min_eq y l hl, m_slices_MinFunc_Wait_Wait_w, m_slices_MinFunc_Wait_Wait]
 simp only [minw_loop]
def IdOk (n : Int) : Prop := 0 ≤ n ∧ n ≤ 6291455
def IdsUp (l : List TWait) : Prop := l.Pairwise fun a b => a.Message.Id < b.Message.Id
theorem find1 (w : TWait) (id : Int) (h1 : IdOk w.Message.Id) (h2 : IdOk id) : m_skeen_clock_find_1 w id = some (w.Message.Id - id) := by
 rw [m_skeen_clock_find_1]
 unfold IdOk at *
 rw [wr_eq _ _ (by show (-9223372036854775808 : Int) ≤ _; omega) (by show _ ≤ (9223372036854775807 : Int); omega)]
def plc (id : Int) : List TWait → Nat
 | [] => 0
 | w :: l => if w.Message.Id < id then plc id l + 1 else 0
theorem plc_le (id : Int) : ∀ l, plc id l ≤ l.length := by
 intro l
 induction l with
 | nil => simp [plc]
 | cons w l ih => rw [plc]; split <;> simp <;> omega
theorem plc_lt (id : Int) : ∀ (l : List TWait), IdsUp l → ∀ (x : Nat) (h : x < l.length), (l[x].Message.Id < id ↔ x < plc id l) := by
 intro l
 induction l with
 | nil => intro _ x h; simp at h
 | cons w l ih =>
  intro hu x h
  have hu' := List.pairwise_cons.1 hu
  rw [plc]
  cases x with
  | zero => simp only [List.getElem_cons_zero]; split <;> simp [*]
  | succ x =>
   simp only [List.getElem_cons_succ]
   have hx : x < l.length := by simpa using h
   have := ih hu'.2 x hx
   split
   ·rw [this]; omega
   ·rename_i hw
    have := hu'.1 l[x] (List.getElem_mem hx)
    constructor
    ·intro _; omega
    ·intro h; omega
theorem bs_loop (l : List TWait) (id : Int) (hl : l.length < 1000000) (hu : IdsUp l) (hi : ∀ w ∈ l, IdOk w.Message.Id) (h2 : IdOk id) : ∀ (fu i j : Nat), j - i < fu → i ≤ plc id l → plc id l ≤ j → j ≤ l.length →
  m_slices_BinarySearchFunc_Wait_Wait_int_loop1 l id m_skeen_clock_find_1 fu (i : Int) (j : Int) = some ((plc id l : Nat) : Int) := by
 intro fu
 induction fu with
 | zero => intro i j h; omega
 | succ fu ih =>
  intro i j h h1 h3 h4
  rw [m_slices_BinarySearchFunc_Wait_Wait_int_loop1]
  by_cases hij : i < j
  ·have hm : (i + j) / 2 < l.length := by omega
   have hg : l.getD (((i + j) / 2 : Nat) : Int).toNat default = l[(i + j) / 2] := by rw [Int.toNat_natCast]; simp [List.getD, List.getElem?_eq_getElem hm]
   have e : wr .i64 ((((i + j) / 2 : Nat) : Int) + 1) = (((i + j) / 2 + 1 : Nat) : Int) := wr_eq _ _ (by show (-9223372036854775808 : Int) ≤ _; omega) (by show _ ≤ (9223372036854775807 : Int); omega)
   rw [if_pos (by omega), half_eq i j (by omega), if_pos ⟨by omega, by omega⟩, hg, find1 _ _ (hi _ (List.getElem_mem hm)) h2, e]
   simp only [Option.bind_some]
   have hp := plc_lt id l hu _ hm
   by_cases hc : l[(i + j) / 2].Message.Id < id
   ·rw [if_pos (by omega)]
    exact ih _ _ (by omega) (by have := hp.1 hc; omega) h3 h4
   ·rw [if_neg (by omega)]
    exact ih _ _ (by omega) h1 (by have : ¬ _ := fun k => hc (hp.2 k); omega) (by omega)
  ·rw [if_neg (by omega)]
   have : i = plc id l := by omega
   rw [this]
theorem plc_at (id : Int) (l : List TWait) (hu : IdsUp l) : (∃ w ∈ l, w.Message.Id = id) ↔ ∃ h : plc id l < l.length, l[plc id l].Message.Id = id := by
 constructor
 ·rintro ⟨w, hw, rfl⟩
  obtain ⟨x, hx, rfl⟩ := List.getElem_of_mem hw
  have h1 : ¬ x < plc l[x].Message.Id l := fun k => by have := (plc_lt _ l hu x hx).2 k; omega
  have h2 : plc l[x].Message.Id l ≤ x := by omega
  have h3 : plc l[x].Message.Id l < l.length := by omega
  refine ⟨h3, ?_⟩
  have h4 : ¬ l[plc l[x].Message.Id l].Message.Id < l[x].Message.Id := fun k => by have := (plc_lt _ l hu _ h3).1 k; omega
  rcases Nat.lt_or_eq_of_le h2 with h5 | h5
  ·have := List.pairwise_iff_getElem.1 hu _ _ h3 hx h5
   omega
  ·simp only [h5]
 ·rintro ⟨h, e⟩
  exact ⟨_, List.getElem_mem h, e⟩
theorem find_eq (c : Tskeen_clock) (id : Int) (hl : c.Skeen.Waits.length < 1000000) (hu : IdsUp c.Skeen.Waits) (hi : ∀ w ∈ c.Skeen.Waits, IdOk w.Message.Id) (h2 : IdOk id) :
  m_skeen_clock_find c id = some (((plc id c.Skeen.Waits : Nat) : Int), decide (∃ w ∈ c.Skeen.Waits, w.Message.Id = id)) := by
 obtain ⟨⟨ck, l, dn⟩⟩ := c
 simp only at hl hu hi ⊢
 have hb := bs_loop l id hl hu hi h2 (l.length + 1) 0 l.length (by omega) (by omega) (plc_le id l) (by omega)
 rw [m_skeen_clock_find, m_slices_BinarySearchFunc_Wait_Wait_int]
 simp only
 have e0 : ((0 : Nat) : Int) = 0 := rfl
 rw [e0] at hb
 rw [hb]
 simp only [Option.bind_some]
 rw [if_pos (by intro h; omega)]
 have hp := plc_at id l hu
 by_cases hc : plc id l < l.length
 ·have hg : l.getD ((plc id l : Nat) : Int).toNat default = l[plc id l] := by rw [Int.toNat_natCast]; simp [List.getD, List.getElem?_eq_getElem hc]
  rw [if_pos (by omega), hg, find1 _ _ (hi _ (List.getElem_mem hc)) h2]
  simp only [Option.bind_some, Option.some.injEq, Prod.mk.injEq, true_and]
  rw [decide_eq_true (by omega : ((plc id l : Nat) : Int) < (l.length : Int)), Bool.true_and]
  by_cases hx : ∃ w ∈ l, w.Message.Id = id
  ·obtain ⟨h3, h4⟩ := hp.1 hx
   simp only [hx, decide_true]
   simp; omega
  ·simp only [hx, decide_false]
   have : ¬ l[plc id l].Message.Id = id := fun k => hx (hp.2 ⟨hc, k⟩)
   simp; omega
 ·rw [if_neg (by omega)]
  have : ¬ ∃ w ∈ l, w.Message.Id = id := fun k => hc (hp.1 k).1
  simp only [Option.bind_some, this, decide_false]
  rw [decide_eq_false (by omega), Bool.false_and]
theorem ixS_loop (f : TStamp → Option Bool) (g : TStamp → Bool) (hf : ∀ x, f x = some (g x)) (l : List TStamp) : ∀ n : Nat, (l.any g = true → ∃ k : Nat, m_slices_IndexFunc_Stamp_Stamp_loop1 f l n = some (.inl (k : Int))) ∧ (l.any g = false → m_slices_IndexFunc_Stamp_Stamp_loop1 f l n = some (.inr ())) := by
 induction l with
 | nil => intro n; exact ⟨(fun h => by cases h), fun _ => rfl⟩
 | cons y l ih =>
  intro n
  rw [m_slices_IndexFunc_Stamp_Stamp_loop1, hf, List.any_cons]
  cases hg : g y with
  | true => exact ⟨fun _ => ⟨n, by simp⟩, fun h => by cases h⟩
  | false => simpa using ih (n + 1)
theorem done_eq (c : Tskeen_clock) (id : Int) : m_skeen_clock_done c id = some (c.Skeen.Done.any fun x => x.Id == id) := by
 rw [m_skeen_clock_done, m_slices_ContainsFunc_Stamp_Stamp, m_slices_IndexFunc_Stamp_Stamp]
 have hf : ∀ x : TStamp, (fun x0 => m_skeen_clock_done_1 x0 id) x = some (x.Id == id) := fun x => rfl
 cases h : c.Skeen.Done.any fun x => x.Id == id with
 | true => obtain ⟨k, hk⟩ := (ixS_loop _ _ hf c.Skeen.Done 0).1 h; rw [hk]; simp
 | false => rw [(ixS_loop _ _ hf c.Skeen.Done 0).2 h]; simp
end Go.Proofs
end
section
namespace Go.Proofs
open Go.Tm
set_option linter.unusedSimpArgs false
theorem in_eq (a b c : Int) : m_command_in a b c = some (decide (b ≤ a ∧ a ≤ c)) := by
 rw [m_command_in]; by_cases h : b ≤ a <;> by_cases k : a ≤ c <;> simp [h, k]
instance (n : Int) : Decidable (IdOk n) := by unfold IdOk; infer_instance
theorem cid_eq (a : Int) : m_command_id a = some (decide (IdOk a)) := by
 rw [m_command_id, in_eq, Option.bind_some]; rfl
def MsgOk (m : TMessage) : Prop := m_command_CheckMessage m = some 0
theorem msg_loop (m : TMessage) : ∀ (l : List Int) (n : Nat) (b : Bool), ∃ r, m_command_CheckMessage_loop1 m l n b = some r := by
 intro l
 induction l with
 | nil => intro n b; exact ⟨b, rfl⟩
 | cons y l ih =>
  intro n b
  rw [m_command_CheckMessage_loop1, in_eq]
  cases b with
  | true => simp only [if_true, Option.bind_some]; exact ih _ _
  | false => simp only [Bool.false_eq_true, if_false, Option.bind_some]; exact ih _ _
theorem msg_tot (m : TMessage) : (∃ e, m_command_CheckMessage m = some e) ∧ (m_command_CheckMessage m = some 0 → IdOk m.Id) := by
 obtain ⟨b, hb⟩ := msg_loop m m.Groups 0 ((decide ((m.Groups.length : Int) ≥ 1)) && (decide ((m.Groups.length : Int) ≤ 4)))
 have key : m_command_CheckMessage m = some (if ((((¬ (b = true)) ∨ (¬ (decide (IdOk m.Id) = true))) ∨ (¬ (decide (0 ≤ m.Topic ∧ m.Topic ≤ 3) = true))) ∨ ((m.Key.length : Int) > 16)) ∨ ((m.Body.length : Int) > 64) then 120 else 0) := by
  rw [m_command_CheckMessage, hb]
  simp only [Option.bind_some, cid_eq, in_eq]
  cases b with
  | true =>
   simp only [not_true_eq_false, not_false_eq_true, if_true, Option.bind_some, false_or]
   by_cases hi : IdOk m.Id
   ·simp only [hi, decide_true, not_true_eq_false, not_false_eq_true, if_true, Option.bind_some, false_or]
    split <;> rfl
   ·simp only [hi, decide_false, Bool.false_eq_true, not_false_eq_true, not_true_eq_false, if_false, Option.bind_some, true_or, if_true]
  | false => simp
 refine ⟨⟨_, key⟩, fun h => ?_⟩
 rw [key] at h
 by_cases hi : IdOk m.Id
 ·exact hi
 ·simp [hi] at h
theorem MsgOk.id {m : TMessage} (h : MsgOk m) : IdOk m.Id := (msg_tot m).2 h
def StampOk (x : TStamp) : Prop := 0 ≤ x.Time ∧ x.Time ≤ 1073741824 ∧ 0 ≤ x.Id ∧ x.Id < 6291456
instance (x : TStamp) : Decidable (StampOk x) := by unfold StampOk; infer_instance
theorem stc_eq (x : TStamp) : m_stamp_Check x = some (if StampOk x then 0 else 8) := by
 rw [m_stamp_Check]
 by_cases h : StampOk x
 ·rw [if_pos h, if_neg (by unfold StampOk at h; omega)]
 ·rw [if_neg h, if_pos (by unfold StampOk at h; omega)]
theorem mget_mput (k i v : Int) : ∀ m : List (Int × Int), mget k (mput i v m) = if k = i then some v else mget k m := by
 intro m
 induction m with
 | nil => simp [mput, mget]
 | cons x m ih =>
  rw [mput]
  by_cases h : i = x.1
  ·rw [if_pos h]; simp only [mget]
   by_cases hk : k = i
   ·simp [hk]
   ·simp [hk, show k ≠ x.1 from fun e => hk (e.trans h.symm)]
  ·rw [if_neg h]; simp only [mget]
   by_cases hx : k = x.1
   ·simp [hx, show ¬ x.1 = i from fun e => h e.symm]
   ·rw [if_neg hx, ih, if_neg hx]
def DOk (c : Int) (D : List TStamp) : Prop := (∀ x ∈ D, StampOk x ∧ 1 ≤ x.Time ∧ x.Time ≤ c) ∧ D.Pairwise ltS ∧ (D.map TStamp.Id).Nodup
theorem DOk.pre {c : Int} {D E : List TStamp} (h : DOk c (D ++ E)) : DOk c D :=
 ⟨fun x hx => h.1 x (List.mem_append_left _ hx), (List.pairwise_append.1 h.2.1).1, by have := h.2.2; rw [List.map_append] at this; exact (List.nodup_append.1 this).1⟩
theorem ltS_last {D : List TStamp} (h : D.Pairwise ltS) {p : TStamp} (hp : D.getLast? = some p) : ∀ x ∈ D, x = p ∨ ltS x p := by
 obtain ⟨E, rfl⟩ := List.getLast?_eq_some_iff.1 hp
 intro x hx
 rcases List.mem_append.1 hx with hx | hx
 ·exact .inr ((List.pairwise_append.1 h).2.2 x hx p (by simp))
 ·simp at hx; exact .inl hx
theorem DOk.snoc {c : Int} {D : List TStamp} (h : DOk c D) (y : TStamp) : DOk c (D ++ [y]) ↔ (StampOk y ∧ 1 ≤ y.Time ∧ y.Time ≤ c) ∧ (∀ p, D.getLast? = some p → ltS p y) ∧ y.Id ∉ D.map TStamp.Id := by
 constructor
 ·intro k
  refine ⟨k.1 y (by simp), fun p hp => ?_, fun hm => ?_⟩
  ·exact (List.pairwise_append.1 k.2.1).2.2 p (List.mem_of_getLast? hp) y (by simp)
  ·have := k.2.2; rw [List.map_append] at this
   exact (List.nodup_append.1 this).2.2 _ hm _ (by simp) rfl
 ·rintro ⟨h1, h2, h3⟩
  refine ⟨fun x hx => ?_, ?_, ?_⟩
  ·rcases List.mem_append.1 hx with hx | hx
   ·exact h.1 x hx
   ·simp at hx; subst hx; exact h1
  ·rw [List.pairwise_append]
   refine ⟨h.2.1, by simp, fun x hx z hz => ?_⟩
   simp at hz; subst hz
   cases hl : D.getLast? with
   | none => rw [List.getLast?_eq_none_iff] at hl; subst hl; simp at hx
   | some p =>
    rcases ltS_last h.2.1 hl x hx with rfl | hh
    ·exact h2 _ hl
    ·exact ltS_trans hh (h2 _ hl)
  ·rw [List.map_append, List.nodup_append]
   refine ⟨h.2.2, by simp, fun a ha b hb e => ?_⟩
   simp at hb; subst hb; subst e; exact h3 ha
def Mp (D : List TStamp) (m : List (Int × Int)) : Prop := ∀ k, ((mget k m).getD 0 > 0 ↔ k ∈ D.map TStamp.Id)
theorem Mp.snoc {D : List TStamp} {m : List (Int × Int)} (h : Mp D m) (y : TStamp) : Mp (D ++ [y]) (mput y.Id 1 m) := by
 intro k
 rw [mget_mput]
 by_cases e : k = y.Id
 ·simp [e]
 ·rw [if_neg e, h k]; simp [e]
theorem ck1 (s : TSkeen) : ∀ (l pre : List TStamp) (m : List (Int × Int)) (n3 n4 : Int), DOk s.Clock pre → Mp pre m → (∀ x, pre.getLast? = some x → x = ⟨n3, n4⟩) →
  (DOk s.Clock (pre ++ l) → ∃ m' a b, m_skeen_Check_loop1 s l pre.length m n3 n4 = some (.inr (m', a, b)) ∧ Mp (pre ++ l) m' ∧ ∀ x, (pre ++ l).getLast? = some x → x = ⟨a, b⟩) ∧
  (¬ DOk s.Clock (pre ++ l) → m_skeen_Check_loop1 s l pre.length m n3 n4 = some (.inl 8)) := by
 intro l
 induction l with
 | nil =>
  intro pre m n3 n4 h1 h2 h3
  rw [List.append_nil]
  exact ⟨fun _ => ⟨m, n3, n4, rfl, h2, h3⟩, fun h => absurd h1 h⟩
 | cons y l ih =>
  intro pre m n3 n4 h1 h2 h3
  have ea : pre ++ y :: l = (pre ++ [y]) ++ l := by simp
  have hs := h1.snoc y
  have el : (pre ++ [y]).length = pre.length + 1 := by simp
  have hlast : ∀ x, (pre ++ [y]).getLast? = some x → x = ⟨y.Time, y.Id⟩ := by
   intro x hx; simp at hx; exact hx.symm
  -- the round's test
  have key : ∀ k : Option (Int ⊕ (List (Int × Int) × Int × Int)), (DOk s.Clock (pre ++ [y]) → k = m_skeen_Check_loop1 s l (pre.length + 1) (mput y.Id 1 m) y.Time y.Id) → (¬ DOk s.Clock (pre ++ [y]) → k = some (.inl 8)) → m_skeen_Check_loop1 s (y :: l) pre.length m n3 n4 = k := by
   intro k k1 k2
   rw [m_skeen_Check_loop1, stc_eq]
   simp only [Option.bind_some, less_eq]
   by_cases c1 : StampOk y ∧ 1 ≤ y.Time ∧ y.Time ≤ s.Clock
   ·have e1 : ¬ ((¬ (if StampOk y then (0 : Int) else 8) = 0 ∨ y.Time < 1) ∨ y.Time > s.Clock) := by
     rw [if_pos c1.1]; omega
    by_cases c2 : pre.length = 0
    ·have hp : pre = [] := List.length_eq_zero_iff.1 c2
     have hl : ∀ p, pre.getLast? = some p → ltS p y := by subst hp; simp
     rw [if_neg (by rw [c2]; simp)]
     simp only [Option.bind_some]
     by_cases c3 : y.Id ∈ pre.map TStamp.Id
     ·rw [if_pos (.inr ((h2 _).2 c3)), k2 (fun h => (hs.1 h).2.2 c3)]
     ·rw [if_neg, k1 (hs.2 ⟨c1, hl, c3⟩)]
      rintro ((hh | hh) | hh)
      ·exact e1 hh
      ·omega
      ·exact c3 ((h2 _).1 hh)
    ·obtain ⟨p, hp⟩ : ∃ p, pre.getLast? = some p := by
      cases hq : pre.getLast? with
      | none => rw [List.getLast?_eq_none_iff] at hq; subst hq; simp at c2
      | some p => exact ⟨p, rfl⟩
     have ep := h3 p hp
     rw [if_pos ⟨e1, by omega⟩]
     simp only [Option.bind_some, decide_eq_true_eq]
     by_cases c4 : ltS ⟨n3, n4⟩ y
     ·by_cases c3 : y.Id ∈ pre.map TStamp.Id
      ·rw [if_pos (.inr ((h2 _).2 c3)), k2 (fun h => (hs.1 h).2.2 c3)]
      ·rw [if_neg, k1 (hs.2 ⟨c1, fun q hq => by rw [hp] at hq; cases hq; rw [ep]; exact c4, c3⟩)]
       rintro ((hh | hh) | hh)
       ·exact e1 hh
       ·exact hh.2 c4
       ·exact c3 ((h2 _).1 hh)
     ·rw [if_pos (.inl (.inr ⟨by omega, c4⟩)), k2 (fun h => c4 (by have := (hs.1 h).2.1 p hp; rwa [ep] at this))]
   ·have e1 : ((¬ (if StampOk y then (0 : Int) else 8) = 0 ∨ y.Time < 1) ∨ y.Time > s.Clock) := by
     by_cases c0 : StampOk y
     ·rw [if_pos c0]; have := c1; simp only [c0, true_and] at this; omega
     ·rw [if_neg c0]; exact .inl (.inl (by decide))
    rw [if_neg (by rintro ⟨hh, _⟩; exact hh e1)]
    simp only [Option.bind_some]
    rw [if_pos (.inl (.inl e1)), k2 (fun h => c1 (hs.1 h).1)]
  rw [ea]
  by_cases hd : DOk s.Clock (pre ++ [y])
  ·have := ih (pre ++ [y]) (mput y.Id 1 m) y.Time y.Id hd (h2.snoc y) hlast
   rw [el] at this
   rw [key _ (fun _ => rfl) (fun h => absurd hd h)]
   exact this
  ·refine ⟨fun h => absurd h.pre hd, fun _ => key _ (fun h => absurd h hd) (fun _ => rfl)⟩
def W1 (c : Int) (D : List TStamp) (w : TWait) : Prop := MsgOk w.Message ∧ 1 ≤ w.Time ∧ w.Time ≤ c ∧ (∀ x ∈ D, x.Id ≠ w.Message.Id) ∧ ∀ x, D.getLast? = some x → ltS x (stW w)
def WOk (c : Int) (D : List TStamp) (W : List TWait) : Prop := (∀ w ∈ W, W1 c D w) ∧ IdsUp W
theorem WOk.pre {c : Int} {D : List TStamp} {V W : List TWait} (h : WOk c D (V ++ W)) : WOk c D V := ⟨fun w hw => h.1 w (List.mem_append_left _ hw), (List.pairwise_append.1 h.2).1⟩
theorem ids_last {W : List TWait} (h : IdsUp W) {p : TWait} (hp : W.getLast? = some p) : ∀ x ∈ W, x = p ∨ x.Message.Id < p.Message.Id := by
 obtain ⟨E, rfl⟩ := List.getLast?_eq_some_iff.1 hp
 intro x hx
 rcases List.mem_append.1 hx with hx | hx
 ·exact .inr ((List.pairwise_append.1 h).2.2 x hx p (by simp))
 ·simp at hx; exact .inl hx
theorem WOk.snoc {c : Int} {D : List TStamp} {W : List TWait} (h : WOk c D W) (y : TWait) : WOk c D (W ++ [y]) ↔ W1 c D y ∧ ∀ p, W.getLast? = some p → p.Message.Id < y.Message.Id := by
 constructor
 ·intro k
  exact ⟨k.1 y (by simp), fun p hp => (List.pairwise_append.1 k.2).2.2 p (List.mem_of_getLast? hp) y (by simp)⟩
 ·rintro ⟨h1, h2⟩
  refine ⟨fun x hx => ?_, ?_⟩
  ·rcases List.mem_append.1 hx with hx | hx
   ·exact h.1 x hx
   ·simp at hx; subst hx; exact h1
  ·unfold IdsUp
   rw [List.pairwise_append]
   refine ⟨h.2, by simp, fun x hx z hz => ?_⟩
   simp at hz; subst hz
   cases hl : W.getLast? with
   | none => rw [List.getLast?_eq_none_iff] at hl; subst hl; simp at hx
   | some p =>
    rcases ids_last h.2 hl x hx with rfl | hh
    ·exact h2 _ hl
    ·have := h2 _ hl; omega
theorem ck2 (s : TSkeen) (m : List (Int × Int)) (a b : Int) (hm : Mp s.Done m) (hab : ∀ x, s.Done.getLast? = some x → x = ⟨a, b⟩) : ∀ (l pre : List TWait), s.Waits = pre ++ l → WOk s.Clock s.Done pre →
  (WOk s.Clock s.Done (pre ++ l) → m_skeen_Check_loop2 s m a b l pre.length = some (.inr ())) ∧ (¬ WOk s.Clock s.Done (pre ++ l) → m_skeen_Check_loop2 s m a b l pre.length = some (.inl 8)) := by
 intro l
 induction l with
 | nil =>
  intro pre _ h1
  rw [List.append_nil]
  exact ⟨fun _ => rfl, fun h => absurd h1 h⟩
 | cons y l ih =>
  intro pre hw h1
  have ea : pre ++ y :: l = (pre ++ [y]) ++ l := by simp
  have hs := h1.snoc y
  have el : (pre ++ [y]).length = pre.length + 1 := by simp
  have hprev : ∀ p, pre.getLast? = some p → s.Waits.getD (pre.length - 1) default = p := by
   intro p hp
   obtain ⟨E, rfl⟩ := List.getLast?_eq_some_iff.1 hp
   rw [hw]; simp [List.getD]
  obtain ⟨⟨e, he⟩, _⟩ := msg_tot y.Message
  have hmo : MsgOk y.Message ↔ e = 0 := by unfold MsgOk; rw [he]; simp
  have key : ∀ k : Option (Int ⊕ Unit), (WOk s.Clock s.Done (pre ++ [y]) → k = m_skeen_Check_loop2 s m a b l (pre.length + 1)) → (¬ WOk s.Clock s.Done (pre ++ [y]) → k = some (.inl 8)) → m_skeen_Check_loop2 s m a b (y :: l) pre.length = k := by
   intro k k1 k2
   rw [m_skeen_Check_loop2, he]
   simp only [Option.bind_some, m_skeen_of, less_eq]
   let T1 : Prop := ((((¬ (e = 0) ∨ y.Time < 1) ∨ y.Time > s.Clock) ∨ (((pre.length : Int) > 0) ∧ y.Message.Id ≤ (s.Waits.getD (pre.length - 1) default).Message.Id)) ∨ ((mget y.Message.Id m).getD 0 > 0))
   have t1 : ¬ T1 ↔ (MsgOk y.Message ∧ 1 ≤ y.Time ∧ y.Time ≤ s.Clock ∧ (∀ x ∈ s.Done, x.Id ≠ y.Message.Id)) ∧ (∀ p, pre.getLast? = some p → p.Message.Id < y.Message.Id) := by
    have h3 : ((mget y.Message.Id m).getD 0 > 0) ↔ ¬ ∀ x ∈ s.Done, x.Id ≠ y.Message.Id := by
     rw [hm]; simp
    have h4 : (((pre.length : Int) > 0) ∧ y.Message.Id ≤ (s.Waits.getD (pre.length - 1) default).Message.Id) ↔ ¬ ∀ p, pre.getLast? = some p → p.Message.Id < y.Message.Id := by
     cases hq : pre.getLast? with
     | none => rw [List.getLast?_eq_none_iff] at hq; subst hq; simp
     | some p =>
      rw [hprev p hq]
      have : pre.length > 0 := by
       rcases Nat.eq_zero_or_pos pre.length with h0 | h0
       ·rw [List.length_eq_zero_iff.1 h0] at hq; simp at hq
       ·exact h0
      constructor
      ·rintro ⟨_, h5⟩ h6; have := h6 p rfl; omega
      ·intro h5
       refine ⟨by omega, ?_⟩
       apply Decidable.byContradiction
       intro h6
       exact h5 fun q hq' => by cases hq'; omega
    show ¬ ((((¬ (e = 0) ∨ y.Time < 1) ∨ y.Time > s.Clock) ∨ _) ∨ _) ↔ _
    rw [h3, h4, hmo]
    constructor
    ·intro h
     refine ⟨⟨?_, ?_, ?_, ?_⟩, ?_⟩
     ·apply Decidable.byContradiction; intro q; exact h (.inl (.inl (.inl (.inl q))))
     ·apply Decidable.byContradiction; intro q; exact h (.inl (.inl (.inl (.inr (by omega)))))
     ·apply Decidable.byContradiction; intro q; exact h (.inl (.inl (.inr (by omega))))
     ·apply Classical.byContradiction; intro q; exact h (.inr q)
     ·apply Classical.byContradiction; intro q; exact h (.inl (.inr q))
    ·rintro ⟨⟨q1, q2, q3, q4⟩, q5⟩ ((((q | q) | q) | q) | q)
     ·exact q q1
     ·omega
     ·omega
     ·exact q q5
     ·exact q q4
   by_cases c1 : T1
   ·have c1' : ¬ (¬ T1 ∧ (s.Done.length : Int) > 0) := fun h => h.1 c1
    show Option.bind (if ¬ T1 ∧ (s.Done.length : Int) > 0 then _ else _) _ = k
    rw [if_neg c1']
    simp only [Option.bind_some]
    show Option.bind (if ¬ T1 ∧ (s.Done.length : Int) > 0 then _ else _) _ = k
    rw [if_neg c1']
    simp only [Option.bind_some]
    rw [if_pos (.inl c1), k2]
    intro h
    have := hs.1 h
    exact t1.2 ⟨⟨this.1.1, this.1.2.1, this.1.2.2.1, this.1.2.2.2.1⟩, this.2⟩ c1
   ·have q := t1.1 c1
    by_cases c2 : s.Done = []
    ·have c1' : ¬ (¬ T1 ∧ (s.Done.length : Int) > 0) := by rw [c2]; simp
     show Option.bind (if ¬ T1 ∧ (s.Done.length : Int) > 0 then _ else _) _ = k
     rw [if_neg c1']
     simp only [Option.bind_some]
     show Option.bind (if ¬ T1 ∧ (s.Done.length : Int) > 0 then _ else _) _ = k
     rw [if_neg c1']
     simp only [Option.bind_some]
     rw [if_neg, k1 (hs.2 ⟨⟨q.1.1, q.1.2.1, q.1.2.2.1, q.1.2.2.2, by rw [c2]; simp⟩, q.2⟩)]
     rintro (h | h)
     ·exact c1 h
     ·rw [c2] at h; simp at h
    ·obtain ⟨p, hp⟩ : ∃ p, s.Done.getLast? = some p := by
      cases hq : s.Done.getLast? with
      | none => rw [List.getLast?_eq_none_iff] at hq; exact absurd hq c2
      | some p => exact ⟨p, rfl⟩
     have hpos : (s.Done.length : Int) > 0 := by
      have := List.length_pos_iff.2 c2; omega
     have ep := hab p hp
     show Option.bind (if ¬ T1 ∧ (s.Done.length : Int) > 0 then _ else _) _ = k
     rw [if_pos ⟨c1, hpos⟩]
     simp only [Option.bind_some]
     show Option.bind (if ¬ T1 ∧ (s.Done.length : Int) > 0 then _ else _) _ = k
     rw [if_pos ⟨c1, hpos⟩]
     simp only [Option.bind_some, decide_eq_true_eq]
     show (if T1 ∨ ((s.Done.length : Int) > 0 ∧ ¬ ltS ⟨a, b⟩ (stW y)) then _ else _) = k
     by_cases c3 : ltS ⟨a, b⟩ (stW y)
     ·rw [if_neg, k1 (hs.2 ⟨⟨q.1.1, q.1.2.1, q.1.2.2.1, q.1.2.2.2, fun x hx => by rw [hab x hx]; exact c3⟩, q.2⟩)]
      rintro (h | h)
      ·exact c1 h
      ·exact h.2 c3
     ·rw [if_pos (.inr ⟨hpos, c3⟩), k2]
      intro h
      exact c3 (by have := (hs.1 h).1.2.2.2.2 p hp; rwa [ep] at this)
  rw [ea]
  by_cases hd : WOk s.Clock s.Done (pre ++ [y])
  ·have := ih (pre ++ [y]) (by rw [hw, ea]) hd
   rw [el] at this
   rw [key _ (fun _ => rfl) (fun h => absurd hd h)]
   exact this
  ·exact ⟨fun h => absurd h.pre hd, fun _ => key _ (fun h => absurd h hd) (fun _ => rfl)⟩
structure V (s : TSkeen) : Prop where
 c0 : 0 ≤ s.Clock
 c1 : s.Clock ≤ 1073741824
 lw : s.Waits.length ≤ 200
 ld : s.Done.length ≤ 200
 d : DOk s.Clock s.Done
 w : WOk s.Clock s.Done s.Waits
 m : ∀ y l, s.Waits = y :: l → (minW y l).Final = false
theorem sk_check (s : TSkeen) : ∃ e, m_skeen_Check s = some e ∧ (e = 0 ↔ V s) := by
 rw [m_skeen_Check]
 by_cases h0 : ((s.Clock < 0 ∨ s.Clock > 1073741824) ∨ (s.Waits.length : Int) > 200) ∨ (s.Done.length : Int) > 200
 ·rw [if_pos h0]
  refine ⟨8, rfl, (by intro h; cases h), fun h => ?_⟩
  have := h.c0; have := h.c1; have := h.lw; have := h.ld; omega
 rw [if_neg h0]
 have d0 : DOk s.Clock [] := ⟨by simp, by simp, by simp⟩
 have hc := ck1 s s.Done [] [] 0 0 d0 (by intro k; simp [mget]) (by simp)
 rw [List.nil_append] at hc
 by_cases hd : DOk s.Clock s.Done
 ·obtain ⟨m, a, b, h1, h2, h3⟩ := hc.1 hd
  have h1 : m_skeen_Check_loop1 s s.Done 0 [] 0 0 = _ := h1
  rw [h1]
  simp only [Option.bind_some]
  have w0 : WOk s.Clock s.Done [] := ⟨by simp, by simp [IdsUp]⟩
  have hc2 := ck2 s m a b h2 h3 s.Waits [] rfl w0
  rw [List.nil_append] at hc2
  by_cases hw : WOk s.Clock s.Done s.Waits
  ·have h4 : m_skeen_Check_loop2 s m a b s.Waits 0 = _ := hc2.1 hw
   rw [h4]
   simp only [Option.bind_some]
   cases hl : s.Waits with
   | nil =>
    refine ⟨0, by simp, fun _ => ⟨by omega, by omega, by omega, by omega, hd, hw, by rw [hl]; simp⟩, fun _ => rfl⟩
   | cons y l =>
    rw [if_pos (by simp only [List.length_cons]; omega), min_eq y l (by rw [hl] at h0; simp at h0; omega)]
    simp only [Option.bind_some]
    by_cases hf : (minW y l).Final = true
    ·rw [if_pos ⟨by simp only [List.length_cons]; omega, hf⟩]
     refine ⟨8, rfl, (by intro h; cases h), fun h => ?_⟩
     have := h.m y l hl
     rw [hf] at this; cases this
    ·rw [if_neg (fun h => hf h.2)]
     refine ⟨0, rfl, fun _ => ⟨by omega, by omega, by omega, by omega, hd, hw, fun y' l' h => ?_⟩, fun _ => rfl⟩
     rw [hl] at h; cases h
     simpa using hf
  ·have h4 : m_skeen_Check_loop2 s m a b s.Waits 0 = _ := hc2.2 hw
   rw [h4]
   simp only [Option.bind_some]
   exact ⟨8, rfl, (by intro h; cases h), fun h => absurd h.w hw⟩
 ·have h1 : m_skeen_Check_loop1 s s.Done 0 [] 0 0 = _ := hc.2 hd
  rw [h1]
  simp only [Option.bind_some]
  exact ⟨8, rfl, (by intro h; cases h), fun h => absurd h.d hd⟩
end Go.Proofs
end
section
namespace Go.Proofs
open Go.Tm
set_option linter.unusedSimpArgs false
theorem msg_false (m : TMessage) : ∀ (l : List Int) (n : Nat), m_command_CheckMessage_loop1 m l n false = some false := by
 intro l
 induction l with
 | nil => intro n; rfl
 | cons y l ih => intro n; rw [m_command_CheckMessage_loop1]; simpa using ih (n + 1)
theorem MsgOk.groups {m : TMessage} (h : MsgOk m) : m.Groups.length ≤ 4 := by
 apply Decidable.byContradiction
 intro hc
 unfold MsgOk at h
 have e : ((decide ((m.Groups.length : Int) ≥ 1)) && (decide ((m.Groups.length : Int) ≤ 4))) = false := by
  rw [Bool.and_eq_false_iff]; right; simp; omega
 rw [m_command_CheckMessage, e, msg_false] at h
 simp [cid_eq, in_eq] at h
theorem sm_eq (a b : TMessage) : m_command_SameMessage a b = some (decide (a = b)) := by
 rw [m_command_SameMessage, equal_eq]
 obtain ⟨a1, a2, a3, a4, a5⟩ := a
 obtain ⟨b1, b2, b3, b4, b5⟩ := b
 by_cases h : a1 = b1
 ·by_cases h2 : a2 = b2 <;> by_cases h3 : a3 = b3 <;> by_cases h4 : a4 = b4 <;> by_cases h5 : a5 = b5 <;> simp [h, h2, h3, h4, h5]
 ·simp [h]
theorem cs_eq (a b : TCommand) : m_command_Same a b = some (decide (a = b)) := by
 rw [m_command_Same, sm_eq, equal_eq]
 obtain ⟨a1, a2, a3, a4, a5, a6, a7, a8⟩ := a
 obtain ⟨b1, b2, b3, b4, b5, b6, b7, b8⟩ := b
 by_cases h : a1 = b1
 ·by_cases h2 : a2 = b2
  ·by_cases h3 : a3 = b3
   ·by_cases h4 : a4 = b4
    ·by_cases h5 : a5 = b5 <;> by_cases h6 : a6 = b6 <;> by_cases h7 : a7 = b7 <;> by_cases h8 : a8 = b8 <;> simp [h, h2, h3, h4, h5, h6, h7, h8]
    ·simp [h, h2, h3, h4]
   ·simp [h, h2, h3]
  ·simp [h, h2]
 ·simp [h]
theorem plain_tot (c : TCommand) : ∃ p ok, m_command_plain c = some (p, ok) ∧ (c.Kind = 1 → ok = true → MsgOk c.Message) ∧ (c.Kind = 2 → ok = true → IdOk c.Id ∧ 1 ≤ c.Time ∧ c.Time ≤ 1073741824) := by
 rw [m_command_plain, cid_eq]
 simp only [Option.bind_some]
 obtain ⟨v2, h2⟩ : ∃ v2, (if decide (IdOk c.Id) = true then m_command_in c.Topic 0 3 else some default) = some v2 := by split <;> exact ⟨_, by first | exact in_eq _ _ _ | rfl⟩
 rw [h2]
 simp only [Option.bind_some]
 obtain ⟨v3, h3⟩ : ∃ v3, (if decide (IdOk c.Id) = true ∧ v2 = true then m_command_in c.N 0 1073741824 else some default) = some v3 := by split <;> exact ⟨_, by first | exact in_eq _ _ _ | rfl⟩
 rw [h3]
 simp only [Option.bind_some]
 by_cases k0 : c.Kind = 0
 ·rw [if_pos k0]; exact ⟨_, _, rfl, by intro h; omega, by intro h; omega⟩
 rw [if_neg k0]
 by_cases k1 : c.Kind = 1
 ·rw [if_pos k1]
  obtain ⟨e, he⟩ := (msg_tot c.Message).1
  rw [he]
  exact ⟨_, _, rfl, fun _ h => by rw [MsgOk, he]; simp at h; rw [h], by intro h; omega⟩
 rw [if_neg k1]
 by_cases k2 : c.Kind = 2
 ·rw [if_pos k2]
  by_cases hi : IdOk c.Id
  ·simp only [hi, decide_true, if_true, Option.bind_some, in_eq]
   exact ⟨_, _, rfl, by intro h; omega, fun _ h => ⟨trivial, by simpa using h⟩⟩
  ·simp only [hi, decide_false, Bool.false_eq_true, if_false, Option.bind_some]
   exact ⟨_, _, rfl, by intro h; omega, fun _ h => by simp at h⟩
 rw [if_neg k2]
 by_cases k3 : c.Kind = 3
 ·rw [if_pos k3, qcheck_eq]
  exact ⟨_, _, rfl, by intro h; omega, by intro h; omega⟩
 rw [if_neg k3]
 by_cases k4 : c.Kind = 4
 ·rw [if_pos k4]
  obtain ⟨v8, h8⟩ : ∃ v8, (if (decide (IdOk c.Id) = true ∧ v2 = true) ∧ v3 = true then m_command_in c.Who 0 7 else some default) = some v8 := by split <;> exact ⟨_, by first | exact in_eq _ _ _ | rfl⟩
  rw [h8]
  exact ⟨_, _, rfl, by intro h; omega, by intro h; omega⟩
 rw [if_neg k4]
 by_cases k5 : c.Kind = 5
 ·rw [if_pos k5]
  simp only [Option.bind_some, k5]
  exact ⟨_, _, rfl, by intro h; omega, by intro h; omega⟩
 ·rw [if_neg k5]
  simp only [Option.bind_some]
  by_cases k6 : (c.Kind == 6) = true
  ·rw [if_pos k6]; exact ⟨_, _, rfl, by intro h; omega, by intro h; omega⟩
  ·rw [if_neg k6]; exact ⟨_, _, rfl, by intro h; omega, by intro h; omega⟩
theorem cmd_tot (c : TCommand) : ∃ e, m_command_Check c = some e ∧ (e = 0 → (c.Kind = 1 → MsgOk c.Message) ∧ (c.Kind = 2 → IdOk c.Id ∧ 1 ≤ c.Time ∧ c.Time ≤ 1073741824)) := by
 obtain ⟨p, ok, h, h1, h2⟩ := plain_tot c
 rw [m_command_Check, h]
 simp only [Option.bind_some, cs_eq]
 cases ok with
 | false => exact ⟨120, by simp, by intro h; cases h⟩
 | true =>
  simp only [not_true_eq_false, not_false_eq_true, if_true, Option.bind_some, false_or]
  split
  ·exact ⟨120, rfl, by intro h; cases h⟩
  ·exact ⟨0, rfl, fun _ => ⟨fun k => h1 k rfl, fun k => h2 k rfl⟩⟩
theorem clone_int (l : List Int) (h : l.length * 8 ≤ 140737488355328) : m_slices_Clone_int_int l = some l := by rw [m_slices_Clone_int_int, if_pos h]
theorem twin_loop (v : List TWait) (hv : v.length < 1000000) : ∀ (fu k : Nat) (l : List TWait), l.length = v.length → v.length - k < fu → k ≤ v.length → (∀ w ∈ l, w.Message.Groups.length * 8 ≤ 140737488355328) → m_skeen_Twin_loop1 v fu l (k : Int) = some l := by
 intro fu
 induction fu with
 | zero => intro k l _ h; omega
 | succ fu ih =>
  intro k l hl h hk hg
  rw [m_skeen_Twin_loop1]
  by_cases hlt : k < v.length
  ·have hk' : k < l.length := by omega
   have hgd : l.getD (k : Int).toNat default = l[k] := by simp [List.getD, List.getElem?_eq_getElem hk']
   have hw : wr .i64 ((k : Int) + 1) = ((k + 1 : Nat) : Int) := wr_eq _ _ (by show (-9223372036854775808 : Int) ≤ _; omega) (by show _ ≤ (9223372036854775807 : Int); omega)
   rw [if_pos (by omega), if_pos (by omega), hgd, clone_int _ (hg _ (List.getElem_mem hk'))]
   simp only [Option.bind_some]
   have e : l.set (k : Int).toNat l[k] = l := by rw [Int.toNat_natCast]; simp
   rw [if_pos (by omega)]
   show m_skeen_Twin_loop1 v fu (l.set (k : Int).toNat l[k]) (wr .i64 ((k : Int) + 1)) = _
   rw [e, hw]
   exact ih (k + 1) l hl (by omega) (by omega) hg
  ·rw [if_neg (by omega), if_pos (by omega)]
theorem twin_sk (s : TSkeen) (h1 : s.Waits.length ≤ 1000) (h2 : s.Done.length ≤ 1000) (h3 : ∀ w ∈ s.Waits, w.Message.Groups.length * 8 ≤ 140737488355328) : m_skeen_Twin s = some s := by
 rw [m_skeen_Twin, m_slices_Clone_Wait_Wait, if_pos (by omega), m_slices_Clone_Stamp_Stamp, if_pos (by omega)]
 simp only [Option.bind_some]
 have := twin_loop s.Waits (by omega) (s.Waits.length + 1) 0 s.Waits rfl (by omega) (by omega) h3
 rw [show ((0 : Nat) : Int) = 0 from rfl] at this
 rw [this]
 rfl
structure J (c : Int) (W : List TWait) (D : List TStamp) : Prop where
 c1 : c ≤ 1073741824
 d : DOk c D
 w : WOk c D W
theorem V.j {s : TSkeen} (h : V s) : J s.Clock s.Waits s.Done := ⟨h.c1, h.d, h.w⟩
theorem J.ids {c : Int} {W : List TWait} {D : List TStamp} (h : J c W D) : ∀ w ∈ W, IdOk w.Message.Id := fun w hw => (h.w.1 w hw).1.id
theorem J.mono {c c' : Int} {W : List TWait} {D : List TStamp} (h : J c W D) (h1 : c ≤ c') (h2 : c' ≤ 1073741824) : J c' W D :=
 ⟨h2, ⟨fun x hx => by have := h.d.1 x hx; exact ⟨this.1, this.2.1, by omega⟩, h.d.2⟩, ⟨fun w hw => by have := h.w.1 w hw; exact ⟨this.1, this.2.1, by have := this.2.2.1; omega, this.2.2.2⟩, h.w.2⟩⟩
theorem at_id {W : List TWait} (hu : IdsUp W) {a b : TWait} (ha : a ∈ W) (hb : b ∈ W) (h : a.Message.Id = b.Message.Id) : a = b := by
 obtain ⟨i, hi, rfl⟩ := List.getElem_of_mem ha
 obtain ⟨j, hj, rfl⟩ := List.getElem_of_mem hb
 rcases Nat.lt_trichotomy i j with hh | hh | hh
 ·have := List.pairwise_iff_getElem.1 hu i j hi hj hh; omega
 ·subst hh; rfl
 ·have := List.pairwise_iff_getElem.1 hu j i hj hi hh; omega
theorem final_eq (s : TSkeen) (id t : Int) (hl : s.Waits.length < 1000000) (hj : J s.Clock s.Waits s.Done) (hi : IdOk id) :
  (m_skeen_clock_final ⟨s⟩ id t = some ⟨s⟩ ∧ ∀ w ∈ s.Waits, w.Message.Id = id → w.Final = true ∨ t < w.Time) ∨
  ∃ (k : Nat) (hk : k < s.Waits.length), s.Waits[k].Message.Id = id ∧ s.Waits[k].Final = false ∧ s.Waits[k].Time ≤ t ∧ m_skeen_clock_final ⟨s⟩ id t = some ⟨⟨max s.Clock t, s.Waits.set k ⟨s.Waits[k].Message, t, true⟩, s.Done⟩⟩ := by
 rw [m_skeen_clock_final, find_eq ⟨s⟩ id hl hj.w.2 hj.ids hi]
 simp only [Option.bind_some]
 have hp := plc_at id s.Waits hj.w.2
 by_cases hx : ∃ w ∈ s.Waits, w.Message.Id = id
 ·obtain ⟨hk, he⟩ := hp.1 hx
  have hgd : s.Waits.getD ((plc id s.Waits : Nat) : Int).toNat default = s.Waits[plc id s.Waits] := by rw [Int.toNat_natCast]; simp [List.getD, List.getElem?_eq_getElem hk]
  have hgd2 : ∀ x : TWait, (s.Waits.set ((plc id s.Waits : Nat) : Int).toNat x).getD ((plc id s.Waits : Nat) : Int).toNat default = x := by
   intro x; rw [Int.toNat_natCast]; simp [List.getD, hk]
  simp only [hx, decide_true, not_true_eq_false, not_false_eq_true, false_or, hgd, hgd2]
  rw [if_pos (by intro _; omega), if_pos (by intro _; omega)]
  by_cases hf : s.Waits[plc id s.Waits].Final = true ∨ t < s.Waits[plc id s.Waits].Time
  ·left
   rw [if_pos hf]
   refine ⟨rfl, fun w hw hid => ?_⟩
   have := at_id hj.w.2 hw (List.getElem_mem hk) (hid.trans he.symm)
   rw [this]; exact hf
  ·right
   rw [if_neg hf, if_pos (by omega), if_pos (by simp only [List.length_set]; omega)]
   refine ⟨plc id s.Waits, hk, he, ?_, by omega, ?_⟩
   ·cases hq : s.Waits[plc id s.Waits].Final with
    | false => rfl
    | true => exact absurd (.inl hq) hf
   ·rw [Int.toNat_natCast, List.set_set]
 ·left
  have hx' : ∀ w ∈ s.Waits, w.Message.Id ≠ id := fun w hw he => hx ⟨w, hw, he⟩
  simp only [hx, decide_false, Bool.false_eq_true, not_false_eq_true, not_true_eq_false, false_implies, if_true, true_or]
  exact ⟨trivial, fun w hw he => absurd he (hx' w hw)⟩
theorem J.set {c t : Int} {W : List TWait} {D : List TStamp} (h : J c W D) (k : Nat) (hk : k < W.length) (h1 : W[k].Time ≤ t) (h2 : t ≤ 1073741824) : J (max c t) (W.set k ⟨W[k].Message, t, true⟩) D := by
 have h' := h.mono (c' := max c t) (Int.le_max_left _ _) (by have := h.c1; omega)
 refine ⟨h'.c1, h'.d, fun w hw => ?_, ?_⟩
 ·rcases List.mem_or_eq_of_mem_set hw with hw | rfl
  ·exact h'.w.1 w hw
  ·have hm := h'.w.1 _ (List.getElem_mem hk)
   refine ⟨hm.1, by have := hm.2.1; show 1 ≤ t; omega, Int.le_max_right _ _, hm.2.2.2.1, fun x hx => ?_⟩
   have hl := hm.2.2.2.2 x hx
   show ltS x ⟨t, W[k].Message.Id⟩
   unfold ltS stW at *
   simp only at hl ⊢
   omega
 ·have hu := h.w.2
  unfold IdsUp at hu ⊢
  rw [← List.pairwise_map (f := fun w : TWait => w.Message.Id) (R := fun a b => a < b)] at hu ⊢
  rw [List.map_set]
  have : (W.map fun w : TWait => w.Message.Id).set k W[k].Message.Id = W.map fun w : TWait => w.Message.Id := by
   apply List.ext_getElem
   ·simp
   ·intro i h1 h2
    rw [List.getElem_set]
    split
    ·rename_i e; subst e; simp
    ·rfl
  rw [this]
  exact hu
theorem J.ins {c : Int} {W : List TWait} {D : List TStamp} (h : J c W D) (m : TMessage) (hm : MsgOk m) (h0 : 0 ≤ c) (h1 : c < 1073741824) (hD : ∀ x ∈ D, x.Id ≠ m.Id) (hW : ∀ w ∈ W, w.Message.Id ≠ m.Id) :
  J (c + 1) (W.take (plc m.Id W) ++ ⟨m, c + 1, false⟩ :: W.drop (plc m.Id W)) D := by
 have h' := h.mono (c' := c + 1) (by omega) (by omega)
 refine ⟨h'.c1, h'.d, fun w hw => ?_, ?_⟩
 ·have : w = ⟨m, c + 1, false⟩ ∨ w ∈ W := by
   rcases List.mem_append.1 hw with hw | hw
   ·exact .inr (List.mem_of_mem_take hw)
   ·rcases List.mem_cons.1 hw with hw | hw
    ·exact .inl hw
    ·exact .inr (List.mem_of_mem_drop hw)
  rcases this with rfl | hw
  ·refine ⟨hm, by show 1 ≤ c + 1; omega, Int.le_refl _, hD, fun x hx => ?_⟩
   have := (h.d.1 x (List.mem_of_getLast? hx)).2.2
   exact .inl (by show x.Time < c + 1; omega)
  ·exact h'.w.1 w hw
 ·have hu := h.w.2
  have hlt := plc_lt m.Id W hu
  have hple := plc_le m.Id W
  have t1 : ∀ w ∈ W.take (plc m.Id W), w.Message.Id < m.Id := by
   intro w hw
   obtain ⟨i, hi, rfl⟩ := List.getElem_of_mem hw
   rw [List.getElem_take]
   have : i < plc m.Id W := by simp at hi; omega
   exact (hlt i (by omega)).2 this
  have t2 : ∀ w ∈ W.drop (plc m.Id W), m.Id < w.Message.Id := by
   intro w hw
   have hwW := List.mem_of_mem_drop hw
   obtain ⟨i, hi, rfl⟩ := List.getElem_of_mem hw
   have hne := hW _ hwW
   rw [List.getElem_drop] at hne ⊢
   have hi' : plc m.Id W + i < W.length := by simp at hi; omega
   have : ¬ W[plc m.Id W + i].Message.Id < m.Id := fun k => by have := (hlt _ hi').1 k; omega
   omega
  unfold IdsUp
  rw [List.pairwise_append]
  refine ⟨hu.sublist (List.take_sublist _ _), List.pairwise_cons.2 ⟨t2, hu.sublist (List.drop_sublist _ _)⟩, fun a ha b hb => ?_⟩
  have ha' := t1 a ha
  rcases List.mem_cons.1 hb with rfl | hb
  ·exact ha'
  ·have := t2 b hb; omega
theorem del_loop (c0 : Tskeen_clock) (c : Int) : ∀ (fu : Nat) (W : List TWait) (D : List TStamp) (M : List TMessage), W.length < fu → J c W D → W.length + D.length ≤ 1000 → M.length + W.length ≤ 1000 →
  ∃ (ws W' : List TWait), m_skeen_clock_deliver_loop1 c0 fu W D M = some (W', D ++ ws.map stW, M ++ ws.map TWait.Message) ∧ J c W' (D ++ ws.map stW) ∧ (∀ y l, W' = y :: l → (minW y l).Final = false) ∧
   (∀ w ∈ ws, w ∈ W ∧ w.Final = true) ∧ (∀ w ∈ W', w ∈ W) ∧ (∀ w ∈ W, w ∈ W' ∨ w ∈ ws) ∧ W'.length + ws.length = W.length := by
 intro fu
 induction fu with
 | zero => intro W D M h; omega
 | succ fu ih =>
  intro W D M h hj h1 h2
  rw [m_skeen_clock_deliver_loop1]
  cases hW : W with
  | nil =>
   refine ⟨[], [], by simp, by subst hW; simpa using hj, by simp, by simp, by simp, by simp, rfl⟩
  | cons y l =>
   rw [if_pos (by simp only [List.length_cons]; omega), minw_eq y l (by rw [hW] at h1; simp at h1; omega)]
   simp only [Option.bind_some]
   have hmem : minW y l ∈ W := by
    rw [hW]
    rcases minW_mem l y with hh | hh
    ·rw [hh]; simp
    ·exact List.mem_cons_of_mem _ hh
   by_cases hf : (minW y l).Final = true
   ·rw [if_neg (by simp [hf])]
    have hfd := find_eq ⟨⟨c0.Skeen.Clock, W, D⟩⟩ (minW y l).Message.Id (by show W.length < 1000000; omega) hj.w.2 hj.ids (hj.ids _ hmem)
    rw [← hW, hfd]
    simp only [Option.bind_some]
    obtain ⟨hk, he⟩ := (plc_at (minW y l).Message.Id W hj.w.2).1 ⟨_, hmem, rfl⟩
    generalize hK : plc (minW y l).Message.Id W = K at hk he
    have hat : W[K] = minW y l := at_id hj.w.2 (List.getElem_mem hk) hmem he
    rw [if_pos (by omega), if_pos (by omega)]
    have e1 : m_skeen_of (minW y l) = some (stW (minW y l)) := rfl
    rw [e1]
    simp only [Option.bind_some, List.length_cons, List.length_nil, Int.toNat_natCast]
    have hWl : W.length = l.length + 1 := by rw [hW]; simp
    rw [if_pos (by omega), if_pos (by omega)]
    have hv := hj.w.1 _ hmem
    have hsub : ∀ w ∈ W.eraseIdx K, w ∈ W := fun w hw => List.mem_of_mem_eraseIdx hw
    have hne : ∀ w ∈ W.eraseIdx K, w.Message.Id ≠ (minW y l).Message.Id := by
     intro w hw hid
     obtain ⟨i, hi, hik, rfl⟩ := List.mem_eraseIdx_iff_getElem.1 hw
     have e2 := at_id hj.w.2 (List.getElem_mem hi) hmem hid
     rw [← hat] at hid
     rcases Nat.lt_or_gt_of_ne hik with hh | hh
     ·have := List.pairwise_iff_getElem.1 hj.w.2 i K hi hk hh; omega
     ·have := List.pairwise_iff_getElem.1 hj.w.2 K i hk hi hh; omega
    have hle : ∀ w ∈ W, ¬ ltS (stW w) (stW (minW y l)) := by
     intro w hw
     rw [hW] at hw
     rcases List.mem_cons.1 hw with rfl | hw
     ·exact (minW_le l _).1
     ·exact (minW_le l y).2 w hw
    have hid := hv.1.id
    have hJ : J c (W.eraseIdx K) (D ++ [stW (minW y l)]) := by
     refine ⟨hj.c1, (hj.d.snoc _).2 ⟨⟨⟨?_, ?_, hid.1, ?_⟩, hv.2.1, hv.2.2.1⟩, hv.2.2.2.2, fun hm => ?_⟩, fun w hw => ?_, hj.w.2.sublist (List.eraseIdx_sublist _ _)⟩
     ·have := hv.2.1; show 0 ≤ (minW y l).Time; omega
     ·have := hv.2.2.1; have := hj.c1; show (minW y l).Time ≤ 1073741824; omega
     ·have := hid.2; show (minW y l).Message.Id < 6291456; omega
     ·obtain ⟨x, hx, he2⟩ := List.mem_map.1 hm
      exact hv.2.2.2.1 x hx he2
     ·have hw1 := hj.w.1 w (hsub w hw)
      refine ⟨hw1.1, hw1.2.1, hw1.2.2.1, fun x hx => ?_, fun x hx => ?_⟩
      ·rcases List.mem_append.1 hx with hx | hx
       ·exact hw1.2.2.2.1 x hx
       ·simp at hx; subst hx; exact fun e => hne w hw e.symm
      ·simp at hx; subst hx
       exact ltS_total (fun e => hne w hw e.symm) (hle w (hsub w hw))
    have hlen : (W.eraseIdx K).length = W.length - 1 := List.length_eraseIdx_of_lt hk
    obtain ⟨ws, W', g1, g2, g3, g4, g5, g6, g7⟩ := ih (W.eraseIdx K) (D ++ [stW (minW y l)]) (M ++ [(minW y l).Message]) (by omega) hJ (by simp; omega) (by simp; omega)
    refine ⟨minW y l :: ws, W', ?_, ?_, g3, ?_, ?_, ?_, ?_⟩
    ·rw [g1]; simp
    ·simpa using g2
    ·intro w hw
     rcases List.mem_cons.1 hw with rfl | hw
     ·exact ⟨hmem, hf⟩
     ·exact ⟨hsub w (g4 w hw).1, (g4 w hw).2⟩
    ·intro w hw; exact hsub w (g5 w hw)
    ·intro w hw
     by_cases hwv : w = minW y l
     ·right; simp [hwv]
     ·have : w ∈ W.eraseIdx K := by
       obtain ⟨i, hi, rfl⟩ := List.getElem_of_mem hw
       exact List.mem_eraseIdx_iff_getElem.2 ⟨i, hi, fun e => hwv (by subst e; exact hat), rfl⟩
      rcases g6 w this with hh | hh
      ·exact .inl hh
      ·exact .inr (List.mem_cons_of_mem _ hh)
    ·simp only [List.length_cons]; omega
   ·rw [if_pos (by simpa using hf)]
    refine ⟨[], W, by simp [hW], by simpa using hj, fun y' l' hh => ?_, by simp, by intro w hw; rw [← hW]; exact hw, by intro w hw; left; rw [hW]; exact hw, by simp [hW]⟩
    rw [hW] at hh; cases hh; simpa using hf
def Step (s : TSkeen) (g : Int) (c : TCommand) (W : List TWait) (ck : Int) : Prop :=
 (W = s.Waits ∧ ck = s.Clock) ∨
 (c.Kind = 1 ∧ g ∈ c.Message.Groups ∧ ck = s.Clock + 1 ∧ W = s.Waits.take (plc c.Message.Id s.Waits) ++ ⟨c.Message, s.Clock + 1, false⟩ :: s.Waits.drop (plc c.Message.Id s.Waits)) ∨
 (c.Kind = 2 ∧ ck = max s.Clock c.Time ∧ ∃ (k : Nat) (hk : k < s.Waits.length), s.Waits[k].Message.Id = c.Id ∧ s.Waits[k].Final = false ∧ s.Waits[k].Time ≤ c.Time ∧ W = s.Waits.set k ⟨s.Waits[k].Message, c.Time, true⟩)
def zSk : TSkeen := ⟨0, [], []⟩
theorem check_ok {s : TSkeen} (h : V s) : m_skeen_Check s = some 0 := by
 obtain ⟨e, he, hi⟩ := sk_check s
 rw [he, hi.2 h]
end Go.Proofs
end
section
namespace Go.Proofs
open Go.Tm
set_option linter.unusedSimpArgs false
set_option linter.unusedVariables false
theorem sameInts_loop (b : List Int) : ∀ (l : List Int) (n : Nat), n + l.length = b.length → m_towncrierref01_SameInts_loop1 b l n = some (if l = b.drop n then .inr () else .inl false) := by
 intro l
 induction l with
 | nil => intro n h; simp [m_towncrierref01_SameInts_loop1]; simp at h; omega
 | cons y l ih =>
  intro n h
  simp only [List.length_cons] at h
  have hn : n < b.length := by omega
  have hg : b.getD n default = b[n] := by simp [List.getD, List.getElem?_eq_getElem hn]
  have hd := List.drop_eq_getElem_cons hn
  rw [m_towncrierref01_SameInts_loop1, if_pos hn, hg]
  generalize b[n] = z at hd
  rw [hd]
  by_cases hy : y = z
  ·rw [if_neg (by simpa using hy), ih (n + 1) (by omega)]
   simp only [hy, List.cons.injEq, true_and]
  ·rw [if_pos hy]
   simp only [hy, List.cons.injEq, false_and, if_false]
theorem sameInts_eq (a b : List Int) : m_towncrierref01_SameInts a b = some (decide (a = b)) := by
 rw [m_towncrierref01_SameInts]
 by_cases h : (a.length : Int) = (b.length : Int)
 ·rw [if_neg (by simpa using h), sameInts_loop b a 0 (by omega), List.drop_zero]
  by_cases hab : a = b <;> simp [hab]
 ·rw [if_pos h]
  have : a ≠ b := fun hh => h (by rw [hh])
  simp [this]
theorem sm12_eq (a b : TMessage) : m_towncrierref12_SameMessage a b = some (decide (a = b)) := by
 rw [m_towncrierref12_SameMessage, sameInts_eq]
 obtain ⟨a1, a2, a3, a4, a5⟩ := a
 obtain ⟨b1, b2, b3, b4, b5⟩ := b
 by_cases h : a1 = b1
 ·by_cases h2 : a2 = b2 <;> by_cases h3 : a3 = b3 <;> by_cases h4 : a4 = b4 <;> by_cases h5 : a5 = b5 <;> simp [h, h2, h3, h4, h5]
 ·simp [h]
theorem ss_loop (b : List TStamp) : ∀ (l : List TStamp) (n : Nat), n + l.length = b.length → m_towncrierref15_SameStamps_loop1 b l n = some (if l = b.drop n then .inr () else .inl false) := by
 intro l
 induction l with
 | nil => intro n h; simp [m_towncrierref15_SameStamps_loop1]; simp at h; omega
 | cons y l ih =>
  intro n h
  simp only [List.length_cons] at h
  have hn : n < b.length := by omega
  have hg : b.getD n default = b[n] := by simp [List.getD, List.getElem?_eq_getElem hn]
  have hd := List.drop_eq_getElem_cons hn
  rw [m_towncrierref15_SameStamps_loop1, if_pos hn, hg]
  generalize b[n] = z at hd
  rw [hd]
  have he : (y.Time = z.Time ∧ y.Id = z.Id) ↔ y = z := by
   obtain ⟨y1, y2⟩ := y; obtain ⟨z1, z2⟩ := z; simp
  by_cases hy : y = z
  ·rw [if_neg (by rw [he]; simpa using hy), ih (n + 1) (by omega)]
   simp only [hy, List.cons.injEq, true_and]
  ·rw [if_pos (by rw [he]; exact hy)]
   simp only [hy, List.cons.injEq, false_and, if_false]
theorem ss_eq (a b : List TStamp) : m_towncrierref15_SameStamps a b = some (decide (a = b)) := by
 rw [m_towncrierref15_SameStamps]
 by_cases h : (a.length : Int) = (b.length : Int)
 ·rw [if_neg (by simpa using h), ss_loop b a 0 (by omega), List.drop_zero]
  by_cases hab : a = b <;> simp [hab]
 ·rw [if_pos h]
  have : a ≠ b := fun hh => h (by rw [hh])
  simp [this]
end Go.Proofs
end
section
namespace Go.Proofs
open Go.Tm
set_option linter.unusedSimpArgs false
set_option linter.unusedVariables false
theorem bind_ite {α β : Type} (c : Prop) [Decidable c] (x d : α) (f : α → Option β) : Option.bind (if c then some x else some d) f = f (if c then x else d) := by
 split <;> rfl
def risG : Int → List Int → Bool
 | _, [] => true
 | k, y :: l => decide (k < y ∧ y < 4) && risG y l
theorem risG_len : ∀ (l : List Int) (k : Int), -1 ≤ k → risG k l = true → (l.length : Int) ≤ 3 - k ∨ l = []
 | [], _, _, _ => .inr rfl
 | y :: l, k, hk, h => by
  simp only [risG, Bool.and_eq_true, decide_eq_true_eq] at h
  left
  rcases risG_len l y (by omega) h.2 with h1 | h1
  ·simp only [List.length_cons]; omega
  ·subst h1; simp; omega
theorem in12_eq (a b c : Int) : m_towncrierref12_In a b c = some (decide (b ≤ a ∧ a < c)) := by
 rw [m_towncrierref12_In]
 congr 1
 rw [Bool.eq_iff_iff]; simp
theorem id12_eq (a : Int) : m_towncrierref12_Id a = some (decide (IdOk a)) := by
 rw [m_towncrierref12_Id, in12_eq]
 simp only [Option.bind_some]
 congr 1
 rw [Bool.eq_iff_iff]
 simp only [decide_eq_true_eq]
 unfold IdOk
 omega
theorem pre_getD {L pre l : List Int} {y : Int} (hL : L = pre ++ y :: l) {k : Int} (h0 : pre.getLast? = some k) : L.getD (pre.length - 1) default = k := by
 have hne : pre ≠ [] := by rintro rfl; simp at h0
 have hp : 0 < pre.length := List.length_pos_iff.2 hne
 rw [hL, List.getD_eq_getElem?_getD, List.getElem?_append_left (by omega), ← List.getLast?_eq_getElem?, h0]; rfl
theorem mm_loop (m : TMessage) : ∀ (l pre : List Int) (k : Int), m.Groups = pre ++ l → (pre = [] ∧ k = -1 ∨ 0 ≤ k ∧ pre.getLast? = some k) → m_towncrierref12_MayMessage_loop1 m l pre.length = some (if risG k l = true then .inr () else .inl false) := by
 intro l
 induction l with
 | nil => intro pre k _ _; simp [m_towncrierref12_MayMessage_loop1, risG]
 | cons y l ih =>
  intro pre k hm hk
  rw [m_towncrierref12_MayMessage_loop1, in12_eq]
  simp only [Option.bind_some]
  have hc : ((¬ (decide (0 ≤ y ∧ y < 4) = true)) ∨ (((pre.length : Int) > 0) ∧ (y ≤ (m.Groups.getD (pre.length - 1) default)))) ↔ ¬ (k < y ∧ y < 4) := by
   rcases hk with ⟨rfl, rfl⟩ | ⟨h0, hl⟩
   ·simp; omega
   ·have hne : pre ≠ [] := by rintro rfl; simp at hl
    have hp : 0 < pre.length := List.length_pos_iff.2 hne
    rw [pre_getD hm hl, decide_eq_true_eq]; omega
  by_cases h : k < y ∧ y < 4
  ·rw [if_neg (fun hh => hc.1 hh h)]
   have e : risG k (y :: l) = risG y l := by simp [risG, h.1, h.2]
   have := ih (pre ++ [y]) y (by rw [hm]; simp) (.inr ⟨by rcases hk with ⟨_, rfl⟩ | ⟨h0, _⟩ <;> omega, by simp⟩)
   rw [List.length_append, List.length_singleton] at this
   rw [e]; exact this
  ·rw [if_pos (hc.2 h), if_neg]
   simp only [risG, Bool.and_eq_true, decide_eq_true_eq]
   exact fun hh => h hh.1
theorem cm_loop (m : TMessage) : ∀ (l pre : List Int) (k : Int) (b : Bool), m.Groups = pre ++ l → (pre = [] ∧ k = -1 ∨ 0 ≤ k ∧ pre.getLast? = some k) → m_command_CheckMessage_loop1 m l pre.length b = some (b && risG k l) := by
 intro l
 induction l with
 | nil => intro pre k b _ _; simp [m_command_CheckMessage_loop1, risG]
 | cons y l ih =>
  intro pre k b hm hk
  cases b with
  | false => rw [msg_false]; rfl
  | true =>
   rw [m_command_CheckMessage_loop1, if_pos rfl, in_eq]
   simp only [Option.bind_some, Bool.true_and]
   have hc : (decide (0 ≤ y ∧ y ≤ 3) && (((pre.length : Int) == 0) || decide (y > m.Groups.getD (pre.length - 1) default))) = decide (k < y ∧ y < 4) := by
    rw [Bool.eq_iff_iff]
    simp only [Bool.and_eq_true, Bool.or_eq_true, decide_eq_true_eq, beq_iff_eq]
    rcases hk with ⟨rfl, rfl⟩ | ⟨h0, hl⟩
    ·simp; omega
    ·have hne : pre ≠ [] := by rintro rfl; simp at hl
     have hp : 0 < pre.length := List.length_pos_iff.2 hne
     rw [pre_getD hm hl]; omega
   rw [hc]
   by_cases h : k < y ∧ y < 4
   ·rw [decide_eq_true h]
    have := ih (pre ++ [y]) y true (by rw [hm]; simp) (.inr ⟨by rcases hk with ⟨_, rfl⟩ | ⟨h0, _⟩ <;> omega, by simp⟩)
    rw [List.length_append, List.length_singleton] at this
    rw [this]
    simp [risG, h]
   ·rw [decide_eq_false h, msg_false]
    simp [risG, h]
def MOk (m : TMessage) : Prop := m.Groups ≠ [] ∧ risG (-1) m.Groups = true ∧ IdOk m.Id ∧ (0 ≤ m.Topic ∧ m.Topic ≤ 3) ∧ m.Key.length ≤ 16 ∧ m.Body.length ≤ 64
instance (m : TMessage) : Decidable (MOk m) := by unfold MOk IdOk; infer_instance
theorem checkm_eq (m : TMessage) : m_command_CheckMessage m = some (if MOk m then 0 else 120) := by
 have h := cm_loop m m.Groups [] (-1) ((decide ((m.Groups.length : Int) ≥ 1)) && (decide ((m.Groups.length : Int) ≤ 4))) rfl (.inl ⟨rfl, rfl⟩)
 rw [List.length_nil] at h
 rw [m_command_CheckMessage, h]
 simp only [Option.bind_some, cid_eq, in_eq, bind_ite]
 by_cases hr : risG (-1) m.Groups = true
 ·have hl := risG_len _ _ (by omega) hr
  by_cases hg : m.Groups = []
  ·have : ¬ MOk m := fun h => h.1 hg
   simp [hg, this]
  ·have h1 : 0 < m.Groups.length := List.length_pos_iff.2 hg
   have h4 : (m.Groups.length : Int) ≤ 4 := by rcases hl with h | h; omega; exact absurd h hg
   have e1 : decide ((m.Groups.length : Int) ≥ 1) = true := by simp; omega
   have e2 : decide ((m.Groups.length : Int) ≤ 4) = true := by simpa using h4
   by_cases hi : IdOk m.Id
   ·by_cases ht : 0 ≤ m.Topic ∧ m.Topic ≤ 3
    ·by_cases hk : m.Key.length ≤ 16
     ·by_cases hb : m.Body.length ≤ 64
      ·have : MOk m := ⟨hg, hr, hi, ht, hk, hb⟩
       simp [e1, e2, hr, hi, ht, this]; omega
      ·have : ¬ MOk m := fun h => hb h.2.2.2.2.2
       simp [e1, e2, hr, hi, ht, this]; omega
     ·have : ¬ MOk m := fun h => hk h.2.2.2.2.1
      simp [e1, e2, hr, hi, ht, this]; omega
    ·have : ¬ MOk m := fun h => ht h.2.2.2.1
     simp [e1, e2, hr, hi, ht, this]
   ·have : ¬ MOk m := fun h => hi h.2.2.1
    simp [e1, e2, hr, hi, this]
 ·have : ¬ MOk m := fun h => hr h.2.1
  simp [hr, this]
theorem MsgOk_iff (m : TMessage) : MsgOk m ↔ MOk m := by
 unfold MsgOk
 rw [checkm_eq]
 split <;> simp_all
theorem maym_eq (m : TMessage) : m_towncrierref12_MayMessage m = some (decide (MOk m)) := by
 have h := mm_loop m m.Groups [] (-1) rfl (.inl ⟨rfl, rfl⟩)
 rw [List.length_nil] at h
 rw [m_towncrierref12_MayMessage, h]
 by_cases hr : risG (-1) m.Groups = true
 ·rw [if_pos hr]
  simp only [Option.bind_some, id12_eq, in12_eq, bind_ite]
  congr 1
  rw [Bool.eq_iff_iff]
  simp only [Bool.and_eq_true, decide_eq_true_eq, MOk, hr, true_and, List.length_pos_iff]
  by_cases hg : m.Groups = []
  ·simp [hg]
  ·have h1 : 0 < m.Groups.length := List.length_pos_iff.2 hg
   have h1' : (m.Groups.length : Int) > 0 := by omega
   simp only [h1', hg, ne_eq, not_false_eq_true, true_and, if_true]
   by_cases hi : IdOk m.Id
   ·simp only [hi, decide_true, if_true, decide_eq_true_eq, true_and]
    omega
   ·simp [hi]
 ·have : ¬ MOk m := fun h => hr h.2.1
  rw [if_neg hr]
  simp [this]
end Go.Proofs
end
section
namespace Go.Proofs
open Go.Tm
set_option linter.unusedSimpArgs false
set_option linter.unusedVariables false
def zM : TMessage := ⟨0, [], 0, [], []⟩
theorem same12_eq (a b : TCommand) : m_towncrierref12_Same a b = some (decide (a = b)) := by
 rw [m_towncrierref12_Same, sm12_eq, sameInts_eq]
 obtain ⟨a1, a2, a3, a4, a5, a6, a7, a8⟩ := a
 obtain ⟨b1, b2, b3, b4, b5, b6, b7, b8⟩ := b
 by_cases h : a1 = b1
 ·by_cases h2 : a2 = b2
  ·by_cases h3 : a3 = b3
   ·by_cases h4 : a4 = b4
    ·by_cases h5 : a5 = b5 <;> by_cases h6 : a6 = b6 <;> by_cases h7 : a7 = b7 <;> by_cases h8 : a8 = b8 <;> simp [h, h2, h3, h4, h5, h6, h7, h8]
    ·simp [h, h2, h3, h4]
   ·simp [h, h2, h3]
  ·simp [h, h2]
 ·simp [h]
def TopOk (t n : Int) : Prop := (0 ≤ t ∧ t ≤ 3) ∧ 0 ≤ n ∧ n ≤ 1073741824
def COk (c : TCommand) : Prop :=
 (c.Kind = 0 ∧ c.Message = zM ∧ c.Id = 0 ∧ c.Time = 0 ∧ c.Members = [] ∧ c.Topic = 0 ∧ c.Who = 0 ∧ c.N = 0) ∨
 (c.Kind = 1 ∧ MOk c.Message ∧ c.Id = 0 ∧ c.Time = 0 ∧ c.Members = [] ∧ c.Topic = 0 ∧ c.Who = 0 ∧ c.N = 0) ∨
 (c.Kind = 2 ∧ c.Message = zM ∧ IdOk c.Id ∧ (1 ≤ c.Time ∧ c.Time ≤ 1073741824) ∧ c.Members = [] ∧ c.Topic = 0 ∧ c.Who = 0 ∧ c.N = 0) ∨
 (c.Kind = 3 ∧ c.Message = zM ∧ c.Id = 0 ∧ c.Time = 0 ∧ qerr c.Members = 0 ∧ c.Topic = 0 ∧ c.Who = 0 ∧ c.N = 0) ∨
 (c.Kind = 4 ∧ c.Message = zM ∧ IdOk c.Id ∧ c.Time = 0 ∧ c.Members = [] ∧ TopOk c.Topic c.N ∧ 0 ≤ c.Who ∧ c.Who ≤ 7) ∨
 ((c.Kind = 5 ∨ c.Kind = 6) ∧ c.Message = zM ∧ IdOk c.Id ∧ c.Time = 0 ∧ c.Members = [] ∧ TopOk c.Topic c.N ∧ c.Who = 0)
theorem COk.kind {c : TCommand} (h : COk c) : 0 ≤ c.Kind ∧ c.Kind ≤ 6 := by
 unfold COk at h
 omega
theorem len0 (l : List Int) : (((l.length : Int) == 0) = true) ↔ l = [] := by simp
theorem may12_iff (c : TCommand) : ∃ b, m_towncrierref12_May c = some b ∧ (b = true ↔ COk c) := by
 obtain ⟨K, m, id, t, ms, tp, who, n⟩ := c
 rw [m_towncrierref12_May, sm12_eq]
 simp only [Option.bind_some, id12_eq, in12_eq, bind_ite, same12_eq, maym_eq, qcheckR_eq]
 by_cases k0 : K = 0
 ·subst k0
  refine ⟨_, by rw [if_pos rfl], ?_⟩
  simp [COk, TCommand.mk.injEq, zM]
 rw [if_neg k0]
 by_cases k1 : K = 1
 ·subst k1
  refine ⟨_, by rw [if_pos rfl], ?_⟩
  simp only [COk, Bool.and_eq_true, decide_eq_true_eq, beq_iff_eq, len0]
  simp
  simp only [and_assoc]
 rw [if_neg k1]
 by_cases hm : m = zM
 ·have hd : decide (m = (⟨0, [], 0, [], []⟩ : TMessage)) = true := decide_eq_true hm
  rw [hd]
  simp only [not_true_eq_false, not_false_eq_true, true_and, if_true, Bool.not_true, Bool.not_false, Bool.true_and]
  by_cases k2 : K = 2
  ·subst k2
   refine ⟨_, by rw [if_pos rfl], ?_⟩
   by_cases hi : IdOk id
   ·simp only [COk, hm, hi, decide_true, if_true, Bool.and_eq_true, decide_eq_true_eq, beq_iff_eq, len0]
    by_cases hms : ms = []
    ·subst hms
     simp
     omega
    ·simp [hms]
   ·simp [COk, hi]
  rw [if_neg k2]
  by_cases k3 : K = 3
  ·subst k3
   refine ⟨_, by rw [if_pos rfl], ?_⟩
   by_cases hq : id = 0 ∧ t = 0
   ·simp [COk, hm, hq.1, hq.2, and_assoc]
   ·rw [if_neg hq]
    simp [COk, hm]
    omega
  rw [if_neg k3]
  by_cases k4 : K = 4
  ·subst k4
   refine ⟨_, by simp; rfl, ?_⟩
   by_cases hi : IdOk id
   ·by_cases ht : t = 0
    ·by_cases hms : ms = []
     ·subst hms
      simp [COk, hm, hi, ht, TopOk]
      omega
     ·simp [COk, hms, hi, ht]
    ·simp [COk, hi, ht]
   ·simp [COk, hi]
  rw [if_neg k4]
  by_cases k56 : K = 5 ∨ K = 6
  ·refine ⟨_, by rcases k56 with rfl | rfl <;> simp <;> rfl, ?_⟩
   by_cases hi : IdOk id
   ·by_cases ht : t = 0
    ·by_cases hms : ms = []
     ·subst hms
      rcases k56 with rfl | rfl <;> simp [COk, hm, hi, ht, TopOk] <;> omega
     ·rcases k56 with rfl | rfl <;> simp [COk, hms, hi, ht]
    ·rcases k56 with rfl | rfl <;> simp [COk, hi, ht]
   ·rcases k56 with rfl | rfl <;> simp [COk, hi]
  ·have h5 : ¬ K = 5 := fun h => k56 (.inl h)
   have h6 : ¬ K = 6 := fun h => k56 (.inr h)
   refine ⟨false, by simp [h5, h6], ?_⟩
   simp [COk, k0, k1, k2, k3, k4]
   omega
 ·have hd : decide (m = (⟨0, [], 0, [], []⟩ : TMessage)) = false := decide_eq_false hm
  rw [hd]
  simp only [Bool.false_eq_true, not_false_eq_true, not_true_eq_false, false_and, if_false, Bool.not_false, Bool.not_true, Bool.false_and]
  have hno : ¬ COk ⟨K, m, id, t, ms, tp, who, n⟩ := by
   simp only [COk]
   simp [hm, k0, k1]
  simp only [hno, iff_false]
  split
  ·exact ⟨_, rfl, by simp⟩
  split
  ·exact ⟨_, rfl, by simp⟩
  ·split
   ·simp
   ·split <;> simp
end Go.Proofs
end
section
namespace Go.Proofs
open Go.Tm
set_option linter.unusedSimpArgs false
set_option linter.unusedVariables false
theorem check_of {c p : TCommand} {ok : Bool} (h : m_command_plain c = some (p, ok)) : m_command_Check c = some (if ok = true ∧ p = c then 0 else 120) := by
 rw [m_command_Check, h]
 simp only [Option.bind_some, cs_eq]
 cases ok with
 | false => simp
 | true =>
  by_cases hp : p = c <;> simp [hp]
theorem cmd_iff (c : TCommand) : ∃ e, m_command_Check c = some e ∧ (e = 0 ↔ COk c) := by
 obtain ⟨p, ok, hp, hiff⟩ : ∃ p ok, m_command_plain c = some (p, ok) ∧ ((ok = true ∧ p = c) ↔ COk c) := by
  obtain ⟨K, m, id, t, ms, tp, who, n⟩ := c
  rw [m_command_plain]
  simp only [cid_eq, in_eq, Option.bind_some, bind_ite, checkm_eq, qcheck_eq]
  by_cases k0 : K = 0
  ·subst k0
   refine ⟨_, _, by rw [if_pos rfl]; rfl, ?_⟩
   simp [COk, TCommand.mk.injEq, zM]
   constructor <;> (rintro ⟨h1, h2, h3, h4, h5, h6, h7⟩; refine ⟨h1.symm, h2.symm, h3.symm, ?_, h5.symm, h6.symm, h7.symm⟩; first | exact h4.symm | exact h4)
  rw [if_neg k0]
  by_cases k1 : K = 1
  ·subst k1
   refine ⟨_, _, by rw [if_pos rfl]; rfl, ?_⟩
   by_cases hm : MOk m
   ·simp [COk, hm, TCommand.mk.injEq]
    constructor <;> (rintro ⟨h2, h3, h4, h5, h6, h7⟩; refine ⟨h2.symm, h3.symm, ?_, h5.symm, h6.symm, h7.symm⟩; first | exact h4.symm | exact h4)
   ·simp [COk, hm]
  rw [if_neg k1]
  by_cases k2 : K = 2
  ·subst k2
   refine ⟨_, _, by rw [if_pos rfl]; rfl, ?_⟩
   by_cases hi : IdOk id
   ·by_cases ht : 1 ≤ t ∧ t ≤ 1073741824
    ·simp [COk, hi, ht, TCommand.mk.injEq, zM]
     constructor <;> (rintro ⟨h1, h4, h5, h6, h7⟩; refine ⟨h1.symm, ?_, h5.symm, h6.symm, h7.symm⟩; first | exact h4.symm | exact h4)
    ·simp [COk, hi, ht]
   ·simp [COk, hi]
  rw [if_neg k2]
  by_cases k3 : K = 3
  ·subst k3
   refine ⟨_, _, by rw [if_pos rfl]; rfl, ?_⟩
   by_cases hq : qerr ms = 0
   ·simp [COk, hq, TCommand.mk.injEq, zM]
    constructor <;> (rintro ⟨h1, h2, h3, h5, h6, h7⟩; exact ⟨h1.symm, h2.symm, h3.symm, h5.symm, h6.symm, h7.symm⟩)
   ·simp [COk, hq]
  rw [if_neg k3]
  by_cases k4 : K = 4
  ·subst k4
   refine ⟨_, _, by rw [if_pos rfl]; rfl, ?_⟩
   by_cases hi : IdOk id
   ·by_cases ht : 0 ≤ tp ∧ tp ≤ 3
    ·by_cases hn : 0 ≤ n ∧ n ≤ 1073741824
     ·by_cases hw : 0 ≤ who ∧ who ≤ 7
      ·simp [COk, hi, ht, hn, hw, TopOk, TCommand.mk.injEq, zM]
       constructor <;> (rintro ⟨h1, h2, h4⟩; refine ⟨h1.symm, h2.symm, ?_⟩; first | exact h4.symm | exact h4)
      ·simp [COk, hi, ht, hn, hw]
     ·simp [COk, hi, ht, hn, TopOk]
    ·simp [COk, hi, ht, TopOk]
   ·simp [COk, hi]
  rw [if_neg k4]
  by_cases k56 : K = 5 ∨ K = 6
  ·refine ⟨⟨K, ⟨0, [], 0, [], []⟩, id, 0, [], tp, 0, n⟩, _, by rcases k56 with rfl | rfl <;> simp <;> rfl, ?_⟩
   by_cases hi : IdOk id
   ·by_cases ht : 0 ≤ tp ∧ tp ≤ 3
    ·by_cases hn : 0 ≤ n ∧ n ≤ 1073741824
     ·rcases k56 with rfl | rfl <;> simp [COk, hi, ht, hn, TopOk, TCommand.mk.injEq, zM] <;>
       (constructor <;> (rintro ⟨h1, h2, h4, h5⟩; refine ⟨h1.symm, h2.symm, ?_, h5.symm⟩; first | exact h4.symm | exact h4))
     ·rcases k56 with rfl | rfl <;> simp [COk, hi, ht, hn, TopOk]
    ·rcases k56 with rfl | rfl <;> simp [COk, hi, ht, TopOk]
   ·rcases k56 with rfl | rfl <;> simp [COk, hi]
  ·have h5 : ¬ K = 5 := fun h => k56 (.inl h)
   have h6 : ¬ K = 6 := fun h => k56 (.inr h)
   refine ⟨_, false, by simp [h5, h6]; rfl, ?_⟩
   simp [COk, k0, k1, k2, k3, k4, h5, h6]
 refine ⟨_, check_of hp, ?_⟩
 by_cases h : ok = true ∧ p = c
 ·simp [h, hiff.1 h]
 ·rw [if_neg h]
  simp only [show ¬ ((120 : Int) = 0) by omega, false_iff]
  exact fun hc => h (hiff.2 hc)
end Go.Proofs
end
