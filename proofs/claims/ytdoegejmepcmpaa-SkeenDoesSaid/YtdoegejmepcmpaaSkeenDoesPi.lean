/- Texts of the proof. -/
import Derived.Test.YtdoegejmepcmpaaSkeenDoesPf
import Derived.Test.YtdoegejmepcmpaaSkeenDoesPg
import Derived.Test.YtdoegejmepcmpaaSkeenDoesPh
namespace Go.Proofs
open Go.Tm Go.RowKit Go.WideShapes
set_option maxRecDepth 100000
set_option maxHeartbeats 4000000
set_option linter.unusedSimpArgs false
set_option linter.unusedVariables false
attribute [local go_sem] argVars runE runK isCallV stepE aop opd opdsL opds opdO ev ofVal keep List.any natbeq Bool.false_or Bool.true_or aggEq cond_true cond_false Bool.cond_false_right Bool.cond_true_left beq_true beq_false imp_self implies_true getR getL put St.app effL del nwB blt_dec Nat.lt_irrefl Nat.lt_add_one ble_dec Nat.le_refl Nat.beq_refl roomNZ appendIn capS capK mkZ_zero mkZL_zero zeroEl D.ids D.idsL bin arith sarith binT dpick Tm.part splice fillD oneD loadD storeD srcD sliceD idxOk decide_true gval dstAt D.cells List.map_cons List.map_nil List.take List.drop List.length_map List.append Int.toNat_natCast and_true true_and decide_false List.length_cons List.length_nil List.append_nil List.nil_append Bool.and_true Bool.true_and Bool.not_false Bool.not_true ne_eq not_false_eq_true BEq.rfl List.getElem?_cons_zero List.getElem?_cons_succ List.getElem?_nil Nat.zero_add List.all_cons List.all_nil List.isEmpty_cons List.isEmpty_nil Option.getD_some Option.getD_none List.any_cons List.any_nil List.drop_succ_cons List.drop_zero unfL unf okM okML low3 List.cons_append true_or or_true Nat.zero_mul Nat.zero_le findD_int findD_str  getD_int getD_str getD_bool Option.isSome_map keyD List.length_replicate List.map_replicate setEl List.length_set bytesD_map map_ub mx_len mkZ_one mkZL_one mkM mkML mk1_int mk1_str mk1_bool drop_map take_map take_map_len List.take_length Int.toNat_zero toNat_pred fpOf metIds opIds mvV mvH mvF pickL D.ren D.renL Blk.ren List.map_append List.length_append Bool.not_not Bool.or_not_self Bool.not_or_self Bool.or_true
attribute [local go_sem] Try.tm_1 Try.tm_2 Try.tm_3 Try.tm_4 Try.tm_5 Try.tm_6 Try.tm_7 Try.tm_8 Try.tm_9 Try.tm_10 Try.tm_11 Try.tm_12 Try.tm_13 Try.tm_14 Try.tm_15 Try.tm_16 Try.tm_17 Try.tm_18 Try.tm_19 Try.tm_20 Try.tm_21 Try.tm_22 Try.tm_23 Try.tm_24 Try.tm_25 Try.tm_26 Try.tm_27 Try.tm_28 Try.tm_29 Try.tm_30 Try.tm_31 Try.tm_32 Try.tm_33 Try.tm_34 Try.tm_35 Try.tm_37 Try.tm_39 Try.tm_41 Try.tm_43 Try.tm_44 Try.tm_45 Try.tm_46 Try.tm_47 Try.tm_48 Try.tm_49 Try.tm_50 Try.tm_51 Try.tm_52 Try.tm_53 Try.tm_54 Try.tm_55 Try.tm_56 Try.tm_57 Try.tm_58 Try.tm_59 Try.tm_60 Try.tm_61 Try.tm_63 Try.tm_65 Try.tm_66 Try.tm_67 Try.tm_68 Try.tm_69 Try.tm_70 Try.tm_71 Try.tm_72 Try.tm_73 Try.tm_74 Try.tm_75 Try.tm_76 Try.tm_77 Try.tm_78 Try.tm_79 Try.tm_80 Try.tm_81 Try.tm_82 Try.tm_83 Try.tm_84 Try.tm_85 Try.tm_86 Try.tm_87 Try.tm_89 Try.tm_90 Try.tm_91 Try.tm_92 Try.tm_93 Try.tm_94 Try.tm_95 Try.tm_96 Try.tm_97 Try.tm_98 Try.tm_99 Try.tm_100 Try.tm_101 Try.tm_102 Try.tm_103 Try.tm_104 Try.tm_105 Try.tm_106 Try.tm_107 Try.tm_108 Try.tm_109 Try.tm_110 Try.tm_111 Try.tm_112 Try.tm_113 Try.tm_114 Try.tm_117 Try.tm_118 Try.tm_119 Try.tm_120 Try.tm_121 Try.tm_122 Try.tm_123 Try.tm_124 Try.tm_125 Try.tm_126 TMessage.d TMessage.n TWait.d TWait.n TStamp.d TSkeen.d TSkeen.n TCommand.d TCommand.n Tskeen_clock.d Tskeen_clock.n mk1_TStamp Try.f34 Try.f67 Try.f68 Try.f36 Try.f49 Try.f52 Try.f37 Try.f77 Try.f66 Try.f65 Try.f46 Try.f47 Try.f38 Try.f38 Try.f64 Try.f63 Try.f27 Try.f78 Try.f71 Try.f72 Try.f53 Try.f30 Try.f29 Try.f23 Try.f22 Try.f11 Try.f17 Try.f48 Try.f16 Try.f41 Try.f40 Try.f58 Try.f57 Try.f42 Try.f33 Try.f19 Try.f6 Try.f44 Try.f32 Try.f13 Try.f20 Try.f5 Try.f12 Try.f28 Try.f43 Try.f45 Try.f61 Try.f62 Try.f15 Try.f10 Try.f4 Try.f35 Try.f51 Try.f21 Try.f39 Try.f24 Try.f14 Try.f7 Try.f9 Try.f25
theorem callP_stamp_Check (a0 : TStamp) (r : Int) (h : m_stamp_Check a0 = some r) : CallP Try.prog 34 [.agg [.int .i64 a0.Time, .int .i64 a0.Id]] (.int .i64 r) := by
 refine callP_intro Try.tmOk 3 Try.func34 rfl (by decide) rfl rfl (Nat.le_of_ble_eq_true rfl) ?_
 intro hwf
 unfold m_stamp_Check at h
 refine .seq ?_
 refine .pl Try.S [0] ?_
 refine .seq ?_
 refine .seq ?_
 refine .rg Try.S [1] ?_
 refine .rn 6 ?_
 refine .rn 6 ?_
 refine .rn 6 ?_
 refine .nil ⟨nofun, ?_⟩
 refine .cond rfl rfl (fun hc1 => ?_) (fun hc1 => ?_)
 ·skip
  replace h := ite_lc h hc1
  refine .seq ?_
  refine .pl Try.S [] ?_
  have hq := Option.some.inj h
  subst r
  exact .ret ⟨.inr rfl, rsi⟩
 ·skip
  replace h := ite_rc h hc1
  refine .skip ?_
  refine .seq ?_
  refine .pl Try.S [] ?_
  have hq := Option.some.inj h
  subst r
  exact .ret ⟨.inr rfl, rsi⟩
theorem callP_command_in (a0 : Int) (a1 : Int) (a2 : Int) (r : Bool) (h : m_command_in a0 a1 a2 = some r) : CallP Try.prog 67 [.int .i64 a0, .int .i64 a1, .int .i64 a2] (.bool r) := by
 refine callP_intro Try.tmOk 2 Try.func67 rfl (by decide) rfl rfl (Nat.le_of_ble_eq_true rfl) ?_
 intro hwf
 unfold m_command_in at h
 refine .seq ?_
 refine .pl Try.S [0, 1, 2] ?_
 refine .seq ?_
 refine .rg Try.S [0, 1, 2] ?_
 refine .rn 6 ?_
 refine .rn 3 ?_
 refine .nil ⟨nofun, ?_⟩
 have hq := Option.some.inj h
 subst r
 exact .ret ⟨.inr rfl, rsi⟩
theorem callP_command_id (a0 : Int) (r : Bool) (h : m_command_id a0 = some r) : CallP Try.prog 68 [.int .i64 a0] (.bool r) := by
 refine callP_intro Try.tmOk 2 Try.func68 rfl (by decide) rfl rfl (Nat.le_of_ble_eq_true rfl) ?_
 intro hwf
 unfold m_command_id at h
 refine .seq ?_
 refine .pl Try.S [0] ?_
 refine .seq ?_
 obtain ⟨v1, hv1, h⟩ := bind_some h
 refine .rg Try.S [0] ?_
 refine .rn 1 ?_
 refine .call (r := .bool v1) rfl rfl rfl rfl rfl rfl (callP_command_in a0 0 6291455 v1 hv1) ?_
 refine .rn 1 ?_
 refine .nil ⟨nofun, ?_⟩
 have hq := Option.some.inj h
 subst r
 exact .ret ⟨.inr rfl, rsi⟩
def Try.St_command_CheckMessage_1 (a0 : TMessage) (b1 : Bool) : St := ⟨[(1, .ptr 0 0), (3, .bool b1)], [(0, .box [.int .i64 a0.Id, .imm 1 (a0.Groups.map (D.int .i64)) 4, .int .i64 a0.Topic, .str a0.Key, .str a0.Body])], 1⟩
attribute [local go_sem] Try.St_command_CheckMessage_1
def Try.St_command_CheckMessage_3 (a0 : TMessage) (n1 : Nat) (b2 : Bool) : St := ⟨[(1, .ptr 0 0), (3, .bool b2), (17, .imm 1 (a0.Groups.map (D.int .i64)) 4), (18, .int .i64 (a0.Groups.length : Int)), (19, .int .i64 (n1 : Int))], [(0, .box [.int .i64 a0.Id, .imm 1 (a0.Groups.map (D.int .i64)) 4, .int .i64 a0.Topic, .str a0.Key, .str a0.Body])], 1⟩
attribute [local go_sem] Try.St_command_CheckMessage_3
theorem callP_command_CheckMessage (a0 : TMessage) (r : Int) (h : m_command_CheckMessage a0 = some r) : CallP Try.prog 36 [.agg [.int .i64 a0.Id, .imm 1 (a0.Groups.map (D.int .i64)) 4, .int .i64 a0.Topic, .str a0.Key, .str a0.Body]] (.int .i64 r) := by
 refine callP_intro Try.tmOk 3 Try.func36 rfl (by decide) rfl rfl (Nat.le_of_ble_eq_true rfl) ?_
 intro hwf
 unfold m_command_CheckMessage at h
 refine .seq ?_
 refine .pl Try.S [0] ?_
 refine .seq ?_
 refine .rg Try.S [1] ?_
 refine .rn 6 ?_
 refine .rn 5 ?_
 refine .nil ⟨nofun, ?_⟩
 obtain ⟨x1, hx1, h⟩ := bind_some h
 refine .seqM 1 (fun (j : Bool) => Try.St_command_CheckMessage_1 a0 j) (fun j => x1 = j) (Nat.le_of_ble_eq_true rfl) ?_ ?_
 ·skip
  refine .seq ?_
  refine .pl Try.S [1, 3] ?_
  refine .block ?_
  refine .loopG 1 (fun (j : Nat × Bool) => Try.St_command_CheckMessage_3 a0 j.1 j.2) (fun j => j.1 ≤ a0.Groups.length ∧ m_command_CheckMessage_loop1 a0 (a0.Groups.drop j.1) j.1 j.2 = some x1) (fun j => a0.Groups.length - j.1) (0, ((decide ((a0.Groups.length : Int) ≥ 1)) && (decide ((a0.Groups.length : Int) ≤ 4)))) (Nat.le_of_ble_eq_true rfl) ?_ ⟨Nat.zero_le _, hx1⟩ ?_
  ·skip
   exact .m [1, 3, 17, 18, 19] [0] []
  rintro ⟨n1, b2⟩ ⟨hi1, hx1⟩
  simp only [Try.St_command_CheckMessage_3]
  simp only at hi1 hx1
  refine .wf 18 (.int .i64 (a0.Groups.length : Int)) rfl ?_
  intro hln1
  replace hln1 : (a0.Groups.length : Int) ≤ 9223372036854775807 := by simp only [wf, wfL, IntKind.max, IntKind.min, IntKind.signed, IntKind.bits, List.length_map] at hln1; first | exact hln1.2 | exact hln1.1 | (simp at hln1; omega)
  refine .seq ?_
  refine .pl Try.S [1, 3, 17, 18, 19] ?_
  refine .seq ?_
  refine .cond rfl rfl (fun hc1 => ?_) (fun hc1 => ?_)
  ·skip
   have h1 : n1 < a0.Groups.length := by simpa using hc1
   have hwn1 : wr .i64 ((n1 : Int) + 1) = ((n1 + 1 : Nat) : Int) := wr_succ h1 hln1
   have hpn1 : wr .i64 ((n1 : Int) - 1) = (n1 : Int) - 1 := wr_pred h1 hln1
   rw [List.drop_eq_getElem_cons h1, m_command_CheckMessage_loop1] at hx1
   refine .skip ?_
   refine .seq ?_
   refine .block ?_
   refine .seq ?_
   have e1 := nth_map (D.int .i64) a0.Groups n1 h1
   refine .plx Try.S (And.intro e1 hwn1) [1, 3, 17, 18, 19] ?_
   obtain ⟨v1, hv1, hx1⟩ := bind_some hx1
   have e2 := nth_mapD (D.int .i64) a0.Groups (n1 - 1) (by omega)
   refine .rg Try.S [1, 3, 4, 5, 17, 18, 19] ?_
   refine .rnx 3 (And.intro e2 (And.intro hpn1 hwn1)) ?_
   refine .gcall (r := .bool v1) rfl rfl rfl rfl rfl (fun hg => ⟨[], [.int .i64 (a0.Groups[n1]), .int .i64 0, .int .i64 3], _, rfl, gd hg, rfl, (callP_command_in (a0.Groups[n1]) 0 3 v1 (ite_lc hv1 hg))⟩) ?_
   refine .rnx 6 (And.intro e2 (And.intro hpn1 hwn1)) ?_
   refine .rnx 6 (And.intro e2 (And.intro hpn1 hwn1)) ?_
   refine .rnx 4 (And.intro e2 (And.intro hpn1 hwn1)) ?_
   refine .nil ⟨nofun, ?_⟩
   refine .plx Try.S hwn1 [1, 3, 17, 18, 19] ?_
   refine ⟨(n1 + 1, _), ?_, ⟨by omega, hx1⟩, by dsimp only; omega⟩
   exact .m [1, 3, 17, 18, 19] [0] []
  ·skip
   have h2 : n1 = a0.Groups.length := by have h2b := of_decide_eq_false hc1; omega
   rw [List.drop_of_length_le (by omega), m_command_CheckMessage_loop1] at hx1
   refine .exit ?_
   refine ⟨_, ?_, (Option.some.inj hx1).symm⟩
   exact .m [1, 3] [0] []
 ·skip
  rintro b1 hj1
  subst x1
  try dsimp only at h
  simp only [Try.St_command_CheckMessage_1]
  refine .seq ?_
  refine .seq ?_
  obtain ⟨v2, hv2, h⟩ := bind_some h
  obtain ⟨v3, hv3, h⟩ := bind_some h
  refine .rg Try.S [1, 3] ?_
  refine .rn 5 ?_
  refine .gcall (r := .bool v2) rfl rfl rfl rfl rfl (fun hg => ⟨[], [.int .i64 a0.Id], _, rfl, gd hg, rfl, (callP_command_id a0.Id v2 (ite_lc hv2 hg))⟩) ?_
  refine .rn 5 ?_
  refine .gcall (r := .bool v3) rfl rfl rfl rfl rfl (fun hg => ⟨[], [.int .i64 a0.Topic, .int .i64 0, .int .i64 3], _, rfl, gd hg, rfl, (callP_command_in a0.Topic 0 3 v3 (ite_lc hv3 hg))⟩) ?_
  refine .rn 6 ?_
  refine .rn 8 ?_
  refine .nil ⟨nofun, ?_⟩
  refine .cond rfl rfl (fun hc2 => ?_) (fun hc2 => ?_)
  ·skip
   replace h := ite_lc h hc2
   refine .seq ?_
   refine .pl Try.S [] ?_
   have hq := Option.some.inj h
   subst r
   exact .ret ⟨.inr rfl, rsi⟩
  ·skip
   replace h := ite_rc h hc2
   refine .skip ?_
   refine .seq ?_
   refine .pl Try.S [] ?_
   have hq := Option.some.inj h
   subst r
   exact .ret ⟨.inr rfl, rsi⟩
theorem callP_command_SameMessage (a0 : TMessage) (a1 : TMessage) (r : Bool) (h : m_command_SameMessage a0 a1 = some r) : CallP Try.prog 49 [.agg [.int .i64 a0.Id, .imm 1 (a0.Groups.map (D.int .i64)) 4, .int .i64 a0.Topic, .str a0.Key, .str a0.Body], .agg [.int .i64 a1.Id, .imm 1 (a1.Groups.map (D.int .i64)) 4, .int .i64 a1.Topic, .str a1.Key, .str a1.Body]] (.bool r) := by
 refine callP_intro Try.tmOk 4 Try.func49 rfl (by decide) rfl rfl (Nat.le_of_ble_eq_true rfl) ?_
 intro hwf
 unfold m_command_SameMessage at h
 refine .seq ?_
 refine .pl Try.S [0, 1] ?_
 refine .seq ?_
 obtain ⟨v1, hv1, h⟩ := bind_some h
 refine .rg Try.S [2, 3] ?_
 refine .rn 6 ?_
 refine .rn 4 ?_
 refine .gcall (r := .bool v1) rfl rfl rfl rfl rfl (fun hg => ⟨[], [.imm 1 (a0.Groups.map (D.int .i64)) 4, .imm 1 (a1.Groups.map (D.int .i64)) 4], _, rfl, gd hg, rfl, (callP_slices_Equal_int_int a0.Groups a1.Groups v1 (ite_lc hv1 hg))⟩) ?_
 refine .rn 6 ?_
 refine .rn 6 ?_
 refine .rn 6 ?_
 refine .rn 5 ?_
 refine .nil ⟨nofun, ?_⟩
 have hq := Option.some.inj h
 subst r
 exact .ret ⟨.inr rfl, rsi⟩
theorem callP_command_Same (a0 : TCommand) (a1 : TCommand) (r : Bool) (h : m_command_Same a0 a1 = some r) : CallP Try.prog 52 [.agg [.int .u8 a0.Kind, .int .i64 a0.Message.Id, .imm 1 (a0.Message.Groups.map (D.int .i64)) 4, .int .i64 a0.Message.Topic, .str a0.Message.Key, .str a0.Message.Body, .int .i64 a0.Id, .int .i64 a0.Time, .imm 1 (a0.Members.map (D.int .i64)) 4, .int .i64 a0.Topic, .int .i64 a0.Who, .int .i64 a0.N], .agg [.int .u8 a1.Kind, .int .i64 a1.Message.Id, .imm 1 (a1.Message.Groups.map (D.int .i64)) 4, .int .i64 a1.Message.Topic, .str a1.Message.Key, .str a1.Message.Body, .int .i64 a1.Id, .int .i64 a1.Time, .imm 1 (a1.Members.map (D.int .i64)) 4, .int .i64 a1.Topic, .int .i64 a1.Who, .int .i64 a1.N]] (.bool r) := by
 refine callP_intro Try.tmOk 4 Try.func52 rfl (by decide) rfl rfl (Nat.le_of_ble_eq_true rfl) ?_
 intro hwf
 unfold m_command_Same at h
 refine .seq ?_
 refine .pl Try.S [0, 1] ?_
 refine .seq ?_
 obtain ⟨v1, hv1, h⟩ := bind_some h
 obtain ⟨v2, hv2, h⟩ := bind_some h
 refine .rg Try.S [2, 3] ?_
 refine .rn 6 ?_
 refine .rn 4 ?_
 refine .gcall (r := .bool v1) rfl rfl rfl rfl rfl (fun hg => ⟨[], [.agg [.int .i64 a0.Message.Id, .imm 1 (a0.Message.Groups.map (D.int .i64)) 4, .int .i64 a0.Message.Topic, .str a0.Message.Key, .str a0.Message.Body], .agg [.int .i64 a1.Message.Id, .imm 1 (a1.Message.Groups.map (D.int .i64)) 4, .int .i64 a1.Message.Topic, .str a1.Message.Key, .str a1.Message.Body]], _, rfl, gd hg, rfl, (callP_command_SameMessage a0.Message a1.Message v1 (ite_lc hv1 hg))⟩) ?_
 refine .rn 6 ?_
 refine .rn 6 ?_
 refine .rn 8 ?_
 refine .gcall (r := .bool v2) rfl rfl rfl rfl rfl (fun hg => ⟨[], [.imm 1 (a0.Members.map (D.int .i64)) 4, .imm 1 (a1.Members.map (D.int .i64)) 4], _, rfl, gd hg, rfl, (callP_slices_Equal_int_int a0.Members a1.Members v2 (ite_lc hv2 hg))⟩) ?_
 refine .rn 6 ?_
 refine .rn 6 ?_
 refine .rn 6 ?_
 refine .rn 5 ?_
 refine .nil ⟨nofun, ?_⟩
 have hq := Option.some.inj h
 subst r
 exact .ret ⟨.inr rfl, rsi⟩
theorem callP_skeen_of (a0 : TWait) (r : TStamp) (h : m_skeen_of a0 = some r) : CallP Try.prog 37 [.agg [.int .i64 a0.Message.Id, .imm 1 (a0.Message.Groups.map (D.int .i64)) 4, .int .i64 a0.Message.Topic, .str a0.Message.Key, .str a0.Message.Body, .int .i64 a0.Time, .bool a0.Final]] (.agg [.int .i64 r.Time, .int .i64 r.Id]) := by
 refine callP_intro Try.tmOk 4 Try.func37 rfl (by decide) rfl rfl (Nat.le_of_ble_eq_true rfl) ?_
 intro hwf
 unfold m_skeen_of at h
 refine .seq ?_
 refine .pl Try.S [0] ?_
 refine .seq ?_
 refine .pl Try.S [1, 2] ?_
 have hq := Option.some.inj h
 subst r
 exact .ret ⟨.inr rfl, rsi⟩
theorem callP_cmp_isNaN_int (a0 : Int) (r : Bool) (h : m_cmp_isNaN_int a0 = some r) : CallP Try.prog 77 [.int .i64 a0] (.bool r) := by
 refine callP_intro Try.tmOk 2 Try.func77 rfl (by decide) rfl rfl (Nat.le_of_ble_eq_true rfl) ?_
 intro hwf
 unfold m_cmp_isNaN_int at h
 refine .seq ?_
 refine .pl Try.S [0] ?_
 refine .seq ?_
 refine .pl Try.S [0] ?_
 have hq := Option.some.inj h
 subst r
 exact .ret ⟨.inr rfl, rsi⟩
theorem callP_cmp_Compare_int (a0 : Int) (a1 : Int) (r : Int) (h : m_cmp_Compare_int a0 a1 = some r) : CallP Try.prog 66 [.int .i64 a0, .int .i64 a1] (.int .i64 r) := by
 refine callP_intro Try.tmOk 2 Try.func66 rfl (by decide) rfl rfl (Nat.le_of_ble_eq_true rfl) ?_
 intro hwf
 unfold m_cmp_Compare_int at h
 refine .seq ?_
 refine .pl Try.S [0, 1] ?_
 refine .seq ?_
 obtain ⟨v1, hv1, h⟩ := bind_some h
 refine .rg Try.S [0, 1] ?_
 refine .rn 1 ?_
 refine .call (r := .bool v1) rfl rfl rfl rfl rfl rfl (callP_cmp_isNaN_int a0 v1 hv1) ?_
 refine .rn 1 ?_
 refine .nil ⟨nofun, ?_⟩
 refine .seq ?_
 obtain ⟨v2, hv2, h⟩ := bind_some h
 refine .rg Try.S [0, 1, 5] ?_
 refine .rn 1 ?_
 refine .call (r := .bool v2) rfl rfl rfl rfl rfl rfl (callP_cmp_isNaN_int a1 v2 hv2) ?_
 refine .rn 1 ?_
 refine .nil ⟨nofun, ?_⟩
 refine .seq ?_
 refine .seq ?_
 refine .pl Try.S [0, 1, 5, 6] ?_
 refine .cond rfl rfl (fun hc1 => ?_) (fun hc1 => ?_)
 ·skip
  replace h := ite_lc h hc1
  refine .seq ?_
  refine .seq ?_
  refine .pl Try.S [6] ?_
  refine .cond rfl rfl (fun hc2 => ?_) (fun hc2 => ?_)
  ·skip
   replace h := ite_lc h hc2
   refine .seq ?_
   refine .pl Try.S [] ?_
   have hq := Option.some.inj h
   subst r
   exact .ret ⟨.inr rfl, rsi⟩
  ·skip
   replace h := ite_rc h hc2
   refine .skip ?_
   refine .seq ?_
   refine .pl Try.S [] ?_
   have hq := Option.some.inj h
   subst r
   exact .ret ⟨.inr rfl, rsi⟩
 ·skip
  replace h := ite_rc h hc1
  refine .skip ?_
  refine .seq ?_
  refine .seq ?_
  refine .pl Try.S [0, 1, 6] ?_
  refine .cond rfl rfl (fun hc3 => ?_) (fun hc3 => ?_)
  ·skip
   replace h := ite_lc h hc3
   refine .seq ?_
   refine .pl Try.S [] ?_
   have hq := Option.some.inj h
   subst r
   exact .ret ⟨.inr rfl, rsi⟩
  ·skip
   replace h := ite_rc h hc3
   refine .skip ?_
   refine .seq ?_
   refine .seq ?_
   refine .pl Try.S [0, 1] ?_
   refine .cond rfl rfl (fun hc4 => ?_) (fun hc4 => ?_)
   ·skip
    replace h := ite_lc h hc4
    refine .seq ?_
    refine .pl Try.S [] ?_
    have hq := Option.some.inj h
    subst r
    exact .ret ⟨.inr rfl, rsi⟩
   ·skip
    replace h := ite_rc h hc4
    refine .skip ?_
    refine .seq ?_
    refine .seq ?_
    refine .pl Try.S [0, 1] ?_
    refine .cond rfl rfl (fun hc5 => ?_) (fun hc5 => ?_)
    ·skip
     replace h := ite_lc h hc5
     refine .seq ?_
     refine .pl Try.S [] ?_
     have hq := Option.some.inj h
     subst r
     exact .ret ⟨.inr rfl, rsi⟩
    ·skip
     replace h := ite_rc h hc5
     refine .skip ?_
     refine .seq ?_
     refine .pl Try.S [] ?_
     have hq := Option.some.inj h
     subst r
     exact .ret ⟨.inr rfl, rsi⟩
def Try.St_cmp_Or_int_1 : St := ⟨[(3, .int .i64 0)], [], 0⟩
attribute [local go_sem] Try.St_cmp_Or_int_1
def Try.St_cmp_Or_int_3 (a0 : List Int) (n1 : Nat) : St := ⟨[(3, .int .i64 0), (6, .imm 1 (a0.map (D.int .i64)) 4), (7, .int .i64 (a0.length : Int)), (8, .int .i64 (n1 : Int))], [], 0⟩
attribute [local go_sem] Try.St_cmp_Or_int_3
theorem callP_cmp_Or_int (a0 : List Int) (r : Int) (h : m_cmp_Or_int a0 = some r) : CallP Try.prog 65 [.imm 1 (a0.map (D.int .i64)) 4] (.int .i64 r) := by
 refine callP_intro Try.tmOk 2 Try.func65 rfl (by decide) rfl rfl (Nat.le_of_ble_eq_true rfl) ?_
 intro hwf
 unfold m_cmp_Or_int at h
 refine .seq ?_
 refine .pl Try.S [0] ?_
 refine .seq ?_
 refine .pl Try.S [0] ?_
 obtain ⟨x1, hx1, h⟩ := bind_some h
 refine .seqM 0 (fun (j : Unit) => Try.St_cmp_Or_int_1) (fun j => x1 = (.inr j)) (Nat.le_of_ble_eq_true rfl) ?_ ?_
 ·skip
  refine .seq ?_
  refine .pl Try.S [0, 3] ?_
  refine .block ?_
  refine .loopG 0 (fun (j : Nat) => Try.St_cmp_Or_int_3 a0 j) (fun j => j ≤ a0.length ∧ m_cmp_Or_int_loop1 (a0.drop j)  = some x1) (fun j => a0.length - j) (0) (Nat.le_of_ble_eq_true rfl) ?_ ⟨Nat.zero_le _, hx1⟩ ?_
  ·skip
   exact .m [3, 6, 7, 8] [] []
  rintro n1 ⟨hi1, hx1⟩
  simp only [Try.St_cmp_Or_int_3]
  refine .wf 7 (.int .i64 (a0.length : Int)) rfl ?_
  intro hln1
  replace hln1 : (a0.length : Int) ≤ 9223372036854775807 := by simp only [wf, wfL, IntKind.max, IntKind.min, IntKind.signed, IntKind.bits, List.length_map] at hln1; first | exact hln1.2 | exact hln1.1 | (simp at hln1; omega)
  refine .seq ?_
  refine .pl Try.S [3, 6, 7, 8] ?_
  refine .seq ?_
  refine .cond rfl rfl (fun hc1 => ?_) (fun hc1 => ?_)
  ·skip
   have h1 : n1 < a0.length := by simpa using hc1
   have hwn1 : wr .i64 ((n1 : Int) + 1) = ((n1 + 1 : Nat) : Int) := wr_succ h1 hln1
   have hpn1 : wr .i64 ((n1 : Int) - 1) = (n1 : Int) - 1 := wr_pred h1 hln1
   rw [List.drop_eq_getElem_cons h1, m_cmp_Or_int_loop1] at hx1
   refine .skip ?_
   refine .seq ?_
   refine .block ?_
   refine .seq ?_
   have e1 := nth_map (D.int .i64) a0 n1 h1
   refine .plx Try.S (And.intro e1 hwn1) [3, 6, 7, 8] ?_
   refine .seq ?_
   refine .plx Try.S hwn1 [3, 5, 6, 7, 8] ?_
   refine .cond rfl rfl (fun hc2 => ?_) (fun hc2 => ?_)
   ·skip
    replace hx1 := ite_lc hx1 hc2
    refine .seq ?_
    refine .plx Try.S hwn1 [5] ?_
    have hq := Option.some.inj hx1
    subst x1
    try dsimp only at h
    have hq := Option.some.inj h
    subst r
    exact .ret ⟨.inr rfl, rsi⟩
   ·skip
    replace hx1 := ite_rc hx1 hc2
    refine .skip ?_
    refine .plx Try.S hwn1 [3, 6, 7, 8] ?_
    refine ⟨n1 + 1, ?_, ⟨by omega, hx1⟩, by dsimp only; omega⟩
    exact .m [3, 6, 7, 8] [] []
  ·skip
   have h2 : n1 = a0.length := by have h2b := of_decide_eq_false hc1; omega
   rw [List.drop_of_length_le (by omega), m_cmp_Or_int_loop1] at hx1
   refine .exit ?_
   refine ⟨_, ?_, (Option.some.inj hx1).symm⟩
   exact .m [3] [] []
 ·skip
  rintro ⟨⟩ hj1
  subst x1
  try dsimp only at h
  simp only [Try.St_cmp_Or_int_1]
  refine .seq ?_
  refine .pl Try.S [3] ?_
  have hq := Option.some.inj h
  subst r
  exact .ret ⟨.inr rfl, rsi⟩
def Try.St_slices_Equal_Stamp_Stamp_1 : St := ⟨[], [], 0⟩
attribute [local go_sem] Try.St_slices_Equal_Stamp_Stamp_1
def Try.St_slices_Equal_Stamp_Stamp_3 (a0 : List TStamp) (a1 : List TStamp) (n1 : Nat) : St := ⟨[(0, .imm 2 (a0.map TStamp.d) 4), (1, .imm 2 (a1.map TStamp.d) 4), (12, .int .i64 (a0.length : Int)), (13, .int .i64 (n1 : Int))], [], 0⟩
attribute [local go_sem] Try.St_slices_Equal_Stamp_Stamp_3
theorem callP_slices_Equal_Stamp_Stamp (a0 : List TStamp) (a1 : List TStamp) (r : Bool) (h : m_slices_Equal_Stamp_Stamp a0 a1 = some r) : CallP Try.prog 46 [.imm 2 (a0.map TStamp.d) 4, .imm 2 (a1.map TStamp.d) 4] (.bool r) := by
 refine callP_intro Try.tmOk 2 Try.func46 rfl (by decide) rfl rfl (Nat.le_of_ble_eq_true rfl) ?_
 intro hwf
 unfold m_slices_Equal_Stamp_Stamp at h
 refine .seq ?_
 refine .pl Try.S [0, 1] ?_
 refine .seq ?_
 refine .seq ?_
 refine .pl Try.S [0, 1] ?_
 refine .cond rfl rfl (fun hc1 => ?_) (fun hc1 => ?_)
 ·skip
  replace h := ite_lc h hc1
  refine .seq ?_
  refine .pl Try.S [] ?_
  have hq := Option.some.inj h
  subst r
  exact .ret ⟨.inr rfl, rsi⟩
 ·skip
  replace h := ite_rc h hc1
  refine .skip ?_
  obtain ⟨x1, hx1, h⟩ := bind_some h
  refine .seqM 0 (fun (j : Unit) => Try.St_slices_Equal_Stamp_Stamp_1) (fun j => x1 = (.inr j)) (Nat.le_of_ble_eq_true rfl) ?_ ?_
  ·skip
   refine .seq ?_
   refine .pl Try.S [0, 1] ?_
   refine .block ?_
   refine .loopG 0 (fun (j : Nat) => Try.St_slices_Equal_Stamp_Stamp_3 a0 a1 j) (fun j => j ≤ a0.length ∧ m_slices_Equal_Stamp_Stamp_loop1 a1 (a0.drop j) j  = some x1) (fun j => a0.length - j) (0) (Nat.le_of_ble_eq_true rfl) ?_ ⟨Nat.zero_le _, hx1⟩ ?_
   ·skip
    exact .m [0, 1, 12, 13] [] []
   rintro n1 ⟨hi1, hx1⟩
   simp only [Try.St_slices_Equal_Stamp_Stamp_3]
   refine .wf 12 (.int .i64 (a0.length : Int)) rfl ?_
   intro hln1
   replace hln1 : (a0.length : Int) ≤ 9223372036854775807 := by simp only [wf, wfL, IntKind.max, IntKind.min, IntKind.signed, IntKind.bits, List.length_map] at hln1; first | exact hln1.2 | exact hln1.1 | (simp at hln1; omega)
   refine .seq ?_
   refine .pl Try.S [0, 1, 12, 13] ?_
   refine .seq ?_
   refine .cond rfl rfl (fun hc2 => ?_) (fun hc2 => ?_)
   ·skip
    have h1 : n1 < a0.length := by simpa using hc2
    have hwn1 : wr .i64 ((n1 : Int) + 1) = ((n1 + 1 : Nat) : Int) := wr_succ h1 hln1
    have hpn1 : wr .i64 ((n1 : Int) - 1) = (n1 : Int) - 1 := wr_pred h1 hln1
    rw [List.drop_eq_getElem_cons h1, m_slices_Equal_Stamp_Stamp_loop1] at hx1
    refine .skip ?_
    refine .seq ?_
    refine .block ?_
    refine .seq ?_
    refine .plx Try.S hwn1 [0, 1, 12, 13] ?_
    refine .seq ?_
    obtain ⟨k1, hx1⟩ := ite_ck hx1
    have e1 := nth_map TStamp.d a0 n1 h1
    have e2 := nth_mapD TStamp.d a1 n1
    replace e2 := e2 k1
    refine .rg Try.S [0, 1, 5, 12, 13] ?_
    refine .rdx 6 (And.intro e1 (And.intro e2 hwn1)) ?_
    refine .rdx 3 (And.intro e1 (And.intro e2 hwn1)) ?_
    refine .nil ⟨fun _ => schedB_of (by kernel_rfl), ?_⟩
    refine .cond rfl rfl (fun hc3 => ?_) (fun hc3 => ?_)
    ·skip
     replace hx1 := ite_lc hx1 hc3
     refine .seq ?_
     refine .plx Try.S hwn1 [] ?_
     have hq := Option.some.inj hx1
     subst x1
     try dsimp only at h
     have hq := Option.some.inj h
     subst r
     exact .ret ⟨.inr rfl, rsi⟩
    ·skip
     replace hx1 := ite_rc hx1 hc3
     refine .skip ?_
     refine .plx Try.S hwn1 [0, 1, 12, 13] ?_
     refine ⟨n1 + 1, ?_, ⟨by omega, hx1⟩, by dsimp only; omega⟩
     exact .m [0, 1, 12, 13] [] []
   ·skip
    have h2 : n1 = a0.length := by have h2b := of_decide_eq_false hc2; omega
    rw [List.drop_of_length_le (by omega), m_slices_Equal_Stamp_Stamp_loop1] at hx1
    refine .exit ?_
    refine ⟨_, ?_, (Option.some.inj hx1).symm⟩
    exact .m [] [] []
  ·skip
   rintro ⟨⟩ hj1
   subst x1
   try dsimp only at h
   simp only [Try.St_slices_Equal_Stamp_Stamp_1]
   refine .seq ?_
   refine .pl Try.S [] ?_
   have hq := Option.some.inj h
   subst r
   exact .ret ⟨.inr rfl, rsi⟩
def Try.St_slices_EqualFunc_Wait_Wait_Wait_Wait_1 : St := ⟨[], [], 0⟩
attribute [local go_sem] Try.St_slices_EqualFunc_Wait_Wait_Wait_Wait_1
def Try.St_slices_EqualFunc_Wait_Wait_Wait_Wait_3 (a0 : List TWait) (a1 : List TWait) (Ka2 : Nat) (ca2 : List D) (n1 : Nat) : St := ⟨[(1, .imm 7 (a1.map TWait.d) 4), (2, .fn (.func Ka2) ca2), (15, .imm 7 (a0.map TWait.d) 4), (16, .int .i64 (a0.length : Int)), (17, .int .i64 (n1 : Int))], [], 0⟩
attribute [local go_sem] Try.St_slices_EqualFunc_Wait_Wait_Wait_Wait_3
theorem callP_slices_EqualFunc_Wait_Wait_Wait_Wait (a0 : List TWait) (a1 : List TWait) (Ka2 : Nat) (ca2 : List D) (hca2 : ∀ hp, lends hp ca2 = (ca2, true)) (h2a2 : ∀ hp, lend2s hp ca2 = (ca2, true)) (h3a2 : ∀ hp, ids2s hp ca2 = []) (a2 : TWait → TWait → Option Bool) (ha2 : ∀ x0 x1 y, a2 x0 x1 = some y → CallP Try.prog Ka2 (.agg [.int .i64 x0.Message.Id, .imm 1 (x0.Message.Groups.map (D.int .i64)) 4, .int .i64 x0.Message.Topic, .str x0.Message.Key, .str x0.Message.Body, .int .i64 x0.Time, .bool x0.Final] :: .agg [.int .i64 x1.Message.Id, .imm 1 (x1.Message.Groups.map (D.int .i64)) 4, .int .i64 x1.Message.Topic, .str x1.Message.Key, .str x1.Message.Body, .int .i64 x1.Time, .bool x1.Final] :: ca2) (.bool y)) (r : Bool) (h : m_slices_EqualFunc_Wait_Wait_Wait_Wait a0 a1 a2 = some r) : CallP Try.prog 47 [.imm 7 (a0.map TWait.d) 4, .imm 7 (a1.map TWait.d) 4, .fn (.func Ka2) ca2] (.bool r) := by
 refine callP_intro Try.tmOk 4 Try.func47 rfl (by decide) rfl rfl (Nat.le_of_ble_eq_true rfl) ?_
 intro hwf
 unfold m_slices_EqualFunc_Wait_Wait_Wait_Wait at h
 refine .seq ?_
 refine .pl Try.S [0, 1, 2] ?_
 refine .seq ?_
 refine .seq ?_
 refine .pl Try.S [0, 1, 2] ?_
 refine .cond rfl rfl (fun hc1 => ?_) (fun hc1 => ?_)
 ·skip
  replace h := ite_lc h hc1
  refine .seq ?_
  refine .pl Try.S [] ?_
  have hq := Option.some.inj h
  subst r
  exact .ret ⟨.inr rfl, rsi⟩
 ·skip
  replace h := ite_rc h hc1
  refine .skip ?_
  obtain ⟨x1, hx1, h⟩ := bind_some h
  refine .seqM 0 (fun (j : Unit) => Try.St_slices_EqualFunc_Wait_Wait_Wait_Wait_1) (fun j => x1 = (.inr j)) (Nat.le_of_ble_eq_true rfl) ?_ ?_
  ·skip
   refine .seq ?_
   refine .pl Try.S [0, 1, 2] ?_
   refine .block ?_
   refine .loopG 0 (fun (j : Nat) => Try.St_slices_EqualFunc_Wait_Wait_Wait_Wait_3 a0 a1 Ka2 ca2 j) (fun j => j ≤ a0.length ∧ m_slices_EqualFunc_Wait_Wait_Wait_Wait_loop1 a1 a2 (a0.drop j) j  = some x1) (fun j => a0.length - j) (0) (Nat.le_of_ble_eq_true rfl) ?_ ⟨Nat.zero_le _, hx1⟩ ?_
   ·skip
    refine Goes.mv [1, 2, 15, 16, 17] [] [] ?_ (Nat.le_of_ble_eq_true rfl) (Nat.le_of_ble_eq_true rfl) (by first | rfl | (simp only [idsV, idsH, pickL, getL, D.ids, Blk.ids, natbeq, Nat.reduceBEq, cond_true, cond_false, List.append_nil, List.nil_append, List.cons_append, idsL_lent hca2] <;> rfl))
    first | rfl | (simp only [go_sem, Nat.reduceBEq, Nat.reduceAdd, renL_lent hca2]; done) | (simp only [go_sem, Nat.reduceBEq, Nat.reduceAdd, renL_lent hca2]; rfl)
   rintro n1 ⟨hi1, hx1⟩
   simp only [Try.St_slices_EqualFunc_Wait_Wait_Wait_Wait_3]
   refine .wf 16 (.int .i64 (a0.length : Int)) rfl ?_
   intro hln1
   replace hln1 : (a0.length : Int) ≤ 9223372036854775807 := by simp only [wf, wfL, IntKind.max, IntKind.min, IntKind.signed, IntKind.bits, List.length_map] at hln1; first | exact hln1.2 | exact hln1.1 | (simp at hln1; omega)
   refine .seq ?_
   refine .pl Try.S [1, 2, 15, 16, 17] ?_
   refine .seq ?_
   refine .cond rfl rfl (fun hc2 => ?_) (fun hc2 => ?_)
   ·skip
    have h1 : n1 < a0.length := by simpa using hc2
    have hwn1 : wr .i64 ((n1 : Int) + 1) = ((n1 + 1 : Nat) : Int) := wr_succ h1 hln1
    have hpn1 : wr .i64 ((n1 : Int) - 1) = (n1 : Int) - 1 := wr_pred h1 hln1
    rw [List.drop_eq_getElem_cons h1, m_slices_EqualFunc_Wait_Wait_Wait_Wait_loop1] at hx1
    refine .skip ?_
    refine .seq ?_
    refine .block ?_
    refine .seq ?_
    have e1 := nth_map TWait.d a0 n1 h1
    refine .plx Try.S (And.intro e1 hwn1) [1, 2, 15, 16, 17] ?_
    refine .seq ?_
    obtain ⟨k1, hx1⟩ := ite_ck hx1
    have e2 := nth_mapD TWait.d a1 n1
    replace e2 := e2 k1
    refine .plx Try.S (And.intro e2 hwn1) [1, 2, 7, 8, 15, 16, 17] ?_
    refine .seq ?_
    obtain ⟨v1, hv1, hx1⟩ := bind_some hx1
    refine .rg Try.S [1, 2, 8, 9, 15, 16, 17] ?_
    refine .rnx 3 hwn1 ?_
    refine .call (r := .bool v1) rfl rfl rfl rfl rfl (lends_cons rfl (lends_cons rfl (hca2 _))) (ha2 _ _ v1 hv1) ?_
    refine .rnx 1 hwn1 ?_
    refine .nil ⟨nofun, ?_⟩
    refine .cond rfl rfl (fun hc3 => ?_) (fun hc3 => ?_)
    ·skip
     replace hx1 := ite_lc hx1 hc3
     refine .seq ?_
     refine .plx Try.S hwn1 [] ?_
     have hq := Option.some.inj hx1
     subst x1
     try dsimp only at h
     have hq := Option.some.inj h
     subst r
     exact .ret ⟨.inr rfl, rsi⟩
    ·skip
     replace hx1 := ite_rc hx1 hc3
     refine .skip ?_
     refine .plx Try.S hwn1 [1, 2, 15, 16, 17] ?_
     refine ⟨n1 + 1, ?_, ⟨by omega, hx1⟩, by dsimp only; omega⟩
     refine Goes.mv [1, 2, 15, 16, 17] [] [] ?_ (Nat.le_of_ble_eq_true rfl) (Nat.le_of_ble_eq_true rfl) (by first | rfl | (simp only [idsV, idsH, pickL, getL, D.ids, Blk.ids, natbeq, Nat.reduceBEq, cond_true, cond_false, List.append_nil, List.nil_append, List.cons_append, idsL_lent hca2] <;> rfl))
     first | rfl | (simp only [go_sem, Nat.reduceBEq, Nat.reduceAdd, renL_lent hca2]; done) | (simp only [go_sem, Nat.reduceBEq, Nat.reduceAdd, renL_lent hca2]; rfl)
   ·skip
    have h2 : n1 = a0.length := by have h2b := of_decide_eq_false hc2; omega
    rw [List.drop_of_length_le (by omega), m_slices_EqualFunc_Wait_Wait_Wait_Wait_loop1] at hx1
    refine .exit ?_
    refine ⟨_, ?_, (Option.some.inj hx1).symm⟩
    refine Goes.mv [] [] [] ?_ (Nat.le_of_ble_eq_true rfl) (Nat.le_of_ble_eq_true rfl) (by first | rfl | (simp only [idsV, idsH, pickL, getL, D.ids, Blk.ids, natbeq, Nat.reduceBEq, cond_true, cond_false, List.append_nil, List.nil_append, List.cons_append, idsL_lent hca2] <;> rfl))
    first | rfl | (simp only [go_sem, Nat.reduceBEq, Nat.reduceAdd, renL_lent hca2]; done) | (simp only [go_sem, Nat.reduceBEq, Nat.reduceAdd, renL_lent hca2]; rfl)
  ·skip
   rintro ⟨⟩ hj1
   subst x1
   try dsimp only at h
   simp only [Try.St_slices_EqualFunc_Wait_Wait_Wait_Wait_1]
   refine .seq ?_
   refine .pl Try.S [] ?_
   have hq := Option.some.inj h
   subst r
   exact .ret ⟨.inr rfl, rsi⟩
def Try.St_slices_MinFunc_Wait_Wait_1 (n1 : Int) (l1 : List Int) (n2 : Int) (s1 : List UInt8) (s2 : List UInt8) (n3 : Int) (b1 : Bool) : St := ⟨[(4, .ptr 0 0), (5, .ptr 1 0)], [(0, .box [.int .i64 0, .imm 0 [] 0, .int .i64 0, .str [], .str [], .int .i64 0, .bool false]), (1, .box [.int .i64 n1, .imm 1 (l1.map (D.int .i64)) 4, .int .i64 n2, .str s1, .str s2, .int .i64 n3, .bool b1])], 2⟩
attribute [local go_sem] Try.St_slices_MinFunc_Wait_Wait_1
def Try.St_slices_MinFunc_Wait_Wait_3 (a0 : List TWait) (Ka1 : Nat) (ca1 : List D) (n4 : Int) (l2 : List Int) (n5 : Int) (s3 : List UInt8) (s4 : List UInt8) (n6 : Int) (b2 : Bool) (n7 : Int) : St := ⟨[(0, .imm 7 (a0.map TWait.d) 4), (1, .fn (.func Ka1) ca1), (4, .ptr 0 0), (5, .ptr 1 0), (6, .int .i64 n7)], [(0, .box [.int .i64 0, .imm 0 [] 0, .int .i64 0, .str [], .str [], .int .i64 0, .bool false]), (1, .box [.int .i64 n4, .imm 1 (l2.map (D.int .i64)) 4, .int .i64 n5, .str s3, .str s4, .int .i64 n6, .bool b2])], 2⟩
attribute [local go_sem] Try.St_slices_MinFunc_Wait_Wait_3
def Try.St_slices_MinFunc_Wait_Wait_5 (a0 : List TWait) (Ka1 : Nat) (ca1 : List D) (n7 : Int) (n8 : Int) (l3 : List Int) (n9 : Int) (s5 : List UInt8) (s6 : List UInt8) (n10 : Int) (b3 : Bool) : St := ⟨[(0, .imm 7 (a0.map TWait.d) 4), (1, .fn (.func Ka1) ca1), (4, .ptr 0 0), (5, .ptr 1 0), (6, .int .i64 n7)], [(0, .box [.int .i64 0, .imm 0 [] 0, .int .i64 0, .str [], .str [], .int .i64 0, .bool false]), (1, .box [.int .i64 n8, .imm 1 (l3.map (D.int .i64)) 4, .int .i64 n9, .str s5, .str s6, .int .i64 n10, .bool b3])], 2⟩
attribute [local go_sem] Try.St_slices_MinFunc_Wait_Wait_5
def Try.Re_slices_MinFunc_Wait_Wait (r : TWait) : St := ⟨[(4, .ptr 0 0)], [(0, .box [.int .i64 r.Message.Id, .imm 1 (r.Message.Groups.map (D.int .i64)) 4, .int .i64 r.Message.Topic, .str r.Message.Key, .str r.Message.Body, .int .i64 r.Time, .bool r.Final])], 1⟩
attribute [local go_sem] Try.Re_slices_MinFunc_Wait_Wait
theorem callH_slices_MinFunc_Wait_Wait (a0 : List TWait) (Ka1 : Nat) (ca1 : List D) (hca1 : ∀ hp, lends hp ca1 = (ca1, true)) (h2a1 : ∀ hp, lend2s hp ca1 = (ca1, true)) (h3a1 : ∀ hp, ids2s hp ca1 = []) (a1 : TWait → TWait → Option Int) (ha1 : ∀ x0 x1 y, a1 x0 x1 = some y → CallP Try.prog Ka1 (.agg [.int .i64 x0.Message.Id, .imm 1 (x0.Message.Groups.map (D.int .i64)) 4, .int .i64 x0.Message.Topic, .str x0.Message.Key, .str x0.Message.Body, .int .i64 x0.Time, .bool x0.Final] :: .agg [.int .i64 x1.Message.Id, .imm 1 (x1.Message.Groups.map (D.int .i64)) 4, .int .i64 x1.Message.Topic, .str x1.Message.Key, .str x1.Message.Body, .int .i64 x1.Time, .bool x1.Final] :: ca1) (.int .i64 y)) (r : TWait) (h : m_slices_MinFunc_Wait_Wait a0 a1 = some r) : CallH Try.prog 38 [.imm 7 (a0.map TWait.d) 4, .fn (.func Ka1) ca1] [] (.agg [.int .i64 r.Message.Id, .imm 1 (r.Message.Groups.map (D.int .i64)) 4, .int .i64 r.Message.Topic, .str r.Message.Key, .str r.Message.Body, .int .i64 r.Time, .bool r.Final]) [] (0, 4) := by
 refine callH_intro' Try.tmOk Try.func38 rfl (by decide) (Nat.le_of_ble_eq_true rfl) (by simp) ?_
 intro hwf
 unfold m_slices_MinFunc_Wait_Wait at h
 refine .ends 0 (Nat.le_refl _) ?_
 refine .seq ?_
 refine .pl Try.S [0, 1] ?_
 refine .seq ?_
 refine .seq ?_
 refine .pl Try.S [0, 1, 4] ?_
 refine .cond rfl rfl (fun hc1 => ?_) (fun hc1 => ?_)
 ·skip
  replace h := ite_lc h hc1
  cases h
 ·skip
  replace h := ite_rc h hc1
  refine .skip ?_
  refine .seq ?_
  obtain ⟨k1, h⟩ := ite_ck h
  have e1 := nth_mapD TWait.d a0 0 k1
  refine .plx Try.S e1 [0, 1, 4] ?_
  obtain ⟨x1, hx1, h⟩ := bind_some h
  refine .seqM 2 (fun (j : Int × (List Int) × Int × (List UInt8) × (List UInt8) × Int × Bool) => Try.St_slices_MinFunc_Wait_Wait_1 j.1 j.2.1 j.2.2.1 j.2.2.2.1 j.2.2.2.2.1 j.2.2.2.2.2.1 j.2.2.2.2.2.2) (fun j => x1 = j) (Nat.le_of_ble_eq_true rfl) ?_ ?_
  ·skip
   refine .seq ?_
   refine .pl Try.S [0, 1, 4, 5] ?_
   refine .block ?_
   refine .loopG 2 (fun (j : Nat × Int × (List Int) × Int × (List UInt8) × (List UInt8) × Int × Bool × Int) => Try.St_slices_MinFunc_Wait_Wait_3 a0 Ka1 ca1 j.2.1 j.2.2.1 j.2.2.2.1 j.2.2.2.2.1 j.2.2.2.2.2.1 j.2.2.2.2.2.2.1 j.2.2.2.2.2.2.2.1 j.2.2.2.2.2.2.2.2) (fun j => m_slices_MinFunc_Wait_Wait_loop1 a0 a1 j.1 j.2.1 j.2.2.1 j.2.2.2.1 j.2.2.2.2.1 j.2.2.2.2.2.1 j.2.2.2.2.2.2.1 j.2.2.2.2.2.2.2.1 j.2.2.2.2.2.2.2.2 = some x1) (fun j => j.1) (a0.length + 1, (a0.getD 0 default).Message.Id, (a0.getD 0 default).Message.Groups, (a0.getD 0 default).Message.Topic, (a0.getD 0 default).Message.Key, (a0.getD 0 default).Message.Body, (a0.getD 0 default).Time, (a0.getD 0 default).Final, 1) (Nat.le_of_ble_eq_true rfl) ?_ hx1 ?_
   ·skip
    refine Goes.mv [0, 1, 4, 5, 6] [0, 1] [] ?_ (Nat.le_of_ble_eq_true rfl) (Nat.le_of_ble_eq_true rfl) (by first | rfl | (simp only [idsV, idsH, pickL, getL, D.ids, Blk.ids, natbeq, Nat.reduceBEq, cond_true, cond_false, List.append_nil, List.nil_append, List.cons_append, idsL_lent hca1] <;> rfl))
    first | rfl | (simp only [go_sem, Nat.reduceBEq, Nat.reduceAdd, renL_lent hca1]; done) | (simp only [go_sem, Nat.reduceBEq, Nat.reduceAdd, renL_lent hca1]; rfl)
   rintro ⟨fu1, n4, l2, n5, s3, s4, n6, b2, n7⟩ hx1
   simp only [Try.St_slices_MinFunc_Wait_Wait_3]
   try simp only at hx1
   obtain ⟨fu1, rfl⟩ : ∃ k, fu1 = k + 1 := by cases fu1 with | zero => (rw [m_slices_MinFunc_Wait_Wait_loop1] at hx1; cases hx1) | succ k => exact ⟨k, rfl⟩
   rw [m_slices_MinFunc_Wait_Wait_loop1] at hx1
   refine .seq ?_
   refine .seq ?_
   refine .pl Try.S [0, 1, 4, 5, 6] ?_
   refine .cond rfl rfl (fun hc2 => ?_) (fun hc2 => ?_)
   ·skip
    replace hx1 := ite_lc hx1 hc2
    refine .skip ?_
    obtain ⟨x2, hx2, hx1⟩ := bind_some hx1
    refine .seqM 2 (fun (j : Int × (List Int) × Int × (List UInt8) × (List UInt8) × Int × Bool) => Try.St_slices_MinFunc_Wait_Wait_5 a0 Ka1 ca1 n7 j.1 j.2.1 j.2.2.1 j.2.2.2.1 j.2.2.2.2.1 j.2.2.2.2.2.1 j.2.2.2.2.2.2) (fun j => x2 = j) (Nat.le_of_ble_eq_true rfl) ?_ ?_
    ·skip
     refine .block ?_
     refine .seq ?_
     obtain ⟨k2, hx2⟩ := ite_ck hx2
     obtain ⟨v1, hv1, hx2⟩ := bind_some hx2
     have e2 := nth_mapI TWait.d a0 n7
     replace e2 := e2 k2
     refine .rg Try.S [0, 1, 4, 5, 6] ?_
     refine .rdx 6 e2 ?_
     refine .call (r := .int .i64 v1) rfl rfl rfl rfl rfl (lends_cons rfl (lends_cons rfl (hca1 _))) (ha1 _ _ v1 hv1) ?_
     refine .rdx 1 e2 ?_
     refine .nil ⟨fun _ => schedB_of (by kernel_rfl), ?_⟩
     refine .cond rfl rfl (fun hc3 => ?_) (fun hc3 => ?_)
     ·skip
      replace hx2 := ite_lc hx2 hc3
      obtain ⟨k3, hx2⟩ := ite_ck hx2
      have e3 := nth_mapI TWait.d a0 n7
      replace e3 := e3 k3
      refine .plx Try.S e3 [0, 1, 4, 5, 6] ?_
      refine ⟨_, ?_, (Option.some.inj hx2).symm⟩
      refine Goes.mv [0, 1, 4, 5, 6] [0, 1] [] ?_ (Nat.le_of_ble_eq_true rfl) (Nat.le_of_ble_eq_true rfl) (by first | rfl | (simp only [idsV, idsH, pickL, getL, D.ids, Blk.ids, natbeq, Nat.reduceBEq, cond_true, cond_false, List.append_nil, List.nil_append, List.cons_append, idsL_lent hca1] <;> rfl))
      first | rfl | (simp only [go_sem, Nat.reduceBEq, Nat.reduceAdd, renL_lent hca1]; done) | (simp only [go_sem, Nat.reduceBEq, Nat.reduceAdd, renL_lent hca1]; rfl)
     ·skip
      replace hx2 := ite_rc hx2 hc3
      refine .skip ?_
      refine ⟨_, ?_, (Option.some.inj hx2).symm⟩
      refine Goes.mv [0, 1, 4, 5, 6] [0, 1] [] ?_ (Nat.le_of_ble_eq_true rfl) (Nat.le_of_ble_eq_true rfl) (by first | rfl | (simp only [idsV, idsH, pickL, getL, D.ids, Blk.ids, natbeq, Nat.reduceBEq, cond_true, cond_false, List.append_nil, List.nil_append, List.cons_append, idsL_lent hca1] <;> rfl))
      first | rfl | (simp only [go_sem, Nat.reduceBEq, Nat.reduceAdd, renL_lent hca1]; done) | (simp only [go_sem, Nat.reduceBEq, Nat.reduceAdd, renL_lent hca1]; rfl)
    ·skip
     rintro ⟨n8, l3, n9, s5, s6, n10, b3⟩ hj1
     subst x2
     try dsimp only at hx1
     simp only [Try.St_slices_MinFunc_Wait_Wait_5]
     refine .pl Try.S [0, 1, 4, 5, 6] ?_
     refine ⟨(fu1, _, _, _, _, _, _, _, _), ?_, hx1, by dsimp only; omega⟩
     refine Goes.mv [0, 1, 4, 5, 6] [0, 1] [] ?_ (Nat.le_of_ble_eq_true rfl) (Nat.le_of_ble_eq_true rfl) (by first | rfl | (simp only [idsV, idsH, pickL, getL, D.ids, Blk.ids, natbeq, Nat.reduceBEq, cond_true, cond_false, List.append_nil, List.nil_append, List.cons_append, idsL_lent hca1] <;> rfl))
     first | rfl | (simp only [go_sem, Nat.reduceBEq, Nat.reduceAdd, renL_lent hca1]; done) | (simp only [go_sem, Nat.reduceBEq, Nat.reduceAdd, renL_lent hca1]; rfl)
   ·skip
    replace hx1 := ite_rc hx1 hc2
    refine .exit ?_
    refine ⟨_, ?_, (Option.some.inj hx1).symm⟩
    refine Goes.mv [4, 5] [0, 1] [] ?_ (Nat.le_of_ble_eq_true rfl) (Nat.le_of_ble_eq_true rfl) (by first | rfl | (simp only [idsV, idsH, pickL, getL, D.ids, Blk.ids, natbeq, Nat.reduceBEq, cond_true, cond_false, List.append_nil, List.nil_append, List.cons_append, idsL_lent hca1] <;> rfl))
    first | rfl | (simp only [go_sem, Nat.reduceBEq, Nat.reduceAdd, renL_lent hca1]; done) | (simp only [go_sem, Nat.reduceBEq, Nat.reduceAdd, renL_lent hca1]; rfl)
  ·skip
   rintro ⟨n1, l1, n2, s1, s2, n3, b1⟩ hj2
   subst x1
   try dsimp only at h
   simp only [Try.St_slices_MinFunc_Wait_Wait_1]
   refine .seq ?_
   refine .pl Try.S [4, 5] ?_
   have hq := Option.some.inj h
   subst r
   refine .ret ⟨Try.Re_slices_MinFunc_Wait_Wait (⟨(⟨n1, l1, n2, s1, s2⟩ : TMessage), n3, b1⟩ : TWait), ?_, .inr rfl, retH [] ?_ ?_⟩
   ·skip
    refine Goes.mv [4] [0] [] ?_ (Nat.le_of_ble_eq_true rfl) (Nat.le_of_ble_eq_true rfl) (by first | rfl | (simp only [idsV, idsH, pickL, getL, D.ids, Blk.ids, natbeq, Nat.reduceBEq, cond_true, cond_false, List.append_nil, List.nil_append, List.cons_append, idsL_lent hca1] <;> rfl))
    first | rfl | (simp only [go_sem, Nat.reduceBEq, Nat.reduceAdd, renL_lent hca1]; done) | (simp only [go_sem, Nat.reduceBEq, Nat.reduceAdd, renL_lent hca1]; rfl)
   ·exact rsi0
   ·rfl
theorem callP_slices_MinFunc_Wait_Wait (a0 : List TWait) (Ka1 : Nat) (ca1 : List D) (hca1 : ∀ hp, lends hp ca1 = (ca1, true)) (h2a1 : ∀ hp, lend2s hp ca1 = (ca1, true)) (h3a1 : ∀ hp, ids2s hp ca1 = []) (a1 : TWait → TWait → Option Int) (ha1 : ∀ x0 x1 y, a1 x0 x1 = some y → CallP Try.prog Ka1 (.agg [.int .i64 x0.Message.Id, .imm 1 (x0.Message.Groups.map (D.int .i64)) 4, .int .i64 x0.Message.Topic, .str x0.Message.Key, .str x0.Message.Body, .int .i64 x0.Time, .bool x0.Final] :: .agg [.int .i64 x1.Message.Id, .imm 1 (x1.Message.Groups.map (D.int .i64)) 4, .int .i64 x1.Message.Topic, .str x1.Message.Key, .str x1.Message.Body, .int .i64 x1.Time, .bool x1.Final] :: ca1) (.int .i64 y)) (r : TWait) (h : m_slices_MinFunc_Wait_Wait a0 a1 = some r) : CallP Try.prog 38 [.imm 7 (a0.map TWait.d) 4, .fn (.func Ka1) ca1] (.agg [.int .i64 r.Message.Id, .undef, .int .i64 r.Message.Topic, .str r.Message.Key, .str r.Message.Body, .int .i64 r.Time, .bool r.Final]) :=
 callP_of_callH rfl rfl (callH_res (.aggs (.cons (.refl _) (.cons (.un _) (.cons (.refl _) (.cons (.refl _) (.cons (.refl _) (.cons (.refl _) (.cons (.refl _) (.refl _))))))))) (callH_slices_MinFunc_Wait_Wait a0 Ka1 ca1 hca1 h2a1 h3a1 a1 ha1 r h))
def Try.St_slices_MinFunc_Wait_Wait_w_1 (a0 : List TWait) (n1 : Int) (l1 : List Int) (n2 : Int) (s1 : List UInt8) (s2 : List UInt8) (n3 : Int) (b1 : Bool) : St := ⟨[(0, .ref 20000 7 0 a0.length (some unkC)), (4, .ptr 20100 0), (5, .ptr 20101 0)], [(20000, .arr 52 7 true (a0.map TWait.n)), (20100, .box [.int .i64 0, .imm 0 [] 0, .int .i64 0, .str [], .str [], .int .i64 0, .bool false]), (20101, .box [.int .i64 n1, .imm 1 (l1.map (D.int .i64)) 13, .int .i64 n2, .str s1, .str s2, .int .i64 n3, .bool b1])], 20102⟩
attribute [local go_sem] Try.St_slices_MinFunc_Wait_Wait_w_1
def Try.St_slices_MinFunc_Wait_Wait_w_3 (a0 : List TWait) (Ka1 : Nat) (ca1 : List D) (n4 : Int) (l2 : List Int) (n5 : Int) (s3 : List UInt8) (s4 : List UInt8) (n6 : Int) (b2 : Bool) (n7 : Int) : St := ⟨[(0, .ref 20000 7 0 a0.length (some unkC)), (1, .fn (.func Ka1) ca1), (4, .ptr 20100 0), (5, .ptr 20101 0), (6, .int .i64 n7)], [(20000, .arr 52 7 true (a0.map TWait.n)), (20100, .box [.int .i64 0, .imm 0 [] 0, .int .i64 0, .str [], .str [], .int .i64 0, .bool false]), (20101, .box [.int .i64 n4, .imm 1 (l2.map (D.int .i64)) 13, .int .i64 n5, .str s3, .str s4, .int .i64 n6, .bool b2])], 20102⟩
attribute [local go_sem] Try.St_slices_MinFunc_Wait_Wait_w_3
def Try.St_slices_MinFunc_Wait_Wait_w_5 (a0 : List TWait) (Ka1 : Nat) (ca1 : List D) (n7 : Int) (n8 : Int) (l3 : List Int) (n9 : Int) (s5 : List UInt8) (s6 : List UInt8) (n10 : Int) (b3 : Bool) : St := ⟨[(0, .ref 20000 7 0 a0.length (some unkC)), (1, .fn (.func Ka1) ca1), (4, .ptr 20100 0), (5, .ptr 20101 0), (6, .int .i64 n7)], [(20000, .arr 52 7 true (a0.map TWait.n)), (20100, .box [.int .i64 0, .imm 0 [] 0, .int .i64 0, .str [], .str [], .int .i64 0, .bool false]), (20101, .box [.int .i64 n8, .imm 1 (l3.map (D.int .i64)) 13, .int .i64 n9, .str s5, .str s6, .int .i64 n10, .bool b3])], 20102⟩
attribute [local go_sem] Try.St_slices_MinFunc_Wait_Wait_w_5
def Try.Re_slices_MinFunc_Wait_Wait_w (a0 : List TWait) (r : TWait) : St := ⟨[(4, .ptr 20100 0)], [(20000, .arr 52 7 true (a0.map TWait.n)), (20100, .box [.int .i64 r.Message.Id, .imm 1 (r.Message.Groups.map (D.int .i64)) 13, .int .i64 r.Message.Topic, .str r.Message.Key, .str r.Message.Body, .int .i64 r.Time, .bool r.Final])], 20101⟩
attribute [local go_sem] Try.Re_slices_MinFunc_Wait_Wait_w
theorem callH_slices_MinFunc_Wait_Wait_w (a0 : List TWait) (Ka1 : Nat) (ca1 : List D) (hca1 : ∀ hp, lends hp ca1 = (ca1, true)) (h2a1 : ∀ hp, lend2s hp ca1 = (ca1, true)) (h3a1 : ∀ hp, ids2s hp ca1 = []) (a1 : TWait → TWait → Option Int) (ha1 : ∀ x0 x1 y, a1 x0 x1 = some y → CallP Try.prog Ka1 (.agg [.int .i64 x0.Message.Id, .imm 1 (x0.Message.Groups.map (D.int .i64)) 4, .int .i64 x0.Message.Topic, .str x0.Message.Key, .str x0.Message.Body, .int .i64 x0.Time, .bool x0.Final] :: .agg [.int .i64 x1.Message.Id, .imm 1 (x1.Message.Groups.map (D.int .i64)) 4, .int .i64 x1.Message.Topic, .str x1.Message.Key, .str x1.Message.Body, .int .i64 x1.Time, .bool x1.Final] :: ca1) (.int .i64 y)) (r : TWait) (h : m_slices_MinFunc_Wait_Wait_w a0 a1 = some r) : CallH Try.prog 38 [.ref 20000 7 0 a0.length (some unkC), .fn (.func Ka1) ca1] [(20000, .arr 52 7 true (a0.map TWait.n))] (.agg [.int .i64 r.Message.Id, .imm 1 (r.Message.Groups.map (D.int .i64)) 13, .int .i64 r.Message.Topic, .str r.Message.Key, .str r.Message.Body, .int .i64 r.Time, .bool r.Final]) [] (20100, 20104) := by
 refine callH_intro' Try.tmOk Try.func38 rfl (by decide) (Nat.le_of_ble_eq_true rfl) (by simp) ?_
 intro hwf
 unfold m_slices_MinFunc_Wait_Wait_w at h
 refine .ends 20100 (Nat.le_refl _) ?_
 refine .seq ?_
 refine .pl Try.S [0, 1] ?_
 refine .seq ?_
 refine .seq ?_
 refine .pl Try.S [0, 1, 4] ?_
 refine .cond rfl rfl (fun hc1 => ?_) (fun hc1 => ?_)
 ·skip
  replace h := ite_lc h hc1
  cases h
 ·skip
  replace h := ite_rc h hc1
  refine .skip ?_
  refine .seq ?_
  obtain ⟨k1, h⟩ := ite_ck h
  have e1 := nth_mapD TWait.n a0 0 k1
  refine .plx Try.S e1 [0, 1, 4] ?_
  obtain ⟨x1, hx1, h⟩ := bind_some h
  refine .seqM 20102 (fun (j : Int × (List Int) × Int × (List UInt8) × (List UInt8) × Int × Bool) => Try.St_slices_MinFunc_Wait_Wait_w_1 a0 j.1 j.2.1 j.2.2.1 j.2.2.2.1 j.2.2.2.2.1 j.2.2.2.2.2.1 j.2.2.2.2.2.2) (fun j => x1 = j) (Nat.le_of_ble_eq_true rfl) ?_ ?_
  ·skip
   refine .seq ?_
   refine .pl Try.S [0, 1, 4, 5] ?_
   refine .block ?_
   refine .loopG 20102 (fun (j : Nat × Int × (List Int) × Int × (List UInt8) × (List UInt8) × Int × Bool × Int) => Try.St_slices_MinFunc_Wait_Wait_w_3 a0 Ka1 ca1 j.2.1 j.2.2.1 j.2.2.2.1 j.2.2.2.2.1 j.2.2.2.2.2.1 j.2.2.2.2.2.2.1 j.2.2.2.2.2.2.2.1 j.2.2.2.2.2.2.2.2) (fun j => m_slices_MinFunc_Wait_Wait_w_loop1 a0 a1 j.1 j.2.1 j.2.2.1 j.2.2.2.1 j.2.2.2.2.1 j.2.2.2.2.2.1 j.2.2.2.2.2.2.1 j.2.2.2.2.2.2.2.1 j.2.2.2.2.2.2.2.2 = some x1) (fun j => j.1) (a0.length + 1, (a0.getD 0 default).Message.Id, (a0.getD 0 default).Message.Groups, (a0.getD 0 default).Message.Topic, (a0.getD 0 default).Message.Key, (a0.getD 0 default).Message.Body, (a0.getD 0 default).Time, (a0.getD 0 default).Final, 1) (Nat.le_of_ble_eq_true rfl) ?_ hx1 ?_
   ·skip
    refine Goes.mv [0, 1, 4, 5, 6] [20000, 20100, 20101] [] ?_ (Nat.le_of_ble_eq_true rfl) (Nat.le_of_ble_eq_true rfl) (by first | rfl | (simp only [idsV, idsH, pickL, getL, D.ids, Blk.ids, natbeq, Nat.reduceBEq, cond_true, cond_false, List.append_nil, List.nil_append, List.cons_append, idsL_lent hca1] <;> rfl))
    first | rfl | (simp only [go_sem, Nat.reduceBEq, Nat.reduceAdd, renL_lent hca1]; done) | (simp only [go_sem, Nat.reduceBEq, Nat.reduceAdd, renL_lent hca1]; rfl)
   rintro ⟨fu1, n4, l2, n5, s3, s4, n6, b2, n7⟩ hx1
   simp only [Try.St_slices_MinFunc_Wait_Wait_w_3]
   try simp only at hx1
   obtain ⟨fu1, rfl⟩ : ∃ k, fu1 = k + 1 := by cases fu1 with | zero => (rw [m_slices_MinFunc_Wait_Wait_w_loop1] at hx1; cases hx1) | succ k => exact ⟨k, rfl⟩
   rw [m_slices_MinFunc_Wait_Wait_w_loop1] at hx1
   refine .seq ?_
   refine .seq ?_
   refine .pl Try.S [0, 1, 4, 5, 6] ?_
   refine .cond rfl rfl (fun hc2 => ?_) (fun hc2 => ?_)
   ·skip
    replace hx1 := ite_lc hx1 hc2
    refine .skip ?_
    obtain ⟨x2, hx2, hx1⟩ := bind_some hx1
    refine .seqM 20102 (fun (j : Int × (List Int) × Int × (List UInt8) × (List UInt8) × Int × Bool) => Try.St_slices_MinFunc_Wait_Wait_w_5 a0 Ka1 ca1 n7 j.1 j.2.1 j.2.2.1 j.2.2.2.1 j.2.2.2.2.1 j.2.2.2.2.2.1 j.2.2.2.2.2.2) (fun j => x2 = j) (Nat.le_of_ble_eq_true rfl) ?_ ?_
    ·skip
     refine .block ?_
     refine .seq ?_
     obtain ⟨k2, hx2⟩ := ite_ck hx2
     obtain ⟨v1, hv1, hx2⟩ := bind_some hx2
     have e2 := nth_mapI TWait.n a0 n7
     replace e2 := e2 k2
     refine .rg Try.S [0, 1, 4, 5, 6] ?_
     refine .rdx 6 e2 ?_
     refine .call (r := .int .i64 v1) rfl rfl rfl rfl rfl (lends_cons rfl (lends_cons rfl (hca1 _))) (ha1 _ _ v1 hv1) ?_
     refine .rdx 1 e2 ?_
     refine .nil ⟨fun _ => schedB_of (by kernel_rfl), ?_⟩
     refine .cond rfl rfl (fun hc3 => ?_) (fun hc3 => ?_)
     ·skip
      replace hx2 := ite_lc hx2 hc3
      obtain ⟨k3, hx2⟩ := ite_ck hx2
      have e3 := nth_mapI TWait.n a0 n7
      replace e3 := e3 k3
      refine .plx Try.S e3 [0, 1, 4, 5, 6] ?_
      refine ⟨_, ?_, (Option.some.inj hx2).symm⟩
      refine Goes.mv [0, 1, 4, 5, 6] [20000, 20100, 20101] [] ?_ (Nat.le_of_ble_eq_true rfl) (Nat.le_of_ble_eq_true rfl) (by first | rfl | (simp only [idsV, idsH, pickL, getL, D.ids, Blk.ids, natbeq, Nat.reduceBEq, cond_true, cond_false, List.append_nil, List.nil_append, List.cons_append, idsL_lent hca1] <;> rfl))
      first | rfl | (simp only [go_sem, Nat.reduceBEq, Nat.reduceAdd, renL_lent hca1]; done) | (simp only [go_sem, Nat.reduceBEq, Nat.reduceAdd, renL_lent hca1]; rfl)
     ·skip
      replace hx2 := ite_rc hx2 hc3
      refine .skip ?_
      refine ⟨_, ?_, (Option.some.inj hx2).symm⟩
      refine Goes.mv [0, 1, 4, 5, 6] [20000, 20100, 20101] [] ?_ (Nat.le_of_ble_eq_true rfl) (Nat.le_of_ble_eq_true rfl) (by first | rfl | (simp only [idsV, idsH, pickL, getL, D.ids, Blk.ids, natbeq, Nat.reduceBEq, cond_true, cond_false, List.append_nil, List.nil_append, List.cons_append, idsL_lent hca1] <;> rfl))
      first | rfl | (simp only [go_sem, Nat.reduceBEq, Nat.reduceAdd, renL_lent hca1]; done) | (simp only [go_sem, Nat.reduceBEq, Nat.reduceAdd, renL_lent hca1]; rfl)
    ·skip
     rintro ⟨n8, l3, n9, s5, s6, n10, b3⟩ hj1
     subst x2
     try dsimp only at hx1
     simp only [Try.St_slices_MinFunc_Wait_Wait_w_5]
     refine .pl Try.S [0, 1, 4, 5, 6] ?_
     refine ⟨(fu1, _, _, _, _, _, _, _, _), ?_, hx1, by dsimp only; omega⟩
     refine Goes.mv [0, 1, 4, 5, 6] [20000, 20100, 20101] [] ?_ (Nat.le_of_ble_eq_true rfl) (Nat.le_of_ble_eq_true rfl) (by first | rfl | (simp only [idsV, idsH, pickL, getL, D.ids, Blk.ids, natbeq, Nat.reduceBEq, cond_true, cond_false, List.append_nil, List.nil_append, List.cons_append, idsL_lent hca1] <;> rfl))
     first | rfl | (simp only [go_sem, Nat.reduceBEq, Nat.reduceAdd, renL_lent hca1]; done) | (simp only [go_sem, Nat.reduceBEq, Nat.reduceAdd, renL_lent hca1]; rfl)
   ·skip
    replace hx1 := ite_rc hx1 hc2
    refine .exit ?_
    refine ⟨_, ?_, (Option.some.inj hx1).symm⟩
    refine Goes.mv [0, 4, 5] [20000, 20100, 20101] [] ?_ (Nat.le_of_ble_eq_true rfl) (Nat.le_of_ble_eq_true rfl) (by first | rfl | (simp only [idsV, idsH, pickL, getL, D.ids, Blk.ids, natbeq, Nat.reduceBEq, cond_true, cond_false, List.append_nil, List.nil_append, List.cons_append, idsL_lent hca1] <;> rfl))
    first | rfl | (simp only [go_sem, Nat.reduceBEq, Nat.reduceAdd, renL_lent hca1]; done) | (simp only [go_sem, Nat.reduceBEq, Nat.reduceAdd, renL_lent hca1]; rfl)
  ·skip
   rintro ⟨n1, l1, n2, s1, s2, n3, b1⟩ hj2
   subst x1
   try dsimp only at h
   simp only [Try.St_slices_MinFunc_Wait_Wait_w_1]
   refine .seq ?_
   refine .pl Try.S [0, 4, 5] ?_
   have hq := Option.some.inj h
   subst r
   refine .ret ⟨Try.Re_slices_MinFunc_Wait_Wait_w a0 (⟨(⟨n1, l1, n2, s1, s2⟩ : TMessage), n3, b1⟩ : TWait), ?_, .inr rfl, retH [20000] ?_ ?_⟩
   ·skip
    refine Goes.mv [4] [20000, 20100] [] ?_ (Nat.le_of_ble_eq_true rfl) (Nat.le_of_ble_eq_true rfl) (by first | rfl | (simp only [idsV, idsH, pickL, getL, D.ids, Blk.ids, natbeq, Nat.reduceBEq, cond_true, cond_false, List.append_nil, List.nil_append, List.cons_append, idsL_lent hca1] <;> rfl))
    first | rfl | (simp only [go_sem, Nat.reduceBEq, Nat.reduceAdd, renL_lent hca1]; done) | (simp only [go_sem, Nat.reduceBEq, Nat.reduceAdd, renL_lent hca1]; rfl)
   ·exact rsi0
   ·rfl
theorem callP_skeen_clock_find_1 (a0 : TWait) (a1 : Int) (r : Int) (h : m_skeen_clock_find_1 a0 a1 = some r) : CallP Try.prog 64 [.agg [.int .i64 a0.Message.Id, .imm 1 (a0.Message.Groups.map (D.int .i64)) 4, .int .i64 a0.Message.Topic, .str a0.Message.Key, .str a0.Message.Body, .int .i64 a0.Time, .bool a0.Final], .int .i64 a1] (.int .i64 r) := by
 refine callP_intro Try.tmOk 3 Try.func64 rfl (by decide) rfl rfl (Nat.le_of_ble_eq_true rfl) ?_
 intro hwf
 unfold m_skeen_clock_find_1 at h
 refine .seq ?_
 refine .pl Try.S [0, 1] ?_
 refine .seq ?_
 refine .pl Try.S [1, 2] ?_
 have hq := Option.some.inj h
 subst r
 exact .ret ⟨.inr rfl, rsi⟩
def Try.St_slices_BinarySearchFunc_Wait_Wait_int_1 (a0 : List TWait) (a1 : Int) (Ka2 : Nat) (ca2 : List D) (n1 : Int) : St := ⟨[(0, .imm 7 (a0.map TWait.d) 4), (1, .int .i64 a1), (2, .fn (.func Ka2) ca2), (8, .int .i64 (a0.length : Int)), (9, .int .i64 n1)], [], 0⟩
attribute [local go_sem] Try.St_slices_BinarySearchFunc_Wait_Wait_int_1
def Try.St_slices_BinarySearchFunc_Wait_Wait_int_3 (a0 : List TWait) (a1 : Int) (Ka2 : Nat) (ca2 : List D) (n2 : Int) (n3 : Int) : St := ⟨[(0, .imm 7 (a0.map TWait.d) 4), (1, .int .i64 a1), (2, .fn (.func Ka2) ca2), (8, .int .i64 (a0.length : Int)), (9, .int .i64 n2), (10, .int .i64 n3)], [], 0⟩
attribute [local go_sem] Try.St_slices_BinarySearchFunc_Wait_Wait_int_3
theorem callP_slices_BinarySearchFunc_Wait_Wait_int (a0 : List TWait) (a1 : Int) (Ka2 : Nat) (ca2 : List D) (hca2 : ∀ hp, lends hp ca2 = (ca2, true)) (h2a2 : ∀ hp, lend2s hp ca2 = (ca2, true)) (h3a2 : ∀ hp, ids2s hp ca2 = []) (a2 : TWait → Int → Option Int) (ha2 : ∀ x0 x1 y, a2 x0 x1 = some y → CallP Try.prog Ka2 (.agg [.int .i64 x0.Message.Id, .imm 1 (x0.Message.Groups.map (D.int .i64)) 4, .int .i64 x0.Message.Topic, .str x0.Message.Key, .str x0.Message.Body, .int .i64 x0.Time, .bool x0.Final] :: .int .i64 x1 :: ca2) (.int .i64 y)) (r : Int × Bool) (h : m_slices_BinarySearchFunc_Wait_Wait_int a0 a1 a2 = some r) : CallP Try.prog 63 [.imm 7 (a0.map TWait.d) 4, .int .i64 a1, .fn (.func Ka2) ca2] (.tuple [.int .i64 r.1, .bool r.2]) := by
 refine callP_intro Try.tmOk 2 Try.func63 rfl (by decide) rfl rfl (Nat.le_of_ble_eq_true rfl) ?_
 intro hwf
 unfold m_slices_BinarySearchFunc_Wait_Wait_int at h
 refine .seq ?_
 refine .pl Try.S [0, 1, 2] ?_
 refine .seq ?_
 refine .pl Try.S [0, 1, 2] ?_
 refine .seq ?_
 refine .pl Try.S [0, 1, 2, 8] ?_
 obtain ⟨x1, hx1, h⟩ := bind_some h
 refine .seqM 0 (fun (j : Int) => Try.St_slices_BinarySearchFunc_Wait_Wait_int_1 a0 a1 Ka2 ca2 j) (fun j => x1 = j) (Nat.le_of_ble_eq_true rfl) ?_ ?_
 ·skip
  refine .block ?_
  refine .loopG 0 (fun (j : Nat × Int × Int) => Try.St_slices_BinarySearchFunc_Wait_Wait_int_3 a0 a1 Ka2 ca2 j.2.1 j.2.2) (fun j => m_slices_BinarySearchFunc_Wait_Wait_int_loop1 a0 a1 a2 j.1 j.2.1 j.2.2 = some x1) (fun j => j.1) (a0.length + 1, 0, (a0.length : Int)) (Nat.le_of_ble_eq_true rfl) ?_ hx1 ?_
  ·skip
   refine Goes.mv [0, 1, 2, 8, 9, 10] [] [] ?_ (Nat.le_of_ble_eq_true rfl) (Nat.le_of_ble_eq_true rfl) (by first | rfl | (simp only [idsV, idsH, pickL, getL, D.ids, Blk.ids, natbeq, Nat.reduceBEq, cond_true, cond_false, List.append_nil, List.nil_append, List.cons_append, idsL_lent hca2] <;> rfl))
   first | rfl | (simp only [go_sem, Nat.reduceBEq, Nat.reduceAdd, renL_lent hca2]; done) | (simp only [go_sem, Nat.reduceBEq, Nat.reduceAdd, renL_lent hca2]; rfl)
  rintro ⟨fu1, n2, n3⟩ hx1
  simp only [Try.St_slices_BinarySearchFunc_Wait_Wait_int_3]
  try simp only at hx1
  obtain ⟨fu1, rfl⟩ : ∃ k, fu1 = k + 1 := by cases fu1 with | zero => (rw [m_slices_BinarySearchFunc_Wait_Wait_int_loop1] at hx1; cases hx1) | succ k => exact ⟨k, rfl⟩
  rw [m_slices_BinarySearchFunc_Wait_Wait_int_loop1] at hx1
  refine .seq ?_
  refine .seq ?_
  refine .pl Try.S [0, 1, 2, 8, 9, 10] ?_
  refine .cond rfl rfl (fun hc1 => ?_) (fun hc1 => ?_)
  ·skip
   replace hx1 := ite_lc hx1 hc1
   refine .skip ?_
   refine .block ?_
   refine .seq ?_
   refine .pl Try.S [0, 1, 2, 8, 9, 10] ?_
   refine .seq ?_
   obtain ⟨k1, hx1⟩ := ite_ck hx1
   obtain ⟨v1, hv1, hx1⟩ := bind_some hx1
   have e1 := nth_mapI TWait.d a0 (wr .i64 (shw false .u64 (wr .u64 (wr .i64 (n2 + n3))) 1))
   replace e1 := e1 k1
   refine .rg Try.S [0, 1, 2, 8, 9, 10, 11] ?_
   refine .rnx 6 e1 ?_
   refine .call (r := .int .i64 v1) rfl rfl rfl rfl rfl (lends_cons rfl (lends_cons rfl (hca2 _))) (ha2 _ _ v1 hv1) ?_
   refine .rnx 1 e1 ?_
   refine .nil ⟨nofun, ?_⟩
   refine .cond rfl rfl (fun hc2 => ?_) (fun hc2 => ?_)
   ·skip
    replace hx1 := ite_lc hx1 hc2
    refine .pl Try.S [0, 1, 2, 8, 10, 11] ?_
    refine ⟨(fu1, _, _), ?_, hx1, by dsimp only; omega⟩
    refine Goes.mv [0, 1, 2, 8, 9, 10] [] [] ?_ (Nat.le_of_ble_eq_true rfl) (Nat.le_of_ble_eq_true rfl) (by first | rfl | (simp only [idsV, idsH, pickL, getL, D.ids, Blk.ids, natbeq, Nat.reduceBEq, cond_true, cond_false, List.append_nil, List.nil_append, List.cons_append, idsL_lent hca2] <;> rfl))
    first | rfl | (simp only [go_sem, Nat.reduceBEq, Nat.reduceAdd, renL_lent hca2]; done) | (simp only [go_sem, Nat.reduceBEq, Nat.reduceAdd, renL_lent hca2]; rfl)
   ·skip
    replace hx1 := ite_rc hx1 hc2
    refine .pl Try.S [0, 1, 2, 8, 9, 11] ?_
    refine ⟨(fu1, _, _), ?_, hx1, by dsimp only; omega⟩
    refine Goes.mv [0, 1, 2, 8, 9, 10] [] [] ?_ (Nat.le_of_ble_eq_true rfl) (Nat.le_of_ble_eq_true rfl) (by first | rfl | (simp only [idsV, idsH, pickL, getL, D.ids, Blk.ids, natbeq, Nat.reduceBEq, cond_true, cond_false, List.append_nil, List.nil_append, List.cons_append, idsL_lent hca2] <;> rfl))
    first | rfl | (simp only [go_sem, Nat.reduceBEq, Nat.reduceAdd, renL_lent hca2]; done) | (simp only [go_sem, Nat.reduceBEq, Nat.reduceAdd, renL_lent hca2]; rfl)
  ·skip
   replace hx1 := ite_rc hx1 hc1
   refine .exit ?_
   refine ⟨_, ?_, (Option.some.inj hx1).symm⟩
   refine Goes.mv [0, 1, 2, 8, 9] [] [] ?_ (Nat.le_of_ble_eq_true rfl) (Nat.le_of_ble_eq_true rfl) (by first | rfl | (simp only [idsV, idsH, pickL, getL, D.ids, Blk.ids, natbeq, Nat.reduceBEq, cond_true, cond_false, List.append_nil, List.nil_append, List.cons_append, idsL_lent hca2] <;> rfl))
   first | rfl | (simp only [go_sem, Nat.reduceBEq, Nat.reduceAdd, renL_lent hca2]; done) | (simp only [go_sem, Nat.reduceBEq, Nat.reduceAdd, renL_lent hca2]; rfl)
 ·skip
  rintro n1 hj1
  subst x1
  try dsimp only at h
  simp only [Try.St_slices_BinarySearchFunc_Wait_Wait_int_1]
  obtain ⟨k2, h⟩ := ite_ck h
  obtain ⟨v2, hv2, h⟩ := bind_some h
  refine .seqM 0 (fun (_ : Unit) => ⟨[(6, .int .i64 n1), (7, .bool ((decide (n1 < (a0.length : Int))) && (v2 == 0)))], [], 0⟩) (fun _ => True) (Nat.le_of_ble_eq_true rfl) ?_ (fun _ _ => ?_)
  ·skip
   by_cases hgd : n1 < (a0.length : Int)
   ·skip
    have eg10 := nth_mapI TWait.d a0 n1 (k2 hgd)
    refine .rg Try.S [0, 1, 2, 8, 9] ?_
    refine .rnx 6 eg10 ?_
    refine .rnx 5 eg10 ?_
    refine .gcall (r := .int .i64 v2) rfl rfl rfl rfl rfl (fun hg => ⟨ca2, [.agg [.int .i64 ((a0.getD n1.toNat default).Message.Id), .imm 1 (((a0.getD n1.toNat default).Message.Groups).map (D.int .i64)) 4, .int .i64 ((a0.getD n1.toNat default).Message.Topic), .str ((a0.getD n1.toNat default).Message.Key), .str ((a0.getD n1.toNat default).Message.Body), .int .i64 ((a0.getD n1.toNat default).Time), .bool ((a0.getD n1.toNat default).Final)], .int .i64 a1], _, gd hg, gd hg, (lends_cons rfl (lends_cons rfl (hca2 _))), ha2 _ _ v2 (ite_lc hv2 hg)⟩) ?_
    refine .rnx 4 eg10 ?_
    refine .nil ⟨nofun, ?_⟩
    refine ⟨(), ?_, trivial⟩
    refine Goes.mv [6, 7] [] [] ?_ (Nat.le_of_ble_eq_true rfl) (Nat.le_of_ble_eq_true rfl) (by first | rfl | (simp only [idsV, idsH, pickL, getL, D.ids, Blk.ids, natbeq, Nat.reduceBEq, cond_true, cond_false, List.append_nil, List.nil_append, List.cons_append, idsL_lent hca2] <;> rfl))
    first | rfl | (simp only [go_sem, Nat.reduceBEq, Nat.reduceAdd, renL_lent hca2]; done) | (simp only [go_sem, Nat.reduceBEq, Nat.reduceAdd, renL_lent hca2]; rfl)
   ·skip
    have hgf1 : (decide (n1 < (a0.length : Int))) = false := by first | simpa using hgd | (simp at hgd ⊢; omega) | grind
    rcases nth_or TWait.d a0 n1.toNat with eg10 | eg10
    ·skip
     refine .rg Try.S [0, 1, 2, 8, 9] ?_
     refine .rnx 6 (And.intro eg10 hgf1) ?_
     refine .rnx 5 (And.intro eg10 hgf1) ?_
     refine .gcall (r := .int .i64 v2) rfl rfl rfl rfl rfl (fun hg => ⟨ca2, [.agg [.int .i64 ((a0.getD n1.toNat default).Message.Id), .imm 1 (((a0.getD n1.toNat default).Message.Groups).map (D.int .i64)) 4, .int .i64 ((a0.getD n1.toNat default).Message.Topic), .str ((a0.getD n1.toNat default).Message.Key), .str ((a0.getD n1.toNat default).Message.Body), .int .i64 ((a0.getD n1.toNat default).Time), .bool ((a0.getD n1.toNat default).Final)], .int .i64 a1], _, gd hg, gd hg, (lends_cons rfl (lends_cons rfl (hca2 _))), ha2 _ _ v2 (ite_lc hv2 hg)⟩) ?_
     refine .rnx 4 (And.intro eg10 hgf1) ?_
     refine .nil ⟨nofun, ?_⟩
     refine ⟨(), ?_, trivial⟩
     refine Goes.mv [6, 7] [] [] ?_ (Nat.le_of_ble_eq_true rfl) (Nat.le_of_ble_eq_true rfl) (by first | rfl | (simp only [idsV, idsH, pickL, getL, D.ids, Blk.ids, natbeq, Nat.reduceBEq, cond_true, cond_false, List.append_nil, List.nil_append, List.cons_append, idsL_lent hca2] <;> rfl))
     first | rfl | (simp only [hgf1, go_sem, Nat.reduceBEq, Nat.reduceAdd, renL_lent hca2, Bool.false_and, Bool.true_or, Bool.and_false]; done) | (simp only [hgf1, go_sem, Nat.reduceBEq, Nat.reduceAdd, renL_lent hca2, Bool.false_and, Bool.true_or, Bool.and_false]; rfl)
    ·skip
     refine .rg Try.S [0, 1, 2, 8, 9] ?_
     refine .rnx 6 (And.intro eg10 hgf1) ?_
     refine .rnx 5 (And.intro eg10 hgf1) ?_
     refine .gcall (r := .int .i64 v2) rfl rfl rfl rfl rfl (fun hg => ⟨ca2, [.agg [.int .i64 ((a0.getD n1.toNat default).Message.Id), .imm 1 (((a0.getD n1.toNat default).Message.Groups).map (D.int .i64)) 4, .int .i64 ((a0.getD n1.toNat default).Message.Topic), .str ((a0.getD n1.toNat default).Message.Key), .str ((a0.getD n1.toNat default).Message.Body), .int .i64 ((a0.getD n1.toNat default).Time), .bool ((a0.getD n1.toNat default).Final)], .int .i64 a1], _, gd hg, gd hg, (lends_cons rfl (lends_cons rfl (hca2 _))), ha2 _ _ v2 (ite_lc hv2 hg)⟩) ?_
     refine .rnx 4 (And.intro eg10 hgf1) ?_
     refine .nil ⟨nofun, ?_⟩
     refine ⟨(), ?_, trivial⟩
     refine Goes.mv [6, 7] [] [] ?_ (Nat.le_of_ble_eq_true rfl) (Nat.le_of_ble_eq_true rfl) (by first | rfl | (simp only [idsV, idsH, pickL, getL, D.ids, Blk.ids, natbeq, Nat.reduceBEq, cond_true, cond_false, List.append_nil, List.nil_append, List.cons_append, idsL_lent hca2] <;> rfl))
     first | rfl | (simp only [hgf1, go_sem, Nat.reduceBEq, Nat.reduceAdd, renL_lent hca2, Bool.false_and, Bool.true_or, Bool.and_false]; done) | (simp only [hgf1, go_sem, Nat.reduceBEq, Nat.reduceAdd, renL_lent hca2, Bool.false_and, Bool.true_or, Bool.and_false]; rfl)
  have hq := Option.some.inj h
  subst r
  exact .ret ⟨.inr rfl, rsi⟩
theorem callP_skeen_clock_find (a0 : Tskeen_clock) (a1 : Int) (r : Int × Bool) (h : m_skeen_clock_find a0 a1 = some r) : CallP Try.prog 27 [.iptr 0 [.int .i64 a0.Skeen.Clock, .imm 7 (a0.Skeen.Waits.map TWait.d) 4, .imm 2 (a0.Skeen.Done.map TStamp.d) 4], .int .i64 a1] (.tuple [.int .i64 r.1, .bool r.2]) := by
 refine callP_intro Try.tmOk 2 Try.func27 rfl (by decide) rfl rfl (Nat.le_of_ble_eq_true rfl) ?_
 intro hwf
 unfold m_skeen_clock_find at h
 refine .seq ?_
 refine .pl Try.S [0, 1] ?_
 refine .seq ?_
 obtain ⟨v1, hv1, h⟩ := bind_some h
 refine .rg Try.S [0, 1] ?_
 refine .rn 6 ?_
 refine .lcall (r := .tuple [.int .i64 v1.1, .bool v1.2]) [] rfl rfl rfl rfl rfl (lend2s_cons rfl (lend2s_cons rfl (lend2s_cons (lend2_fn lend2s_nil) lend2s_nil))) rfl (callP_slices_BinarySearchFunc_Wait_Wait_int a0.Skeen.Waits a1 64 [] (fun _ => rfl) (fun _ => rfl) (fun _ => rfl) m_skeen_clock_find_1 (fun x0 x1 y hy => callP_skeen_clock_find_1 x0 x1 y hy) v1 hv1) ?_
 refine .rn 4 ?_
 refine .nil ⟨nofun, ?_⟩
 have hq := Option.some.inj h
 subst r
 exact .ret ⟨.inr rfl, rsi⟩
def Try.St_slices_IndexFunc_Stamp_Stamp_1 : St := ⟨[], [], 0⟩
attribute [local go_sem] Try.St_slices_IndexFunc_Stamp_Stamp_1
def Try.St_slices_IndexFunc_Stamp_Stamp_3 (a0 : List TStamp) (Ka1 : Nat) (ca1 : List D) (n1 : Nat) : St := ⟨[(0, .imm 2 (a0.map TStamp.d) 4), (1, .fn (.func Ka1) ca1), (7, .int .i64 (a0.length : Int)), (8, .int .i64 (n1 : Int))], [], 0⟩
attribute [local go_sem] Try.St_slices_IndexFunc_Stamp_Stamp_3
theorem callP_slices_IndexFunc_Stamp_Stamp (a0 : List TStamp) (Ka1 : Nat) (ca1 : List D) (hca1 : ∀ hp, lends hp ca1 = (ca1, true)) (h2a1 : ∀ hp, lend2s hp ca1 = (ca1, true)) (h3a1 : ∀ hp, ids2s hp ca1 = []) (a1 : TStamp → Option Bool) (ha1 : ∀ x0 y, a1 x0 = some y → CallP Try.prog Ka1 (.agg [.int .i64 x0.Time, .int .i64 x0.Id] :: ca1) (.bool y)) (r : Int) (h : m_slices_IndexFunc_Stamp_Stamp a0 a1 = some r) : CallP Try.prog 78 [.imm 2 (a0.map TStamp.d) 4, .fn (.func Ka1) ca1] (.int .i64 r) := by
 refine callP_intro Try.tmOk 2 Try.func78 rfl (by decide) rfl rfl (Nat.le_of_ble_eq_true rfl) ?_
 intro hwf
 unfold m_slices_IndexFunc_Stamp_Stamp at h
 refine .seq ?_
 refine .pl Try.S [0, 1] ?_
 obtain ⟨x1, hx1, h⟩ := bind_some h
 refine .seqM 0 (fun (j : Unit) => Try.St_slices_IndexFunc_Stamp_Stamp_1) (fun j => x1 = (.inr j)) (Nat.le_of_ble_eq_true rfl) ?_ ?_
 ·skip
  refine .seq ?_
  refine .pl Try.S [0, 1] ?_
  refine .block ?_
  refine .loopG 0 (fun (j : Nat) => Try.St_slices_IndexFunc_Stamp_Stamp_3 a0 Ka1 ca1 j) (fun j => j ≤ a0.length ∧ m_slices_IndexFunc_Stamp_Stamp_loop1 a1 (a0.drop j) j  = some x1) (fun j => a0.length - j) (0) (Nat.le_of_ble_eq_true rfl) ?_ ⟨Nat.zero_le _, hx1⟩ ?_
  ·skip
   refine Goes.mv [0, 1, 7, 8] [] [] ?_ (Nat.le_of_ble_eq_true rfl) (Nat.le_of_ble_eq_true rfl) (by first | rfl | (simp only [idsV, idsH, pickL, getL, D.ids, Blk.ids, natbeq, Nat.reduceBEq, cond_true, cond_false, List.append_nil, List.nil_append, List.cons_append, idsL_lent hca1] <;> rfl))
   first | rfl | (simp only [go_sem, Nat.reduceBEq, Nat.reduceAdd, renL_lent hca1]; done) | (simp only [go_sem, Nat.reduceBEq, Nat.reduceAdd, renL_lent hca1]; rfl)
  rintro n1 ⟨hi1, hx1⟩
  simp only [Try.St_slices_IndexFunc_Stamp_Stamp_3]
  refine .wf 7 (.int .i64 (a0.length : Int)) rfl ?_
  intro hln1
  replace hln1 : (a0.length : Int) ≤ 9223372036854775807 := by simp only [wf, wfL, IntKind.max, IntKind.min, IntKind.signed, IntKind.bits, List.length_map] at hln1; first | exact hln1.2 | exact hln1.1 | (simp at hln1; omega)
  refine .seq ?_
  refine .pl Try.S [0, 1, 7, 8] ?_
  refine .seq ?_
  refine .cond rfl rfl (fun hc1 => ?_) (fun hc1 => ?_)
  ·skip
   have h1 : n1 < a0.length := by simpa using hc1
   have hwn1 : wr .i64 ((n1 : Int) + 1) = ((n1 + 1 : Nat) : Int) := wr_succ h1 hln1
   have hpn1 : wr .i64 ((n1 : Int) - 1) = (n1 : Int) - 1 := wr_pred h1 hln1
   rw [List.drop_eq_getElem_cons h1, m_slices_IndexFunc_Stamp_Stamp_loop1] at hx1
   refine .skip ?_
   refine .seq ?_
   refine .block ?_
   refine .seq ?_
   refine .plx Try.S hwn1 [0, 1, 7, 8] ?_
   refine .seq ?_
   obtain ⟨v1, hv1, hx1⟩ := bind_some hx1
   have e1 := nth_map TStamp.d a0 n1 h1
   refine .rg Try.S [0, 1, 5, 7, 8] ?_
   refine .rnx 5 (And.intro e1 hwn1) ?_
   refine .call (r := .bool v1) rfl rfl rfl rfl rfl (lends_cons rfl (hca1 _)) (ha1 _ v1 hv1) ?_
   refine .nil ⟨nofun, ?_⟩
   refine .cond rfl rfl (fun hc2 => ?_) (fun hc2 => ?_)
   ·skip
    replace hx1 := ite_lc hx1 hc2
    refine .seq ?_
    refine .plx Try.S hwn1 [5] ?_
    have hq := Option.some.inj hx1
    subst x1
    try dsimp only at h
    have hq := Option.some.inj h
    subst r
    exact .ret ⟨.inr rfl, rsi⟩
   ·skip
    replace hx1 := ite_rc hx1 hc2
    refine .skip ?_
    refine .plx Try.S hwn1 [0, 1, 7, 8] ?_
    refine ⟨n1 + 1, ?_, ⟨by omega, hx1⟩, by dsimp only; omega⟩
    refine Goes.mv [0, 1, 7, 8] [] [] ?_ (Nat.le_of_ble_eq_true rfl) (Nat.le_of_ble_eq_true rfl) (by first | rfl | (simp only [idsV, idsH, pickL, getL, D.ids, Blk.ids, natbeq, Nat.reduceBEq, cond_true, cond_false, List.append_nil, List.nil_append, List.cons_append, idsL_lent hca1] <;> rfl))
    first | rfl | (simp only [go_sem, Nat.reduceBEq, Nat.reduceAdd, renL_lent hca1]; done) | (simp only [go_sem, Nat.reduceBEq, Nat.reduceAdd, renL_lent hca1]; rfl)
  ·skip
   have h2 : n1 = a0.length := by have h2b := of_decide_eq_false hc1; omega
   rw [List.drop_of_length_le (by omega), m_slices_IndexFunc_Stamp_Stamp_loop1] at hx1
   refine .exit ?_
   refine ⟨_, ?_, (Option.some.inj hx1).symm⟩
   refine Goes.mv [] [] [] ?_ (Nat.le_of_ble_eq_true rfl) (Nat.le_of_ble_eq_true rfl) (by first | rfl | (simp only [idsV, idsH, pickL, getL, D.ids, Blk.ids, natbeq, Nat.reduceBEq, cond_true, cond_false, List.append_nil, List.nil_append, List.cons_append, idsL_lent hca1] <;> rfl))
   first | rfl | (simp only [go_sem, Nat.reduceBEq, Nat.reduceAdd, renL_lent hca1]; done) | (simp only [go_sem, Nat.reduceBEq, Nat.reduceAdd, renL_lent hca1]; rfl)
 ·skip
  rintro ⟨⟩ hj1
  subst x1
  try dsimp only at h
  simp only [Try.St_slices_IndexFunc_Stamp_Stamp_1]
  refine .seq ?_
  refine .pl Try.S [] ?_
  have hq := Option.some.inj h
  subst r
  exact .ret ⟨.inr rfl, rsi⟩
theorem callP_slices_ContainsFunc_Stamp_Stamp (a0 : List TStamp) (Ka1 : Nat) (ca1 : List D) (hca1 : ∀ hp, lends hp ca1 = (ca1, true)) (h2a1 : ∀ hp, lend2s hp ca1 = (ca1, true)) (h3a1 : ∀ hp, ids2s hp ca1 = []) (a1 : TStamp → Option Bool) (ha1 : ∀ x0 y, a1 x0 = some y → CallP Try.prog Ka1 (.agg [.int .i64 x0.Time, .int .i64 x0.Id] :: ca1) (.bool y)) (r : Bool) (h : m_slices_ContainsFunc_Stamp_Stamp a0 a1 = some r) : CallP Try.prog 71 [.imm 2 (a0.map TStamp.d) 4, .fn (.func Ka1) ca1] (.bool r) := by
 refine callP_intro Try.tmOk 2 Try.func71 rfl (by decide) rfl rfl (Nat.le_of_ble_eq_true rfl) ?_
 intro hwf
 unfold m_slices_ContainsFunc_Stamp_Stamp at h
 refine .seq ?_
 refine .pl Try.S [0, 1] ?_
 refine .seq ?_
 obtain ⟨v1, hv1, h⟩ := bind_some h
 refine .rg Try.S [0, 1] ?_
 refine .rn 2 ?_
 refine .lcall (r := .int .i64 v1) [] rfl rfl rfl rfl rfl (lend2s_cons rfl (lend2s_cons (lend2_fn (h2a1 _)) lend2s_nil)) (by show ids2s _ [.imm 2 (a0.map TStamp.d) 4, .fn (.func Ka1) ca1] = _; simp only [ids2s, ids2, List.append_nil, List.nil_append, List.cons_append, h3a1]) (callP_slices_IndexFunc_Stamp_Stamp a0 Ka1 ca1 hca1 h2a1 h3a1 a1 ha1 v1 hv1) ?_
 refine .rn 2 ?_
 refine .nil ⟨nofun, ?_⟩
 have hq := Option.some.inj h
 subst r
 exact .ret ⟨.inr rfl, rsi⟩
theorem callP_skeen_clock_done_1 (a0 : TStamp) (c0 : Int) (r : Bool) (h : m_skeen_clock_done_1 a0 c0 = some r) : CallP Try.prog 72 [.agg [.int .i64 a0.Time, .int .i64 a0.Id], .iptr 0 [.int .i64 c0]] (.bool r) := by
 refine callP_intro Try.tmOk 3 Try.func72 rfl (by decide) rfl rfl (Nat.le_of_ble_eq_true rfl) ?_
 intro hwf
 unfold m_skeen_clock_done_1 at h
 refine .seq ?_
 refine .pl Try.S [0, 1] ?_
 refine .seq ?_
 refine .pl Try.S [1, 2] ?_
 have hq := Option.some.inj h
 subst r
 exact .ret ⟨.inr rfl, rsi⟩
theorem callP_skeen_clock_done (a0 : Tskeen_clock) (a1 : Int) (r : Bool) (h : m_skeen_clock_done a0 a1 = some r) : CallP Try.prog 53 [.iptr 0 [.int .i64 a0.Skeen.Clock, .imm 7 (a0.Skeen.Waits.map TWait.d) 4, .imm 2 (a0.Skeen.Done.map TStamp.d) 4], .int .i64 a1] (.bool r) := by
 refine callP_intro Try.tmOk 3 Try.func53 rfl (by decide) rfl rfl (Nat.le_of_ble_eq_true rfl) ?_
 intro hwf
 unfold m_skeen_clock_done at h
 refine .seq ?_
 refine .pl Try.S [0, 1] ?_
 refine .seq ?_
 obtain ⟨v1, hv1, h⟩ := bind_some h
 refine .rg Try.S [0, 3] ?_
 refine .rn 6 ?_
 refine .lcall (r := .bool v1) [] rfl rfl rfl rfl rfl (lend2s_cons rfl (lend2s_cons (lend2_fn (lend2s_cons (lend2_ptr rfl (lends_cons rfl lends_nil)) lend2s_nil)) lend2s_nil)) rfl (callP_slices_ContainsFunc_Stamp_Stamp a0.Skeen.Done 72 [.iptr 0 [.int .i64 a1]] (fun _ => rfl) (fun _ => rfl) (fun _ => rfl) (fun x0 => m_skeen_clock_done_1 x0 a1) (fun x0 y hy => callP_skeen_clock_done_1 x0 a1 y hy) v1 hv1) ?_
 refine .rn 1 ?_
 refine .nil ⟨nofun, ?_⟩
 have hq := Option.some.inj h
 subst r
 exact .ret ⟨.inr rfl, rsi⟩
def Try.Re_slices_Clone_Stamp_Stamp (r : (List TStamp)) : St := ⟨[(2, .ref 0 2 0 r.length (some unkC))], [(0, .arr 70 2 true (r.map TStamp.d))], 1⟩
attribute [local go_sem] Try.Re_slices_Clone_Stamp_Stamp
theorem callH_slices_Clone_Stamp_Stamp (a0 : List TStamp) (r : (List TStamp)) (h : m_slices_Clone_Stamp_Stamp a0 = some r) : CallH Try.prog 30 [.imm 2 (a0.map TStamp.d) 4] [] (.ref 0 2 0 r.length (some unkC)) [(0, some (.arr 70 2 true (r.map TStamp.d)))] (0, 3) := by
 refine callH_intro' Try.tmOk Try.func30 rfl (by decide) (Nat.le_of_ble_eq_true rfl) (by simp) ?_
 intro hwf
 unfold m_slices_Clone_Stamp_Stamp at h
 refine .ends 0 (Nat.le_refl _) ?_
 refine .nil4 0 2 (a0.map TStamp.d) rfl ?_ (fun hl => ?_)
 ·skip
  refine .seq ?_
  refine .pl Try.S [0] ?_
  refine .seq ?_
  refine .seq ?_
  refine .pl Try.S [0] ?_
  refine .cond rfl rfl (fun hc => by cases hc) (fun hc => ?_)
  refine .skip ?_
  obtain ⟨k1, h⟩ := ite_ck h
  refine .seqM 0 (fun (_ : Unit) => ⟨[(2, .ref 0 2 0 a0.length (some unkC))], [(0, .arr 70 2 true (a0.map TStamp.d))], 1⟩) (fun _ => True) (Nat.le_of_ble_eq_true rfl) ?_ (fun _ _ => ?_)
  ·skip
   rcases list_cases a0 with hE1 | ⟨y, ys, hE1⟩
   ·skip
    have hM1 : a0.map TStamp.d = [] := by rw [hE1]; simp
    refine .plain Try.tmOk Try.tmMixed [0] (by decide +kernel) (by intro q hq; simp only [go_sem, Nat.reduceSub, Int.reduceEq, Nat.reduceLT, Nat.reduceDiv, Nat.reduceAdd, Nat.reduceBEq, Nat.reduceLeDiff, reduceCtorEq, Nat.reduceEqDiff, Nat.reduceMod, Nat.reduceMul, Try.tm_23, appendD_nil hM1, TStamp.d]; exact hq) (by first | rfl | (simp only [go_sem, Nat.reduceLeDiff]; done) | (simp only [go_sem, Nat.reduceLeDiff]; rfl) | (simp; done) | (simp [oneD] <;> omega) | (simp_all; done) | (simp_all [oneD] <;> omega)) (by first | exact Nat.le_refl _ | exact Nat.le_of_ble_eq_true rfl | (dsimp only; omega) | (simp <;> omega)) ?_
    refine ⟨(), ?_, trivial⟩
    refine Goes.new0 2 70 (Nat.le_of_ble_eq_true rfl) ?_
    refine Goes.wk 2 _ (.ref 0 2 0 0 (some unkC)) rfl (.own0 0 _ _ _ (by decide)) ?_
    exact .mx hE1 [2] [0] []
   ·skip
    have hM1 : a0.map TStamp.d ≠ [] := by rw [hE1]; simp
    refine .plain Try.tmOk Try.tmMixed [0] (by decide +kernel) (by intro q hq; simp only [go_sem, Nat.reduceSub, Int.reduceEq, Nat.reduceLT, Nat.reduceDiv, Nat.reduceAdd, Nat.reduceBEq, Nat.reduceLeDiff, reduceCtorEq, Nat.reduceEqDiff, Nat.reduceMod, Nat.reduceMul, Try.tm_23, appendD_cons hM1, TStamp.d]; exact hq) (by first | rfl | (simp only [go_sem, Nat.reduceLeDiff]; done) | (simp only [go_sem, Nat.reduceLeDiff]; rfl) | (simp; done) | (simp [oneD] <;> omega) | (simp_all; done) | (simp_all [oneD] <;> omega)) (by first | exact Nat.le_refl _ | exact Nat.le_of_ble_eq_true rfl | (dsimp only; omega) | (simp <;> omega)) ?_
    refine ⟨(), ?_, trivial⟩
    refine Goes.wk 2 _ (.ref 0 2 0 a0.length (some unkC)) rfl (.unk _ _ _ _ _) ?_
    exact .mx hE1 [2] [0] []
  have hq := Option.some.inj h
  subst r
  refine .ret ⟨Try.Re_slices_Clone_Stamp_Stamp a0, ?_, .inr rfl, retH [0] ?_ ?_⟩
  ·skip
   exact .m [2] [0] []
  ·exact rsi0
  ·rfl
 ·skip
  have hE0 : a0 = [] := by simpa using hl
  obtain ⟨k1, h⟩ := ite_ck h
  refine .seq ?_
  refine .pl Try.S [0] ?_
  refine .seq ?_
  refine .seq ?_
  refine .pl Try.S [0] ?_
  refine .cond rfl rfl (fun hc => ?_) (fun hc => by cases hc)
  refine .seq ?_
  refine .pl Try.S [] ?_
  have hq := Option.some.inj h
  subst r
  refine .ret ⟨Try.Re_slices_Clone_Stamp_Stamp a0, ?_, .inr rfl, retH [0] ?_ ?_⟩
  ·skip
   refine Goes.new0 2 70 (Nat.le_of_ble_eq_true rfl) ?_
   refine Goes.wk 2 _ (.ref 0 2 0 0 (some unkC)) rfl (.own0 0 _ _ _ (by decide)) ?_
   exact .mx hE0 [2] [0] []
  ·exact rsi0
  ·rfl
def Try.Re_slices_Clone_Wait_Wait (r : (List TWait)) : St := ⟨[(2, .ref 0 7 0 r.length (some unkC))], [(0, .arr 52 7 true (r.map TWait.d))], 1⟩
attribute [local go_sem] Try.Re_slices_Clone_Wait_Wait
theorem callH_slices_Clone_Wait_Wait (a0 : List TWait) (r : (List TWait)) (h : m_slices_Clone_Wait_Wait a0 = some r) : CallH Try.prog 29 [.imm 7 (a0.map TWait.d) 4] [] (.ref 0 7 0 r.length (some unkC)) [(0, some (.arr 52 7 true (r.map TWait.d)))] (0, 3) := by
 refine callH_intro' Try.tmOk Try.func29 rfl (by decide) (Nat.le_of_ble_eq_true rfl) (by simp) ?_
 intro hwf
 unfold m_slices_Clone_Wait_Wait at h
 refine .ends 0 (Nat.le_refl _) ?_
 refine .nil4 0 7 (a0.map TWait.d) rfl ?_ (fun hl => ?_)
 ·skip
  refine .seq ?_
  refine .pl Try.S [0] ?_
  refine .seq ?_
  refine .seq ?_
  refine .pl Try.S [0] ?_
  refine .cond rfl rfl (fun hc => by cases hc) (fun hc => ?_)
  refine .skip ?_
  obtain ⟨k1, h⟩ := ite_ck h
  refine .seqM 0 (fun (_ : Unit) => ⟨[(2, .ref 0 7 0 a0.length (some unkC))], [(0, .arr 52 7 true (a0.map TWait.d))], 1⟩) (fun _ => True) (Nat.le_of_ble_eq_true rfl) ?_ (fun _ _ => ?_)
  ·skip
   rcases list_cases a0 with hE1 | ⟨y, ys, hE1⟩
   ·skip
    have hM1 : a0.map TWait.d = [] := by rw [hE1]; simp
    refine .plain Try.tmOk Try.tmMixed [0] (by decide +kernel) (by intro q hq; simp only [go_sem, Nat.reduceSub, Int.reduceEq, Nat.reduceLT, Nat.reduceDiv, Nat.reduceAdd, Nat.reduceBEq, Nat.reduceLeDiff, reduceCtorEq, Nat.reduceEqDiff, Nat.reduceMod, Nat.reduceMul, Try.tm_22, appendD_nil hM1, TWait.d]; exact hq) (by first | rfl | (simp only [go_sem, Nat.reduceLeDiff]; done) | (simp only [go_sem, Nat.reduceLeDiff]; rfl) | (simp; done) | (simp [oneD] <;> omega) | (simp_all; done) | (simp_all [oneD] <;> omega)) (by first | exact Nat.le_refl _ | exact Nat.le_of_ble_eq_true rfl | (dsimp only; omega) | (simp <;> omega)) ?_
    refine ⟨(), ?_, trivial⟩
    refine Goes.new0 7 52 (Nat.le_of_ble_eq_true rfl) ?_
    refine Goes.wk 2 _ (.ref 0 7 0 0 (some unkC)) rfl (.own0 0 _ _ _ (by decide)) ?_
    exact .mx hE1 [2] [0] []
   ·skip
    have hM1 : a0.map TWait.d ≠ [] := by rw [hE1]; simp
    refine .plain Try.tmOk Try.tmMixed [0] (by decide +kernel) (by intro q hq; simp only [go_sem, Nat.reduceSub, Int.reduceEq, Nat.reduceLT, Nat.reduceDiv, Nat.reduceAdd, Nat.reduceBEq, Nat.reduceLeDiff, reduceCtorEq, Nat.reduceEqDiff, Nat.reduceMod, Nat.reduceMul, Try.tm_22, appendD_cons hM1, TWait.d]; exact hq) (by first | rfl | (simp only [go_sem, Nat.reduceLeDiff]; done) | (simp only [go_sem, Nat.reduceLeDiff]; rfl) | (simp; done) | (simp [oneD] <;> omega) | (simp_all; done) | (simp_all [oneD] <;> omega)) (by first | exact Nat.le_refl _ | exact Nat.le_of_ble_eq_true rfl | (dsimp only; omega) | (simp <;> omega)) ?_
    refine ⟨(), ?_, trivial⟩
    refine Goes.wk 2 _ (.ref 0 7 0 a0.length (some unkC)) rfl (.unk _ _ _ _ _) ?_
    exact .mx hE1 [2] [0] []
  have hq := Option.some.inj h
  subst r
  refine .ret ⟨Try.Re_slices_Clone_Wait_Wait a0, ?_, .inr rfl, retH [0] ?_ ?_⟩
  ·skip
   exact .m [2] [0] []
  ·exact rsi0
  ·rfl
 ·skip
  have hE0 : a0 = [] := by simpa using hl
  obtain ⟨k1, h⟩ := ite_ck h
  refine .seq ?_
  refine .pl Try.S [0] ?_
  refine .seq ?_
  refine .seq ?_
  refine .pl Try.S [0] ?_
  refine .cond rfl rfl (fun hc => ?_) (fun hc => by cases hc)
  refine .seq ?_
  refine .pl Try.S [] ?_
  have hq := Option.some.inj h
  subst r
  refine .ret ⟨Try.Re_slices_Clone_Wait_Wait a0, ?_, .inr rfl, retH [0] ?_ ?_⟩
  ·skip
   refine Goes.new0 7 52 (Nat.le_of_ble_eq_true rfl) ?_
   refine Goes.wk 2 _ (.ref 0 7 0 0 (some unkC)) rfl (.own0 0 _ _ _ (by decide)) ?_
   exact .mx hE0 [2] [0] []
  ·exact rsi0
  ·rfl
def Try.Re_skeen_clock_final (r : Tskeen_clock) : St := ⟨[(0, .ptr 20000 0)], [(20000, .box [.int .i64 r.Skeen.Clock, .ref 20100 7 0 r.Skeen.Waits.length (some unkC), .ref 20101 2 0 r.Skeen.Done.length (some unkC)]), (20100, .arr 52 7 true (r.Skeen.Waits.map TWait.n)), (20101, .arr 70 2 true (r.Skeen.Done.map TStamp.d))], 20102⟩
attribute [local go_sem] Try.Re_skeen_clock_final
theorem callH_skeen_clock_final (a0 : Tskeen_clock) (a1 : Int) (a2 : Int) (r : Tskeen_clock) (h : m_skeen_clock_final a0 a1 a2 = some r) : CallH Try.prog 23 [.ptr 20000 0, .int .i64 a1, .int .i64 a2] [(20000, .box [.int .i64 a0.Skeen.Clock, .ref 20001 7 0 a0.Skeen.Waits.length (some unkC), .ref 20002 2 0 a0.Skeen.Done.length (some unkC)]), (20001, .arr 52 7 true (a0.Skeen.Waits.map TWait.n)), (20002, .arr 70 2 true (a0.Skeen.Done.map TStamp.d))] (.tuple []) [(20000, some (.box [.int .i64 r.Skeen.Clock, .ref 20100 7 0 r.Skeen.Waits.length (some unkC), .ref 20101 2 0 r.Skeen.Done.length (some unkC)])), (20001, none), (20002, none), (20100, some (.arr 52 7 true (r.Skeen.Waits.map TWait.n))), (20101, some (.arr 70 2 true (r.Skeen.Done.map TStamp.d)))] (20100, 20104) := by
 refine callH_intro' Try.tmOk Try.func23 rfl (by decide) (Nat.le_of_ble_eq_true rfl) (by simp) ?_
 intro hwf
 unfold m_skeen_clock_final at h
 refine .ends 20100 (Nat.le_refl _) ?_
 refine .seq ?_
 obtain ⟨v1, hv1, h⟩ := bind_some h
 refine .rg Try.S [0, 1, 2] ?_
 refine .rn 2 ?_
 refine .lcall (r := .tuple [.int .i64 v1.1, .bool v1.2]) [20001, 20002] rfl rfl rfl rfl rfl (lend2s_cons (lend2_ptr rfl (lends_cons rfl (lends_cons (lend_refN pln_TWait (by first | rfl | (simp only [go_sem, Nat.reduceBEq]; rfl)) (by first | rfl | (simp; done) | (simp <;> omega))) (lends_cons (lend_ref pl_TStamp (by first | rfl | (simp only [go_sem, Nat.reduceBEq]; rfl)) (by first | rfl | (simp; done) | (simp <;> omega))) lends_nil)))) (lend2s_cons rfl lend2s_nil)) rfl (callP_skeen_clock_find a0 a1 v1 hv1) ?_
 refine .rn 5 ?_
 refine .nil ⟨nofun, ?_⟩
 refine .seq ?_
 obtain ⟨k1, h⟩ := ite_ck h
 obtain ⟨k2, h⟩ := ite_ck h
 refine .seqM 20100 (fun (_ : Unit) => ⟨[(0, .ptr 20000 0), (2, .int .i64 a2), (6, .int .i64 v1.1), (39, .bool (((!v1.2) || (a0.Skeen.Waits.getD v1.1.toNat default).Final) || (decide (a2 < (a0.Skeen.Waits.getD v1.1.toNat default).Time))))], [(20000, .box [.int .i64 a0.Skeen.Clock, .ref 20001 7 0 a0.Skeen.Waits.length (some unkC), .ref 20002 2 0 a0.Skeen.Done.length (some unkC)]), (20001, .arr 52 7 true (a0.Skeen.Waits.map TWait.n)), (20002, .arr 70 2 true (a0.Skeen.Done.map TStamp.d))], 20100⟩) (fun _ => True) (Nat.le_of_ble_eq_true rfl) ?_ (fun _ _ => ?_)
 ·skip
  by_cases hgd : ¬ (¬ (v1.2 = true))
  ·skip
   have eg10 := nth_mapI TWait.n a0.Skeen.Waits v1.1 (k1 hgd)
   by_cases hgd : ¬ ((¬ (v1.2 = true)) ∨ ((a0.Skeen.Waits.getD v1.1.toNat default).Final = true))
   ·skip
    have eg20 := nth_mapI TWait.n a0.Skeen.Waits v1.1 (k2 hgd)
    refine .rg Try.S [0, 2, 6, 7] ?_
    refine .rnx 6 (And.intro eg10 eg20) ?_
    refine .rnx 6 (And.intro eg10 eg20) ?_
    refine .rnx 6 (And.intro eg10 eg20) ?_
    refine .rnx 8 (And.intro eg10 eg20) ?_
    refine .nil ⟨nofun, ?_⟩
    refine ⟨(), ?_, trivial⟩
    exact .m [0, 2, 6, 39] [20000, 20001, 20002] []
   ·skip
    have hgf2 : (!((!v1.2) || (a0.Skeen.Waits.getD v1.1.toNat default).Final)) = false := by first | simpa using hgd | (simp at hgd ⊢; omega) | grind
    have hgf2t : ((!v1.2) || (a0.Skeen.Waits.getD v1.1.toNat default).Final) = true := by first | simpa using hgf2 | grind
    rcases nth_or TWait.n a0.Skeen.Waits v1.1.toNat with eg20 | eg20
    ·skip
     refine .rg Try.S [0, 2, 6, 7] ?_
     refine .rnx 6 (And.intro eg10 (And.intro eg20 (And.intro hgf2 hgf2t))) ?_
     refine .rnx 6 (And.intro eg10 (And.intro eg20 (And.intro hgf2 hgf2t))) ?_
     refine .rnx 6 (And.intro eg10 (And.intro eg20 (And.intro hgf2 hgf2t))) ?_
     refine .rnx 8 (And.intro eg10 (And.intro eg20 (And.intro hgf2 hgf2t))) ?_
     refine .nil ⟨nofun, ?_⟩
     refine ⟨(), ?_, trivial⟩
     exact .mx (And.intro hgf2 hgf2t) [0, 2, 6, 39] [20000, 20001, 20002] []
    ·skip
     refine .rg Try.S [0, 2, 6, 7] ?_
     refine .rnx 6 (And.intro eg10 (And.intro eg20 (And.intro hgf2 hgf2t))) ?_
     refine .rnx 6 (And.intro eg10 (And.intro eg20 (And.intro hgf2 hgf2t))) ?_
     refine .rnx 6 (And.intro eg10 (And.intro eg20 (And.intro hgf2 hgf2t))) ?_
     refine .rnx 8 (And.intro eg10 (And.intro eg20 (And.intro hgf2 hgf2t))) ?_
     refine .nil ⟨nofun, ?_⟩
     refine ⟨(), ?_, trivial⟩
     exact .mx (And.intro hgf2 hgf2t) [0, 2, 6, 39] [20000, 20001, 20002] []
  ·skip
   have hgf1 : (!(!v1.2)) = false := by first | simpa using hgd | (simp at hgd ⊢; omega) | grind
   have hgf1t : (!v1.2) = true := by first | simpa using hgf1 | grind
   rcases nth_or TWait.n a0.Skeen.Waits v1.1.toNat with eg10 | eg10
   ·skip
    by_cases hgd : ¬ ((¬ (v1.2 = true)) ∨ ((a0.Skeen.Waits.getD v1.1.toNat default).Final = true))
    ·skip
     have eg30 := nth_mapI TWait.n a0.Skeen.Waits v1.1 (k2 hgd)
     refine .rg Try.S [0, 2, 6, 7] ?_
     refine .rnx 6 (And.intro eg10 (And.intro hgf1 (And.intro hgf1t eg30))) ?_
     refine .rnx 6 (And.intro eg10 (And.intro hgf1 (And.intro hgf1t eg30))) ?_
     refine .rnx 6 (And.intro eg10 (And.intro hgf1 (And.intro hgf1t eg30))) ?_
     refine .rnx 8 (And.intro eg10 (And.intro hgf1 (And.intro hgf1t eg30))) ?_
     refine .nil ⟨nofun, ?_⟩
     refine ⟨(), ?_, trivial⟩
     exact .mx (And.intro hgf1 hgf1t) [0, 2, 6, 39] [20000, 20001, 20002] []
    ·skip
     have hgf3 : (!((!v1.2) || (a0.Skeen.Waits.getD v1.1.toNat default).Final)) = false := by first | simpa using hgd | (simp at hgd ⊢; omega) | grind
     have hgf3t : ((!v1.2) || (a0.Skeen.Waits.getD v1.1.toNat default).Final) = true := by first | simpa using hgf3 | grind
     rcases nth_or TWait.n a0.Skeen.Waits v1.1.toNat with eg30 | eg30
     ·skip
      refine .rg Try.S [0, 2, 6, 7] ?_
      refine .rnx 6 (And.intro eg10 (And.intro hgf1 (And.intro hgf1t (And.intro eg30 (And.intro hgf3 hgf3t))))) ?_
      refine .rnx 6 (And.intro eg10 (And.intro hgf1 (And.intro hgf1t (And.intro eg30 (And.intro hgf3 hgf3t))))) ?_
      refine .rnx 6 (And.intro eg10 (And.intro hgf1 (And.intro hgf1t (And.intro eg30 (And.intro hgf3 hgf3t))))) ?_
      refine .rnx 8 (And.intro eg10 (And.intro hgf1 (And.intro hgf1t (And.intro eg30 (And.intro hgf3 hgf3t))))) ?_
      refine .nil ⟨nofun, ?_⟩
      refine ⟨(), ?_, trivial⟩
      exact .mx (And.intro hgf1 (And.intro hgf1t (And.intro hgf3 hgf3t))) [0, 2, 6, 39] [20000, 20001, 20002] []
     ·skip
      refine .rg Try.S [0, 2, 6, 7] ?_
      refine .rnx 6 (And.intro eg10 (And.intro hgf1 (And.intro hgf1t (And.intro eg30 (And.intro hgf3 hgf3t))))) ?_
      refine .rnx 6 (And.intro eg10 (And.intro hgf1 (And.intro hgf1t (And.intro eg30 (And.intro hgf3 hgf3t))))) ?_
      refine .rnx 6 (And.intro eg10 (And.intro hgf1 (And.intro hgf1t (And.intro eg30 (And.intro hgf3 hgf3t))))) ?_
      refine .rnx 8 (And.intro eg10 (And.intro hgf1 (And.intro hgf1t (And.intro eg30 (And.intro hgf3 hgf3t))))) ?_
      refine .nil ⟨nofun, ?_⟩
      refine ⟨(), ?_, trivial⟩
      exact .mx (And.intro hgf1 (And.intro hgf1t (And.intro hgf3 hgf3t))) [0, 2, 6, 39] [20000, 20001, 20002] []
   ·skip
    by_cases hgd : ¬ ((¬ (v1.2 = true)) ∨ ((a0.Skeen.Waits.getD v1.1.toNat default).Final = true))
    ·skip
     have eg40 := nth_mapI TWait.n a0.Skeen.Waits v1.1 (k2 hgd)
     refine .rg Try.S [0, 2, 6, 7] ?_
     refine .rnx 6 (And.intro eg10 (And.intro hgf1 (And.intro hgf1t eg40))) ?_
     refine .rnx 6 (And.intro eg10 (And.intro hgf1 (And.intro hgf1t eg40))) ?_
     refine .rnx 6 (And.intro eg10 (And.intro hgf1 (And.intro hgf1t eg40))) ?_
     refine .rnx 8 (And.intro eg10 (And.intro hgf1 (And.intro hgf1t eg40))) ?_
     refine .nil ⟨nofun, ?_⟩
     refine ⟨(), ?_, trivial⟩
     exact .mx (And.intro hgf1 hgf1t) [0, 2, 6, 39] [20000, 20001, 20002] []
    ·skip
     have hgf4 : (!((!v1.2) || (a0.Skeen.Waits.getD v1.1.toNat default).Final)) = false := by first | simpa using hgd | (simp at hgd ⊢; omega) | grind
     have hgf4t : ((!v1.2) || (a0.Skeen.Waits.getD v1.1.toNat default).Final) = true := by first | simpa using hgf4 | grind
     rcases nth_or TWait.n a0.Skeen.Waits v1.1.toNat with eg40 | eg40
     ·skip
      refine .rg Try.S [0, 2, 6, 7] ?_
      refine .rnx 6 (And.intro eg10 (And.intro hgf1 (And.intro hgf1t (And.intro eg40 (And.intro hgf4 hgf4t))))) ?_
      refine .rnx 6 (And.intro eg10 (And.intro hgf1 (And.intro hgf1t (And.intro eg40 (And.intro hgf4 hgf4t))))) ?_
      refine .rnx 6 (And.intro eg10 (And.intro hgf1 (And.intro hgf1t (And.intro eg40 (And.intro hgf4 hgf4t))))) ?_
      refine .rnx 8 (And.intro eg10 (And.intro hgf1 (And.intro hgf1t (And.intro eg40 (And.intro hgf4 hgf4t))))) ?_
      refine .nil ⟨nofun, ?_⟩
      refine ⟨(), ?_, trivial⟩
      exact .mx (And.intro hgf1 (And.intro hgf1t (And.intro hgf4 hgf4t))) [0, 2, 6, 39] [20000, 20001, 20002] []
     ·skip
      refine .rg Try.S [0, 2, 6, 7] ?_
      refine .rnx 6 (And.intro eg10 (And.intro hgf1 (And.intro hgf1t (And.intro eg40 (And.intro hgf4 hgf4t))))) ?_
      refine .rnx 6 (And.intro eg10 (And.intro hgf1 (And.intro hgf1t (And.intro eg40 (And.intro hgf4 hgf4t))))) ?_
      refine .rnx 6 (And.intro eg10 (And.intro hgf1 (And.intro hgf1t (And.intro eg40 (And.intro hgf4 hgf4t))))) ?_
      refine .rnx 8 (And.intro eg10 (And.intro hgf1 (And.intro hgf1t (And.intro eg40 (And.intro hgf4 hgf4t))))) ?_
      refine .nil ⟨nofun, ?_⟩
      refine ⟨(), ?_, trivial⟩
      exact .mx (And.intro hgf1 (And.intro hgf1t (And.intro hgf4 hgf4t))) [0, 2, 6, 39] [20000, 20001, 20002] []
 refine .cond rfl rfl (fun hc1 => ?_) (fun hc1 => ?_)
 ·skip
  replace h := ite_lc h hc1
  have hq := Option.some.inj h
  subst r
  refine .ret ⟨Try.Re_skeen_clock_final a0, ?_, .inr rfl, retH [20000, 20101, 20100] ?_ ?_⟩
  ·skip
   exact .m [0] [20000, 20001, 20002] [(20001, 20100), (20002, 20101)]
  ·exact rsi0
  ·rfl
 ·skip
  replace h := ite_rc h hc1
  refine .skip ?_
  refine .seq ?_
  obtain ⟨k3, h⟩ := ite_ck h
  obtain ⟨k4, h⟩ := ite_ck h
  have e1 := nth_mapI TWait.n a0.Skeen.Waits v1.1
  have es1 := setN_map TWait.n a0.Skeen.Waits v1.1.toNat (⟨(a0.Skeen.Waits.getD v1.1.toNat default).Message, a2, (a0.Skeen.Waits.getD v1.1.toNat default).Final⟩ : TWait)
  have e2 := nth_mapI TWait.n (a0.Skeen.Waits.set v1.1.toNat (⟨(a0.Skeen.Waits.getD v1.1.toNat default).Message, a2, (a0.Skeen.Waits.getD v1.1.toNat default).Final⟩ : TWait)) v1.1
  have es2 := setN_map TWait.n (a0.Skeen.Waits.set v1.1.toNat (⟨(a0.Skeen.Waits.getD v1.1.toNat default).Message, a2, (a0.Skeen.Waits.getD v1.1.toNat default).Final⟩ : TWait)) v1.1.toNat (⟨((a0.Skeen.Waits.set v1.1.toNat (⟨(a0.Skeen.Waits.getD v1.1.toNat default).Message, a2, (a0.Skeen.Waits.getD v1.1.toNat default).Final⟩ : TWait)).getD v1.1.toNat default).Message, ((a0.Skeen.Waits.set v1.1.toNat (⟨(a0.Skeen.Waits.getD v1.1.toNat default).Message, a2, (a0.Skeen.Waits.getD v1.1.toNat default).Final⟩ : TWait)).getD v1.1.toNat default).Time, true⟩ : TWait)
  replace e1 := e1 k3
  replace es1 : setN (a0.Skeen.Waits.map TWait.n) v1.1.toNat (.agg [.int .i64 ((a0.Skeen.Waits.getD v1.1.toNat default).Message.Id), .imm 1 (((a0.Skeen.Waits.getD v1.1.toNat default).Message.Groups).map (D.int .i64)) 13, .int .i64 ((a0.Skeen.Waits.getD v1.1.toNat default).Message.Topic), .str ((a0.Skeen.Waits.getD v1.1.toNat default).Message.Key), .str ((a0.Skeen.Waits.getD v1.1.toNat default).Message.Body), .int .i64 a2, .bool ((a0.Skeen.Waits.getD v1.1.toNat default).Final)]) = (a0.Skeen.Waits.set v1.1.toNat (⟨(a0.Skeen.Waits.getD v1.1.toNat default).Message, a2, (a0.Skeen.Waits.getD v1.1.toNat default).Final⟩ : TWait)).map TWait.n := es1
  replace e2 := e2 k4
  replace es2 : setN ((a0.Skeen.Waits.set v1.1.toNat (⟨(a0.Skeen.Waits.getD v1.1.toNat default).Message, a2, (a0.Skeen.Waits.getD v1.1.toNat default).Final⟩ : TWait)).map TWait.n) v1.1.toNat (.agg [.int .i64 (((a0.Skeen.Waits.set v1.1.toNat (⟨(a0.Skeen.Waits.getD v1.1.toNat default).Message, a2, (a0.Skeen.Waits.getD v1.1.toNat default).Final⟩ : TWait)).getD v1.1.toNat default).Message.Id), .imm 1 ((((a0.Skeen.Waits.set v1.1.toNat (⟨(a0.Skeen.Waits.getD v1.1.toNat default).Message, a2, (a0.Skeen.Waits.getD v1.1.toNat default).Final⟩ : TWait)).getD v1.1.toNat default).Message.Groups).map (D.int .i64)) 13, .int .i64 (((a0.Skeen.Waits.set v1.1.toNat (⟨(a0.Skeen.Waits.getD v1.1.toNat default).Message, a2, (a0.Skeen.Waits.getD v1.1.toNat default).Final⟩ : TWait)).getD v1.1.toNat default).Message.Topic), .str (((a0.Skeen.Waits.set v1.1.toNat (⟨(a0.Skeen.Waits.getD v1.1.toNat default).Message, a2, (a0.Skeen.Waits.getD v1.1.toNat default).Final⟩ : TWait)).getD v1.1.toNat default).Message.Key), .str (((a0.Skeen.Waits.set v1.1.toNat (⟨(a0.Skeen.Waits.getD v1.1.toNat default).Message, a2, (a0.Skeen.Waits.getD v1.1.toNat default).Final⟩ : TWait)).getD v1.1.toNat default).Message.Body), .int .i64 (((a0.Skeen.Waits.set v1.1.toNat (⟨(a0.Skeen.Waits.getD v1.1.toNat default).Message, a2, (a0.Skeen.Waits.getD v1.1.toNat default).Final⟩ : TWait)).getD v1.1.toNat default).Time), .bool true]) = ((a0.Skeen.Waits.set v1.1.toNat (⟨(a0.Skeen.Waits.getD v1.1.toNat default).Message, a2, (a0.Skeen.Waits.getD v1.1.toNat default).Final⟩ : TWait)).set v1.1.toNat (⟨((a0.Skeen.Waits.set v1.1.toNat (⟨(a0.Skeen.Waits.getD v1.1.toNat default).Message, a2, (a0.Skeen.Waits.getD v1.1.toNat default).Final⟩ : TWait)).getD v1.1.toNat default).Message, ((a0.Skeen.Waits.set v1.1.toNat (⟨(a0.Skeen.Waits.getD v1.1.toNat default).Message, a2, (a0.Skeen.Waits.getD v1.1.toNat default).Final⟩ : TWait)).getD v1.1.toNat default).Time, true⟩ : TWait)).map TWait.n := es2
  refine .rg Try.S [0, 2, 6] ?_
  refine .rdx 6 (And.intro e1 (And.intro es1 (And.intro e2 es2))) ?_
  refine .rdx 6 (And.intro e1 (And.intro es1 (And.intro e2 es2))) ?_
  refine .rdx 7 (And.intro e1 (And.intro es1 (And.intro e2 es2))) ?_
  refine .nil ⟨fun _ => schedB_of (by kernel_rfl), ?_⟩
  refine .rg Try.S [0, 2] ?_
  refine .rn 6 ?_
  refine .rn 6 ?_
  refine .nil ⟨nofun, ?_⟩
  have hq := Option.some.inj h
  subst r
  refine ⟨Try.Re_skeen_clock_final (⟨(⟨(max a0.Skeen.Clock a2), ((a0.Skeen.Waits.set v1.1.toNat (⟨(a0.Skeen.Waits.getD v1.1.toNat default).Message, a2, (a0.Skeen.Waits.getD v1.1.toNat default).Final⟩ : TWait)).set v1.1.toNat (⟨((a0.Skeen.Waits.set v1.1.toNat (⟨(a0.Skeen.Waits.getD v1.1.toNat default).Message, a2, (a0.Skeen.Waits.getD v1.1.toNat default).Final⟩ : TWait)).getD v1.1.toNat default).Message, ((a0.Skeen.Waits.set v1.1.toNat (⟨(a0.Skeen.Waits.getD v1.1.toNat default).Message, a2, (a0.Skeen.Waits.getD v1.1.toNat default).Final⟩ : TWait)).getD v1.1.toNat default).Time, true⟩ : TWait)), a0.Skeen.Done⟩ : TSkeen)⟩ : Tskeen_clock), ?_, .inl rfl, retH [20000, 20101, 20100] ?_ ?_⟩
  ·skip
   exact .m [0] [20000, 20001, 20002] [(20001, 20100), (20002, 20101)]
  ·exact rsi0
  ·rfl
def Try.Re_skeen_clock_assign (r : Int × Tskeen_clock) : St := ⟨[(0, .ptr 20000 0), (6, .int .i64 r.1)], [(20000, .box [.int .i64 r.2.Skeen.Clock, .ref 20100 7 0 r.2.Skeen.Waits.length (some unkC), .ref 20101 2 0 r.2.Skeen.Done.length (some unkC)]), (20100, .arr 52 7 true (r.2.Skeen.Waits.map TWait.n)), (20101, .arr 70 2 true (r.2.Skeen.Done.map TStamp.d))], 20102⟩
attribute [local go_sem] Try.Re_skeen_clock_assign
theorem callH_skeen_clock_assign (a0 : Tskeen_clock) (a1 : Int) (a2 : TMessage) (r : Int × Tskeen_clock) (h : m_skeen_clock_assign a0 a1 a2 = some r) : CallH Try.prog 22 [.ptr 20000 0, .int .i64 a1, .agg [.int .i64 a2.Id, .imm 1 (a2.Groups.map (D.int .i64)) 4, .int .i64 a2.Topic, .str a2.Key, .str a2.Body]] [(20000, .box [.int .i64 a0.Skeen.Clock, .ref 20001 7 0 a0.Skeen.Waits.length (some unkC), .ref 20002 2 0 a0.Skeen.Done.length (some unkC)]), (20001, .arr 52 7 true (a0.Skeen.Waits.map TWait.n)), (20002, .arr 70 2 true (a0.Skeen.Done.map TStamp.d))] (.int .i64 r.1) [(20000, some (.box [.int .i64 r.2.Skeen.Clock, .ref 20100 7 0 r.2.Skeen.Waits.length (some unkC), .ref 20101 2 0 r.2.Skeen.Done.length (some unkC)])), (20001, none), (20002, none), (20100, some (.arr 52 7 true (r.2.Skeen.Waits.map TWait.n))), (20101, some (.arr 70 2 true (r.2.Skeen.Done.map TStamp.d)))] (20100, 20105) := by
 refine callH_intro' Try.tmOk Try.func22 rfl (by decide) (Nat.le_of_ble_eq_true rfl) (by simp) ?_
 intro hwf
 unfold m_skeen_clock_assign at h
 refine .ends 20100 (Nat.le_refl _) ?_
 refine .seq ?_
 refine .pl Try.S [0, 1, 2] ?_
 refine .seq ?_
 obtain ⟨v1, hv1, h⟩ := bind_some h
 refine .rg Try.S [0, 1, 5] ?_
 refine .rn 3 ?_
 refine .lcall (r := .tuple [.int .i64 v1.1, .bool v1.2]) [20001, 20002] rfl rfl rfl rfl rfl (lend2s_cons (lend2_ptr rfl (lends_cons rfl (lends_cons (lend_refN pln_TWait (by first | rfl | (simp only [go_sem, Nat.reduceBEq]; rfl)) (by first | rfl | (simp; done) | (simp <;> omega))) (lends_cons (lend_ref pl_TStamp (by first | rfl | (simp only [go_sem, Nat.reduceBEq]; rfl)) (by first | rfl | (simp; done) | (simp <;> omega))) lends_nil)))) (lend2s_cons rfl lend2s_nil)) rfl (callP_skeen_clock_find a0 a2.Id v1 hv1) ?_
 refine .rn 5 ?_
 refine .nil ⟨nofun, ?_⟩
 refine .seq ?_
 refine .seq ?_
 obtain ⟨v2, hv2, h⟩ := bind_some h
 obtain ⟨v3, hv3, h⟩ := bind_some h
 refine .rg Try.S [0, 1, 5, 7, 8] ?_
 refine .rn 5 ?_
 refine .glcall (r := .bool v2) [20001, 20002] rfl rfl rfl rfl rfl (fun hg => ⟨[], [.ptr 20000 0, .int .i64 a2.Id], _, rfl, gd hg, (lend2s_cons (lend2_ptr rfl (lends_cons rfl (lends_cons (lend_refN pln_TWait (by first | rfl | (simp only [go_sem, Nat.reduceBEq]; rfl)) (by first | rfl | (simp; done) | (simp <;> omega))) (lends_cons (lend_ref pl_TStamp (by first | rfl | (simp only [go_sem, Nat.reduceBEq]; rfl)) (by first | rfl | (simp; done) | (simp <;> omega))) lends_nil)))) (lend2s_cons rfl lend2s_nil)), rfl, (callP_skeen_clock_done a0 a2.Id v2 (ite_lc hv2 hg))⟩) ?_
 refine .rn 5 ?_
 refine .gcall (r := .bool v3) rfl rfl rfl rfl rfl (fun hg => ⟨[], [.imm 1 (a2.Groups.map (D.int .i64)) 4, .int .i64 a1], _, rfl, gd hg, rfl, (callP_slices_Contains_int_int a2.Groups a1 v3 (ite_lc hv3 hg))⟩) ?_
 refine .rn 2 ?_
 refine .nil ⟨nofun, ?_⟩
 refine .cond rfl rfl (fun hc1 => ?_) (fun hc1 => ?_)
 ·skip
  replace h := ite_lc h hc1
  refine .seq ?_
  refine .pl Try.S [0] ?_
  have hq := Option.some.inj h
  subst r
  refine .ret ⟨Try.Re_skeen_clock_assign (0, a0), ?_, .inr rfl, retH [20000, 20101, 20100] ?_ ?_⟩
  ·skip
   exact .m [0, 6] [20000, 20001, 20002] [(20001, 20100), (20002, 20101)]
  ·exact rsi0
  ·rfl
 ·skip
  replace h := ite_rc h hc1
  refine .skip ?_
  refine .seq ?_
  refine .seq ?_
  refine .rg Try.S [0, 5, 7] ?_
  refine .rn 6 ?_
  refine .rn 6 ?_
  refine .rn 3 ?_
  refine .nil ⟨nofun, ?_⟩
  refine .cond rfl rfl (fun hc2 => ?_) (fun hc2 => ?_)
  ·skip
   replace h := ite_lc h hc2
   refine .seq ?_
   refine .pl Try.S [0] ?_
   have hq := Option.some.inj h
   subst r
   refine .ret ⟨Try.Re_skeen_clock_assign (9, a0), ?_, .inr rfl, retH [20000, 20101, 20100] ?_ ?_⟩
   ·skip
    exact .m [0, 6] [20000, 20001, 20002] [(20001, 20100), (20002, 20101)]
   ·exact rsi0
   ·rfl
  ·skip
   replace h := ite_rc h hc2
   refine .skip ?_
   refine .seq ?_
   refine .rg Try.S [0, 5, 7] ?_
   refine .rn 6 ?_
   refine .rn 4 ?_
   refine .nil ⟨nofun, ?_⟩
   refine .seq ?_
   obtain ⟨v4, hv4, h⟩ := bind_some h
   refine .rg Try.S [0, 5, 7] ?_
   refine .rn 2 ?_
   refine .call (r := .imm 1 (v4.map (D.int .i64)) 13) rfl rfl rfl rfl rfl rfl (callP_slices_Clone_int_int a2.Groups v4 hv4) ?_
   refine .rn 2 ?_
   refine .nil ⟨nofun, ?_⟩
   refine .seq ?_
   obtain ⟨k1, h⟩ := ite_ck h
   obtain ⟨k2, h⟩ := ite_ck h
   refine .rg Try.S [0, 5, 7] ?_
   refine .rd 6 ?_
   refine .rd 6 ?_
   refine .rd 3 ?_
   refine .hcall (r := .ref 20102 7 0 (((a0.Skeen.Waits.take v1.1.toNat) ++ ((⟨(⟨a2.Id, v4, a2.Topic, a2.Key, a2.Body⟩ : TMessage), (wr .i64 (a0.Skeen.Clock + 1)), false⟩ : TWait) :: (a0.Skeen.Waits.drop v1.1.toNat))).length) (some unkC)) rfl rfl rfl rfl rfl (insT55n 20001 20101 20102 (by decide) (by decide) (by decide) a0.Skeen.Waits (⟨(⟨a2.Id, v4, a2.Topic, a2.Key, a2.Body⟩ : TMessage), (wr .i64 (a0.Skeen.Clock + 1)), false⟩ : TWait) v1.1 k1 k2) (fun id b h => getL_pick [20001, 20101] _ id b h) (by simp) (.inr ⟨Nat.le_refl _, Nat.le_of_ble_eq_true rfl⟩) ?_
   refine .rd 4 ?_
   refine .nil ⟨fun _ => schedB_of (by kernel_rfl), ?_⟩
   refine .seq ?_
   refine .pl Try.S [0] ?_
   have hq := Option.some.inj h
   subst r
   refine .ret ⟨Try.Re_skeen_clock_assign (0, (⟨(⟨(wr .i64 (a0.Skeen.Clock + 1)), ((a0.Skeen.Waits.take v1.1.toNat) ++ ((⟨(⟨a2.Id, v4, a2.Topic, a2.Key, a2.Body⟩ : TMessage), (wr .i64 (a0.Skeen.Clock + 1)), false⟩ : TWait) :: (a0.Skeen.Waits.drop v1.1.toNat))), a0.Skeen.Done⟩ : TSkeen)⟩ : Tskeen_clock)), ?_, .inr rfl, retH [20000, 20101, 20100] ?_ ?_⟩
   ·skip
    exact .m [0, 6] [20000, 20102, 20002] [(20102, 20100), (20002, 20101)]
   ·exact rsi0
   ·rfl
def Try.St_skeen_Twin_1 (a0 : TSkeen) (v2 : List TStamp) (l1 : List TWait) : St := ⟨[(1, .ptr 0 0), (2, .ptr 1 0)], [(0, .box [.int .i64 a0.Clock, .ref 9 7 0 l1.length (some unkC), .ref 6 2 0 v2.length (some unkC)]), (1, .box [.int .i64 0, .imm 0 [] 0, .imm 0 [] 0]), (6, .arr 70 2 true (v2.map TStamp.d)), (9, .arr 52 7 true (l1.map TWait.n))], 10⟩
attribute [local go_sem] Try.St_skeen_Twin_1
def Try.St_skeen_Twin_3 (a0 : TSkeen) (v1 : (List TWait)) (v2 : List TStamp) (l2 : List TWait) (n1 : Int) : St := ⟨[(1, .ptr 0 0), (2, .ptr 1 0), (14, .int .i64 (v1.length : Int)), (15, .int .i64 n1)], [(0, .box [.int .i64 a0.Clock, .ref 9 7 0 l2.length (some unkC), .ref 6 2 0 v2.length (some unkC)]), (1, .box [.int .i64 0, .imm 0 [] 0, .imm 0 [] 0]), (6, .arr 70 2 true (v2.map TStamp.d)), (9, .arr 52 7 true (mx TWait.n TWait.d n1.toNat l2))], 10⟩
attribute [local go_sem] Try.St_skeen_Twin_3
def Try.Re_skeen_Twin (r : TSkeen) : St := ⟨[(2, .ptr 2 0)], [(0, .arr 52 7 true (r.Waits.map TWait.n)), (1, .arr 70 2 true (r.Done.map TStamp.d)), (2, .box [.int .i64 r.Clock, .ref 0 7 0 r.Waits.length (some unkC), .ref 1 2 0 r.Done.length (some unkC)])], 3⟩
attribute [local go_sem] Try.Re_skeen_Twin
theorem callH_skeen_Twin (a0 : TSkeen) (r : TSkeen) (h : m_skeen_Twin a0 = some r) : CallH Try.prog 11 [.agg [.int .i64 a0.Clock, .imm 7 (a0.Waits.map TWait.d) 4, .imm 2 (a0.Done.map TStamp.d) 4]] [] (.agg [.int .i64 r.Clock, .ref 0 7 0 r.Waits.length (some unkC), .ref 1 2 0 r.Done.length (some unkC)]) [(0, some (.arr 52 7 true (r.Waits.map TWait.n))), (1, some (.arr 70 2 true (r.Done.map TStamp.d)))] (0, 12) := by
 refine callH_intro' Try.tmOk Try.func11 rfl (by decide) (Nat.le_of_ble_eq_true rfl) (by simp) ?_
 intro hwf
 unfold m_skeen_Twin at h
 refine .ends 0 (Nat.le_refl _) ?_
 refine .seq ?_
 refine .pl Try.S [0] ?_
 refine .seq ?_
 obtain ⟨v1, hv1, h⟩ := bind_some h
 obtain ⟨v2, hv2, h⟩ := bind_some h
 refine .rg Try.S [1, 2] ?_
 refine .rd 2 ?_
 refine .hcall (H := []) (eff := [(3, some (.arr 52 7 true (v1.map TWait.d)))]) (nw := (3, 6)) (r := .ref 3 7 0 v1.length (some unkC)) rfl rfl rfl rfl rfl (callH_at 3 (Nat.le_of_ble_eq_true rfl) (callH_slices_Clone_Wait_Wait a0.Waits v1 hv1)) (fun id b h => getL_pick [] _ id b h) (by simp) (.inr ⟨Nat.le_of_ble_eq_true rfl, Nat.le_of_ble_eq_true rfl⟩) ?_
 refine .rd 2 ?_
 refine .ncall (r := .ref 6 2 0 v2.length (some unkC)) (eff := [(6, some (.arr 70 2 true (v2.map TStamp.d)))]) (nw := (6, 9)) [] rfl rfl rfl rfl rfl (lend2s_cons rfl lend2s_nil) rfl (callH_at 6 (Nat.le_of_ble_eq_true rfl) (callH_slices_Clone_Stamp_Stamp a0.Done v2 hv2)) (newE_cons rfl rfl (newB_arr pl0_TStamp _ _ _) newE_nil) (by intro i hi; simp [D.ids, D.idsL] at hi <;> omega) rfl ⟨Nat.le_of_ble_eq_true rfl, Nat.le_of_ble_eq_true rfl⟩ ?_
 refine .rd 4 ?_
 refine .nil ⟨fun _ => schedB_of (by kernel_rfl), ?_⟩
 obtain ⟨x1, hx1, h⟩ := bind_some h
 refine .seqM 9 (fun (j : (List TWait)) => Try.St_skeen_Twin_1 a0 v2 j) (fun j => x1 = j) (Nat.le_of_ble_eq_true rfl) ?_ ?_
 ·skip
  refine .seq ?_
  refine .pl Try.S [1, 2] ?_
  refine .block ?_
  refine .loopG 9 (fun (j : Nat × (List TWait) × Int) => Try.St_skeen_Twin_3 a0 v1 v2 j.2.1 j.2.2) (fun j => m_skeen_Twin_loop1 v1 j.1 j.2.1 j.2.2 = some x1) (fun j => j.1) (a0.Waits.length + 1, v1, 0) (Nat.le_of_ble_eq_true rfl) ?_ hx1 ?_
  ·skip
   refine Goes.arr 3 (v1.map TWait.d) (mx TWait.n TWait.d (Int.toNat 0) v1) rfl (.mx0 _ _ _) ?_
   exact .m [1, 2, 14, 15] [0, 1, 6, 3] [(3, 9)]
  rintro ⟨fu1, l2, n1⟩ hx1
  simp only [Try.St_skeen_Twin_3]
  try simp only at hx1
  obtain ⟨fu1, rfl⟩ : ∃ k, fu1 = k + 1 := by cases fu1 with | zero => (rw [m_skeen_Twin_loop1] at hx1; cases hx1) | succ k => exact ⟨k, rfl⟩
  rw [m_skeen_Twin_loop1] at hx1
  refine .seq ?_
  refine .pl Try.S [1, 2, 14, 15] ?_
  refine .seq ?_
  refine .cond rfl rfl (fun hc1 => ?_) (fun hc1 => ?_)
  ·skip
   replace hx1 := ite_lc hx1 hc1
   refine .skip ?_
   refine .seq ?_
   refine .block ?_
   refine .seq ?_
   refine .pl Try.S [1, 2, 14, 15] ?_
   obtain ⟨k1, hx1⟩ := ite_ck hx1
   obtain ⟨v3, hv3, hx1⟩ := bind_some hx1
   obtain ⟨k2, hx1⟩ := ite_ck hx1
   have e1 := mx_nth TWait.n TWait.d (k := n1.toNat) (l := l2) (by omega)
   have e2 := mx_nth TWait.n TWait.d (k := n1.toNat) (l := l2) (by omega)
   have es1 := mx_set TWait.n TWait.d (k := n1.toNat) (l := l2) (⟨(⟨(l2.getD n1.toNat default).Message.Id, v3, (l2.getD n1.toNat default).Message.Topic, (l2.getD n1.toNat default).Message.Key, (l2.getD n1.toNat default).Message.Body⟩ : TMessage), (l2.getD n1.toNat default).Time, (l2.getD n1.toNat default).Final⟩ : TWait) (by omega)
   replace es1 : setN (mx TWait.n TWait.d n1.toNat l2) n1.toNat (.agg [.int .i64 ((l2.getD n1.toNat default).Message.Id), .imm 1 (v3.map (D.int .i64)) 13, .int .i64 ((l2.getD n1.toNat default).Message.Topic), .str ((l2.getD n1.toNat default).Message.Key), .str ((l2.getD n1.toNat default).Message.Body), .int .i64 ((l2.getD n1.toNat default).Time), .bool ((l2.getD n1.toNat default).Final)]) = mx TWait.n TWait.d (n1.toNat + 1) (l2.set n1.toNat (⟨(⟨(l2.getD n1.toNat default).Message.Id, v3, (l2.getD n1.toNat default).Message.Topic, (l2.getD n1.toNat default).Message.Key, (l2.getD n1.toNat default).Message.Body⟩ : TMessage), (l2.getD n1.toNat default).Time, (l2.getD n1.toNat default).Final⟩ : TWait)) := es1
   refine .rg Try.S [1, 2, 3, 14, 15] ?_
   refine .rdx 6 (And.intro e1 (And.intro e2 es1)) ?_
   refine .rdx 4 (And.intro e1 (And.intro e2 es1)) ?_
   refine .call (r := .imm 1 (v3.map (D.int .i64)) 13) rfl rfl rfl rfl rfl rfl (callP_slices_Clone_int_int ((l2.getD n1.toNat default).Message.Groups) v3 hv3) ?_
   refine .rdx 4 (And.intro e1 (And.intro e2 es1)) ?_
   refine .nil ⟨fun _ => schedB_of (by kernel_rfl), ?_⟩
   refine .pl Try.S [1, 2, 14, 15] ?_
   refine ⟨(fu1, _, _), ?_, hx1, by dsimp only; omega⟩
   refine Goes.arr 9 (mx TWait.n TWait.d (n1.toNat + 1) (l2.set n1.toNat (⟨(⟨(l2.getD n1.toNat default).Message.Id, v3, (l2.getD n1.toNat default).Message.Topic, (l2.getD n1.toNat default).Message.Key, (l2.getD n1.toNat default).Message.Body⟩ : TMessage), (l2.getD n1.toNat default).Time, (l2.getD n1.toNat default).Final⟩ : TWait))) (mx TWait.n TWait.d ((wr .i64 (n1 + 1)).toNat) (l2.set n1.toNat (⟨(⟨(l2.getD n1.toNat default).Message.Id, v3, (l2.getD n1.toNat default).Message.Topic, (l2.getD n1.toNat default).Message.Key, (l2.getD n1.toNat default).Message.Body⟩ : TMessage), (l2.getD n1.toNat default).Time, (l2.getD n1.toNat default).Final⟩ : TWait))) rfl (.mxk _ _ _ (toNat_succ k1 k2)) ?_
   exact .m [1, 2, 14, 15] [0, 1, 6, 9] []
  ·skip
   replace hx1 := ite_rc hx1 hc1
   refine .exit ?_
   obtain ⟨k3, hx1⟩ := ite_ck hx1
   refine ⟨_, ?_, (Option.some.inj hx1).symm⟩
   refine Goes.arr 9 (mx TWait.n TWait.d n1.toNat l2) (l2.map TWait.n) rfl (.mxe _ _ k3) ?_
   exact .m [1, 2] [0, 1, 6, 9] []
 ·skip
  rintro l1 hj1
  subst x1
  try dsimp only at h
  simp only [Try.St_skeen_Twin_1]
  refine .seq ?_
  refine .pl Try.S [1, 2] ?_
  have hq := Option.some.inj h
  subst r
  refine .ret ⟨Try.Re_skeen_Twin (⟨a0.Clock, l1, v2⟩ : TSkeen), ?_, .inr rfl, retH [1, 0] ?_ ?_⟩
  ·skip
   exact .m [2] [9, 6, 1] [(9, 0), (6, 1), (1, 2)]
  ·exact rsi0
  ·rfl
def Try.Re_skeen_New (r : TSkeen) : St := ⟨[(0, .ptr 0 0)], [(0, .box [.int .i64 r.Clock, .imm 7 (r.Waits.map TWait.d) 13, .imm 2 (r.Done.map TStamp.d) 13])], 1⟩
attribute [local go_sem] Try.Re_skeen_New
theorem callH_skeen_New (r : TSkeen) (h : m_skeen_New  = some r) : CallH Try.prog 17 [] [] (.agg [.int .i64 r.Clock, .imm 7 (r.Waits.map TWait.d) 13, .imm 2 (r.Done.map TStamp.d) 13]) [] (0, 3) := by
 refine callH_intro' Try.tmOk Try.func17 rfl (by decide) (Nat.le_of_ble_eq_true rfl) (by simp) ?_
 intro hwf
 unfold m_skeen_New at h
 refine .ends 0 (Nat.le_refl _) ?_
 refine .seq ?_
 refine .pl Try.S [] ?_
 refine .seq ?_
 refine .pl Try.S [0] ?_
 have hq := Option.some.inj h
 subst r
 refine .ret ⟨Try.Re_skeen_New (⟨0, [], []⟩ : TSkeen), ?_, .inr rfl, retH [] ?_ ?_⟩
 ·skip
  refine Goes.boxs 0 _ [.int .i64 0, .imm 7 [] 13, .imm 2 [] 13] rfl (.keep (.cons (.nil12 _ _ 0 (by decide)) (.cons (.nil12 _ _ 0 (by decide)) (.refl _)))) ?_
  exact .m [0] [0] []
 ·exact rsi0
 ·rfl
theorem callP_skeen_New (r : TSkeen) (h : m_skeen_New  = some r) : CallP Try.prog 17 [] (.agg [.int .i64 r.Clock, .imm 7 (r.Waits.map TWait.d) 13, .imm 2 (r.Done.map TStamp.d) 13]) :=
 callP_frz (frz_agg (frzs_cons rfl (frzs_cons rfl (frzs_cons rfl frzs_nil)))) (callH_skeen_New  r h)
theorem callP_skeen_Same_1 (a0 : TWait) (a1 : TWait) (r : Bool) (h : m_skeen_Same_1 a0 a1 = some r) : CallP Try.prog 48 [.agg [.int .i64 a0.Message.Id, .imm 1 (a0.Message.Groups.map (D.int .i64)) 4, .int .i64 a0.Message.Topic, .str a0.Message.Key, .str a0.Message.Body, .int .i64 a0.Time, .bool a0.Final], .agg [.int .i64 a1.Message.Id, .imm 1 (a1.Message.Groups.map (D.int .i64)) 4, .int .i64 a1.Message.Topic, .str a1.Message.Key, .str a1.Message.Body, .int .i64 a1.Time, .bool a1.Final]] (.bool r) := by
 refine callP_intro Try.tmOk 4 Try.func48 rfl (by decide) rfl rfl (Nat.le_of_ble_eq_true rfl) ?_
 intro hwf
 unfold m_skeen_Same_1 at h
 refine .seq ?_
 refine .pl Try.S [0, 1] ?_
 refine .seq ?_
 obtain ⟨v1, hv1, h⟩ := bind_some h
 refine .rg Try.S [2, 3] ?_
 refine .rn 4 ?_
 refine .call (r := .bool v1) rfl rfl rfl rfl rfl rfl (callP_command_SameMessage a0.Message a1.Message v1 hv1) ?_
 refine .rn 6 ?_
 refine .rn 6 ?_
 refine .rn 3 ?_
 refine .nil ⟨nofun, ?_⟩
 have hq := Option.some.inj h
 subst r
 exact .ret ⟨.inr rfl, rsi⟩
theorem callP_skeen_Same (a0 : TSkeen) (a1 : TSkeen) (r : Bool) (h : m_skeen_Same a0 a1 = some r) : CallP Try.prog 16 [.agg [.int .i64 a0.Clock, .imm 7 (a0.Waits.map TWait.d) 4, .imm 2 (a0.Done.map TStamp.d) 4], .agg [.int .i64 a1.Clock, .imm 7 (a1.Waits.map TWait.d) 4, .imm 2 (a1.Done.map TStamp.d) 4]] (.bool r) := by
 refine callP_intro Try.tmOk 4 Try.func16 rfl (by decide) rfl rfl (Nat.le_of_ble_eq_true rfl) ?_
 intro hwf
 unfold m_skeen_Same at h
 refine .seq ?_
 refine .pl Try.S [0, 1] ?_
 refine .seq ?_
 obtain ⟨v1, hv1, h⟩ := bind_some h
 obtain ⟨v2, hv2, h⟩ := bind_some h
 refine .rg Try.S [2, 3] ?_
 refine .rn 6 ?_
 refine .rn 4 ?_
 refine .gcall (r := .bool v1) rfl rfl rfl rfl rfl (fun hg => ⟨[], [.imm 2 (a0.Done.map TStamp.d) 4, .imm 2 (a1.Done.map TStamp.d) 4], _, rfl, gd hg, rfl, (callP_slices_Equal_Stamp_Stamp a0.Done a1.Done v1 (ite_lc hv1 hg))⟩) ?_
 refine .rn 6 ?_
 refine .glcall (r := .bool v2) [] rfl rfl rfl rfl rfl (fun hg => ⟨[], [.imm 7 (a0.Waits.map TWait.d) 4, .imm 7 (a1.Waits.map TWait.d) 4, .fn (.func 48) []], _, rfl, gd hg, (lend2s_cons rfl (lend2s_cons rfl (lend2s_cons (lend2_fn lend2s_nil) lend2s_nil))), rfl, (callP_slices_EqualFunc_Wait_Wait_Wait_Wait a0.Waits a1.Waits 48 [] (fun _ => rfl) (fun _ => rfl) (fun _ => rfl) m_skeen_Same_1 (fun x0 x1 y hy => callP_skeen_Same_1 x0 x1 y hy) v2 (ite_lc hv2 hg))⟩) ?_
 refine .rn 2 ?_
 refine .nil ⟨nofun, ?_⟩
 have hq := Option.some.inj h
 subst r
 exact .ret ⟨.inr rfl, rsi⟩
theorem callP_towncrierref14_Less (a0 : TStamp) (a1 : TStamp) (r : Bool) (h : m_towncrierref14_Less a0 a1 = some r) : CallP Try.prog 41 [.agg [.int .i64 a0.Time, .int .i64 a0.Id], .agg [.int .i64 a1.Time, .int .i64 a1.Id]] (.bool r) := by
 refine callP_intro Try.tmOk 4 Try.func41 rfl (by decide) rfl rfl (Nat.le_of_ble_eq_true rfl) ?_
 intro hwf
 unfold m_towncrierref14_Less at h
 refine .seq ?_
 refine .pl Try.S [0, 1] ?_
 refine .seq ?_
 refine .rg Try.S [2, 3] ?_
 refine .rn 6 ?_
 refine .rn 6 ?_
 refine .rn 8 ?_
 refine .nil ⟨nofun, ?_⟩
 have hq := Option.some.inj h
 subst r
 exact .ret ⟨.inr rfl, rsi⟩
theorem callP_towncrierref14_May (a0 : TStamp) (r : Bool) (h : m_towncrierref14_May a0 = some r) : CallP Try.prog 40 [.agg [.int .i64 a0.Time, .int .i64 a0.Id]] (.bool r) := by
 refine callP_intro Try.tmOk 3 Try.func40 rfl (by decide) rfl rfl (Nat.le_of_ble_eq_true rfl) ?_
 intro hwf
 unfold m_towncrierref14_May at h
 refine .seq ?_
 refine .pl Try.S [0] ?_
 refine .seq ?_
 refine .rg Try.S [1] ?_
 refine .rn 6 ?_
 refine .rn 6 ?_
 refine .rn 7 ?_
 refine .nil ⟨nofun, ?_⟩
 have hq := Option.some.inj h
 subst r
 exact .ret ⟨.inr rfl, rsi⟩
theorem callP_towncrierref12_In (a0 : Int) (a1 : Int) (a2 : Int) (r : Bool) (h : m_towncrierref12_In a0 a1 a2 = some r) : CallP Try.prog 58 [.int .i64 a0, .int .i64 a1, .int .i64 a2] (.bool r) := by
 refine callP_intro Try.tmOk 2 Try.func58 rfl (by decide) rfl rfl (Nat.le_of_ble_eq_true rfl) ?_
 intro hwf
 unfold m_towncrierref12_In at h
 refine .seq ?_
 refine .pl Try.S [0, 1, 2] ?_
 refine .seq ?_
 refine .rg Try.S [0, 1, 2] ?_
 refine .rn 6 ?_
 refine .rn 3 ?_
 refine .nil ⟨nofun, ?_⟩
 have hq := Option.some.inj h
 subst r
 exact .ret ⟨.inr rfl, rsi⟩
theorem callP_towncrierref12_Id (a0 : Int) (r : Bool) (h : m_towncrierref12_Id a0 = some r) : CallP Try.prog 57 [.int .i64 a0] (.bool r) := by
 refine callP_intro Try.tmOk 2 Try.func57 rfl (by decide) rfl rfl (Nat.le_of_ble_eq_true rfl) ?_
 intro hwf
 unfold m_towncrierref12_Id at h
 refine .seq ?_
 refine .pl Try.S [0] ?_
 refine .seq ?_
 obtain ⟨v1, hv1, h⟩ := bind_some h
 refine .rg Try.S [0] ?_
 refine .rn 1 ?_
 refine .call (r := .bool v1) rfl rfl rfl rfl rfl rfl (callP_towncrierref12_In a0 0 6291456 v1 hv1) ?_
 refine .rn 1 ?_
 refine .nil ⟨nofun, ?_⟩
 have hq := Option.some.inj h
 subst r
 exact .ret ⟨.inr rfl, rsi⟩
def Try.St_towncrierref12_MayMessage_1 (a0 : TMessage) : St := ⟨[(1, .ptr 0 0)], [(0, .box [.int .i64 a0.Id, .imm 1 (a0.Groups.map (D.int .i64)) 4, .int .i64 a0.Topic, .str a0.Key, .str a0.Body])], 1⟩
attribute [local go_sem] Try.St_towncrierref12_MayMessage_1
def Try.St_towncrierref12_MayMessage_3 (a0 : TMessage) (n1 : Nat) : St := ⟨[(1, .ptr 0 0), (3, .int .i64 (n1 : Int))], [(0, .box [.int .i64 a0.Id, .imm 1 (a0.Groups.map (D.int .i64)) 4, .int .i64 a0.Topic, .str a0.Key, .str a0.Body])], 1⟩
attribute [local go_sem] Try.St_towncrierref12_MayMessage_3
theorem callP_towncrierref12_MayMessage (a0 : TMessage) (r : Bool) (h : m_towncrierref12_MayMessage a0 = some r) : CallP Try.prog 42 [.agg [.int .i64 a0.Id, .imm 1 (a0.Groups.map (D.int .i64)) 4, .int .i64 a0.Topic, .str a0.Key, .str a0.Body]] (.bool r) := by
 refine callP_intro Try.tmOk 3 Try.func42 rfl (by decide) rfl rfl (Nat.le_of_ble_eq_true rfl) ?_
 intro hwf
 unfold m_towncrierref12_MayMessage at h
 refine .seq ?_
 refine .pl Try.S [0] ?_
 obtain ⟨x1, hx1, h⟩ := bind_some h
 refine .seqM 1 (fun (j : Unit) => Try.St_towncrierref12_MayMessage_1 a0) (fun j => x1 = (.inr j)) (Nat.le_of_ble_eq_true rfl) ?_ ?_
 ·skip
  refine .seq ?_
  refine .pl Try.S [1] ?_
  refine .block ?_
  refine .loopG 1 (fun (j : Nat) => Try.St_towncrierref12_MayMessage_3 a0 j) (fun j => j ≤ a0.Groups.length ∧ m_towncrierref12_MayMessage_loop1 a0 (a0.Groups.drop j) j  = some x1) (fun j => a0.Groups.length - j) (0) (Nat.le_of_ble_eq_true rfl) ?_ ⟨Nat.zero_le _, hx1⟩ ?_
  ·skip
   exact .m [1, 3] [0] []
  rintro n1 ⟨hi1, hx1⟩
  simp only [Try.St_towncrierref12_MayMessage_3]
  refine .wfb 0 [.int .i64 a0.Id, .imm 1 (a0.Groups.map (D.int .i64)) 4, .int .i64 a0.Topic, .str a0.Key, .str a0.Body] rfl ?_
  intro hln1
  replace hln1 : (a0.Groups.length : Int) ≤ 9223372036854775807 := by simp only [wf, wfL, IntKind.max, IntKind.min, IntKind.signed, IntKind.bits, List.length_map] at hln1; first | exact hln1.2 | exact hln1.1 | (simp at hln1; omega)
  refine .seq ?_
  refine .seq ?_
  refine .pl Try.S [1, 3] ?_
  refine .cond rfl rfl (fun hc1 => ?_) (fun hc1 => ?_)
  ·skip
   have h1 : n1 < a0.Groups.length := by simpa using hc1
   have hwn1 : wr .i64 ((n1 : Int) + 1) = ((n1 + 1 : Nat) : Int) := wr_succ h1 hln1
   have hpn1 : wr .i64 ((n1 : Int) - 1) = (n1 : Int) - 1 := wr_pred h1 hln1
   rw [List.drop_eq_getElem_cons h1, m_towncrierref12_MayMessage_loop1] at hx1
   refine .skip ?_
   refine .seq ?_
   refine .block ?_
   refine .seq ?_
   obtain ⟨v1, hv1, hx1⟩ := bind_some hx1
   have e1 := nth_map (D.int .i64) a0.Groups n1 h1
   have e2 := nth_map (D.int .i64) a0.Groups n1 h1
   have e3 := nth_mapD (D.int .i64) a0.Groups (n1 - 1) (by omega)
   refine .rg Try.S [1, 3] ?_
   refine .rdx 5 (And.intro e1 (And.intro e2 (And.intro e3 (And.intro hpn1 hwn1)))) ?_
   refine .call (r := .bool v1) rfl rfl rfl rfl rfl rfl (callP_towncrierref12_In (a0.Groups[n1]) 0 4 v1 hv1) ?_
   refine .rdx 6 (And.intro e1 (And.intro e2 (And.intro e3 (And.intro hpn1 hwn1)))) ?_
   refine .rdx 6 (And.intro e1 (And.intro e2 (And.intro e3 (And.intro hpn1 hwn1)))) ?_
   refine .rdx 7 (And.intro e1 (And.intro e2 (And.intro e3 (And.intro hpn1 hwn1)))) ?_
   refine .nil ⟨fun _ => schedB_of (by kernel_rfl), ?_⟩
   refine .cond rfl rfl (fun hc2 => ?_) (fun hc2 => ?_)
   ·skip
    replace hx1 := ite_lc hx1 hc2
    refine .seq ?_
    refine .plx Try.S hwn1 [] ?_
    have hq := Option.some.inj hx1
    subst x1
    try dsimp only at h
    have hq := Option.some.inj h
    subst r
    exact .ret ⟨.inr rfl, rsi⟩
   ·skip
    replace hx1 := ite_rc hx1 hc2
    refine .skip ?_
    refine .plx Try.S hwn1 [1, 3] ?_
    refine ⟨n1 + 1, ?_, ⟨by omega, hx1⟩, by dsimp only; omega⟩
    exact .m [1, 3] [0] []
  ·skip
   have h2 : n1 = a0.Groups.length := by have h2b := of_decide_eq_false hc1; omega
   rw [List.drop_of_length_le (by omega), m_towncrierref12_MayMessage_loop1] at hx1
   refine .exit ?_
   refine ⟨_, ?_, (Option.some.inj hx1).symm⟩
   exact .m [1] [0] []
 ·skip
  rintro ⟨⟩ hj1
  subst x1
  try dsimp only at h
  simp only [Try.St_towncrierref12_MayMessage_1]
  refine .seq ?_
  obtain ⟨v2, hv2, h⟩ := bind_some h
  obtain ⟨v3, hv3, h⟩ := bind_some h
  refine .rg Try.S [1] ?_
  refine .rn 7 ?_
  refine .gcall (r := .bool v2) rfl rfl rfl rfl rfl (fun hg => ⟨[], [.int .i64 a0.Id], _, rfl, gd hg, rfl, (callP_towncrierref12_Id a0.Id v2 (ite_lc hv2 hg))⟩) ?_
  refine .rn 4 ?_
  refine .gcall (r := .bool v3) rfl rfl rfl rfl rfl (fun hg => ⟨[], [.int .i64 a0.Topic, .int .i64 0, .int .i64 4], _, rfl, gd hg, rfl, (callP_towncrierref12_In a0.Topic 0 4 v3 (ite_lc hv3 hg))⟩) ?_
  refine .rn 6 ?_
  refine .rn 8 ?_
  refine .nil ⟨nofun, ?_⟩
  have hq := Option.some.inj h
  subst r
  exact .ret ⟨.inr rfl, rsi⟩
theorem callP_towncrierref12_SameMessage (a0 : TMessage) (a1 : TMessage) (r : Bool) (h : m_towncrierref12_SameMessage a0 a1 = some r) : CallP Try.prog 33 [.agg [.int .i64 a0.Id, .imm 1 (a0.Groups.map (D.int .i64)) 4, .int .i64 a0.Topic, .str a0.Key, .str a0.Body], .agg [.int .i64 a1.Id, .imm 1 (a1.Groups.map (D.int .i64)) 4, .int .i64 a1.Topic, .str a1.Key, .str a1.Body]] (.bool r) := by
 refine callP_intro Try.tmOk 4 Try.func33 rfl (by decide) rfl rfl (Nat.le_of_ble_eq_true rfl) ?_
 intro hwf
 unfold m_towncrierref12_SameMessage at h
 refine .seq ?_
 refine .pl Try.S [0, 1] ?_
 refine .seq ?_
 obtain ⟨v1, hv1, h⟩ := bind_some h
 refine .rg Try.S [2, 3] ?_
 refine .rn 6 ?_
 refine .rn 4 ?_
 refine .gcall (r := .bool v1) rfl rfl rfl rfl rfl (fun hg => ⟨[], [.imm 1 (a0.Groups.map (D.int .i64)) 4, .imm 1 (a1.Groups.map (D.int .i64)) 4], _, rfl, gd hg, rfl, (callP_towncrierref01_SameInts a0.Groups a1.Groups v1 (ite_lc hv1 hg))⟩) ?_
 refine .rn 6 ?_
 refine .rn 6 ?_
 refine .rn 6 ?_
 refine .rn 5 ?_
 refine .nil ⟨nofun, ?_⟩
 have hq := Option.some.inj h
 subst r
 exact .ret ⟨.inr rfl, rsi⟩
theorem callP_towncrierref12_Same (a0 : TCommand) (a1 : TCommand) (r : Bool) (h : m_towncrierref12_Same a0 a1 = some r) : CallP Try.prog 19 [.agg [.int .u8 a0.Kind, .int .i64 a0.Message.Id, .imm 1 (a0.Message.Groups.map (D.int .i64)) 4, .int .i64 a0.Message.Topic, .str a0.Message.Key, .str a0.Message.Body, .int .i64 a0.Id, .int .i64 a0.Time, .imm 1 (a0.Members.map (D.int .i64)) 4, .int .i64 a0.Topic, .int .i64 a0.Who, .int .i64 a0.N], .agg [.int .u8 a1.Kind, .int .i64 a1.Message.Id, .imm 1 (a1.Message.Groups.map (D.int .i64)) 4, .int .i64 a1.Message.Topic, .str a1.Message.Key, .str a1.Message.Body, .int .i64 a1.Id, .int .i64 a1.Time, .imm 1 (a1.Members.map (D.int .i64)) 4, .int .i64 a1.Topic, .int .i64 a1.Who, .int .i64 a1.N]] (.bool r) := by
 refine callP_intro Try.tmOk 4 Try.func19 rfl (by decide) rfl rfl (Nat.le_of_ble_eq_true rfl) ?_
 intro hwf
 unfold m_towncrierref12_Same at h
 refine .seq ?_
 refine .pl Try.S [0, 1] ?_
 refine .seq ?_
 obtain ⟨v1, hv1, h⟩ := bind_some h
 obtain ⟨v2, hv2, h⟩ := bind_some h
 refine .rg Try.S [2, 3] ?_
 refine .rn 6 ?_
 refine .rn 4 ?_
 refine .gcall (r := .bool v1) rfl rfl rfl rfl rfl (fun hg => ⟨[], [.agg [.int .i64 a0.Message.Id, .imm 1 (a0.Message.Groups.map (D.int .i64)) 4, .int .i64 a0.Message.Topic, .str a0.Message.Key, .str a0.Message.Body], .agg [.int .i64 a1.Message.Id, .imm 1 (a1.Message.Groups.map (D.int .i64)) 4, .int .i64 a1.Message.Topic, .str a1.Message.Key, .str a1.Message.Body]], _, rfl, gd hg, rfl, (callP_towncrierref12_SameMessage a0.Message a1.Message v1 (ite_lc hv1 hg))⟩) ?_
 refine .rn 6 ?_
 refine .rn 6 ?_
 refine .rn 8 ?_
 refine .gcall (r := .bool v2) rfl rfl rfl rfl rfl (fun hg => ⟨[], [.imm 1 (a0.Members.map (D.int .i64)) 4, .imm 1 (a1.Members.map (D.int .i64)) 4], _, rfl, gd hg, rfl, (callP_towncrierref01_SameInts a0.Members a1.Members v2 (ite_lc hv2 hg))⟩) ?_
 refine .rn 6 ?_
 refine .rn 6 ?_
 refine .rn 6 ?_
 refine .rn 5 ?_
 refine .nil ⟨nofun, ?_⟩
 have hq := Option.some.inj h
 subst r
 exact .ret ⟨.inr rfl, rsi⟩
def Try.Re_towncrierref12_Twin (r : TCommand) : St := ⟨[(2, .ptr 2 0)], [(0, .arr 3 1 true (r.Message.Groups.map (D.int .i64))), (1, .arr 3 1 true (r.Members.map (D.int .i64))), (2, .box [.int .u8 r.Kind, .int .i64 r.Message.Id, .ref 0 1 0 r.Message.Groups.length (some unkC), .int .i64 r.Message.Topic, .str r.Message.Key, .str r.Message.Body, .int .i64 r.Id, .int .i64 r.Time, .ref 1 1 0 r.Members.length (some unkC), .int .i64 r.Topic, .int .i64 r.Who, .int .i64 r.N])], 3⟩
attribute [local go_sem] Try.Re_towncrierref12_Twin
theorem callH_towncrierref12_Twin (a0 : TCommand) (r : TCommand) (h : m_towncrierref12_Twin a0 = some r) : CallH Try.prog 6 [.agg [.int .u8 a0.Kind, .int .i64 a0.Message.Id, .imm 1 (a0.Message.Groups.map (D.int .i64)) 4, .int .i64 a0.Message.Topic, .str a0.Message.Key, .str a0.Message.Body, .int .i64 a0.Id, .int .i64 a0.Time, .imm 1 (a0.Members.map (D.int .i64)) 4, .int .i64 a0.Topic, .int .i64 a0.Who, .int .i64 a0.N]] [] (.agg [.int .u8 r.Kind, .int .i64 r.Message.Id, .ref 0 1 0 r.Message.Groups.length (some unkC), .int .i64 r.Message.Topic, .str r.Message.Key, .str r.Message.Body, .int .i64 r.Id, .int .i64 r.Time, .ref 1 1 0 r.Members.length (some unkC), .int .i64 r.Topic, .int .i64 r.Who, .int .i64 r.N]) [(0, some (.arr 3 1 true (r.Message.Groups.map (D.int .i64)))), (1, some (.arr 3 1 true (r.Members.map (D.int .i64))))] (0, 7) := by
 refine callH_intro' Try.tmOk Try.func6 rfl (by decide) (Nat.le_of_ble_eq_true rfl) (by simp) ?_
 intro hwf
 unfold m_towncrierref12_Twin at h
 refine .ends 0 (Nat.le_refl _) ?_
 refine .seq ?_
 refine .pl Try.S [0] ?_
 refine .seq ?_
 refine .pl Try.S [1, 2] ?_
 refine .seq ?_
 refine .pl Try.S [1, 2, 3] ?_
 obtain ⟨k1, h⟩ := ite_ck h
 refine .seqM 3 (fun (_ : Unit) => ⟨[(1, .ptr 0 0), (2, .ptr 1 0), (3, .ptr 2 0)], [(0, .box [.int .u8 a0.Kind, .int .i64 a0.Message.Id, .imm 1 (a0.Message.Groups.map (D.int .i64)) 4, .int .i64 a0.Message.Topic, .str a0.Message.Key, .str a0.Message.Body, .int .i64 a0.Id, .int .i64 a0.Time, .imm 1 (a0.Members.map (D.int .i64)) 4, .int .i64 a0.Topic, .int .i64 a0.Who, .int .i64 a0.N]), (1, .box [.int .u8 0, .int .i64 0, .imm 0 [] 0, .int .i64 0, .str [], .str [], .int .i64 0, .int .i64 0, .imm 0 [] 0, .int .i64 0, .int .i64 0, .int .i64 0]), (2, .box [.int .u8 a0.Kind, .int .i64 a0.Message.Id, .ref 3 1 0 a0.Message.Groups.length (some unkC), .int .i64 a0.Message.Topic, .str a0.Message.Key, .str a0.Message.Body, .int .i64 a0.Id, .int .i64 a0.Time, .imm 1 (a0.Members.map (D.int .i64)) 4, .int .i64 a0.Topic, .int .i64 a0.Who, .int .i64 a0.N]), (3, .arr 3 1 true (a0.Message.Groups.map (D.int .i64)))], 4⟩) (fun _ => True) (Nat.le_of_ble_eq_true rfl) ?_ (fun _ _ => ?_)
 ·skip
  rcases list_cases a0.Message.Groups with hE1 | ⟨y, ys, hE1⟩
  ·skip
   have hM1 : a0.Message.Groups.map (D.int .i64) = [] := by rw [hE1]; simp
   refine .rg Try.S [1, 2, 3] ?_
   refine .RN 6 (dr := false) (.inr fun _ _ _ h => ⟨nofun, h.2⟩) (by intro q hq; simp only [go_sem, Nat.reduceSub, Int.reduceEq, Nat.reduceLT, Nat.reduceDiv, Nat.reduceAdd, Nat.reduceBEq, Nat.reduceLeDiff, reduceCtorEq, Nat.reduceEqDiff, Nat.reduceMod, Nat.reduceMul, Try.tm_26, Try.tm_28, Try.tm_30, appendD_nil hM1, TCommand.d, TMessage.d]; exact hq) (by first | rfl | (simp only [go_sem, Nat.reduceLeDiff]; done) | (simp only [go_sem, Nat.reduceLeDiff]; rfl) | (simp; done) | (simp [oneD] <;> omega) | (simp_all; done) | (simp_all [oneD] <;> omega)) (by first | exact Nat.le_refl _ | exact Nat.le_of_ble_eq_true rfl | (dsimp only; omega) | (simp <;> omega)) ?_
   refine .RN 4 (dr := false) (.inr fun _ _ _ h => ⟨nofun, h.2⟩) (by intro q hq; simp only [go_sem, Nat.reduceSub, Int.reduceEq, Nat.reduceLT, Nat.reduceDiv, Nat.reduceAdd, Nat.reduceBEq, Nat.reduceLeDiff, reduceCtorEq, Nat.reduceEqDiff, Nat.reduceMod, Nat.reduceMul, Try.tm_26, Try.tm_28, Try.tm_30, appendD_nil hM1, TCommand.d, TMessage.d]; exact hq) (by first | rfl | (simp only [go_sem, Nat.reduceLeDiff]; done) | (simp only [go_sem, Nat.reduceLeDiff]; rfl) | (simp; done) | (simp [oneD] <;> omega) | (simp_all; done) | (simp_all [oneD] <;> omega)) (by first | exact Nat.le_refl _ | exact Nat.le_of_ble_eq_true rfl | (dsimp only; omega) | (simp <;> omega)) ?_
   refine .nil ⟨nofun, ?_⟩
   refine ⟨(), ?_, trivial⟩
   refine Goes.new0 1 3 (Nat.le_of_ble_eq_true rfl) ?_
   refine Goes.boxs 2 _ [.int .u8 a0.Kind, .int .i64 a0.Message.Id, .ref 3 1 0 0 (some unkC), .int .i64 a0.Message.Topic, .str a0.Message.Key, .str a0.Message.Body, .int .i64 a0.Id, .int .i64 a0.Time, .imm 1 (a0.Members.map (D.int .i64)) 4, .int .i64 a0.Topic, .int .i64 a0.Who, .int .i64 a0.N] rfl (.keep (.keep (.cons (.own0 3 _ _ _ (by decide)) (.refl _)))) ?_
   exact .mx hE1 [1, 2, 3] [0, 1, 2, 3] []
  ·skip
   have hM1 : a0.Message.Groups.map (D.int .i64) ≠ [] := by rw [hE1]; simp
   refine .rg Try.S [1, 2, 3] ?_
   refine .RN 6 (dr := false) (.inr fun _ _ _ h => ⟨nofun, h.2⟩) (by intro q hq; simp only [go_sem, Nat.reduceSub, Int.reduceEq, Nat.reduceLT, Nat.reduceDiv, Nat.reduceAdd, Nat.reduceBEq, Nat.reduceLeDiff, reduceCtorEq, Nat.reduceEqDiff, Nat.reduceMod, Nat.reduceMul, Try.tm_26, Try.tm_28, Try.tm_30, appendD_cons hM1, TCommand.d, TMessage.d]; exact hq) (by first | rfl | (simp only [go_sem, Nat.reduceLeDiff]; done) | (simp only [go_sem, Nat.reduceLeDiff]; rfl) | (simp; done) | (simp [oneD] <;> omega) | (simp_all; done) | (simp_all [oneD] <;> omega)) (by first | exact Nat.le_refl _ | exact Nat.le_of_ble_eq_true rfl | (dsimp only; omega) | (simp <;> omega)) ?_
   refine .RN 4 (dr := false) (.inr fun _ _ _ h => ⟨nofun, h.2⟩) (by intro q hq; simp only [go_sem, Nat.reduceSub, Int.reduceEq, Nat.reduceLT, Nat.reduceDiv, Nat.reduceAdd, Nat.reduceBEq, Nat.reduceLeDiff, reduceCtorEq, Nat.reduceEqDiff, Nat.reduceMod, Nat.reduceMul, Try.tm_26, Try.tm_28, Try.tm_30, appendD_cons hM1, TCommand.d, TMessage.d]; exact hq) (by first | rfl | (simp only [go_sem, Nat.reduceLeDiff]; done) | (simp only [go_sem, Nat.reduceLeDiff]; rfl) | (simp; done) | (simp [oneD] <;> omega) | (simp_all; done) | (simp_all [oneD] <;> omega)) (by first | exact Nat.le_refl _ | exact Nat.le_of_ble_eq_true rfl | (dsimp only; omega) | (simp <;> omega)) ?_
   refine .nil ⟨nofun, ?_⟩
   refine ⟨(), ?_, trivial⟩
   refine Goes.boxs 2 _ [.int .u8 a0.Kind, .int .i64 a0.Message.Id, .ref 3 1 0 a0.Message.Groups.length (some unkC), .int .i64 a0.Message.Topic, .str a0.Message.Key, .str a0.Message.Body, .int .i64 a0.Id, .int .i64 a0.Time, .imm 1 (a0.Members.map (D.int .i64)) 4, .int .i64 a0.Topic, .int .i64 a0.Who, .int .i64 a0.N] rfl (.keep (.keep (.cons (.unk _ _ _ _ _) (.refl _)))) ?_
   exact .mx hE1 [1, 2, 3] [0, 1, 2, 3] []
 refine .seq ?_
 refine .pl Try.S [1, 2, 3] ?_
 obtain ⟨k2, h⟩ := ite_ck h
 refine .seqM 4 (fun (_ : Unit) => ⟨[(2, .ptr 1 0), (3, .ptr 2 0)], [(1, .box [.int .u8 0, .int .i64 0, .imm 0 [] 0, .int .i64 0, .str [], .str [], .int .i64 0, .int .i64 0, .imm 0 [] 0, .int .i64 0, .int .i64 0, .int .i64 0]), (2, .box [.int .u8 a0.Kind, .int .i64 a0.Message.Id, .ref 3 1 0 a0.Message.Groups.length (some unkC), .int .i64 a0.Message.Topic, .str a0.Message.Key, .str a0.Message.Body, .int .i64 a0.Id, .int .i64 a0.Time, .ref 4 1 0 a0.Members.length (some unkC), .int .i64 a0.Topic, .int .i64 a0.Who, .int .i64 a0.N]), (3, .arr 3 1 true (a0.Message.Groups.map (D.int .i64))), (4, .arr 3 1 true (a0.Members.map (D.int .i64)))], 5⟩) (fun _ => True) (Nat.le_of_ble_eq_true rfl) ?_ (fun _ _ => ?_)
 ·skip
  rcases list_cases a0.Members with hE2 | ⟨y, ys, hE2⟩
  ·skip
   have hM2 : a0.Members.map (D.int .i64) = [] := by rw [hE2]; simp
   refine .plain Try.tmOk Try.tmMixed [1, 2, 3] (by decide +kernel) (by intro q hq; simp only [go_sem, Nat.reduceSub, Int.reduceEq, Nat.reduceLT, Nat.reduceDiv, Nat.reduceAdd, Nat.reduceBEq, Nat.reduceLeDiff, reduceCtorEq, Nat.reduceEqDiff, Nat.reduceMod, Nat.reduceMul, Try.tm_26, Try.tm_30, appendD_nil hM2, TCommand.d]; exact hq) (by first | rfl | (simp only [go_sem, Nat.reduceLeDiff]; done) | (simp only [go_sem, Nat.reduceLeDiff]; rfl) | (simp; done) | (simp [oneD] <;> omega) | (simp_all; done) | (simp_all [oneD] <;> omega)) (by first | exact Nat.le_refl _ | exact Nat.le_of_ble_eq_true rfl | (dsimp only; omega) | (simp <;> omega)) ?_
   refine ⟨(), ?_, trivial⟩
   refine Goes.new0 1 3 (Nat.le_of_ble_eq_true rfl) ?_
   refine Goes.boxs 2 _ [.int .u8 a0.Kind, .int .i64 a0.Message.Id, .ref 3 1 0 a0.Message.Groups.length (some unkC), .int .i64 a0.Message.Topic, .str a0.Message.Key, .str a0.Message.Body, .int .i64 a0.Id, .int .i64 a0.Time, .ref 4 1 0 0 (some unkC), .int .i64 a0.Topic, .int .i64 a0.Who, .int .i64 a0.N] rfl (.keep (.keep (.keep (.keep (.keep (.keep (.keep (.keep (.cons (.own0 4 _ _ _ (by decide)) (.refl _)))))))))) ?_
   exact .mx hE2 [2, 3] [1, 2, 3, 4] []
  ·skip
   have hM2 : a0.Members.map (D.int .i64) ≠ [] := by rw [hE2]; simp
   refine .plain Try.tmOk Try.tmMixed [1, 2, 3] (by decide +kernel) (by intro q hq; simp only [go_sem, Nat.reduceSub, Int.reduceEq, Nat.reduceLT, Nat.reduceDiv, Nat.reduceAdd, Nat.reduceBEq, Nat.reduceLeDiff, reduceCtorEq, Nat.reduceEqDiff, Nat.reduceMod, Nat.reduceMul, Try.tm_26, Try.tm_30, appendD_cons hM2, TCommand.d]; exact hq) (by first | rfl | (simp only [go_sem, Nat.reduceLeDiff]; done) | (simp only [go_sem, Nat.reduceLeDiff]; rfl) | (simp; done) | (simp [oneD] <;> omega) | (simp_all; done) | (simp_all [oneD] <;> omega)) (by first | exact Nat.le_refl _ | exact Nat.le_of_ble_eq_true rfl | (dsimp only; omega) | (simp <;> omega)) ?_
   refine ⟨(), ?_, trivial⟩
   refine Goes.boxs 2 _ [.int .u8 a0.Kind, .int .i64 a0.Message.Id, .ref 3 1 0 a0.Message.Groups.length (some unkC), .int .i64 a0.Message.Topic, .str a0.Message.Key, .str a0.Message.Body, .int .i64 a0.Id, .int .i64 a0.Time, .ref 4 1 0 a0.Members.length (some unkC), .int .i64 a0.Topic, .int .i64 a0.Who, .int .i64 a0.N] rfl (.keep (.keep (.keep (.keep (.keep (.keep (.keep (.keep (.cons (.unk _ _ _ _ _) (.refl _)))))))))) ?_
   exact .mx hE2 [2, 3] [1, 2, 3, 4] []
 refine .seq ?_
 refine .pl Try.S [2, 3] ?_
 have hq := Option.some.inj h
 subst r
 refine .ret ⟨Try.Re_towncrierref12_Twin a0, ?_, .inr rfl, retH [1, 0] ?_ ?_⟩
 ·skip
  exact .m [2] [3, 4, 1] [(3, 0), (4, 1), (1, 2)]
 ·exact rsi0
 ·rfl
theorem callP_towncrierref12_Twin (a0 : TCommand) (r : TCommand) (h : m_towncrierref12_Twin a0 = some r) : CallP Try.prog 6 [.agg [.int .u8 a0.Kind, .int .i64 a0.Message.Id, .imm 1 (a0.Message.Groups.map (D.int .i64)) 4, .int .i64 a0.Message.Topic, .str a0.Message.Key, .str a0.Message.Body, .int .i64 a0.Id, .int .i64 a0.Time, .imm 1 (a0.Members.map (D.int .i64)) 4, .int .i64 a0.Topic, .int .i64 a0.Who, .int .i64 a0.N]] (.agg [.int .u8 r.Kind, .int .i64 r.Message.Id, .imm 1 (r.Message.Groups.map (D.int .i64)) 13, .int .i64 r.Message.Topic, .str r.Message.Key, .str r.Message.Body, .int .i64 r.Id, .int .i64 r.Time, .imm 1 (r.Members.map (D.int .i64)) 13, .int .i64 r.Topic, .int .i64 r.Who, .int .i64 r.N]) :=
 callP_frz (frz_agg (frzs_cons rfl (frzs_cons rfl (frzs_cons (frz_ref0 pl0_i64 rfl rfl) (frzs_cons rfl (frzs_cons rfl (frzs_cons rfl (frzs_cons rfl (frzs_cons rfl (frzs_cons (frz_ref0 pl0_i64 rfl rfl) (frzs_cons rfl (frzs_cons rfl (frzs_cons rfl frzs_nil))))))))))))) (callH_towncrierref12_Twin a0 r h)
theorem callP_towncrierref15_Stamp (a0 : TWait) (r : TStamp) (h : m_towncrierref15_Stamp a0 = some r) : CallP Try.prog 44 [.agg [.int .i64 a0.Message.Id, .imm 1 (a0.Message.Groups.map (D.int .i64)) 4, .int .i64 a0.Message.Topic, .str a0.Message.Key, .str a0.Message.Body, .int .i64 a0.Time, .bool a0.Final]] (.agg [.int .i64 r.Time, .int .i64 r.Id]) := by
 refine callP_intro Try.tmOk 4 Try.func44 rfl (by decide) rfl rfl (Nat.le_of_ble_eq_true rfl) ?_
 intro hwf
 unfold m_towncrierref15_Stamp at h
 refine .seq ?_
 refine .pl Try.S [0] ?_
 refine .seq ?_
 refine .pl Try.S [1, 2] ?_
 have hq := Option.some.inj h
 subst r
 exact .ret ⟨.inr rfl, rsi⟩
def Try.St_towncrierref15_SameStamps_1 : St := ⟨[], [], 0⟩
attribute [local go_sem] Try.St_towncrierref15_SameStamps_1
def Try.St_towncrierref15_SameStamps_3 (a0 : List TStamp) (a1 : List TStamp) (n1 : Nat) : St := ⟨[(0, .imm 2 (a0.map TStamp.d) 4), (1, .imm 2 (a1.map TStamp.d) 4), (5, .int .i64 (n1 : Int))], [], 0⟩
attribute [local go_sem] Try.St_towncrierref15_SameStamps_3
theorem callP_towncrierref15_SameStamps (a0 : List TStamp) (a1 : List TStamp) (r : Bool) (h : m_towncrierref15_SameStamps a0 a1 = some r) : CallP Try.prog 32 [.imm 2 (a0.map TStamp.d) 4, .imm 2 (a1.map TStamp.d) 4] (.bool r) := by
 refine callP_intro Try.tmOk 2 Try.func32 rfl (by decide) rfl rfl (Nat.le_of_ble_eq_true rfl) ?_
 intro hwf
 unfold m_towncrierref15_SameStamps at h
 refine .seq ?_
 refine .pl Try.S [0, 1] ?_
 refine .seq ?_
 refine .seq ?_
 refine .pl Try.S [0, 1] ?_
 refine .cond rfl rfl (fun hc1 => ?_) (fun hc1 => ?_)
 ·skip
  replace h := ite_lc h hc1
  refine .seq ?_
  refine .pl Try.S [] ?_
  have hq := Option.some.inj h
  subst r
  exact .ret ⟨.inr rfl, rsi⟩
 ·skip
  replace h := ite_rc h hc1
  refine .skip ?_
  obtain ⟨x1, hx1, h⟩ := bind_some h
  refine .seqM 0 (fun (j : Unit) => Try.St_towncrierref15_SameStamps_1) (fun j => x1 = (.inr j)) (Nat.le_of_ble_eq_true rfl) ?_ ?_
  ·skip
   refine .seq ?_
   refine .pl Try.S [0, 1] ?_
   refine .block ?_
   refine .loopG 0 (fun (j : Nat) => Try.St_towncrierref15_SameStamps_3 a0 a1 j) (fun j => j ≤ a0.length ∧ m_towncrierref15_SameStamps_loop1 a1 (a0.drop j) j  = some x1) (fun j => a0.length - j) (0) (Nat.le_of_ble_eq_true rfl) ?_ ⟨Nat.zero_le _, hx1⟩ ?_
   ·skip
    exact .m [0, 1, 5] [] []
   rintro n1 ⟨hi1, hx1⟩
   simp only [Try.St_towncrierref15_SameStamps_3]
   refine .wf 0 (.imm 2 (a0.map TStamp.d) 4) rfl ?_
   intro hln1
   replace hln1 : (a0.length : Int) ≤ 9223372036854775807 := by simp only [wf, wfL, IntKind.max, IntKind.min, IntKind.signed, IntKind.bits, List.length_map] at hln1; first | exact hln1.2 | exact hln1.1 | (simp at hln1; omega)
   refine .seq ?_
   refine .seq ?_
   refine .pl Try.S [0, 1, 5] ?_
   refine .cond rfl rfl (fun hc2 => ?_) (fun hc2 => ?_)
   ·skip
    have h1 : n1 < a0.length := by simpa using hc2
    have hwn1 : wr .i64 ((n1 : Int) + 1) = ((n1 + 1 : Nat) : Int) := wr_succ h1 hln1
    have hpn1 : wr .i64 ((n1 : Int) - 1) = (n1 : Int) - 1 := wr_pred h1 hln1
    rw [List.drop_eq_getElem_cons h1, m_towncrierref15_SameStamps_loop1] at hx1
    refine .skip ?_
    refine .seq ?_
    refine .block ?_
    refine .seq ?_
    obtain ⟨k1, hx1⟩ := ite_ck hx1
    have e1 := nth_map TStamp.d a0 n1 h1
    have e2 := nth_mapD TStamp.d a1 n1
    replace e2 := e2 k1
    refine .rg Try.S [0, 1, 5] ?_
    refine .rdx 6 (And.intro e1 (And.intro e2 hwn1)) ?_
    refine .rdx 3 (And.intro e1 (And.intro e2 hwn1)) ?_
    refine .nil ⟨fun _ => schedB_of (by kernel_rfl), ?_⟩
    refine .cond rfl rfl (fun hc3 => ?_) (fun hc3 => ?_)
    ·skip
     replace hx1 := ite_lc hx1 hc3
     refine .seq ?_
     refine .plx Try.S hwn1 [] ?_
     have hq := Option.some.inj hx1
     subst x1
     try dsimp only at h
     have hq := Option.some.inj h
     subst r
     exact .ret ⟨.inr rfl, rsi⟩
    ·skip
     replace hx1 := ite_rc hx1 hc3
     refine .skip ?_
     refine .plx Try.S hwn1 [0, 1, 5] ?_
     refine ⟨n1 + 1, ?_, ⟨by omega, hx1⟩, by dsimp only; omega⟩
     exact .m [0, 1, 5] [] []
   ·skip
    have h2 : n1 = a0.length := by have h2b := of_decide_eq_false hc2; omega
    rw [List.drop_of_length_le (by omega), m_towncrierref15_SameStamps_loop1] at hx1
    refine .exit ?_
    refine ⟨_, ?_, (Option.some.inj hx1).symm⟩
    exact .m [] [] []
  ·skip
   rintro ⟨⟩ hj1
   subst x1
   try dsimp only at h
   simp only [Try.St_towncrierref15_SameStamps_1]
   refine .seq ?_
   refine .pl Try.S [] ?_
   have hq := Option.some.inj h
   subst r
   exact .ret ⟨.inr rfl, rsi⟩
def Try.St_towncrierref15_SameMessages_1 : St := ⟨[], [], 0⟩
attribute [local go_sem] Try.St_towncrierref15_SameMessages_1
def Try.St_towncrierref15_SameMessages_3 (a0 : List TMessage) (a1 : List TMessage) (n1 : Nat) : St := ⟨[(0, .imm 5 (a0.map TMessage.d) 4), (1, .imm 5 (a1.map TMessage.d) 4), (5, .int .i64 (n1 : Int))], [], 0⟩
attribute [local go_sem] Try.St_towncrierref15_SameMessages_3
theorem callP_towncrierref15_SameMessages (a0 : List TMessage) (a1 : List TMessage) (r : Bool) (h : m_towncrierref15_SameMessages a0 a1 = some r) : CallP Try.prog 13 [.imm 5 (a0.map TMessage.d) 4, .imm 5 (a1.map TMessage.d) 4] (.bool r) := by
 refine callP_intro Try.tmOk 2 Try.func13 rfl (by decide) rfl rfl (Nat.le_of_ble_eq_true rfl) ?_
 intro hwf
 unfold m_towncrierref15_SameMessages at h
 refine .seq ?_
 refine .pl Try.S [0, 1] ?_
 refine .seq ?_
 refine .seq ?_
 refine .pl Try.S [0, 1] ?_
 refine .cond rfl rfl (fun hc1 => ?_) (fun hc1 => ?_)
 ·skip
  replace h := ite_lc h hc1
  refine .seq ?_
  refine .pl Try.S [] ?_
  have hq := Option.some.inj h
  subst r
  exact .ret ⟨.inr rfl, rsi⟩
 ·skip
  replace h := ite_rc h hc1
  refine .skip ?_
  obtain ⟨x1, hx1, h⟩ := bind_some h
  refine .seqM 0 (fun (j : Unit) => Try.St_towncrierref15_SameMessages_1) (fun j => x1 = (.inr j)) (Nat.le_of_ble_eq_true rfl) ?_ ?_
  ·skip
   refine .seq ?_
   refine .pl Try.S [0, 1] ?_
   refine .block ?_
   refine .loopG 0 (fun (j : Nat) => Try.St_towncrierref15_SameMessages_3 a0 a1 j) (fun j => j ≤ a0.length ∧ m_towncrierref15_SameMessages_loop1 a1 (a0.drop j) j  = some x1) (fun j => a0.length - j) (0) (Nat.le_of_ble_eq_true rfl) ?_ ⟨Nat.zero_le _, hx1⟩ ?_
   ·skip
    exact .m [0, 1, 5] [] []
   rintro n1 ⟨hi1, hx1⟩
   simp only [Try.St_towncrierref15_SameMessages_3]
   refine .wf 0 (.imm 5 (a0.map TMessage.d) 4) rfl ?_
   intro hln1
   replace hln1 : (a0.length : Int) ≤ 9223372036854775807 := by simp only [wf, wfL, IntKind.max, IntKind.min, IntKind.signed, IntKind.bits, List.length_map] at hln1; first | exact hln1.2 | exact hln1.1 | (simp at hln1; omega)
   refine .seq ?_
   refine .seq ?_
   refine .pl Try.S [0, 1, 5] ?_
   refine .cond rfl rfl (fun hc2 => ?_) (fun hc2 => ?_)
   ·skip
    have h1 : n1 < a0.length := by simpa using hc2
    have hwn1 : wr .i64 ((n1 : Int) + 1) = ((n1 + 1 : Nat) : Int) := wr_succ h1 hln1
    have hpn1 : wr .i64 ((n1 : Int) - 1) = (n1 : Int) - 1 := wr_pred h1 hln1
    rw [List.drop_eq_getElem_cons h1, m_towncrierref15_SameMessages_loop1] at hx1
    refine .skip ?_
    refine .seq ?_
    refine .block ?_
    refine .seq ?_
    obtain ⟨k1, hx1⟩ := ite_ck hx1
    obtain ⟨v1, hv1, hx1⟩ := bind_some hx1
    have e1 := nth_map TMessage.d a0 n1 h1
    have e2 := nth_mapD TMessage.d a1 n1
    replace e2 := e2 k1
    refine .rg Try.S [0, 1, 5] ?_
    refine .rdx 8 (And.intro e1 (And.intro e2 hwn1)) ?_
    refine .call (r := .bool v1) rfl rfl rfl rfl rfl rfl (callP_towncrierref12_SameMessage (a0[n1]) (a1.getD n1 default) v1 hv1) ?_
    refine .rdx 1 (And.intro e1 (And.intro e2 hwn1)) ?_
    refine .nil ⟨fun _ => schedB_of (by kernel_rfl), ?_⟩
    refine .cond rfl rfl (fun hc3 => ?_) (fun hc3 => ?_)
    ·skip
     replace hx1 := ite_lc hx1 hc3
     refine .seq ?_
     refine .plx Try.S hwn1 [] ?_
     have hq := Option.some.inj hx1
     subst x1
     try dsimp only at h
     have hq := Option.some.inj h
     subst r
     exact .ret ⟨.inr rfl, rsi⟩
    ·skip
     replace hx1 := ite_rc hx1 hc3
     refine .skip ?_
     refine .plx Try.S hwn1 [0, 1, 5] ?_
     refine ⟨n1 + 1, ?_, ⟨by omega, hx1⟩, by dsimp only; omega⟩
     exact .m [0, 1, 5] [] []
   ·skip
    have h2 : n1 = a0.length := by have h2b := of_decide_eq_false hc2; omega
    rw [List.drop_of_length_le (by omega), m_towncrierref15_SameMessages_loop1] at hx1
    refine .exit ?_
    refine ⟨_, ?_, (Option.some.inj hx1).symm⟩
    exact .m [] [] []
  ·skip
   rintro ⟨⟩ hj1
   subst x1
   try dsimp only at h
   simp only [Try.St_towncrierref15_SameMessages_1]
   refine .seq ?_
   refine .pl Try.S [] ?_
   have hq := Option.some.inj h
   subst r
   exact .ret ⟨.inr rfl, rsi⟩
def Try.Re_towncrierref15_TwinMessage (r : TMessage) : St := ⟨[(2, .ptr 1 0)], [(0, .arr 3 1 true (r.Groups.map (D.int .i64))), (1, .box [.int .i64 r.Id, .ref 0 1 0 r.Groups.length (some unkC), .int .i64 r.Topic, .str r.Key, .str r.Body])], 2⟩
attribute [local go_sem] Try.Re_towncrierref15_TwinMessage
theorem callH_towncrierref15_TwinMessage (a0 : TMessage) (r : TMessage) (h : m_towncrierref15_TwinMessage a0 = some r) : CallH Try.prog 20 [.agg [.int .i64 a0.Id, .imm 1 (a0.Groups.map (D.int .i64)) 4, .int .i64 a0.Topic, .str a0.Key, .str a0.Body]] [] (.agg [.int .i64 r.Id, .ref 0 1 0 r.Groups.length (some unkC), .int .i64 r.Topic, .str r.Key, .str r.Body]) [(0, some (.arr 3 1 true (r.Groups.map (D.int .i64))))] (0, 5) := by
 refine callH_intro' Try.tmOk Try.func20 rfl (by decide) (Nat.le_of_ble_eq_true rfl) (by simp) ?_
 intro hwf
 unfold m_towncrierref15_TwinMessage at h
 refine .ends 0 (Nat.le_refl _) ?_
 refine .seq ?_
 refine .pl Try.S [0] ?_
 obtain ⟨k1, h⟩ := ite_ck h
 refine .seqM 2 (fun (_ : Unit) => ⟨[(1, .ptr 0 0), (2, .ptr 1 0)], [(0, .box [.int .i64 a0.Id, .ref 2 1 0 a0.Groups.length (some unkC), .int .i64 a0.Topic, .str a0.Key, .str a0.Body]), (1, .box [.int .i64 0, .imm 0 [] 0, .int .i64 0, .str [], .str []]), (2, .arr 3 1 true (a0.Groups.map (D.int .i64)))], 3⟩) (fun _ => True) (Nat.le_of_ble_eq_true rfl) ?_ (fun _ _ => ?_)
 ·skip
  rcases list_cases a0.Groups with hE1 | ⟨y, ys, hE1⟩
  ·skip
   have hM1 : a0.Groups.map (D.int .i64) = [] := by rw [hE1]; simp
   refine .plain Try.tmOk Try.tmMixed [1, 2] (by decide +kernel) (by intro q hq; simp only [go_sem, Nat.reduceSub, Int.reduceEq, Nat.reduceLT, Nat.reduceDiv, Nat.reduceAdd, Nat.reduceBEq, Nat.reduceLeDiff, reduceCtorEq, Nat.reduceEqDiff, Nat.reduceMod, Nat.reduceMul, Try.tm_26, Try.tm_28, appendD_nil hM1, TMessage.d]; exact hq) (by first | rfl | (simp only [go_sem, Nat.reduceLeDiff]; done) | (simp only [go_sem, Nat.reduceLeDiff]; rfl) | (simp; done) | (simp [oneD] <;> omega) | (simp_all; done) | (simp_all [oneD] <;> omega)) (by first | exact Nat.le_refl _ | exact Nat.le_of_ble_eq_true rfl | (dsimp only; omega) | (simp <;> omega)) ?_
   refine ⟨(), ?_, trivial⟩
   refine Goes.new0 1 3 (Nat.le_of_ble_eq_true rfl) ?_
   refine Goes.boxs 0 _ [.int .i64 a0.Id, .ref 2 1 0 0 (some unkC), .int .i64 a0.Topic, .str a0.Key, .str a0.Body] rfl (.keep (.cons (.own0 2 _ _ _ (by decide)) (.refl _))) ?_
   exact .mx hE1 [1, 2] [0, 1, 2] []
  ·skip
   have hM1 : a0.Groups.map (D.int .i64) ≠ [] := by rw [hE1]; simp
   refine .plain Try.tmOk Try.tmMixed [1, 2] (by decide +kernel) (by intro q hq; simp only [go_sem, Nat.reduceSub, Int.reduceEq, Nat.reduceLT, Nat.reduceDiv, Nat.reduceAdd, Nat.reduceBEq, Nat.reduceLeDiff, reduceCtorEq, Nat.reduceEqDiff, Nat.reduceMod, Nat.reduceMul, Try.tm_26, Try.tm_28, appendD_cons hM1, TMessage.d]; exact hq) (by first | rfl | (simp only [go_sem, Nat.reduceLeDiff]; done) | (simp only [go_sem, Nat.reduceLeDiff]; rfl) | (simp; done) | (simp [oneD] <;> omega) | (simp_all; done) | (simp_all [oneD] <;> omega)) (by first | exact Nat.le_refl _ | exact Nat.le_of_ble_eq_true rfl | (dsimp only; omega) | (simp <;> omega)) ?_
   refine ⟨(), ?_, trivial⟩
   refine Goes.boxs 0 _ [.int .i64 a0.Id, .ref 2 1 0 a0.Groups.length (some unkC), .int .i64 a0.Topic, .str a0.Key, .str a0.Body] rfl (.keep (.cons (.unk _ _ _ _ _) (.refl _))) ?_
   exact .mx hE1 [1, 2] [0, 1, 2] []
 refine .seq ?_
 refine .pl Try.S [1, 2] ?_
 have hq := Option.some.inj h
 subst r
 refine .ret ⟨Try.Re_towncrierref15_TwinMessage a0, ?_, .inr rfl, retH [0] ?_ ?_⟩
 ·skip
  exact .m [2] [2, 1] [(2, 0)]
 ·exact rsi0
 ·rfl
theorem callP_towncrierref15_TwinMessage (a0 : TMessage) (r : TMessage) (h : m_towncrierref15_TwinMessage a0 = some r) : CallP Try.prog 20 [.agg [.int .i64 a0.Id, .imm 1 (a0.Groups.map (D.int .i64)) 4, .int .i64 a0.Topic, .str a0.Key, .str a0.Body]] (.agg [.int .i64 r.Id, .imm 1 (r.Groups.map (D.int .i64)) 13, .int .i64 r.Topic, .str r.Key, .str r.Body]) :=
 callP_frz (frz_agg (frzs_cons rfl (frzs_cons (frz_ref0 pl0_i64 rfl rfl) (frzs_cons rfl (frzs_cons rfl (frzs_cons rfl frzs_nil)))))) (callH_towncrierref15_TwinMessage a0 r h)
def Try.St_towncrierref15_Twin_1 (a0 : TSkeen) (l1 : List TWait) : St := ⟨[(2, .ptr 1 0), (3, .ptr 3 0)], [(1, .box [.int .i64 0, .imm 0 [] 0, .imm 0 [] 0]), (2, .arr 70 2 true (a0.Done.map TStamp.d)), (3, .box [.int .i64 a0.Clock, .ref 4 7 0 l1.length (some unkC), .ref 2 2 0 a0.Done.length (some unkC)]), (4, .arr 52 7 true (l1.map TWait.n))], 5⟩
attribute [local go_sem] Try.St_towncrierref15_Twin_1
def Try.St_towncrierref15_Twin_3 (a0 : TSkeen) (n1 : Nat) (l2 : List TWait) : St := ⟨[(1, .ptr 0 0), (2, .ptr 1 0), (3, .ptr 3 0), (4, .int .i64 (n1 : Int))], [(0, .box [.int .i64 a0.Clock, .imm 7 (a0.Waits.map TWait.d) 4, .imm 2 (a0.Done.map TStamp.d) 4]), (1, .box [.int .i64 0, .imm 0 [] 0, .imm 0 [] 0]), (2, .arr 70 2 true (a0.Done.map TStamp.d)), (3, .box [.int .i64 a0.Clock, .ref 4 7 0 l2.length (some unkC), .ref 2 2 0 a0.Done.length (some unkC)]), (4, .arr 52 7 true (l2.map TWait.n))], 5⟩
attribute [local go_sem] Try.St_towncrierref15_Twin_3
def Try.Re_towncrierref15_Twin (r : TSkeen) : St := ⟨[(2, .ptr 2 0)], [(0, .arr 52 7 true (r.Waits.map TWait.n)), (1, .arr 70 2 true (r.Done.map TStamp.d)), (2, .box [.int .i64 r.Clock, .ref 0 7 0 r.Waits.length (some unkC), .ref 1 2 0 r.Done.length (some unkC)])], 3⟩
attribute [local go_sem] Try.Re_towncrierref15_Twin
theorem callH_towncrierref15_Twin (a0 : TSkeen) (r : TSkeen) (h : m_towncrierref15_Twin a0 = some r) : CallH Try.prog 5 [.agg [.int .i64 a0.Clock, .imm 7 (a0.Waits.map TWait.d) 4, .imm 2 (a0.Done.map TStamp.d) 4]] [] (.agg [.int .i64 r.Clock, .ref 0 7 0 r.Waits.length (some unkC), .ref 1 2 0 r.Done.length (some unkC)]) [(0, some (.arr 52 7 true (r.Waits.map TWait.n))), (1, some (.arr 70 2 true (r.Done.map TStamp.d)))] (0, 10) := by
 refine callH_intro' Try.tmOk Try.func5 rfl (by decide) (Nat.le_of_ble_eq_true rfl) (by simp) ?_
 intro hwf
 unfold m_towncrierref15_Twin at h
 refine .ends 0 (Nat.le_refl _) ?_
 refine .seq ?_
 refine .pl Try.S [0] ?_
 obtain ⟨k1, h⟩ := ite_ck h
 refine .seqM 2 (fun (_ : Unit) => ⟨[(1, .ptr 0 0), (2, .ptr 1 0), (3, .ptr 3 0)], [(0, .box [.int .i64 a0.Clock, .imm 7 (a0.Waits.map TWait.d) 4, .imm 2 (a0.Done.map TStamp.d) 4]), (1, .box [.int .i64 0, .imm 0 [] 0, .imm 0 [] 0]), (2, .arr 70 2 true (a0.Done.map TStamp.d)), (3, .box [.int .i64 a0.Clock, .imm 0 [] 0, .ref 2 2 0 a0.Done.length (some unkC)])], 4⟩) (fun _ => True) (Nat.le_of_ble_eq_true rfl) ?_ (fun _ _ => ?_)
 ·skip
  rcases list_cases a0.Done with hE1 | ⟨y, ys, hE1⟩
  ·skip
   have hM1 : a0.Done.map TStamp.d = [] := by rw [hE1]; simp
   refine .drawn Try.tmOk Try.tmMixed [1, 2] (by decide +kernel) (by intro q hq; simp only [go_sem, Nat.reduceSub, Int.reduceEq, Nat.reduceLT, Nat.reduceDiv, Nat.reduceAdd, Nat.reduceBEq, Nat.reduceLeDiff, reduceCtorEq, Nat.reduceEqDiff, Nat.reduceMod, Nat.reduceMul, Try.tm_3, Try.tm_23, Try.tm_25, appendD_nil hM1, TSkeen.d, TStamp.d]; exact hq) (schedB_of (by kernel_rfl)) (by first | rfl | (simp only [go_sem, Nat.reduceLeDiff]; done) | (simp only [go_sem, Nat.reduceLeDiff]; rfl) | (simp; done) | (simp [oneD] <;> omega) | (simp_all; done) | (simp_all [oneD] <;> omega)) (by first | exact Nat.le_refl _ | exact Nat.le_of_ble_eq_true rfl | (dsimp only; omega) | (simp <;> omega)) ?_
   refine ⟨(), ?_, trivial⟩
   refine Goes.new0 2 70 (Nat.le_of_ble_eq_true rfl) ?_
   refine Goes.boxs 2 _ [.int .i64 a0.Clock, .imm 0 [] 0, .ref 3 2 0 0 (some unkC)] rfl (.keep (.keep (.cons (.own0 3 _ _ _ (by decide)) (.refl _)))) ?_
   exact .mx hE1 [1, 2, 3] [0, 1, 3, 2] [(3, 2), (2, 3)]
  ·skip
   have hM1 : a0.Done.map TStamp.d ≠ [] := by rw [hE1]; simp
   refine .drawn Try.tmOk Try.tmMixed [1, 2] (by decide +kernel) (by intro q hq; simp only [go_sem, Nat.reduceSub, Int.reduceEq, Nat.reduceLT, Nat.reduceDiv, Nat.reduceAdd, Nat.reduceBEq, Nat.reduceLeDiff, reduceCtorEq, Nat.reduceEqDiff, Nat.reduceMod, Nat.reduceMul, Try.tm_3, Try.tm_23, Try.tm_25, appendD_cons hM1, TSkeen.d, TStamp.d]; exact hq) (schedB_of (by kernel_rfl)) (by first | rfl | (simp only [go_sem, Nat.reduceLeDiff]; done) | (simp only [go_sem, Nat.reduceLeDiff]; rfl) | (simp; done) | (simp [oneD] <;> omega) | (simp_all; done) | (simp_all [oneD] <;> omega)) (by first | exact Nat.le_refl _ | exact Nat.le_of_ble_eq_true rfl | (dsimp only; omega) | (simp <;> omega)) ?_
   refine ⟨(), ?_, trivial⟩
   refine Goes.boxs 3 _ [.int .i64 a0.Clock, .imm 0 [] 0, .ref 2 2 0 a0.Done.length (some unkC)] rfl (.keep (.keep (.cons (.unk _ _ _ _ _) (.refl _)))) ?_
   exact .mx hE1 [1, 2, 3] [0, 1, 2, 3] []
 obtain ⟨x1, hx1, h⟩ := bind_some h
 refine .seqM 4 (fun (j : (List TWait)) => Try.St_towncrierref15_Twin_1 a0 j) (fun j => x1 = j) (Nat.le_of_ble_eq_true rfl) ?_ ?_
 ·skip
  refine .seq ?_
  refine .pl Try.S [1, 2, 3] ?_
  refine .block ?_
  refine .loopG 4 (fun (j : Nat × (List TWait)) => Try.St_towncrierref15_Twin_3 a0 j.1 j.2) (fun j => j.1 ≤ a0.Waits.length ∧ m_towncrierref15_Twin_loop1 (a0.Waits.drop j.1) j.2 = some x1) (fun j => a0.Waits.length - j.1) (0, []) (Nat.le_of_ble_eq_true rfl) ?_ ⟨Nat.zero_le _, hx1⟩ ?_
  ·skip
   refine Goes.new0 7 52 (Nat.le_of_ble_eq_true rfl) ?_
   refine Goes.boxs 3 _ [.int .i64 a0.Clock, .ref 4 7 0 0 (some unkC), .ref 2 2 0 a0.Done.length (some unkC)] rfl (.keep (.cons (.own0 4 _ _ _ (by decide)) (.refl _))) ?_
   exact .m [1, 2, 3, 4] [0, 1, 2, 3, 4] []
  rintro ⟨n1, l2⟩ ⟨hi1, hx1⟩
  simp only [Try.St_towncrierref15_Twin_3]
  simp only at hi1 hx1
  refine .wfb 0 [.int .i64 a0.Clock, .imm 7 (a0.Waits.map TWait.d) 4, .imm 2 (a0.Done.map TStamp.d) 4] rfl ?_
  intro hln1
  replace hln1 : (a0.Waits.length : Int) ≤ 9223372036854775807 := by simp only [wf, wfL, IntKind.max, IntKind.min, IntKind.signed, IntKind.bits, List.length_map] at hln1; first | exact hln1.2 | exact hln1.1 | (simp at hln1; omega)
  refine .seq ?_
  refine .seq ?_
  refine .pl Try.S [1, 2, 3, 4] ?_
  refine .cond rfl rfl (fun hc1 => ?_) (fun hc1 => ?_)
  ·skip
   have h1 : n1 < a0.Waits.length := by simpa using hc1
   have hwn1 : wr .i64 ((n1 : Int) + 1) = ((n1 + 1 : Nat) : Int) := wr_succ h1 hln1
   have hpn1 : wr .i64 ((n1 : Int) - 1) = (n1 : Int) - 1 := wr_pred h1 hln1
   rw [List.drop_eq_getElem_cons h1, m_towncrierref15_Twin_loop1_c] at hx1
   refine .skip ?_
   refine .seq ?_
   refine .block ?_
   refine .seq ?_
   have e1 := nth_map TWait.d a0.Waits n1 h1
   refine .plx Try.S (And.intro e1 hwn1) [1, 2, 3, 4] ?_
   refine .seq ?_
   obtain ⟨v1, hv1, hx1⟩ := bind_some hx1
   refine .rg Try.S [1, 2, 3, 4, 5] ?_
   refine .rnx 2 hwn1 ?_
   refine .call (r := .agg [.int .i64 v1.Id, .imm 1 (v1.Groups.map (D.int .i64)) 13, .int .i64 v1.Topic, .str v1.Key, .str v1.Body]) rfl rfl rfl rfl rfl rfl (callP_towncrierref15_TwinMessage (a0.Waits[n1].Message) v1 hv1) ?_
   refine .rnx 2 hwn1 ?_
   refine .nil ⟨nofun, ?_⟩
   obtain ⟨k2, hx1⟩ := ite_ck hx1
   refine .plx Try.S hwn1 [1, 2, 3, 4, 5] ?_
   refine .plx Try.S hwn1 [1, 2, 3, 4] ?_
   refine ⟨(n1 + 1, _), ?_, ⟨by omega, hx1⟩, by dsimp only; omega⟩
   exact .m [1, 2, 3, 4] [0, 1, 2, 3, 7] [(7, 4)]
  ·skip
   have h2 : n1 = a0.Waits.length := by have h2b := of_decide_eq_false hc1; omega
   rw [List.drop_of_length_le (by omega), m_towncrierref15_Twin_loop1_n] at hx1
   refine .exit ?_
   refine ⟨_, ?_, (Option.some.inj hx1).symm⟩
   exact .m [2, 3] [1, 2, 3, 4] []
 ·skip
  rintro l1 hj1
  subst x1
  try dsimp only at h
  simp only [Try.St_towncrierref15_Twin_1]
  refine .seq ?_
  refine .pl Try.S [2, 3] ?_
  have hq := Option.some.inj h
  subst r
  refine .ret ⟨Try.Re_towncrierref15_Twin (⟨a0.Clock, l1, a0.Done⟩ : TSkeen), ?_, .inr rfl, retH [1, 0] ?_ ?_⟩
  ·skip
   exact .m [2] [4, 2, 1] [(4, 0), (2, 1), (1, 2)]
  ·exact rsi0
  ·rfl
theorem callP_towncrierref15_Twin (a0 : TSkeen) (r : TSkeen) (h : m_towncrierref15_Twin a0 = some r) : CallP Try.prog 5 [.agg [.int .i64 a0.Clock, .imm 7 (a0.Waits.map TWait.d) 4, .imm 2 (a0.Done.map TStamp.d) 4]] (.agg [.int .i64 r.Clock, .imm 7 (r.Waits.map TWait.d) 13, .imm 2 (r.Done.map TStamp.d) 13]) :=
 callP_frz (frz_agg (frzs_cons rfl (frzs_cons (frz_refN pln_TWait rfl rfl) (frzs_cons (frz_ref0 pl0_TStamp rfl rfl) frzs_nil)))) (callH_towncrierref15_Twin a0 r h)
def Try.St_towncrierref15_Same_1 : St := ⟨[], [], 2⟩
attribute [local go_sem] Try.St_towncrierref15_Same_1
def Try.St_towncrierref15_Same_3 (a0 : TSkeen) (a1 : TSkeen) (n1 : Nat) : St := ⟨[(2, .ptr 0 0), (3, .ptr 1 0), (5, .int .i64 (n1 : Int))], [(0, .box [.int .i64 a0.Clock, .imm 7 (a0.Waits.map TWait.d) 4, .imm 2 (a0.Done.map TStamp.d) 4]), (1, .box [.int .i64 a1.Clock, .imm 7 (a1.Waits.map TWait.d) 4, .imm 2 (a1.Done.map TStamp.d) 4])], 2⟩
attribute [local go_sem] Try.St_towncrierref15_Same_3
theorem callP_towncrierref15_Same (a0 : TSkeen) (a1 : TSkeen) (r : Bool) (h : m_towncrierref15_Same a0 a1 = some r) : CallP Try.prog 12 [.agg [.int .i64 a0.Clock, .imm 7 (a0.Waits.map TWait.d) 4, .imm 2 (a0.Done.map TStamp.d) 4], .agg [.int .i64 a1.Clock, .imm 7 (a1.Waits.map TWait.d) 4, .imm 2 (a1.Done.map TStamp.d) 4]] (.bool r) := by
 refine callP_intro Try.tmOk 6 Try.func12 rfl (by decide) rfl rfl (Nat.le_of_ble_eq_true rfl) ?_
 intro hwf
 unfold m_towncrierref15_Same at h
 refine .seq ?_
 refine .pl Try.S [0, 1] ?_
 refine .seq ?_
 refine .seq ?_
 obtain ⟨v1, hv1, h⟩ := bind_some h
 refine .rg Try.S [2, 3] ?_
 refine .rn 6 ?_
 refine .rn 6 ?_
 refine .rn 7 ?_
 refine .gcall (r := .bool v1) rfl rfl rfl rfl rfl (fun hg => ⟨[], [.imm 2 (a0.Done.map TStamp.d) 4, .imm 2 (a1.Done.map TStamp.d) 4], _, rfl, gd hg, rfl, (callP_towncrierref15_SameStamps a0.Done a1.Done v1 (ite_lc hv1 hg))⟩) ?_
 refine .rn 2 ?_
 refine .nil ⟨nofun, ?_⟩
 refine .cond rfl rfl (fun hc1 => ?_) (fun hc1 => ?_)
 ·skip
  replace h := ite_lc h hc1
  refine .seq ?_
  refine .pl Try.S [] ?_
  have hq := Option.some.inj h
  subst r
  exact .ret ⟨.inr rfl, rsi⟩
 ·skip
  replace h := ite_rc h hc1
  refine .skip ?_
  obtain ⟨x1, hx1, h⟩ := bind_some h
  refine .seqM 2 (fun (j : Unit) => Try.St_towncrierref15_Same_1) (fun j => x1 = (.inr j)) (Nat.le_of_ble_eq_true rfl) ?_ ?_
  ·skip
   refine .seq ?_
   refine .pl Try.S [2, 3] ?_
   refine .block ?_
   refine .loopG 2 (fun (j : Nat) => Try.St_towncrierref15_Same_3 a0 a1 j) (fun j => j ≤ a0.Waits.length ∧ m_towncrierref15_Same_loop1 a1 (a0.Waits.drop j) j  = some x1) (fun j => a0.Waits.length - j) (0) (Nat.le_of_ble_eq_true rfl) ?_ ⟨Nat.zero_le _, hx1⟩ ?_
   ·skip
    exact .m [2, 3, 5] [0, 1] []
   rintro n1 ⟨hi1, hx1⟩
   simp only [Try.St_towncrierref15_Same_3]
   refine .wfb 0 [.int .i64 a0.Clock, .imm 7 (a0.Waits.map TWait.d) 4, .imm 2 (a0.Done.map TStamp.d) 4] rfl ?_
   intro hln1
   replace hln1 : (a0.Waits.length : Int) ≤ 9223372036854775807 := by simp only [wf, wfL, IntKind.max, IntKind.min, IntKind.signed, IntKind.bits, List.length_map] at hln1; first | exact hln1.2 | exact hln1.1 | (simp at hln1; omega)
   refine .seq ?_
   refine .seq ?_
   refine .pl Try.S [2, 3, 5] ?_
   refine .cond rfl rfl (fun hc2 => ?_) (fun hc2 => ?_)
   ·skip
    have h1 : n1 < a0.Waits.length := by simpa using hc2
    have hwn1 : wr .i64 ((n1 : Int) + 1) = ((n1 + 1 : Nat) : Int) := wr_succ h1 hln1
    have hpn1 : wr .i64 ((n1 : Int) - 1) = (n1 : Int) - 1 := wr_pred h1 hln1
    rw [List.drop_eq_getElem_cons h1, m_towncrierref15_Same_loop1] at hx1
    refine .skip ?_
    refine .seq ?_
    refine .block ?_
    refine .seq ?_
    obtain ⟨k1, hx1⟩ := ite_ck hx1
    have e1 := nth_map TWait.d a0.Waits n1 h1
    have e2 := nth_mapD TWait.d a1.Waits n1
    replace e2 := e2 k1
    refine .rg Try.S [2, 3, 5] ?_
    refine .rdx 6 (And.intro e1 (And.intro e2 hwn1)) ?_
    refine .rdx 8 (And.intro e1 (And.intro e2 hwn1)) ?_
    refine .nil ⟨fun _ => schedB_of (by kernel_rfl), ?_⟩
    refine .seq ?_
    obtain ⟨v2, hv2, hx1⟩ := bind_some hx1
    refine .rg Try.S [2, 3, 5, 6, 7] ?_
    refine .rnx 4 hwn1 ?_
    refine .call (r := .bool v2) rfl rfl rfl rfl rfl rfl (callP_towncrierref12_SameMessage (a0.Waits[n1].Message) ((a1.Waits.getD n1 default).Message) v2 hv2) ?_
    refine .rnx 6 hwn1 ?_
    refine .rnx 6 hwn1 ?_
    refine .rnx 3 hwn1 ?_
    refine .nil ⟨nofun, ?_⟩
    refine .cond rfl rfl (fun hc3 => ?_) (fun hc3 => ?_)
    ·skip
     replace hx1 := ite_lc hx1 hc3
     refine .seq ?_
     refine .plx Try.S hwn1 [] ?_
     have hq := Option.some.inj hx1
     subst x1
     try dsimp only at h
     have hq := Option.some.inj h
     subst r
     exact .ret ⟨.inr rfl, rsi⟩
    ·skip
     replace hx1 := ite_rc hx1 hc3
     refine .skip ?_
     refine .plx Try.S hwn1 [2, 3, 5] ?_
     refine ⟨n1 + 1, ?_, ⟨by omega, hx1⟩, by dsimp only; omega⟩
     exact .m [2, 3, 5] [0, 1] []
   ·skip
    have h2 : n1 = a0.Waits.length := by have h2b := of_decide_eq_false hc2; omega
    rw [List.drop_of_length_le (by omega), m_towncrierref15_Same_loop1] at hx1
    refine .exit ?_
    refine ⟨_, ?_, (Option.some.inj hx1).symm⟩
    exact .m [] [] []
  ·skip
   rintro ⟨⟩ hj1
   subst x1
   try dsimp only at h
   simp only [Try.St_towncrierref15_Same_1]
   refine .seq ?_
   refine .pl Try.S [] ?_
   have hq := Option.some.inj h
   subst r
   exact .ret ⟨.inr rfl, rsi⟩
def Try.St_towncrierref15_waits_1 : St := ⟨[], [], 1⟩
attribute [local go_sem] Try.St_towncrierref15_waits_1
def Try.St_towncrierref15_waits_3 (a0 : TSkeen) (a1 : Int) (n1 : Nat) : St := ⟨[(1, .int .i64 a1), (2, .ptr 0 0), (5, .int .i64 (n1 : Int))], [(0, .box [.int .i64 a0.Clock, .imm 7 (a0.Waits.map TWait.d) 4, .imm 2 (a0.Done.map TStamp.d) 4])], 1⟩
attribute [local go_sem] Try.St_towncrierref15_waits_3
theorem callP_towncrierref15_waits (a0 : TSkeen) (a1 : Int) (r : Int) (h : m_towncrierref15_waits a0 a1 = some r) : CallP Try.prog 28 [.agg [.int .i64 a0.Clock, .imm 7 (a0.Waits.map TWait.d) 4, .imm 2 (a0.Done.map TStamp.d) 4], .int .i64 a1] (.int .i64 r) := by
 refine callP_intro Try.tmOk 3 Try.func28 rfl (by decide) rfl rfl (Nat.le_of_ble_eq_true rfl) ?_
 intro hwf
 unfold m_towncrierref15_waits at h
 refine .seq ?_
 refine .pl Try.S [0, 1] ?_
 obtain ⟨x1, hx1, h⟩ := bind_some h
 refine .seqM 1 (fun (j : Unit) => Try.St_towncrierref15_waits_1) (fun j => x1 = (.inr j)) (Nat.le_of_ble_eq_true rfl) ?_ ?_
 ·skip
  refine .seq ?_
  refine .pl Try.S [1, 2] ?_
  refine .block ?_
  refine .loopG 1 (fun (j : Nat) => Try.St_towncrierref15_waits_3 a0 a1 j) (fun j => j ≤ a0.Waits.length ∧ m_towncrierref15_waits_loop1 a1 (a0.Waits.drop j) j  = some x1) (fun j => a0.Waits.length - j) (0) (Nat.le_of_ble_eq_true rfl) ?_ ⟨Nat.zero_le _, hx1⟩ ?_
  ·skip
   exact .m [1, 2, 5] [0] []
  rintro n1 ⟨hi1, hx1⟩
  simp only [Try.St_towncrierref15_waits_3]
  refine .wfb 0 [.int .i64 a0.Clock, .imm 7 (a0.Waits.map TWait.d) 4, .imm 2 (a0.Done.map TStamp.d) 4] rfl ?_
  intro hln1
  replace hln1 : (a0.Waits.length : Int) ≤ 9223372036854775807 := by simp only [wf, wfL, IntKind.max, IntKind.min, IntKind.signed, IntKind.bits, List.length_map] at hln1; first | exact hln1.2 | exact hln1.1 | (simp at hln1; omega)
  refine .seq ?_
  refine .seq ?_
  refine .pl Try.S [1, 2, 5] ?_
  refine .cond rfl rfl (fun hc1 => ?_) (fun hc1 => ?_)
  ·skip
   have h1 : n1 < a0.Waits.length := by simpa using hc1
   have hwn1 : wr .i64 ((n1 : Int) + 1) = ((n1 + 1 : Nat) : Int) := wr_succ h1 hln1
   have hpn1 : wr .i64 ((n1 : Int) - 1) = (n1 : Int) - 1 := wr_pred h1 hln1
   rw [List.drop_eq_getElem_cons h1, m_towncrierref15_waits_loop1] at hx1
   refine .skip ?_
   refine .seq ?_
   refine .block ?_
   refine .seq ?_
   have e1 := nth_map TWait.d a0.Waits n1 h1
   refine .rg Try.S [1, 2, 5] ?_
   refine .rnx 6 (And.intro e1 hwn1) ?_
   refine .rnx 3 (And.intro e1 hwn1) ?_
   refine .nil ⟨nofun, ?_⟩
   refine .cond rfl rfl (fun hc2 => ?_) (fun hc2 => ?_)
   ·skip
    replace hx1 := ite_lc hx1 hc2
    refine .seq ?_
    refine .plx Try.S hwn1 [5] ?_
    have hq := Option.some.inj hx1
    subst x1
    try dsimp only at h
    have hq := Option.some.inj h
    subst r
    exact .ret ⟨.inr rfl, rsi⟩
   ·skip
    replace hx1 := ite_rc hx1 hc2
    refine .skip ?_
    refine .plx Try.S hwn1 [1, 2, 5] ?_
    refine ⟨n1 + 1, ?_, ⟨by omega, hx1⟩, by dsimp only; omega⟩
    exact .m [1, 2, 5] [0] []
  ·skip
   have h2 : n1 = a0.Waits.length := by have h2b := of_decide_eq_false hc1; omega
   rw [List.drop_of_length_le (by omega), m_towncrierref15_waits_loop1] at hx1
   refine .exit ?_
   refine ⟨_, ?_, (Option.some.inj hx1).symm⟩
   exact .m [] [] []
 ·skip
  rintro ⟨⟩ hj1
  subst x1
  try dsimp only at h
  simp only [Try.St_towncrierref15_waits_1]
  refine .seq ?_
  refine .pl Try.S [] ?_
  have hq := Option.some.inj h
  subst r
  exact .ret ⟨.inr rfl, rsi⟩
def Try.St_towncrierref15_done_1 : St := ⟨[], [], 1⟩
attribute [local go_sem] Try.St_towncrierref15_done_1
def Try.St_towncrierref15_done_3 (a0 : TSkeen) (a1 : Int) (n1 : Nat) : St := ⟨[(1, .int .i64 a1), (2, .ptr 0 0), (5, .int .i64 (n1 : Int))], [(0, .box [.int .i64 a0.Clock, .imm 7 (a0.Waits.map TWait.d) 4, .imm 2 (a0.Done.map TStamp.d) 4])], 1⟩
attribute [local go_sem] Try.St_towncrierref15_done_3
theorem callP_towncrierref15_done (a0 : TSkeen) (a1 : Int) (r : Bool) (h : m_towncrierref15_done a0 a1 = some r) : CallP Try.prog 43 [.agg [.int .i64 a0.Clock, .imm 7 (a0.Waits.map TWait.d) 4, .imm 2 (a0.Done.map TStamp.d) 4], .int .i64 a1] (.bool r) := by
 refine callP_intro Try.tmOk 3 Try.func43 rfl (by decide) rfl rfl (Nat.le_of_ble_eq_true rfl) ?_
 intro hwf
 unfold m_towncrierref15_done at h
 refine .seq ?_
 refine .pl Try.S [0, 1] ?_
 obtain ⟨x1, hx1, h⟩ := bind_some h
 refine .seqM 1 (fun (j : Unit) => Try.St_towncrierref15_done_1) (fun j => x1 = (.inr j)) (Nat.le_of_ble_eq_true rfl) ?_ ?_
 ·skip
  refine .seq ?_
  refine .pl Try.S [1, 2] ?_
  refine .block ?_
  refine .loopG 1 (fun (j : Nat) => Try.St_towncrierref15_done_3 a0 a1 j) (fun j => j ≤ a0.Done.length ∧ m_towncrierref15_done_loop1 a1 (a0.Done.drop j)  = some x1) (fun j => a0.Done.length - j) (0) (Nat.le_of_ble_eq_true rfl) ?_ ⟨Nat.zero_le _, hx1⟩ ?_
  ·skip
   exact .m [1, 2, 5] [0] []
  rintro n1 ⟨hi1, hx1⟩
  simp only [Try.St_towncrierref15_done_3]
  refine .wfb 0 [.int .i64 a0.Clock, .imm 7 (a0.Waits.map TWait.d) 4, .imm 2 (a0.Done.map TStamp.d) 4] rfl ?_
  intro hln1
  replace hln1 : (a0.Done.length : Int) ≤ 9223372036854775807 := by simp only [wf, wfL, IntKind.max, IntKind.min, IntKind.signed, IntKind.bits, List.length_map] at hln1; first | exact hln1.2 | exact hln1.1 | (simp at hln1; omega)
  refine .seq ?_
  refine .seq ?_
  refine .pl Try.S [1, 2, 5] ?_
  refine .cond rfl rfl (fun hc1 => ?_) (fun hc1 => ?_)
  ·skip
   have h1 : n1 < a0.Done.length := by simpa using hc1
   have hwn1 : wr .i64 ((n1 : Int) + 1) = ((n1 + 1 : Nat) : Int) := wr_succ h1 hln1
   have hpn1 : wr .i64 ((n1 : Int) - 1) = (n1 : Int) - 1 := wr_pred h1 hln1
   rw [List.drop_eq_getElem_cons h1, m_towncrierref15_done_loop1] at hx1
   refine .skip ?_
   refine .seq ?_
   refine .block ?_
   refine .seq ?_
   have e1 := nth_map TStamp.d a0.Done n1 h1
   refine .plx Try.S (And.intro e1 hwn1) [1, 2, 5] ?_
   refine .cond rfl rfl (fun hc2 => ?_) (fun hc2 => ?_)
   ·skip
    replace hx1 := ite_lc hx1 hc2
    refine .seq ?_
    refine .plx Try.S hwn1 [] ?_
    have hq := Option.some.inj hx1
    subst x1
    try dsimp only at h
    have hq := Option.some.inj h
    subst r
    exact .ret ⟨.inr rfl, rsi⟩
   ·skip
    replace hx1 := ite_rc hx1 hc2
    refine .skip ?_
    refine .plx Try.S hwn1 [1, 2, 5] ?_
    refine ⟨n1 + 1, ?_, ⟨by omega, hx1⟩, by dsimp only; omega⟩
    exact .m [1, 2, 5] [0] []
  ·skip
   have h2 : n1 = a0.Done.length := by have h2b := of_decide_eq_false hc1; omega
   rw [List.drop_of_length_le (by omega), m_towncrierref15_done_loop1] at hx1
   refine .exit ?_
   refine ⟨_, ?_, (Option.some.inj hx1).symm⟩
   exact .m [] [] []
 ·skip
  rintro ⟨⟩ hj1
  subst x1
  try dsimp only at h
  simp only [Try.St_towncrierref15_done_1]
  refine .seq ?_
  refine .pl Try.S [] ?_
  have hq := Option.some.inj h
  subst r
  exact .ret ⟨.inr rfl, rsi⟩
def Try.St_towncrierref15_least_1 (n1 : Int) : St := ⟨[(3, .int .i64 n1)], [], 0⟩
attribute [local go_sem] Try.St_towncrierref15_least_1
def Try.St_towncrierref15_least_3 (a0 : List TWait) (n2 : Int) (n3 : Int) : St := ⟨[(0, .imm 7 (a0.map TWait.d) 4), (3, .int .i64 n2), (4, .int .i64 n3)], [], 0⟩
attribute [local go_sem] Try.St_towncrierref15_least_3
def Try.St_towncrierref15_least_5 (a0 : List TWait) (n3 : Int) (n4 : Int) : St := ⟨[(0, .imm 7 (a0.map TWait.d) 4), (3, .int .i64 n4), (4, .int .i64 n3)], [], 0⟩
attribute [local go_sem] Try.St_towncrierref15_least_5
theorem callP_towncrierref15_least (a0 : List TWait) (r : Int) (h : m_towncrierref15_least a0 = some r) : CallP Try.prog 45 [.imm 7 (a0.map TWait.d) 4] (.int .i64 r) := by
 refine callP_intro Try.tmOk 2 Try.func45 rfl (by decide) rfl rfl (Nat.le_of_ble_eq_true rfl) ?_
 intro hwf
 unfold m_towncrierref15_least at h
 refine .seq ?_
 refine .pl Try.S [0] ?_
 refine .seq ?_
 refine .pl Try.S [0] ?_
 obtain ⟨x1, hx1, h⟩ := bind_some h
 refine .seqM 0 (fun (j : Int) => Try.St_towncrierref15_least_1 j) (fun j => x1 = j) (Nat.le_of_ble_eq_true rfl) ?_ ?_
 ·skip
  refine .seq ?_
  refine .pl Try.S [0, 3] ?_
  refine .block ?_
  refine .loopG 0 (fun (j : Nat × Int × Int) => Try.St_towncrierref15_least_3 a0 j.2.1 j.2.2) (fun j => m_towncrierref15_least_loop1 a0 j.1 j.2.1 j.2.2 = some x1) (fun j => j.1) (a0.length + 1, 0, 1) (Nat.le_of_ble_eq_true rfl) ?_ hx1 ?_
  ·skip
   exact .m [0, 3, 4] [] []
  rintro ⟨fu1, n2, n3⟩ hx1
  simp only [Try.St_towncrierref15_least_3]
  try simp only at hx1
  obtain ⟨fu1, rfl⟩ : ∃ k, fu1 = k + 1 := by cases fu1 with | zero => (rw [m_towncrierref15_least_loop1] at hx1; cases hx1) | succ k => exact ⟨k, rfl⟩
  rw [m_towncrierref15_least_loop1] at hx1
  refine .seq ?_
  refine .seq ?_
  refine .pl Try.S [0, 3, 4] ?_
  refine .cond rfl rfl (fun hc1 => ?_) (fun hc1 => ?_)
  ·skip
   replace hx1 := ite_lc hx1 hc1
   refine .skip ?_
   obtain ⟨x2, hx2, hx1⟩ := bind_some hx1
   refine .seqM 0 (fun (j : Int) => Try.St_towncrierref15_least_5 a0 n3 j) (fun j => x2 = j) (Nat.le_of_ble_eq_true rfl) ?_ ?_
   ·skip
    refine .block ?_
    refine .seq ?_
    obtain ⟨k1, hx2⟩ := ite_ck hx2
    obtain ⟨v1, hv1, hx2⟩ := bind_some hx2
    obtain ⟨k2, hx2⟩ := ite_ck hx2
    obtain ⟨v2, hv2, hx2⟩ := bind_some hx2
    obtain ⟨v3, hv3, hx2⟩ := bind_some hx2
    have e1 := nth_mapI TWait.d a0 n3
    have e2 := nth_mapI TWait.d a0 n2
    replace e1 := e1 k1
    replace e2 := e2 k2
    refine .rg Try.S [0, 3, 4] ?_
    refine .rdx 4 (And.intro e1 e2) ?_
    refine .call (r := .agg [.int .i64 v1.Time, .int .i64 v1.Id]) rfl rfl rfl rfl rfl rfl (callP_towncrierref15_Stamp (a0.getD n3.toNat default) v1 hv1) ?_
    refine .rdx 4 (And.intro e1 e2) ?_
    refine .call (r := .agg [.int .i64 v2.Time, .int .i64 v2.Id]) rfl rfl rfl rfl rfl rfl (callP_towncrierref15_Stamp (a0.getD n2.toNat default) v2 hv2) ?_
    refine .rdx 0 (And.intro e1 e2) ?_
    refine .call (r := .bool v3) rfl rfl rfl rfl rfl rfl (callP_towncrierref14_Less v1 v2 v3 hv3) ?_
    refine .nil ⟨fun _ => schedB_of (by kernel_rfl), ?_⟩
    refine .cond rfl rfl (fun hc2 => ?_) (fun hc2 => ?_)
    ·skip
     replace hx2 := ite_lc hx2 hc2
     refine .pl Try.S [0, 4] ?_
     refine ⟨_, ?_, (Option.some.inj hx2).symm⟩
     exact .m [0, 3, 4] [] []
    ·skip
     replace hx2 := ite_rc hx2 hc2
     refine .skip ?_
     refine ⟨_, ?_, (Option.some.inj hx2).symm⟩
     exact .m [0, 3, 4] [] []
   ·skip
    rintro n4 hj1
    subst x2
    try dsimp only at hx1
    simp only [Try.St_towncrierref15_least_5]
    refine .pl Try.S [0, 3, 4] ?_
    refine ⟨(fu1, _, _), ?_, hx1, by dsimp only; omega⟩
    exact .m [0, 3, 4] [] []
  ·skip
   replace hx1 := ite_rc hx1 hc1
   refine .exit ?_
   refine ⟨_, ?_, (Option.some.inj hx1).symm⟩
   exact .m [3] [] []
 ·skip
  rintro n1 hj2
  subst x1
  try dsimp only at h
  simp only [Try.St_towncrierref15_least_1]
  refine .seq ?_
  refine .pl Try.S [3] ?_
  have hq := Option.some.inj h
  subst r
  exact .ret ⟨.inr rfl, rsi⟩
def Try.St_towncrierref15_May_1 (a0 : TSkeen) : St := ⟨[(1, .ptr 0 0)], [(0, .box [.int .i64 a0.Clock, .imm 7 (a0.Waits.map TWait.d) 4, .imm 2 (a0.Done.map TStamp.d) 4])], 1⟩
attribute [local go_sem] Try.St_towncrierref15_May_1
def Try.St_towncrierref15_May_3 (a0 : TSkeen) (n1 : Int) : St := ⟨[(1, .ptr 0 0), (3, .int .i64 n1)], [(0, .box [.int .i64 a0.Clock, .imm 7 (a0.Waits.map TWait.d) 4, .imm 2 (a0.Done.map TStamp.d) 4])], 1⟩
attribute [local go_sem] Try.St_towncrierref15_May_3
def Try.St_towncrierref15_May_5 (a0 : TSkeen) (n1 : Int) : St := ⟨[(1, .ptr 0 0), (3, .int .i64 n1)], [(0, .box [.int .i64 a0.Clock, .imm 7 (a0.Waits.map TWait.d) 4, .imm 2 (a0.Done.map TStamp.d) 4])], 1⟩
attribute [local go_sem] Try.St_towncrierref15_May_5
def Try.St_towncrierref15_May_7 (a0 : TSkeen) (n1 : Int) (n2 : Int) : St := ⟨[(1, .ptr 0 0), (3, .int .i64 n1), (4, .ptr 1 0), (5, .int .i64 n2)], [(0, .box [.int .i64 a0.Clock, .imm 7 (a0.Waits.map TWait.d) 4, .imm 2 (a0.Done.map TStamp.d) 4]), (1, .box [.int .i64 ((a0.Done.getD n1.toNat default).Time), .int .i64 ((a0.Done.getD n1.toNat default).Id)])], 2⟩
attribute [local go_sem] Try.St_towncrierref15_May_7
def Try.St_towncrierref15_May_9 (a0 : TSkeen) : St := ⟨[(1, .ptr 0 0)], [(0, .box [.int .i64 a0.Clock, .imm 7 (a0.Waits.map TWait.d) 4, .imm 2 (a0.Done.map TStamp.d) 4])], 1⟩
attribute [local go_sem] Try.St_towncrierref15_May_9
def Try.St_towncrierref15_May_11 (a0 : TSkeen) (n3 : Nat) : St := ⟨[(1, .ptr 0 0), (6, .int .i64 (n3 : Int))], [(0, .box [.int .i64 a0.Clock, .imm 7 (a0.Waits.map TWait.d) 4, .imm 2 (a0.Done.map TStamp.d) 4])], 1⟩
attribute [local go_sem] Try.St_towncrierref15_May_11
theorem callP_towncrierref15_May (a0 : TSkeen) (r : Bool) (h : m_towncrierref15_May a0 = some r) : CallP Try.prog 15 [.agg [.int .i64 a0.Clock, .imm 7 (a0.Waits.map TWait.d) 4, .imm 2 (a0.Done.map TStamp.d) 4]] (.bool r) := by
 refine callP_intro Try.tmOk 4 Try.func15 rfl (by decide) rfl rfl (Nat.le_of_ble_eq_true rfl) ?_
 intro hwf
 unfold m_towncrierref15_May at h
 refine .seq ?_
 refine .pl Try.S [0] ?_
 refine .seq ?_
 refine .seq ?_
 refine .rg Try.S [1] ?_
 refine .rn 6 ?_
 refine .rn 6 ?_
 refine .rn 8 ?_
 refine .nil ⟨nofun, ?_⟩
 refine .cond rfl rfl (fun hc1 => ?_) (fun hc1 => ?_)
 ·skip
  replace h := ite_lc h hc1
  refine .seq ?_
  refine .pl Try.S [] ?_
  have hq := Option.some.inj h
  subst r
  exact .ret ⟨.inr rfl, rsi⟩
 ·skip
  replace h := ite_rc h hc1
  refine .skip ?_
  obtain ⟨x1, hx1, h⟩ := bind_some h
  refine .seqM 1 (fun (j : Unit) => Try.St_towncrierref15_May_1 a0) (fun j => x1 = (.inr j)) (Nat.le_of_ble_eq_true rfl) ?_ ?_
  ·skip
   refine .seq ?_
   refine .pl Try.S [1] ?_
   refine .block ?_
   refine .loopG 1 (fun (j : Nat × Int) => Try.St_towncrierref15_May_3 a0 j.2) (fun j => m_towncrierref15_May_loop1 a0 j.1 j.2 = some x1) (fun j => j.1) (a0.Done.length + 1, 0) (Nat.le_of_ble_eq_true rfl) ?_ hx1 ?_
   ·skip
    exact .m [1, 3] [0] []
   rintro ⟨fu1, n1⟩ hx1
   simp only [Try.St_towncrierref15_May_3]
   try simp only at hx1
   obtain ⟨fu1, rfl⟩ : ∃ k, fu1 = k + 1 := by cases fu1 with | zero => (rw [m_towncrierref15_May_loop1] at hx1; cases hx1) | succ k => exact ⟨k, rfl⟩
   rw [m_towncrierref15_May_loop1] at hx1
   refine .seq ?_
   refine .seq ?_
   refine .pl Try.S [1, 3] ?_
   refine .cond rfl rfl (fun hc2 => ?_) (fun hc2 => ?_)
   ·skip
    replace hx1 := ite_lc hx1 hc2
    refine .skip ?_
    obtain ⟨x2, hx2, hx1⟩ := bind_some hx1
    refine .seqM 1 (fun (j : Unit) => Try.St_towncrierref15_May_5 a0 n1) (fun j => x2 = (.inr j)) (Nat.le_of_ble_eq_true rfl) ?_ ?_
    ·skip
     refine .block ?_
     refine .seq ?_
     obtain ⟨k1, hx2⟩ := ite_ck hx2
     have e1 := nth_mapI TStamp.d a0.Done n1
     replace e1 := e1 k1
     refine .plx Try.S e1 [1, 3] ?_
     refine .seq ?_
     obtain ⟨v1, hv1, hx2⟩ := bind_some hx2
     obtain ⟨k2, hx2⟩ := ite_ck hx2
     obtain ⟨v2, hv2, hx2⟩ := bind_some hx2
     refine .seqM 2 (fun (_ : Unit) => ⟨[(1, .ptr 0 0), (3, .int .i64 n1), (4, .ptr 1 0), (69, .bool ((((!v1) || (decide ((a0.Done.getD n1.toNat default).Time < 1))) || (decide ((a0.Done.getD n1.toNat default).Time > a0.Clock))) || ((decide (n1 > 0)) && (!v2))))], [(0, .box [.int .i64 a0.Clock, .imm 7 (a0.Waits.map TWait.d) 4, .imm 2 (a0.Done.map TStamp.d) 4]), (1, .box [.int .i64 ((a0.Done.getD n1.toNat default).Time), .int .i64 ((a0.Done.getD n1.toNat default).Id)])], 2⟩) (fun _ => True) (Nat.le_of_ble_eq_true rfl) ?_ (fun _ _ => ?_)
     ·skip
      by_cases hgd : (¬ (((¬ (v1 = true)) ∨ ((a0.Done.getD n1.toNat default).Time < 1)) ∨ ((a0.Done.getD n1.toNat default).Time > a0.Clock))) ∧ (n1 > 0)
      ·skip
       have eg10 := nth_mapI TStamp.d a0.Done (wr .i64 (n1 - 1)) (k2 hgd)
       refine .rg Try.S [1, 3, 4] ?_
       refine .rdx 1 eg10 ?_
       refine .call (r := .bool v1) rfl rfl rfl rfl rfl rfl (callP_towncrierref14_May (a0.Done.getD n1.toNat default) v1 hv1) ?_
       refine .rdx 6 eg10 ?_
       refine .rdx 6 eg10 ?_
       refine .rdx 6 eg10 ?_
       refine .rdx 6 eg10 ?_
       refine .gcall (r := .bool v2) rfl rfl rfl rfl rfl (fun hg => ⟨[], [.agg [.int .i64 ((a0.Done.getD (wr .i64 (n1 - 1)).toNat default).Time), .int .i64 ((a0.Done.getD (wr .i64 (n1 - 1)).toNat default).Id)], .agg [.int .i64 ((a0.Done.getD n1.toNat default).Time), .int .i64 ((a0.Done.getD n1.toNat default).Id)]], _, rfl, gd hg, rfl, (callP_towncrierref14_Less (a0.Done.getD (wr .i64 (n1 - 1)).toNat default) (a0.Done.getD n1.toNat default) v2 (ite_lc hv2 hg))⟩) ?_
       refine .rdx 3 eg10 ?_
       refine .nil ⟨fun _ => schedB_of (by kernel_rfl), ?_⟩
       refine ⟨(), ?_, trivial⟩
       exact .m [1, 3, 4, 69] [0, 1] []
      ·skip
       have hgf1 : ((!(((!v1) || (decide ((a0.Done.getD n1.toNat default).Time < 1))) || (decide ((a0.Done.getD n1.toNat default).Time > a0.Clock)))) && (decide (n1 > 0))) = false := by first | simpa using hgd | (simp at hgd ⊢; omega) | grind
       rcases nth_or TStamp.d a0.Done ((wr .i64 (n1 - 1)).toNat) with eg10 | eg10
       ·skip
        refine .rg Try.S [1, 3, 4] ?_
        refine .rdx 1 (And.intro eg10 hgf1) ?_
        refine .call (r := .bool v1) rfl rfl rfl rfl rfl rfl (callP_towncrierref14_May (a0.Done.getD n1.toNat default) v1 hv1) ?_
        refine .rdx 6 (And.intro eg10 hgf1) ?_
        refine .rdx 6 (And.intro eg10 hgf1) ?_
        refine .rdx 6 (And.intro eg10 hgf1) ?_
        refine .rdx 6 (And.intro eg10 hgf1) ?_
        refine .gcall (r := .bool v2) rfl rfl rfl rfl rfl (fun hg => ⟨[], [.agg [.int .i64 ((a0.Done.getD (wr .i64 (n1 - 1)).toNat default).Time), .int .i64 ((a0.Done.getD (wr .i64 (n1 - 1)).toNat default).Id)], .agg [.int .i64 ((a0.Done.getD n1.toNat default).Time), .int .i64 ((a0.Done.getD n1.toNat default).Id)]], _, rfl, gd hg, rfl, (callP_towncrierref14_Less (a0.Done.getD (wr .i64 (n1 - 1)).toNat default) (a0.Done.getD n1.toNat default) v2 (ite_lc hv2 hg))⟩) ?_
        refine .rdx 3 (And.intro eg10 hgf1) ?_
        refine .nil ⟨fun _ => schedB_of (by kernel_rfl), ?_⟩
        refine ⟨(), ?_, trivial⟩
        exact .mx hgf1 [1, 3, 4, 69] [0, 1] []
       ·skip
        refine .rg Try.S [1, 3, 4] ?_
        refine .rdx 1 (And.intro eg10 hgf1) ?_
        refine .call (r := .bool v1) rfl rfl rfl rfl rfl rfl (callP_towncrierref14_May (a0.Done.getD n1.toNat default) v1 hv1) ?_
        refine .rdx 6 (And.intro eg10 hgf1) ?_
        refine .rdx 6 (And.intro eg10 hgf1) ?_
        refine .rdx 6 (And.intro eg10 hgf1) ?_
        refine .rdx 6 (And.intro eg10 hgf1) ?_
        refine .gcall (r := .bool v2) rfl rfl rfl rfl rfl (fun hg => ⟨[], [.agg [.int .i64 ((a0.Done.getD (wr .i64 (n1 - 1)).toNat default).Time), .int .i64 ((a0.Done.getD (wr .i64 (n1 - 1)).toNat default).Id)], .agg [.int .i64 ((a0.Done.getD n1.toNat default).Time), .int .i64 ((a0.Done.getD n1.toNat default).Id)]], _, rfl, gd hg, rfl, (callP_towncrierref14_Less (a0.Done.getD (wr .i64 (n1 - 1)).toNat default) (a0.Done.getD n1.toNat default) v2 (ite_lc hv2 hg))⟩) ?_
        refine .rdx 3 (And.intro eg10 hgf1) ?_
        refine .nil ⟨fun _ => schedB_of (by kernel_rfl), ?_⟩
        refine ⟨(), ?_, trivial⟩
        exact .mx hgf1 [1, 3, 4, 69] [0, 1] []
     refine .cond rfl rfl (fun hc3 => ?_) (fun hc3 => ?_)
     ·skip
      replace hx2 := ite_lc hx2 hc3
      refine .seq ?_
      refine .pl Try.S [] ?_
      have hq := Option.some.inj hx2
      subst x2
      try dsimp only at hx1
      have hq := Option.some.inj hx1
      subst x1
      try dsimp only at h
      have hq := Option.some.inj h
      subst r
      exact .ret ⟨.inr rfl, rsi⟩
     ·skip
      replace hx2 := ite_rc hx2 hc3
      refine .skip ?_
      refine .seq ?_
      refine .pl Try.S [1, 3, 4] ?_
      refine .block ?_
      refine .loopG 2 (fun (j : Nat × Int) => Try.St_towncrierref15_May_7 a0 n1 j.2) (fun j => m_towncrierref15_May_loop2 a0 n1 j.1 j.2 = some x2) (fun j => j.1) (a0.Done.length + 1, 0) (Nat.le_of_ble_eq_true rfl) ?_ hx2 ?_
      ·skip
       exact .m [1, 3, 4, 5] [0, 1] []
      rintro ⟨fu2, n2⟩ hx2
      simp only [Try.St_towncrierref15_May_7]
      try simp only at hx2
      obtain ⟨fu2, rfl⟩ : ∃ k, fu2 = k + 1 := by cases fu2 with | zero => (rw [m_towncrierref15_May_loop2] at hx2; cases hx2) | succ k => exact ⟨k, rfl⟩
      rw [m_towncrierref15_May_loop2] at hx2
      refine .seq ?_
      refine .seq ?_
      refine .pl Try.S [1, 3, 4, 5] ?_
      refine .cond rfl rfl (fun hc4 => ?_) (fun hc4 => ?_)
      ·skip
       replace hx2 := ite_lc hx2 hc4
       refine .skip ?_
       refine .seq ?_
       refine .block ?_
       refine .seq ?_
       obtain ⟨k3, hx2⟩ := ite_ck hx2
       have e2 := nth_mapI TStamp.d a0.Done n2
       replace e2 := e2 k3
       refine .rg Try.S [1, 3, 4, 5] ?_
       refine .rdx 6 e2 ?_
       refine .rdx 3 e2 ?_
       refine .nil ⟨fun _ => schedB_of (by kernel_rfl), ?_⟩
       refine .cond rfl rfl (fun hc5 => ?_) (fun hc5 => ?_)
       ·skip
        replace hx2 := ite_lc hx2 hc5
        refine .seq ?_
        refine .pl Try.S [] ?_
        have hq := Option.some.inj hx2
        subst x2
        try dsimp only at hx1
        have hq := Option.some.inj hx1
        subst x1
        try dsimp only at h
        have hq := Option.some.inj h
        subst r
        exact .ret ⟨.inr rfl, rsi⟩
       ·skip
        replace hx2 := ite_rc hx2 hc5
        refine .skip ?_
        refine .pl Try.S [1, 3, 4, 5] ?_
        refine ⟨(fu2, _), ?_, hx2, by dsimp only; omega⟩
        exact .m [1, 3, 4, 5] [0, 1] []
      ·skip
       replace hx2 := ite_rc hx2 hc4
       refine .exit ?_
       refine ⟨_, ?_, (Option.some.inj hx2).symm⟩
       exact .m [1, 3] [0] []
    ·skip
     rintro ⟨⟩ hj1
     subst x2
     try dsimp only at hx1
     simp only [Try.St_towncrierref15_May_5]
     refine .pl Try.S [1, 3] ?_
     refine ⟨(fu1, _), ?_, hx1, by dsimp only; omega⟩
     exact .m [1, 3] [0] []
   ·skip
    replace hx1 := ite_rc hx1 hc2
    refine .exit ?_
    refine ⟨_, ?_, (Option.some.inj hx1).symm⟩
    exact .m [1] [0] []
  ·skip
   rintro ⟨⟩ hj2
   subst x1
   try dsimp only at h
   simp only [Try.St_towncrierref15_May_1]
   obtain ⟨x3, hx3, h⟩ := bind_some h
   refine .seqM 1 (fun (j : Unit) => Try.St_towncrierref15_May_9 a0) (fun j => x3 = (.inr j)) (Nat.le_of_ble_eq_true rfl) ?_ ?_
   ·skip
    refine .seq ?_
    refine .pl Try.S [1] ?_
    refine .block ?_
    refine .loopG 1 (fun (j : Nat) => Try.St_towncrierref15_May_11 a0 j) (fun j => j ≤ a0.Waits.length ∧ m_towncrierref15_May_loop3 a0 (a0.Waits.drop j) j  = some x3) (fun j => a0.Waits.length - j) (0) (Nat.le_of_ble_eq_true rfl) ?_ ⟨Nat.zero_le _, hx3⟩ ?_
    ·skip
     exact .m [1, 6] [0] []
    rintro n3 ⟨hi1, hx3⟩
    simp only [Try.St_towncrierref15_May_11]
    refine .wfb 0 [.int .i64 a0.Clock, .imm 7 (a0.Waits.map TWait.d) 4, .imm 2 (a0.Done.map TStamp.d) 4] rfl ?_
    intro hln3
    replace hln3 : (a0.Waits.length : Int) ≤ 9223372036854775807 := by simp only [wf, wfL, IntKind.max, IntKind.min, IntKind.signed, IntKind.bits, List.length_map] at hln3; first | exact hln3.2 | exact hln3.1 | (simp at hln3; omega)
    refine .seq ?_
    refine .seq ?_
    refine .pl Try.S [1, 6] ?_
    refine .cond rfl rfl (fun hc6 => ?_) (fun hc6 => ?_)
    ·skip
     have h1 : n3 < a0.Waits.length := by simpa using hc6
     have hwn3 : wr .i64 ((n3 : Int) + 1) = ((n3 + 1 : Nat) : Int) := wr_succ h1 hln3
     have hpn3 : wr .i64 ((n3 : Int) - 1) = (n3 : Int) - 1 := wr_pred h1 hln3
     rw [List.drop_eq_getElem_cons h1, m_towncrierref15_May_loop3] at hx3
     refine .skip ?_
     refine .seq ?_
     refine .block ?_
     refine .seq ?_
     have e3 := nth_map TWait.d a0.Waits n3 h1
     refine .plx Try.S (And.intro e3 hwn3) [1, 6] ?_
     refine .seq ?_
     refine .seq ?_
     obtain ⟨v3, hv3, hx3⟩ := bind_some hx3
     obtain ⟨v4, hv4, hx3⟩ := bind_some hx3
     have e4 := nth_mapD TWait.d a0.Waits (n3 - 1) (by omega)
     refine .rg Try.S [1, 6, 7] ?_
     refine .rdx 2 (And.intro e4 (And.intro hpn3 hwn3)) ?_
     refine .call (r := .bool v3) rfl rfl rfl rfl rfl rfl (callP_towncrierref12_MayMessage (a0.Waits[n3].Message) v3 hv3) ?_
     refine .rdx 6 (And.intro e4 (And.intro hpn3 hwn3)) ?_
     refine .rdx 6 (And.intro e4 (And.intro hpn3 hwn3)) ?_
     refine .rdx 6 (And.intro e4 (And.intro hpn3 hwn3)) ?_
     refine .rdx 6 (And.intro e4 (And.intro hpn3 hwn3)) ?_
     refine .rdx 6 (And.intro e4 (And.intro hpn3 hwn3)) ?_
     refine .rdx 6 (And.intro e4 (And.intro hpn3 hwn3)) ?_
     refine .gcall (r := .bool v4) rfl rfl rfl rfl rfl (fun hg => ⟨[], [.agg [.int .i64 a0.Clock, .imm 7 (a0.Waits.map TWait.d) 4, .imm 2 (a0.Done.map TStamp.d) 4], .int .i64 (a0.Waits[n3].Message.Id)], _, rfl, gd hg, rfl, (callP_towncrierref15_done a0 (a0.Waits[n3].Message.Id) v4 (ite_lc hv4 hg))⟩) ?_
     refine .rdx 1 (And.intro e4 (And.intro hpn3 hwn3)) ?_
     refine .nil ⟨fun _ => schedB_of (by kernel_rfl), ?_⟩
     refine .cond rfl rfl (fun hc7 => ?_) (fun hc7 => ?_)
     ·skip
      replace hx3 := ite_lc hx3 hc7
      refine .seq ?_
      refine .plx Try.S hwn3 [] ?_
      have hq := Option.some.inj hx3
      subst x3
      try dsimp only at h
      have hq := Option.some.inj h
      subst r
      exact .ret ⟨.inr rfl, rsi⟩
     ·skip
      replace hx3 := ite_rc hx3 hc7
      refine .skip ?_
      obtain ⟨k4, hx3⟩ := ite_ck hx3
      obtain ⟨v5, hv5, hx3⟩ := bind_some hx3
      obtain ⟨v6, hv6, hx3⟩ := bind_some hx3
      refine .seqM 2 (fun (_ : Unit) => ⟨[(1, .ptr 0 0), (6, .int .i64 (n3 : Int)), (154, .bool ((decide ((a0.Done.length : Int) > 0)) && (!v6)))], [(0, .box [.int .i64 a0.Clock, .imm 7 (a0.Waits.map TWait.d) 4, .imm 2 (a0.Done.map TStamp.d) 4])], 2⟩) (fun _ => True) (Nat.le_of_ble_eq_true rfl) ?_ (fun _ _ => ?_)
      ·skip
       by_cases hgd : (a0.Done.length : Int) > 0
       ·skip
        have eg20 := nth_mapI TStamp.d a0.Done (wr .i64 ((a0.Done.length : Int) - 1)) (k4 hgd)
        refine .rg Try.S [1, 6, 7] ?_
        refine .rdx 6 (And.intro eg20 hwn3) ?_
        refine .rdx 8 (And.intro eg20 hwn3) ?_
        refine .gcall (r := .agg [.int .i64 v5.Time, .int .i64 v5.Id]) rfl rfl rfl rfl rfl (fun hg => ⟨[], [.agg [.int .i64 (a0.Waits[n3].Message.Id), .imm 1 ((a0.Waits[n3].Message.Groups).map (D.int .i64)) 4, .int .i64 (a0.Waits[n3].Message.Topic), .str (a0.Waits[n3].Message.Key), .str (a0.Waits[n3].Message.Body), .int .i64 (a0.Waits[n3].Time), .bool (a0.Waits[n3].Final)]], _, rfl, gd hg, rfl, (callP_towncrierref15_Stamp (a0.Waits[n3]) v5 (ite_lc hv5 hg))⟩) ?_
        refine .rdx 0 (And.intro eg20 hwn3) ?_
        refine .gcall (r := .bool v6) rfl rfl rfl rfl rfl (fun hg => ⟨[], [.agg [.int .i64 ((a0.Done.getD (wr .i64 ((a0.Done.length : Int) - 1)).toNat default).Time), .int .i64 ((a0.Done.getD (wr .i64 ((a0.Done.length : Int) - 1)).toNat default).Id)], .agg [.int .i64 v5.Time, .int .i64 v5.Id]], _, rfl, gd hg, rfl, (callP_towncrierref14_Less (a0.Done.getD (wr .i64 ((a0.Done.length : Int) - 1)).toNat default) v5 v6 (ite_lc hv6 hg))⟩) ?_
        refine .rdx 2 (And.intro eg20 hwn3) ?_
        refine .nil ⟨fun _ => schedB_of (by kernel_rfl), ?_⟩
        refine ⟨(), ?_, trivial⟩
        exact .m [1, 6, 154] [0] []
       ·skip
        have hgf2 : (decide ((a0.Done.length : Int) > 0)) = false := by first | simpa using hgd | (simp at hgd ⊢; omega) | grind
        rcases nth_or TStamp.d a0.Done ((wr .i64 ((a0.Done.length : Int) - 1)).toNat) with eg20 | eg20
        ·skip
         refine .rg Try.S [1, 6, 7] ?_
         refine .rdx 6 (And.intro eg20 (And.intro hgf2 hwn3)) ?_
         refine .rdx 8 (And.intro eg20 (And.intro hgf2 hwn3)) ?_
         refine .gcall (r := .agg [.int .i64 v5.Time, .int .i64 v5.Id]) rfl rfl rfl rfl rfl (fun hg => ⟨[], [.agg [.int .i64 (a0.Waits[n3].Message.Id), .imm 1 ((a0.Waits[n3].Message.Groups).map (D.int .i64)) 4, .int .i64 (a0.Waits[n3].Message.Topic), .str (a0.Waits[n3].Message.Key), .str (a0.Waits[n3].Message.Body), .int .i64 (a0.Waits[n3].Time), .bool (a0.Waits[n3].Final)]], _, rfl, gd hg, rfl, (callP_towncrierref15_Stamp (a0.Waits[n3]) v5 (ite_lc hv5 hg))⟩) ?_
         refine .rdx 0 (And.intro eg20 (And.intro hgf2 hwn3)) ?_
         refine .gcall (r := .bool v6) rfl rfl rfl rfl rfl (fun hg => ⟨[], [.agg [.int .i64 ((a0.Done.getD (wr .i64 ((a0.Done.length : Int) - 1)).toNat default).Time), .int .i64 ((a0.Done.getD (wr .i64 ((a0.Done.length : Int) - 1)).toNat default).Id)], .agg [.int .i64 v5.Time, .int .i64 v5.Id]], _, rfl, gd hg, rfl, (callP_towncrierref14_Less (a0.Done.getD (wr .i64 ((a0.Done.length : Int) - 1)).toNat default) v5 v6 (ite_lc hv6 hg))⟩) ?_
         refine .rdx 2 (And.intro eg20 (And.intro hgf2 hwn3)) ?_
         refine .nil ⟨fun _ => schedB_of (by kernel_rfl), ?_⟩
         refine ⟨(), ?_, trivial⟩
         exact .mx hgf2 [1, 6, 154] [0] []
        ·skip
         refine .rg Try.S [1, 6, 7] ?_
         refine .rdx 6 (And.intro eg20 (And.intro hgf2 hwn3)) ?_
         refine .rdx 8 (And.intro eg20 (And.intro hgf2 hwn3)) ?_
         refine .gcall (r := .agg [.int .i64 v5.Time, .int .i64 v5.Id]) rfl rfl rfl rfl rfl (fun hg => ⟨[], [.agg [.int .i64 (a0.Waits[n3].Message.Id), .imm 1 ((a0.Waits[n3].Message.Groups).map (D.int .i64)) 4, .int .i64 (a0.Waits[n3].Message.Topic), .str (a0.Waits[n3].Message.Key), .str (a0.Waits[n3].Message.Body), .int .i64 (a0.Waits[n3].Time), .bool (a0.Waits[n3].Final)]], _, rfl, gd hg, rfl, (callP_towncrierref15_Stamp (a0.Waits[n3]) v5 (ite_lc hv5 hg))⟩) ?_
         refine .rdx 0 (And.intro eg20 (And.intro hgf2 hwn3)) ?_
         refine .gcall (r := .bool v6) rfl rfl rfl rfl rfl (fun hg => ⟨[], [.agg [.int .i64 ((a0.Done.getD (wr .i64 ((a0.Done.length : Int) - 1)).toNat default).Time), .int .i64 ((a0.Done.getD (wr .i64 ((a0.Done.length : Int) - 1)).toNat default).Id)], .agg [.int .i64 v5.Time, .int .i64 v5.Id]], _, rfl, gd hg, rfl, (callP_towncrierref14_Less (a0.Done.getD (wr .i64 ((a0.Done.length : Int) - 1)).toNat default) v5 v6 (ite_lc hv6 hg))⟩) ?_
         refine .rdx 2 (And.intro eg20 (And.intro hgf2 hwn3)) ?_
         refine .nil ⟨fun _ => schedB_of (by kernel_rfl), ?_⟩
         refine ⟨(), ?_, trivial⟩
         exact .mx hgf2 [1, 6, 154] [0] []
      refine .cond rfl rfl (fun hc8 => ?_) (fun hc8 => ?_)
      ·skip
       replace hx3 := ite_lc hx3 hc8
       refine .seq ?_
       refine .plx Try.S hwn3 [] ?_
       have hq := Option.some.inj hx3
       subst x3
       try dsimp only at h
       have hq := Option.some.inj h
       subst r
       exact .ret ⟨.inr rfl, rsi⟩
      ·skip
       replace hx3 := ite_rc hx3 hc8
       refine .skip ?_
       refine .plx Try.S hwn3 [1, 6] ?_
       refine ⟨n3 + 1, ?_, ⟨by omega, hx3⟩, by dsimp only; omega⟩
       exact .m [1, 6] [0] []
    ·skip
     have h2 : n3 = a0.Waits.length := by have h2b := of_decide_eq_false hc6; omega
     rw [List.drop_of_length_le (by omega), m_towncrierref15_May_loop3] at hx3
     refine .exit ?_
     refine ⟨_, ?_, (Option.some.inj hx3).symm⟩
     exact .m [1] [0] []
   ·skip
    rintro ⟨⟩ hj3
    subst x3
    try dsimp only at h
    simp only [Try.St_towncrierref15_May_9]
    obtain ⟨v7, hv7, h⟩ := bind_some h
    obtain ⟨k5, h⟩ := ite_ck h
    refine .seqM 1 (fun (_ : Unit) => ⟨[(2, .bool (((a0.Waits.length : Int) == 0) || (!(a0.Waits.getD v7.toNat default).Final)))], [], 1⟩) (fun _ => True) (Nat.le_of_ble_eq_true rfl) ?_ (fun _ _ => ?_)
    ·skip
     by_cases hgd : ¬ ((a0.Waits.length : Int) = 0)
     ·skip
      have eg30 := nth_mapI TWait.d a0.Waits v7 (k5 hgd)
      refine .rg Try.S [1] ?_
      refine .rdx 6 eg30 ?_
      refine .rdx 3 eg30 ?_
      refine .gcall (r := .int .i64 v7) rfl rfl rfl rfl rfl (fun hg => ⟨[], [.imm 7 (a0.Waits.map TWait.d) 4], _, rfl, gd hg, rfl, (callP_towncrierref15_least a0.Waits v7 (ite_lc hv7 hg))⟩) ?_
      refine .rdx 6 eg30 ?_
      refine .nil ⟨fun _ => schedB_of (by kernel_rfl), ?_⟩
      refine ⟨(), ?_, trivial⟩
      exact .m [2] [] []
     ·skip
      have hgf3 : (!((a0.Waits.length : Int) == 0)) = false := by first | simpa using hgd | (simp at hgd ⊢; omega) | grind
      have hgf3t : ((a0.Waits.length : Int) == 0) = true := by first | simpa using hgf3 | grind
      rcases nth_or TWait.d a0.Waits v7.toNat with eg30 | eg30
      ·skip
       refine .rg Try.S [1] ?_
       refine .rdx 6 (And.intro eg30 (And.intro hgf3 hgf3t)) ?_
       refine .rdx 3 (And.intro eg30 (And.intro hgf3 hgf3t)) ?_
       refine .gcall (r := .int .i64 v7) rfl rfl rfl rfl rfl (fun hg => ⟨[], [.imm 7 (a0.Waits.map TWait.d) 4], _, rfl, gd hg, rfl, (callP_towncrierref15_least a0.Waits v7 (ite_lc hv7 hg))⟩) ?_
       refine .rdx 6 (And.intro eg30 (And.intro hgf3 hgf3t)) ?_
       refine .nil ⟨fun _ => schedB_of (by kernel_rfl), ?_⟩
       refine ⟨(), ?_, trivial⟩
       exact .mx (And.intro hgf3 hgf3t) [2] [] []
      ·skip
       refine .rg Try.S [1] ?_
       refine .rdx 6 (And.intro eg30 (And.intro hgf3 hgf3t)) ?_
       refine .rdx 3 (And.intro eg30 (And.intro hgf3 hgf3t)) ?_
       refine .gcall (r := .int .i64 v7) rfl rfl rfl rfl rfl (fun hg => ⟨[], [.imm 7 (a0.Waits.map TWait.d) 4], _, rfl, gd hg, rfl, (callP_towncrierref15_least a0.Waits v7 (ite_lc hv7 hg))⟩) ?_
       refine .rdx 6 (And.intro eg30 (And.intro hgf3 hgf3t)) ?_
       refine .nil ⟨fun _ => schedB_of (by kernel_rfl), ?_⟩
       refine ⟨(), ?_, trivial⟩
       exact .mx (And.intro hgf3 hgf3t) [2] [] []
    have hq := Option.some.inj h
    subst r
    exact .ret ⟨.inr rfl, rsi⟩
theorem callP_towncrierref15_Local (a0 : TSkeen) (a1 : Int) (r : Int × Bool × Int) (h : m_towncrierref15_Local a0 a1 = some r) : CallP Try.prog 10 [.agg [.int .i64 a0.Clock, .imm 7 (a0.Waits.map TWait.d) 4, .imm 2 (a0.Done.map TStamp.d) 4], .int .i64 a1] (.tuple [.int .i64 r.1, .bool r.2.1, .int .i64 r.2.2]) := by
 refine callP_intro Try.tmOk 3 Try.func10 rfl (by decide) rfl rfl (Nat.le_of_ble_eq_true rfl) ?_
 intro hwf
 unfold m_towncrierref15_Local at h
 refine .seq ?_
 refine .pl Try.S [0, 1] ?_
 refine .seq ?_
 refine .seq ?_
 obtain ⟨v1, hv1, h⟩ := bind_some h
 refine .rg Try.S [1, 2] ?_
 refine .rn 1 ?_
 refine .call (r := .bool v1) rfl rfl rfl rfl rfl rfl (callP_towncrierref15_May a0 v1 hv1) ?_
 refine .rn 1 ?_
 refine .nil ⟨nofun, ?_⟩
 refine .cond rfl rfl (fun hc1 => ?_) (fun hc1 => ?_)
 ·skip
  replace h := ite_lc h hc1
  refine .seq ?_
  refine .pl Try.S [] ?_
  have hq := Option.some.inj h
  subst r
  exact .ret ⟨.inr rfl, rsi⟩
 ·skip
  replace h := ite_rc h hc1
  refine .skip ?_
  refine .seq ?_
  obtain ⟨v2, hv2, h⟩ := bind_some h
  refine .rg Try.S [1, 2] ?_
  refine .rn 2 ?_
  refine .call (r := .int .i64 v2) rfl rfl rfl rfl rfl rfl (callP_towncrierref15_waits a0 a1 v2 hv2) ?_
  refine .rn 1 ?_
  refine .nil ⟨nofun, ?_⟩
  refine .seq ?_
  refine .seq ?_
  refine .pl Try.S [2, 7] ?_
  refine .cond rfl rfl (fun hc2 => ?_) (fun hc2 => ?_)
  ·skip
   replace h := ite_lc h hc2
   refine .seq ?_
   refine .pl Try.S [] ?_
   have hq := Option.some.inj h
   subst r
   exact .ret ⟨.inr rfl, rsi⟩
  ·skip
   replace h := ite_rc h hc2
   refine .skip ?_
   refine .seq ?_
   obtain ⟨k1, h⟩ := ite_ck h
   have e1 := nth_mapI TWait.d a0.Waits v2
   have e2 := nth_mapI TWait.d a0.Waits v2
   replace e1 := e1 k1
   replace e2 := e2 k1
   refine .rg Try.S [2, 7] ?_
   refine .rdx 6 (And.intro e1 e2) ?_
   refine .rdx 6 (And.intro e1 e2) ?_
   refine .rdx 3 (And.intro e1 e2) ?_
   refine .nil ⟨fun _ => schedB_of (by kernel_rfl), ?_⟩
   have hq := Option.some.inj h
   subst r
   exact .ret ⟨.inr rfl, rsi⟩
def Try.St_towncrierref15_Great_1 (a0 : TSkeen) (n1 : Int) : St := ⟨[(1, .ptr 0 0), (3, .int .i64 n1)], [(0, .box [.int .i64 a0.Clock, .imm 7 (a0.Waits.map TWait.d) 4, .imm 2 (a0.Done.map TStamp.d) 4])], 1⟩
attribute [local go_sem] Try.St_towncrierref15_Great_1
def Try.St_towncrierref15_Great_3 (a0 : TSkeen) (n3 : Nat) (n2 : Int) : St := ⟨[(1, .ptr 0 0), (3, .int .i64 n2), (4, .int .i64 (n3 : Int))], [(0, .box [.int .i64 a0.Clock, .imm 7 (a0.Waits.map TWait.d) 4, .imm 2 (a0.Done.map TStamp.d) 4])], 1⟩
attribute [local go_sem] Try.St_towncrierref15_Great_3
theorem callP_towncrierref15_Great (a0 : TSkeen) (r : Bool) (h : m_towncrierref15_Great a0 = some r) : CallP Try.prog 4 [.agg [.int .i64 a0.Clock, .imm 7 (a0.Waits.map TWait.d) 4, .imm 2 (a0.Done.map TStamp.d) 4]] (.bool r) := by
 refine callP_intro Try.tmOk 4 Try.func4 rfl (by decide) rfl rfl (Nat.le_of_ble_eq_true rfl) ?_
 intro hwf
 unfold m_towncrierref15_Great at h
 refine .seq ?_
 refine .pl Try.S [0] ?_
 refine .seq ?_
 refine .pl Try.S [1] ?_
 obtain ⟨x1, hx1, h⟩ := bind_some h
 refine .seqM 1 (fun (j : Int) => Try.St_towncrierref15_Great_1 a0 j) (fun j => x1 = j) (Nat.le_of_ble_eq_true rfl) ?_ ?_
 ·skip
  refine .seq ?_
  refine .pl Try.S [1, 3] ?_
  refine .block ?_
  refine .loopG 1 (fun (j : Nat × Int) => Try.St_towncrierref15_Great_3 a0 j.1 j.2) (fun j => j.1 ≤ a0.Waits.length ∧ m_towncrierref15_Great_loop1 (a0.Waits.drop j.1) j.1 j.2 = some x1) (fun j => a0.Waits.length - j.1) (0, 0) (Nat.le_of_ble_eq_true rfl) ?_ ⟨Nat.zero_le _, hx1⟩ ?_
  ·skip
   exact .m [1, 3, 4] [0] []
  rintro ⟨n3, n2⟩ ⟨hi1, hx1⟩
  simp only [Try.St_towncrierref15_Great_3]
  simp only at hi1 hx1
  refine .wfb 0 [.int .i64 a0.Clock, .imm 7 (a0.Waits.map TWait.d) 4, .imm 2 (a0.Done.map TStamp.d) 4] rfl ?_
  intro hln3
  replace hln3 : (a0.Waits.length : Int) ≤ 9223372036854775807 := by simp only [wf, wfL, IntKind.max, IntKind.min, IntKind.signed, IntKind.bits, List.length_map] at hln3; first | exact hln3.2 | exact hln3.1 | (simp at hln3; omega)
  refine .seq ?_
  refine .seq ?_
  refine .rg Try.S [1, 3, 4] ?_
  refine .rn 6 ?_
  refine .rn 3 ?_
  refine .nil ⟨nofun, ?_⟩
  refine .cond rfl rfl (fun hc1 => ?_) (fun hc1 => ?_)
  ·skip
   have h1 : n3 < a0.Waits.length := by have hq := hc1; simp at hq; omega
   have hwn3 : wr .i64 ((n3 : Int) + 1) = ((n3 + 1 : Nat) : Int) := wr_succ h1 hln3
   have hpn3 : wr .i64 ((n3 : Int) - 1) = (n3 : Int) - 1 := wr_pred h1 hln3
   rw [List.drop_eq_getElem_cons h1, m_towncrierref15_Great_loop1_c] at hx1
   replace hx1 := ite_lc hx1 hc1
   refine .skip ?_
   refine .seq ?_
   refine .block ?_
   refine .seq ?_
   have e1 := nth_map TWait.d a0.Waits n3 h1
   refine .plx Try.S (And.intro e1 hwn3) [1, 3, 4] ?_
   refine .rg Try.S [1, 3, 4, 5] ?_
   refine .rnx 6 hwn3 ?_
   refine .rnx 6 hwn3 ?_
   refine .rnx 5 hwn3 ?_
   refine .nil ⟨nofun, ?_⟩
   refine .plx Try.S hwn3 [1, 3, 4] ?_
   refine ⟨(n3 + 1, _), ?_, ⟨by omega, hx1⟩, by dsimp only; omega⟩
   exact .m [1, 3, 4] [0] []
  ·skip
   by_cases h2 : n3 < a0.Waits.length
   ·skip
    rw [List.drop_eq_getElem_cons h2, m_towncrierref15_Great_loop1_c] at hx1
    replace hx1 := ite_r hx1 (by have hq := hc1; simp at hq ⊢; first | exact hq (by omega) | omega | grind)
    refine .exit ?_
    refine ⟨_, ?_, (Option.some.inj hx1).symm⟩
    exact .m [1, 3] [0] []
   ·skip
    rw [List.drop_of_length_le (by omega), m_towncrierref15_Great_loop1_n] at hx1
    refine .exit ?_
    refine ⟨_, ?_, (Option.some.inj hx1).symm⟩
    exact .m [1, 3] [0] []
 ·skip
  rintro n1 hj1
  subst x1
  try dsimp only at h
  simp only [Try.St_towncrierref15_Great_1]
  refine .seq ?_
  refine .rg Try.S [1, 3] ?_
  refine .rn 6 ?_
  refine .rn 6 ?_
  refine .rn 3 ?_
  refine .nil ⟨nofun, ?_⟩
  have hq := Option.some.inj h
  subst r
  exact .ret ⟨.inr rfl, rsi⟩
theorem callP_stamp_Less (a0 : TStamp) (a1 : TStamp) (r : Bool) (h : m_stamp_Less a0 a1 = some r) : CallP Try.prog 35 [.agg [.int .i64 a0.Time, .int .i64 a0.Id], .agg [.int .i64 a1.Time, .int .i64 a1.Id]] (.bool r) := by
 refine callP_intro Try.tmOk 5 Try.func35 rfl (by decide) rfl rfl (Nat.le_of_ble_eq_true rfl) ?_
 intro hwf
 unfold m_stamp_Less at h
 refine .seq ?_
 refine .pl Try.S [0, 1] ?_
 refine .seq ?_
 obtain ⟨v1, hv1, h⟩ := bind_some h
 obtain ⟨v2, hv2, h⟩ := bind_some h
 obtain ⟨v3, hv3, h⟩ := bind_some h
 refine .rg Try.S [2, 3] ?_
 refine .rd 4 ?_
 refine .call (r := .int .i64 v1) rfl rfl rfl rfl rfl rfl (callP_cmp_Compare_int a0.Time a1.Time v1 hv1) ?_
 refine .rd 4 ?_
 refine .call (r := .int .i64 v2) rfl rfl rfl rfl rfl rfl (callP_cmp_Compare_int a0.Id a1.Id v2 hv2) ?_
 refine .rd 1 ?_
 refine .lcall (r := .int .i64 v3) [] rfl rfl rfl rfl rfl (lend2s_cons (lend2_of (lend_ref (pl_int .i64) (by first | rfl | (simp only [go_sem, Nat.reduceBEq]; rfl)) (by first | rfl | (simp; done) | (simp <;> omega))) trivial) lend2s_nil) rfl (callP_cmp_Or_int [v1, v2] v3 hv3) ?_
 refine .rd 2 ?_
 refine .nil ⟨fun _ => schedB_of (by kernel_rfl), ?_⟩
 have hq := Option.some.inj h
 subst r
 exact .ret ⟨.inr rfl, rsi⟩
def Try.St_command_plain_1 (a0 : TCommand) (n1 : Int) (b1 : Bool) : St := ⟨[(1, .ptr 0 0), (2, .ptr 1 0), (4, .ptr 2 0), (5, .bool b1)], [(0, .box [.int .u8 a0.Kind, .int .i64 a0.Message.Id, .imm 1 (a0.Message.Groups.map (D.int .i64)) 4, .int .i64 a0.Message.Topic, .str a0.Message.Key, .str a0.Message.Body, .int .i64 a0.Id, .int .i64 a0.Time, .imm 1 (a0.Members.map (D.int .i64)) 4, .int .i64 a0.Topic, .int .i64 a0.Who, .int .i64 a0.N]), (1, .box [.int .u8 0, .int .i64 0, .imm 0 [] 0, .int .i64 0, .str [], .str [], .int .i64 0, .int .i64 0, .imm 0 [] 0, .int .i64 0, .int .i64 0, .int .i64 0]), (2, .box [.int .u8 a0.Kind, .int .i64 0, .imm 0 [] 0, .int .i64 0, .str [], .str [], .int .i64 0, .int .i64 0, .imm 0 [] 0, .int .i64 0, .int .i64 n1, .int .i64 0])], 3⟩
attribute [local go_sem] Try.St_command_plain_1
def Try.St_command_plain_3 (a0 : TCommand) (v1 : Bool) (v2 : Bool) (v3 : Bool) (b3 : Bool) : St := ⟨[(1, .ptr 0 0), (2, .ptr 1 0), (4, .ptr 2 0), (5, .bool ((v1 && v2) && v3)), (34, .bool b3)], [(0, .box [.int .u8 a0.Kind, .int .i64 a0.Message.Id, .imm 1 (a0.Message.Groups.map (D.int .i64)) 4, .int .i64 a0.Message.Topic, .str a0.Message.Key, .str a0.Message.Body, .int .i64 a0.Id, .int .i64 a0.Time, .imm 1 (a0.Members.map (D.int .i64)) 4, .int .i64 a0.Topic, .int .i64 a0.Who, .int .i64 a0.N]), (1, .box [.int .u8 0, .int .i64 0, .imm 0 [] 0, .int .i64 0, .str [], .str [], .int .i64 0, .int .i64 0, .imm 0 [] 0, .int .i64 0, .int .i64 0, .int .i64 0]), (2, .box [.int .u8 a0.Kind, .int .i64 0, .imm 0 [] 0, .int .i64 0, .str [], .str [], .int .i64 0, .int .i64 0, .imm 0 [] 0, .int .i64 0, .int .i64 0, .int .i64 0])], 3⟩
attribute [local go_sem] Try.St_command_plain_3
def Try.Re_command_plain (r : TCommand × Bool) : St := ⟨[(2, .ptr 0 0), (3, .bool r.2)], [(0, .box [.int .u8 r.1.Kind, .int .i64 r.1.Message.Id, .imm 1 (r.1.Message.Groups.map (D.int .i64)) 4, .int .i64 r.1.Message.Topic, .str r.1.Message.Key, .str r.1.Message.Body, .int .i64 r.1.Id, .int .i64 r.1.Time, .imm 1 (r.1.Members.map (D.int .i64)) 4, .int .i64 r.1.Topic, .int .i64 r.1.Who, .int .i64 r.1.N])], 1⟩
attribute [local go_sem] Try.Re_command_plain
theorem callH_command_plain (a0 : TCommand) (r : TCommand × Bool) (h : m_command_plain a0 = some r) : CallH Try.prog 51 [.agg [.int .u8 a0.Kind, .int .i64 a0.Message.Id, .imm 1 (a0.Message.Groups.map (D.int .i64)) 4, .int .i64 a0.Message.Topic, .str a0.Message.Key, .str a0.Message.Body, .int .i64 a0.Id, .int .i64 a0.Time, .imm 1 (a0.Members.map (D.int .i64)) 4, .int .i64 a0.Topic, .int .i64 a0.Who, .int .i64 a0.N]] [] (.tuple [.agg [.int .u8 r.1.Kind, .int .i64 r.1.Message.Id, .imm 1 (r.1.Message.Groups.map (D.int .i64)) 4, .int .i64 r.1.Message.Topic, .str r.1.Message.Key, .str r.1.Message.Body, .int .i64 r.1.Id, .int .i64 r.1.Time, .imm 1 (r.1.Members.map (D.int .i64)) 4, .int .i64 r.1.Topic, .int .i64 r.1.Who, .int .i64 r.1.N], .bool r.2]) [] (0, 5) := by
 refine callH_intro' Try.tmOk Try.func51 rfl (by decide) (Nat.le_of_ble_eq_true rfl) (by simp) ?_
 intro hwf
 unfold m_command_plain at h
 refine .ends 0 (Nat.le_refl _) ?_
 refine .seq ?_
 refine .pl Try.S [0] ?_
 refine .seq ?_
 refine .pl Try.S [1, 2] ?_
 refine .seq ?_
 obtain ⟨v1, hv1, h⟩ := bind_some h
 obtain ⟨v2, hv2, h⟩ := bind_some h
 obtain ⟨v3, hv3, h⟩ := bind_some h
 refine .rg Try.S [1, 2, 4] ?_
 refine .rn 2 ?_
 refine .call (r := .bool v1) rfl rfl rfl rfl rfl rfl (callP_command_id a0.Id v1 hv1) ?_
 refine .rn 3 ?_
 refine .gcall (r := .bool v2) rfl rfl rfl rfl rfl (fun hg => ⟨[], [.int .i64 a0.Topic, .int .i64 0, .int .i64 3], _, rfl, gd hg, rfl, (callP_command_in a0.Topic 0 3 v2 (ite_lc hv2 hg))⟩) ?_
 refine .rn 4 ?_
 refine .gcall (r := .bool v3) rfl rfl rfl rfl rfl (fun hg => ⟨[], [.int .i64 a0.N, .int .i64 0, .int .i64 1073741824], _, rfl, gd hg, rfl, (callP_command_in a0.N 0 1073741824 v3 (ite_lc hv3 hg))⟩) ?_
 refine .rn 2 ?_
 refine .nil ⟨nofun, ?_⟩
 refine .seq ?_
 refine .seq ?_
 refine .pl Try.S [1, 2, 4, 5] ?_
 refine .block ?_
 obtain ⟨x1, hx1, h⟩ := bind_some h
 refine .seqM 3 (fun (j : Int × Bool) => Try.St_command_plain_1 a0 j.1 j.2) (fun j => x1 = (.inr (.inr j))) (Nat.le_of_ble_eq_true rfl) ?_ ?_
 ·skip
  refine .block ?_
  refine .seq ?_
  refine .block ?_
  refine .seq ?_
  refine .block ?_
  refine .seq ?_
  refine .block ?_
  refine .seq ?_
  refine .block ?_
  refine .seq ?_
  refine .block ?_
  refine .seq ?_
  refine .seq ?_
  refine .seq ?_
  refine .pl Try.S [1, 2, 4, 5, 23] ?_
  refine .cond rfl rfl (fun hc1 => ?_) (fun hc1 => ?_)
  ·skip
   replace hx1 := ite_lc hx1 hc1
   refine .exit ?_
   refine .seq ?_
   refine .seq ?_
   refine .pl Try.S [2, 4] ?_
   have hq := Option.some.inj hx1
   subst x1
   try dsimp only at h
   have hq := Option.some.inj h
   subst r
   refine .ret ⟨Try.Re_command_plain ((⟨a0.Kind, (⟨0, [], 0, [], []⟩ : TMessage), 0, 0, [], 0, 0, 0⟩ : TCommand), true), ?_, .inr rfl, retH [] ?_ ?_⟩
   ·skip
    refine Goes.boxs 1 _ [.int .u8 a0.Kind, .int .i64 0, .imm 1 [] 4, .int .i64 0, .str [], .str [], .int .i64 0, .int .i64 0, .imm 1 [] 4, .int .i64 0, .int .i64 0, .int .i64 0] rfl (.keep (.keep (.cons (.nil4 _ _ 0 rfl) (.keep (.keep (.keep (.keep (.keep (.cons (.nil4 _ _ 0 rfl) (.refl _)))))))))) ?_
    exact .m [2, 3] [1] [(1, 0)]
   ·exact rsi0
   ·rfl
  ·skip
   replace hx1 := ite_rc hx1 hc1
   refine .skip ?_
   refine .seq ?_
   refine .seq ?_
   refine .pl Try.S [1, 2, 4, 5, 23] ?_
   refine .cond rfl rfl (fun hc2 => ?_) (fun hc2 => ?_)
   ·skip
    replace hx1 := ite_lc hx1 hc2
    refine .exit ?_
    refine .seq ?_
    refine .seq ?_
    refine .pl Try.S [1, 2, 4] ?_
    refine .seq ?_
    obtain ⟨v4, hv4, hx1⟩ := bind_some hx1
    refine .rg Try.S [1, 2, 4] ?_
    refine .rd 3 ?_
    refine .call (r := .int .i64 v4) rfl rfl rfl rfl rfl rfl (callP_command_CheckMessage a0.Message v4 hv4) ?_
    refine .rd 3 ?_
    refine .nil ⟨fun _ => schedB_of (by kernel_rfl), ?_⟩
    have hq := Option.some.inj hx1
    subst x1
    try dsimp only at h
    have hq := Option.some.inj h
    subst r
    refine .ret ⟨Try.Re_command_plain ((⟨a0.Kind, a0.Message, 0, 0, [], 0, 0, 0⟩ : TCommand), (v4 == 0)), ?_, .inr rfl, retH [] ?_ ?_⟩
    ·skip
     refine Goes.boxs 1 _ [.int .u8 a0.Kind, .int .i64 a0.Message.Id, .imm 1 (a0.Message.Groups.map (D.int .i64)) 4, .int .i64 a0.Message.Topic, .str a0.Message.Key, .str a0.Message.Body, .int .i64 0, .int .i64 0, .imm 1 [] 4, .int .i64 0, .int .i64 0, .int .i64 0] rfl (.keep (.keep (.keep (.keep (.keep (.keep (.keep (.keep (.cons (.nil4 _ _ 0 rfl) (.refl _)))))))))) ?_
     exact .m [2, 3] [1] [(1, 0)]
    ·exact rsi0
    ·rfl
   ·skip
    replace hx1 := ite_rc hx1 hc2
    refine .skip ?_
    refine .seq ?_
    refine .seq ?_
    refine .pl Try.S [1, 2, 4, 5, 23] ?_
    refine .cond rfl rfl (fun hc3 => ?_) (fun hc3 => ?_)
    ·skip
     replace hx1 := ite_lc hx1 hc3
     refine .exit ?_
     refine .seq ?_
     refine .seq ?_
     refine .dr Try.S [1, 2, 4] ?_
     refine .seq ?_
     obtain ⟨v5, hv5, hx1⟩ := bind_some hx1
     obtain ⟨v6, hv6, hx1⟩ := bind_some hx1
     refine .rg Try.S [1, 2, 4] ?_
     refine .rd 3 ?_
     refine .call (r := .bool v5) rfl rfl rfl rfl rfl rfl (callP_command_id a0.Id v5 hv5) ?_
     refine .rd 3 ?_
     refine .gcall (r := .bool v6) rfl rfl rfl rfl rfl (fun hg => ⟨[], [.int .i64 a0.Time, .int .i64 1, .int .i64 1073741824], _, rfl, gd hg, rfl, (callP_command_in a0.Time 1 1073741824 v6 (ite_lc hv6 hg))⟩) ?_
     refine .rd 3 ?_
     refine .nil ⟨fun _ => schedB_of (by kernel_rfl), ?_⟩
     have hq := Option.some.inj hx1
     subst x1
     try dsimp only at h
     have hq := Option.some.inj h
     subst r
     refine .ret ⟨Try.Re_command_plain ((⟨a0.Kind, (⟨0, [], 0, [], []⟩ : TMessage), a0.Id, a0.Time, [], 0, 0, 0⟩ : TCommand), (v5 && v6)), ?_, .inr rfl, retH [] ?_ ?_⟩
     ·skip
      refine Goes.boxs 1 _ [.int .u8 a0.Kind, .int .i64 0, .imm 1 [] 4, .int .i64 0, .str [], .str [], .int .i64 a0.Id, .int .i64 a0.Time, .imm 1 [] 4, .int .i64 0, .int .i64 0, .int .i64 0] rfl (.keep (.keep (.cons (.nil4 _ _ 0 rfl) (.keep (.keep (.keep (.keep (.keep (.cons (.nil4 _ _ 0 rfl) (.refl _)))))))))) ?_
      exact .m [2, 3] [1] [(1, 0)]
     ·exact rsi0
     ·rfl
    ·skip
     replace hx1 := ite_rc hx1 hc3
     refine .skip ?_
     refine .seq ?_
     refine .seq ?_
     refine .pl Try.S [1, 2, 4, 5, 23] ?_
     refine .cond rfl rfl (fun hc4 => ?_) (fun hc4 => ?_)
     ·skip
      replace hx1 := ite_lc hx1 hc4
      refine .exit ?_
      refine .seq ?_
      refine .seq ?_
      refine .pl Try.S [1, 2, 4] ?_
      refine .seq ?_
      obtain ⟨v7, hv7, hx1⟩ := bind_some hx1
      refine .rg Try.S [1, 2, 4] ?_
      refine .rd 3 ?_
      refine .call (r := .int .i64 v7) rfl rfl rfl rfl rfl rfl (callP_quorum_Check a0.Members v7 hv7) ?_
      refine .rd 3 ?_
      refine .nil ⟨fun _ => schedB_of (by kernel_rfl), ?_⟩
      have hq := Option.some.inj hx1
      subst x1
      try dsimp only at h
      have hq := Option.some.inj h
      subst r
      refine .ret ⟨Try.Re_command_plain ((⟨a0.Kind, (⟨0, [], 0, [], []⟩ : TMessage), 0, 0, a0.Members, 0, 0, 0⟩ : TCommand), (v7 == 0)), ?_, .inr rfl, retH [] ?_ ?_⟩
      ·skip
       refine Goes.boxs 1 _ [.int .u8 a0.Kind, .int .i64 0, .imm 1 [] 4, .int .i64 0, .str [], .str [], .int .i64 0, .int .i64 0, .imm 1 (a0.Members.map (D.int .i64)) 4, .int .i64 0, .int .i64 0, .int .i64 0] rfl (.keep (.keep (.cons (.nil4 _ _ 0 rfl) (.refl _)))) ?_
       exact .m [2, 3] [1] [(1, 0)]
      ·exact rsi0
      ·rfl
     ·skip
      replace hx1 := ite_rc hx1 hc4
      refine .skip ?_
      refine .seq ?_
      refine .seq ?_
      refine .pl Try.S [1, 2, 4, 5, 23] ?_
      refine .cond rfl rfl (fun hc5 => ?_) (fun hc5 => ?_)
      ·skip
       replace hx1 := ite_lc hx1 hc5
       refine .exit ?_
       refine .seq ?_
       refine .pl Try.S [1, 2, 4, 5] ?_
       obtain ⟨v8, hv8, hx1⟩ := bind_some hx1
       refine .rg Try.S [1, 2, 4, 5] ?_
       refine .rn 4 ?_
       refine .gcall (r := .bool v8) rfl rfl rfl rfl rfl (fun hg => ⟨[], [.int .i64 a0.Who, .int .i64 0, .int .i64 7], _, rfl, gd hg, rfl, (callP_command_in a0.Who 0 7 v8 (ite_lc hv8 hg))⟩) ?_
       refine .rn 2 ?_
       refine .nil ⟨nofun, ?_⟩
       refine ⟨_, ?_, (Option.some.inj hx1).symm⟩
       exact .m [1, 2, 4, 5] [0, 1, 2] []
      ·skip
       replace hx1 := ite_rc hx1 hc5
       refine .skip ?_
       obtain ⟨x2, hx2, hx1⟩ := bind_some hx1
       refine .seqM 3 (fun (j : Bool) => Try.St_command_plain_3 a0 v1 v2 v3 j) (fun j => x2 = j) (Nat.le_of_ble_eq_true rfl) ?_ ?_
       ·skip
        refine .seq ?_
        refine .pl Try.S [1, 2, 4, 5, 23] ?_
        refine .cond rfl rfl (fun hc6 => ?_) (fun hc6 => ?_)
        ·skip
         replace hx2 := ite_lc hx2 hc6
         refine .skip ?_
         refine ⟨_, ?_, (Option.some.inj hx2).symm⟩
         exact .m [1, 2, 4, 5, 34] [0, 1, 2] []
        ·skip
         replace hx2 := ite_rc hx2 hc6
         refine .pl Try.S [1, 2, 4, 5, 23] ?_
         refine ⟨_, ?_, (Option.some.inj hx2).symm⟩
         exact .m [1, 2, 4, 5, 34] [0, 1, 2] []
       ·skip
        rintro b3 hj1
        subst x2
        try dsimp only at hx1
        simp only [Try.St_command_plain_3]
        refine .cond rfl rfl (fun hc7 => ?_) (fun hc7 => ?_)
        ·skip
         replace hx1 := ite_lc hx1 hc7
         refine .exit ?_
         refine ⟨_, ?_, (Option.some.inj hx1).symm⟩
         exact .m [1, 2, 4, 5] [0, 1, 2] []
        ·skip
         replace hx1 := ite_rc hx1 hc7
         refine .skip ?_
         refine .exit ?_
         have hq := Option.some.inj hx1
         subst x1
         try dsimp only at h
         refine .seq ?_
         refine .pl Try.S [2, 4] ?_
         have hq := Option.some.inj h
         subst r
         refine .ret ⟨Try.Re_command_plain ((⟨a0.Kind, (⟨0, [], 0, [], []⟩ : TMessage), 0, 0, [], 0, 0, 0⟩ : TCommand), false), ?_, .inr rfl, retH [] ?_ ?_⟩
         ·skip
          refine Goes.boxs 1 _ [.int .u8 a0.Kind, .int .i64 0, .imm 1 [] 4, .int .i64 0, .str [], .str [], .int .i64 0, .int .i64 0, .imm 1 [] 4, .int .i64 0, .int .i64 0, .int .i64 0] rfl (.keep (.keep (.cons (.nil4 _ _ 0 rfl) (.keep (.keep (.keep (.keep (.keep (.cons (.nil4 _ _ 0 rfl) (.refl _)))))))))) ?_
          exact .m [2, 3] [1] [(1, 0)]
         ·exact rsi0
         ·rfl
 ·skip
  rintro ⟨n1, b1⟩ hj2
  subst x1
  try dsimp only at h
  simp only [Try.St_command_plain_1]
  refine .seq ?_
  refine .seq ?_
  refine .rg Try.S [1, 2, 4, 5] ?_
  refine .rd 6 ?_
  refine .rd 6 ?_
  refine .nil ⟨fun _ => schedB_of (by kernel_rfl), ?_⟩
  refine .seq ?_
  refine .pl Try.S [2, 4, 5] ?_
  have hq := Option.some.inj h
  subst r
  refine .ret ⟨Try.Re_command_plain ((⟨a0.Kind, (⟨0, [], 0, [], []⟩ : TMessage), a0.Id, 0, [], a0.Topic, n1, a0.N⟩ : TCommand), b1), ?_, .inr rfl, retH [] ?_ ?_⟩
  ·skip
   refine Goes.boxs 1 _ [.int .u8 a0.Kind, .int .i64 0, .imm 1 [] 4, .int .i64 0, .str [], .str [], .int .i64 a0.Id, .int .i64 0, .imm 1 [] 4, .int .i64 a0.Topic, .int .i64 n1, .int .i64 a0.N] rfl (.keep (.keep (.cons (.nil4 _ _ 0 rfl) (.keep (.keep (.keep (.keep (.keep (.cons (.nil4 _ _ 0 rfl) (.refl _)))))))))) ?_
   exact .m [2, 3] [1] [(1, 0)]
  ·exact rsi0
  ·rfl
theorem callP_command_Check (a0 : TCommand) (r : Int) (h : m_command_Check a0 = some r) : CallP Try.prog 21 [.agg [.int .u8 a0.Kind, .int .i64 a0.Message.Id, .imm 1 (a0.Message.Groups.map (D.int .i64)) 4, .int .i64 a0.Message.Topic, .str a0.Message.Key, .str a0.Message.Body, .int .i64 a0.Id, .int .i64 a0.Time, .imm 1 (a0.Members.map (D.int .i64)) 4, .int .i64 a0.Topic, .int .i64 a0.Who, .int .i64 a0.N]] (.int .i64 r) := by
 refine callP_intro Try.tmOk 13 Try.func21 rfl (by decide) rfl rfl (Nat.le_of_ble_eq_true rfl) ?_
 intro hwf
 unfold m_command_Check at h
 refine .seq ?_
 refine .pl Try.S [0] ?_
 refine .seq ?_
 refine .seq ?_
 obtain ⟨v1, hv1, h⟩ := bind_some h
 refine .rg Try.S [1] ?_
 refine .rn 1 ?_
 refine .hcall (H := []) (eff := []) (nw := (5, 10)) (r := .tuple [.agg [.int .u8 v1.1.Kind, .int .i64 v1.1.Message.Id, .imm 1 (v1.1.Message.Groups.map (D.int .i64)) 4, .int .i64 v1.1.Message.Topic, .str v1.1.Message.Key, .str v1.1.Message.Body, .int .i64 v1.1.Id, .int .i64 v1.1.Time, .imm 1 (v1.1.Members.map (D.int .i64)) 4, .int .i64 v1.1.Topic, .int .i64 v1.1.Who, .int .i64 v1.1.N], .bool v1.2]) rfl rfl rfl rfl rfl (callH_at 5 (Nat.le_of_ble_eq_true rfl) (callH_command_plain a0 v1 hv1)) (fun id b h => getL_pick [] _ id b h) (by simp) (.inr ⟨Nat.le_of_ble_eq_true rfl, Nat.le_of_ble_eq_true rfl⟩) ?_
 refine .rn 6 ?_
 refine .nil ⟨nofun, ?_⟩
 refine .seq ?_
 obtain ⟨v2, hv2, h⟩ := bind_some h
 refine .rg Try.S [1, 3, 4] ?_
 refine .rn 5 ?_
 refine .gcall (r := .bool v2) rfl rfl rfl rfl rfl (fun hg => ⟨[], [.agg [.int .u8 v1.1.Kind, .int .i64 v1.1.Message.Id, .imm 1 (v1.1.Message.Groups.map (D.int .i64)) 4, .int .i64 v1.1.Message.Topic, .str v1.1.Message.Key, .str v1.1.Message.Body, .int .i64 v1.1.Id, .int .i64 v1.1.Time, .imm 1 (v1.1.Members.map (D.int .i64)) 4, .int .i64 v1.1.Topic, .int .i64 v1.1.Who, .int .i64 v1.1.N], .agg [.int .u8 a0.Kind, .int .i64 a0.Message.Id, .imm 1 (a0.Message.Groups.map (D.int .i64)) 4, .int .i64 a0.Message.Topic, .str a0.Message.Key, .str a0.Message.Body, .int .i64 a0.Id, .int .i64 a0.Time, .imm 1 (a0.Members.map (D.int .i64)) 4, .int .i64 a0.Topic, .int .i64 a0.Who, .int .i64 a0.N]], _, rfl, gd hg, rfl, (callP_command_Same v1.1 a0 v2 (ite_lc hv2 hg))⟩) ?_
 refine .rn 2 ?_
 refine .nil ⟨nofun, ?_⟩
 refine .cond rfl rfl (fun hc1 => ?_) (fun hc1 => ?_)
 ·skip
  replace h := ite_lc h hc1
  refine .seq ?_
  refine .pl Try.S [] ?_
  have hq := Option.some.inj h
  subst r
  exact .ret ⟨.inr rfl, rsi⟩
 ·skip
  replace h := ite_rc h hc1
  refine .skip ?_
  refine .seq ?_
  refine .pl Try.S [] ?_
  have hq := Option.some.inj h
  subst r
  exact .ret ⟨.inr rfl, rsi⟩
theorem callP_skeen_order (a0 : TWait) (a1 : TWait) (r : Int) (h : m_skeen_order a0 a1 = some r) : CallP Try.prog 39 [.agg [.int .i64 a0.Message.Id, .imm 1 (a0.Message.Groups.map (D.int .i64)) 4, .int .i64 a0.Message.Topic, .str a0.Message.Key, .str a0.Message.Body, .int .i64 a0.Time, .bool a0.Final], .agg [.int .i64 a1.Message.Id, .imm 1 (a1.Message.Groups.map (D.int .i64)) 4, .int .i64 a1.Message.Topic, .str a1.Message.Key, .str a1.Message.Body, .int .i64 a1.Time, .bool a1.Final]] (.int .i64 r) := by
 refine callP_intro Try.tmOk 4 Try.func39 rfl (by decide) rfl rfl (Nat.le_of_ble_eq_true rfl) ?_
 intro hwf
 unfold m_skeen_order at h
 refine .seq ?_
 refine .pl Try.S [0, 1] ?_
 refine .seq ?_
 refine .block ?_
 refine .seq ?_
 obtain ⟨v1, hv1, h⟩ := bind_some h
 obtain ⟨v2, hv2, h⟩ := bind_some h
 obtain ⟨v3, hv3, h⟩ := bind_some h
 refine .rg Try.S [2, 3] ?_
 refine .rd 1 ?_
 refine .call (r := .agg [.int .i64 v1.Time, .int .i64 v1.Id]) rfl rfl rfl rfl rfl rfl (callP_skeen_of a0 v1 hv1) ?_
 refine .rd 1 ?_
 refine .call (r := .agg [.int .i64 v2.Time, .int .i64 v2.Id]) rfl rfl rfl rfl rfl rfl (callP_skeen_of a1 v2 hv2) ?_
 refine .rd 0 ?_
 refine .call (r := .bool v3) rfl rfl rfl rfl rfl rfl (callP_stamp_Less v1 v2 v3 hv3) ?_
 refine .rd 1 ?_
 refine .nil ⟨fun _ => schedB_of (by kernel_rfl), ?_⟩
 refine .cond rfl rfl (fun hc1 => ?_) (fun hc1 => ?_)
 ·skip
  replace h := ite_lc h hc1
  refine .seq ?_
  refine .pl Try.S [] ?_
  have hq := Option.some.inj h
  subst r
  exact .ret ⟨.inr rfl, rsi⟩
 ·skip
  replace h := ite_rc h hc1
  refine .seq ?_
  obtain ⟨v4, hv4, h⟩ := bind_some h
  obtain ⟨v5, hv5, h⟩ := bind_some h
  obtain ⟨v6, hv6, h⟩ := bind_some h
  refine .rg Try.S [2, 3] ?_
  refine .rd 1 ?_
  refine .call (r := .agg [.int .i64 v4.Time, .int .i64 v4.Id]) rfl rfl rfl rfl rfl rfl (callP_skeen_of a1 v4 hv4) ?_
  refine .rd 1 ?_
  refine .call (r := .agg [.int .i64 v5.Time, .int .i64 v5.Id]) rfl rfl rfl rfl rfl rfl (callP_skeen_of a0 v5 hv5) ?_
  refine .rd 0 ?_
  refine .call (r := .bool v6) rfl rfl rfl rfl rfl rfl (callP_stamp_Less v4 v5 v6 hv6) ?_
  refine .rd 1 ?_
  refine .nil ⟨fun _ => schedB_of (by kernel_rfl), ?_⟩
  refine .cond rfl rfl (fun hc2 => ?_) (fun hc2 => ?_)
  ·skip
   replace h := ite_lc h hc2
   refine .seq ?_
   refine .pl Try.S [] ?_
   have hq := Option.some.inj h
   subst r
   exact .ret ⟨.inr rfl, rsi⟩
  ·skip
   replace h := ite_rc h hc2
   refine .skip ?_
   refine .seq ?_
   refine .pl Try.S [] ?_
   have hq := Option.some.inj h
   subst r
   exact .ret ⟨.inr rfl, rsi⟩
def Try.St_skeen_clock_deliver_1 (a0 : Tskeen_clock) (l1 : List TWait) (l2 : List TStamp) (l3 : List TMessage) : St := ⟨[(0, .ptr 20000 0), (2, .ref 20102 5 0 l3.length (some unkC))], [(20000, .box [.int .i64 a0.Skeen.Clock, .ref 20100 7 0 l1.length (some unkC), .ref 20101 2 0 l2.length (some unkC)]), (20100, .arr 52 7 true (l1.map TWait.n)), (20101, .arr 70 2 true (l2.map TStamp.d)), (20102, .arr 28 5 true (l3.map TMessage.n))], 20103⟩
attribute [local go_sem] Try.St_skeen_clock_deliver_1
def Try.St_skeen_clock_deliver_3 (a0 : Tskeen_clock) (l4 : List TWait) (l5 : List TStamp) (l6 : List TMessage) : St := ⟨[(0, .ptr 20000 0), (2, .ref 20102 5 0 l6.length (some unkC))], [(20000, .box [.int .i64 a0.Skeen.Clock, .ref 20100 7 0 l4.length (some unkC), .ref 20101 2 0 l5.length (some unkC)]), (20100, .arr 52 7 true (l4.map TWait.n)), (20101, .arr 70 2 true (l5.map TStamp.d)), (20102, .arr 28 5 true (l6.map TMessage.n))], 20103⟩
attribute [local go_sem] Try.St_skeen_clock_deliver_3
def Try.Re_skeen_clock_deliver (r : (List TMessage) × Tskeen_clock) : St := ⟨[(0, .ptr 20000 0), (2, .ref 20100 5 0 r.1.length (some unkC))], [(20000, .box [.int .i64 r.2.Skeen.Clock, .ref 20101 7 0 r.2.Skeen.Waits.length (some unkC), .ref 20102 2 0 r.2.Skeen.Done.length (some unkC)]), (20100, .arr 28 5 true (r.1.map TMessage.n)), (20101, .arr 52 7 true (r.2.Skeen.Waits.map TWait.n)), (20102, .arr 70 2 true (r.2.Skeen.Done.map TStamp.d))], 20103⟩
attribute [local go_sem] Try.Re_skeen_clock_deliver
theorem callH_skeen_clock_deliver (a0 : Tskeen_clock) (r : (List TMessage) × Tskeen_clock) (h : m_skeen_clock_deliver a0 = some r) : CallH Try.prog 24 [.ptr 20000 0] [(20000, .box [.int .i64 a0.Skeen.Clock, .ref 20001 7 0 a0.Skeen.Waits.length (some unkC), .ref 20002 2 0 a0.Skeen.Done.length (some unkC)]), (20001, .arr 52 7 true (a0.Skeen.Waits.map TWait.n)), (20002, .arr 70 2 true (a0.Skeen.Done.map TStamp.d))] (.ref 20100 5 0 r.1.length (some unkC)) [(20000, some (.box [.int .i64 r.2.Skeen.Clock, .ref 20101 7 0 r.2.Skeen.Waits.length (some unkC), .ref 20102 2 0 r.2.Skeen.Done.length (some unkC)])), (20001, none), (20002, none), (20100, some (.arr 28 5 true (r.1.map TMessage.n))), (20101, some (.arr 52 7 true (r.2.Skeen.Waits.map TWait.n))), (20102, some (.arr 70 2 true (r.2.Skeen.Done.map TStamp.d)))] (20100, 20116) := by
 refine callH_intro' Try.tmOk Try.func24 rfl (by decide) (Nat.le_of_ble_eq_true rfl) (by simp) ?_
 intro hwf
 unfold m_skeen_clock_deliver at h
 refine .ends 20100 (Nat.le_refl _) ?_
 refine .seq ?_
 refine .pl Try.S [0] ?_
 refine .scopeT ?_
 refine .seq ?_
 refine .label ?_
 obtain ⟨x1, hx1, h⟩ := bind_some h
 refine .seqM 20100 (fun (j : (List TWait) × (List TStamp) × (List TMessage)) => Try.St_skeen_clock_deliver_1 a0 j.1 j.2.1 j.2.2) (fun j => x1 = j) (Nat.le_of_ble_eq_true rfl) ?_ ?_
 ·skip
  refine .block ?_
  refine .loopG 20100 (fun (j : Nat × (List TWait) × (List TStamp) × (List TMessage)) => Try.St_skeen_clock_deliver_3 a0 j.2.1 j.2.2.1 j.2.2.2) (fun j => m_skeen_clock_deliver_loop1 a0 j.1 j.2.1 j.2.2.1 j.2.2.2 = some x1) (fun j => j.1) (a0.Skeen.Waits.length + 1, a0.Skeen.Waits, a0.Skeen.Done, []) (Nat.le_of_ble_eq_true rfl) ?_ hx1 ?_
  ·skip
   refine Goes.new0 5 28 (Nat.le_of_ble_eq_true rfl) ?_
   refine Goes.wk 2 _ (.ref 20100 5 0 0 (some unkC)) rfl (.own0 20100 _ _ _ (by decide)) ?_
   exact .m [0, 2] [20000, 20001, 20002, 20100] [(20001, 20100), (20002, 20101), (20100, 20102)]
  rintro ⟨fu1, l4, l5, l6⟩ hx1
  simp only [Try.St_skeen_clock_deliver_3]
  try simp only at hx1
  obtain ⟨fu1, rfl⟩ : ∃ k, fu1 = k + 1 := by cases fu1 with | zero => (rw [m_skeen_clock_deliver_loop1] at hx1; cases hx1) | succ k => exact ⟨k, rfl⟩
  rw [m_skeen_clock_deliver_loop1] at hx1
  refine .seq ?_
  refine .seq ?_
  refine .pl Try.S [0, 2] ?_
  refine .cond rfl rfl (fun hc1 => ?_) (fun hc1 => ?_)
  ·skip
   replace hx1 := ite_lc hx1 hc1
   refine .skip ?_
   refine .block ?_
   refine .seq ?_
   obtain ⟨v1, hv1, hx1⟩ := bind_some hx1
   refine .rg Try.S [0, 2] ?_
   refine .rn 5 ?_
   refine .hcall (H := [(20100, .arr 52 7 true (l4.map TWait.n))]) (eff := []) (nw := (20104, 20108)) (r := .agg [.int .i64 v1.Message.Id, .imm 1 (v1.Message.Groups.map (D.int .i64)) 13, .int .i64 v1.Message.Topic, .str v1.Message.Key, .str v1.Message.Body, .int .i64 v1.Time, .bool v1.Final]) rfl rfl rfl rfl rfl (callH_sw 20000 20100 (callH_bsw2 20104 (callH_slices_MinFunc_Wait_Wait_w l4 39 [] (fun _ => rfl) (fun _ => rfl) (fun _ => rfl) m_skeen_order (fun x0 x1 y hy => callP_skeen_order x0 x1 y hy) v1 hv1))) (fun id b h => getL_pick [20100] _ id b h) (by simp) (.inr ⟨Nat.le_of_ble_eq_true rfl, Nat.le_of_ble_eq_true rfl⟩) ?_
   refine .rn 2 ?_
   refine .nil ⟨nofun, ?_⟩
   refine .seq ?_
   refine .seq ?_
   refine .pl Try.S [0, 2, 3] ?_
   refine .cond rfl rfl (fun hc2 => ?_) (fun hc2 => ?_)
   ·skip
    replace hx1 := ite_lc hx1 hc2
    refine .exit ?_
    refine ⟨_, ?_, (Option.some.inj hx1).symm⟩
    exact .m [0, 2] [20000, 20100, 20101, 20102] []
   ·skip
    replace hx1 := ite_rc hx1 hc2
    refine .skip ?_
    refine .seq ?_
    obtain ⟨v2, hv2, hx1⟩ := bind_some hx1
    refine .rg Try.S [0, 2, 3] ?_
    refine .rn 4 ?_
    refine .lcall (r := .tuple [.int .i64 v2.1, .bool v2.2]) [20100, 20101] rfl rfl rfl rfl rfl (lend2s_cons (lend2_ptr rfl (lends_cons rfl (lends_cons (lend_refN pln_TWait (by first | rfl | (simp only [go_sem, Nat.reduceBEq]; rfl)) (by first | rfl | (simp; done) | (simp <;> omega))) (lends_cons (lend_ref pl_TStamp (by first | rfl | (simp only [go_sem, Nat.reduceBEq]; rfl)) (by first | rfl | (simp; done) | (simp <;> omega))) lends_nil)))) (lend2s_cons rfl lend2s_nil)) rfl (callP_skeen_clock_find (⟨(⟨a0.Skeen.Clock, l4, l5⟩ : TSkeen)⟩ : Tskeen_clock) v1.Message.Id v2 hv2) ?_
    refine .rn 5 ?_
    refine .nil ⟨nofun, ?_⟩
    refine .seq ?_
    obtain ⟨k1, hx1⟩ := ite_ck hx1
    obtain ⟨k2, hx1⟩ := ite_ck hx1
    refine .rg Try.S [0, 2, 3, 4] ?_
    refine .rn 6 ?_
    refine .rn 3 ?_
    refine .hcall (r := .ref 20109 7 0 ((l4.eraseIdx v2.1.toNat).length) (some unkC)) rfl rfl rfl rfl rfl (delT56n 20100 20109 (by decide) l4 v2.1 k1 k2) (fun id b h => getL_pick [20100] _ id b h) (by simp) (.inr ⟨Nat.le_refl _, Nat.le_of_ble_eq_true rfl⟩) ?_
    refine .rn 4 ?_
    refine .nil ⟨nofun, ?_⟩
    refine .seq ?_
    obtain ⟨v3, hv3, hx1⟩ := bind_some hx1
    obtain ⟨k3, hx1⟩ := ite_ck hx1
    refine .rg Try.S [0, 2, 3] ?_
    refine .rd 7 ?_
    refine .call (r := .agg [.int .i64 v3.Time, .int .i64 v3.Id]) rfl rfl rfl rfl rfl rfl (callP_wk (WkL.cons (Wk.agg (WkL.cons (Wk.refl _) (WkL.cons (Wk.imm4 _ _ (by decide)) (WkL.cons (Wk.refl _) (WkL.cons (Wk.refl _) (WkL.cons (Wk.refl _) (WkL.cons (Wk.refl _) (WkL.cons (Wk.refl _) (WkL.refl _))))))))) (WkL.refl _)) (callP_skeen_of v1 v3 hv3)) ?_
    refine .rd 6 ?_
    refine .nil ⟨fun _ => schedB_of (by kernel_rfl), ?_⟩
    obtain ⟨k4, hx1⟩ := ite_ck hx1
    refine .pl Try.S [0, 2, 3] ?_
    refine ⟨(fu1, _, _, _), ?_, hx1, by dsimp only; omega⟩
    exact .m [0, 2] [20000, 20109, 20111, 20113] [(20109, 20100), (20111, 20101), (20113, 20102)]
  ·skip
   replace hx1 := ite_rc hx1 hc1
   refine .exit ?_
   refine ⟨_, ?_, (Option.some.inj hx1).symm⟩
   exact .m [0, 2] [20000, 20100, 20101, 20102] []
 ·skip
  rintro ⟨l1, l2, l3⟩ hj1
  subst x1
  try dsimp only at h
  simp only [Try.St_skeen_clock_deliver_1]
  refine .seq ?_
  refine .pl Try.S [0, 2] ?_
  have hq := Option.some.inj h
  subst r
  refine .ret ⟨Try.Re_skeen_clock_deliver (l3, (⟨(⟨a0.Skeen.Clock, l1, l2⟩ : TSkeen)⟩ : Tskeen_clock)), ?_, .inr rfl, retH [20000, 20102, 20101, 20100] ?_ ?_⟩
  ·skip
   exact .m [0, 2] [20000, 20102, 20100, 20101] [(20102, 20100), (20100, 20101), (20101, 20102)]
  ·exact rsi0
  ·rfl
def Try.St_skeen_Check_1 (a0 : TSkeen) (m1 : List (Int × Int)) (n1 : Int) (n2 : Int) : St := ⟨[(1, .ptr 0 0), (3, .mref 1), (4, .ptr 2 0)], [(0, .box [.int .i64 a0.Clock, .imm 7 (a0.Waits.map TWait.d) 4, .imm 2 (a0.Done.map TStamp.d) 4]), (1, .map (mapD (D.int .i64) (D.int .i64) m1)), (2, .box [.int .i64 n1, .int .i64 n2])], 3⟩
attribute [local go_sem] Try.St_skeen_Check_1
def Try.St_skeen_Check_3 (a0 : TSkeen) (n5 : Nat) (m2 : List (Int × Int)) (n3 : Int) (n4 : Int) : St := ⟨[(1, .ptr 0 0), (3, .mref 1), (4, .ptr 2 0), (31, .imm 2 (a0.Done.map TStamp.d) 4), (32, .int .i64 (a0.Done.length : Int)), (33, .int .i64 (n5 : Int))], [(0, .box [.int .i64 a0.Clock, .imm 7 (a0.Waits.map TWait.d) 4, .imm 2 (a0.Done.map TStamp.d) 4]), (1, .map (mapD (D.int .i64) (D.int .i64) m2)), (2, .box [.int .i64 n3, .int .i64 n4])], 3⟩
attribute [local go_sem] Try.St_skeen_Check_3
def Try.St_skeen_Check_5 (a0 : TSkeen) : St := ⟨[(1, .ptr 0 0)], [(0, .box [.int .i64 a0.Clock, .imm 7 (a0.Waits.map TWait.d) 4, .imm 2 (a0.Done.map TStamp.d) 4])], 3⟩
attribute [local go_sem] Try.St_skeen_Check_5
def Try.St_skeen_Check_7 (a0 : TSkeen) (m1 : List (Int × Int)) (n1 : Int) (n2 : Int) (n6 : Nat) : St := ⟨[(1, .ptr 0 0), (3, .mref 1), (4, .ptr 2 0), (76, .imm 7 (a0.Waits.map TWait.d) 4), (77, .int .i64 (a0.Waits.length : Int)), (78, .int .i64 (n6 : Int))], [(0, .box [.int .i64 a0.Clock, .imm 7 (a0.Waits.map TWait.d) 4, .imm 2 (a0.Done.map TStamp.d) 4]), (1, .map (mapD (D.int .i64) (D.int .i64) m1)), (2, .box [.int .i64 n1, .int .i64 n2])], 3⟩
attribute [local go_sem] Try.St_skeen_Check_7
theorem callP_skeen_Check (a0 : TSkeen) (r : Int) (h : m_skeen_Check a0 = some r) : CallP Try.prog 14 [.agg [.int .i64 a0.Clock, .imm 7 (a0.Waits.map TWait.d) 4, .imm 2 (a0.Done.map TStamp.d) 4]] (.int .i64 r) := by
 refine callP_intro Try.tmOk 6 Try.func14 rfl (by decide) rfl rfl (Nat.le_of_ble_eq_true rfl) ?_
 intro hwf
 unfold m_skeen_Check at h
 refine .seq ?_
 refine .pl Try.S [0] ?_
 refine .seq ?_
 refine .seq ?_
 refine .rg Try.S [1] ?_
 refine .rn 6 ?_
 refine .rn 6 ?_
 refine .rn 8 ?_
 refine .nil ⟨nofun, ?_⟩
 refine .cond rfl rfl (fun hc1 => ?_) (fun hc1 => ?_)
 ·skip
  replace h := ite_lc h hc1
  refine .seq ?_
  refine .pl Try.S [] ?_
  have hq := Option.some.inj h
  subst r
  exact .ret ⟨.inr rfl, rsi⟩
 ·skip
  replace h := ite_rc h hc1
  refine .skip ?_
  refine .seq ?_
  refine .pl Try.S [1] ?_
  refine .seq ?_
  refine .pl Try.S [1, 3] ?_
  obtain ⟨x1, hx1, h⟩ := bind_some h
  refine .seqM 3 (fun (j : (List (Int × Int)) × Int × Int) => Try.St_skeen_Check_1 a0 j.1 j.2.1 j.2.2) (fun j => x1 = (.inr j)) (Nat.le_of_ble_eq_true rfl) ?_ ?_
  ·skip
   refine .seq ?_
   refine .pl Try.S [1, 3, 4] ?_
   refine .block ?_
   refine .loopG 3 (fun (j : Nat × (List (Int × Int)) × Int × Int) => Try.St_skeen_Check_3 a0 j.1 j.2.1 j.2.2.1 j.2.2.2) (fun j => j.1 ≤ a0.Done.length ∧ m_skeen_Check_loop1 a0 (a0.Done.drop j.1) j.1 j.2.1 j.2.2.1 j.2.2.2 = some x1) (fun j => a0.Done.length - j.1) (0, [], 0, 0) (Nat.le_of_ble_eq_true rfl) ?_ ⟨Nat.zero_le _, hx1⟩ ?_
   ·skip
    exact .mp [1, 3, 4, 31, 32, 33] [0, 1, 2] [] ⟨rfl, trivial⟩
   rintro ⟨n5, m2, n3, n4⟩ ⟨hi1, hx1⟩
   simp only [Try.St_skeen_Check_3]
   simp only at hi1 hx1
   refine .wf 32 (.int .i64 (a0.Done.length : Int)) rfl ?_
   intro hln5
   replace hln5 : (a0.Done.length : Int) ≤ 9223372036854775807 := by simp only [wf, wfL, IntKind.max, IntKind.min, IntKind.signed, IntKind.bits, List.length_map] at hln5; first | exact hln5.2 | exact hln5.1 | (simp at hln5; omega)
   refine .seq ?_
   refine .pl Try.S [1, 3, 4, 31, 32, 33] ?_
   refine .seq ?_
   refine .cond rfl rfl (fun hc2 => ?_) (fun hc2 => ?_)
   ·skip
    have h1 : n5 < a0.Done.length := by simpa using hc2
    have hwn5 : wr .i64 ((n5 : Int) + 1) = ((n5 + 1 : Nat) : Int) := wr_succ h1 hln5
    have hpn5 : wr .i64 ((n5 : Int) - 1) = (n5 : Int) - 1 := wr_pred h1 hln5
    rw [List.drop_eq_getElem_cons h1, m_skeen_Check_loop1] at hx1
    refine .skip ?_
    refine .seq ?_
    refine .block ?_
    refine .seq ?_
    have e1 := nth_map TStamp.d a0.Done n5 h1
    refine .plx Try.S (And.intro e1 hwn5) [1, 3, 4, 31, 32, 33] ?_
    refine .seq ?_
    refine .seq ?_
    obtain ⟨v1, hv1, hx1⟩ := bind_some hx1
    obtain ⟨v2, hv2, hx1⟩ := bind_some hx1
    refine .rg Try.S [1, 3, 4, 5, 6, 31, 32, 33] ?_
    refine .rnx 1 hwn5 ?_
    refine .call (r := .int .i64 v1) rfl rfl rfl rfl rfl rfl (callP_stamp_Check (a0.Done[n5]) v1 hv1) ?_
    refine .rnx 6 hwn5 ?_
    refine .rnx 6 hwn5 ?_
    refine .rnx 7 hwn5 ?_
    refine .gcall (r := .bool v2) rfl rfl rfl rfl rfl (fun hg => ⟨[], [.agg [.int .i64 n3, .int .i64 n4], .agg [.int .i64 (a0.Done[n5].Time), .int .i64 (a0.Done[n5].Id)]], _, rfl, gd hg, rfl, (callP_stamp_Less (⟨n3, n4⟩ : TStamp) (a0.Done[n5]) v2 (ite_lc hv2 hg))⟩) ?_
    refine .rnx 6 hwn5 ?_
    refine .rnx 4 hwn5 ?_
    refine .nil ⟨nofun, ?_⟩
    refine .cond rfl rfl (fun hc3 => ?_) (fun hc3 => ?_)
    ·skip
     replace hx1 := ite_lc hx1 hc3
     refine .seq ?_
     refine .plx Try.S hwn5 [] ?_
     have hq := Option.some.inj hx1
     subst x1
     try dsimp only at h
     have hq := Option.some.inj h
     subst r
     exact .ret ⟨.inr rfl, rsi⟩
    ·skip
     replace hx1 := ite_rc hx1 hc3
     refine .skip ?_
     have em1 : updD (.int .i64 (a0.Done[n5].Id)) (.int .i64 1) (mapD (D.int .i64) (D.int .i64) m2) = some (mapD (D.int .i64) (D.int .i64) (mput (a0.Done[n5].Id) 1 m2)) := updD_int _ (D.int .i64) (a0.Done[n5].Id) 1 _ rfl m2
     refine .drx Try.S (And.intro em1 hwn5) [1, 3, 4, 6, 31, 32, 33] ?_
     refine .plx Try.S hwn5 [1, 3, 4, 31, 32, 33] ?_
     refine ⟨(n5 + 1, _, _, _), ?_, ⟨by omega, hx1⟩, by dsimp only; omega⟩
     exact .mp [1, 3, 4, 31, 32, 33] [0, 1, 2] [] ⟨idsEs_mapD (fun _ => rfl) (fun _ => rfl) _, trivial⟩
   ·skip
    have h2 : n5 = a0.Done.length := by have h2b := of_decide_eq_false hc2; omega
    rw [List.drop_of_length_le (by omega), m_skeen_Check_loop1] at hx1
    refine .exit ?_
    refine ⟨_, ?_, (Option.some.inj hx1).symm⟩
    exact .mp [1, 3, 4] [0, 1, 2] [] ⟨idsEs_mapD (fun _ => rfl) (fun _ => rfl) _, trivial⟩
  ·skip
   rintro ⟨m1, n1, n2⟩ hj1
   subst x1
   try dsimp only at h
   simp only [Try.St_skeen_Check_1]
   obtain ⟨x2, hx2, h⟩ := bind_some h
   refine .seqM 3 (fun (j : Unit) => Try.St_skeen_Check_5 a0) (fun j => x2 = (.inr j)) (Nat.le_of_ble_eq_true rfl) ?_ ?_
   ·skip
    refine .seq ?_
    refine .pl Try.S [1, 3, 4] ?_
    refine .block ?_
    refine .loopG 3 (fun (j : Nat) => Try.St_skeen_Check_7 a0 m1 n1 n2 j) (fun j => j ≤ a0.Waits.length ∧ m_skeen_Check_loop2 a0 m1 n1 n2 (a0.Waits.drop j) j  = some x2) (fun j => a0.Waits.length - j) (0) (Nat.le_of_ble_eq_true rfl) ?_ ⟨Nat.zero_le _, hx2⟩ ?_
    ·skip
     exact .mp [1, 3, 4, 76, 77, 78] [0, 1, 2] [] ⟨idsEs_mapD (fun _ => rfl) (fun _ => rfl) _, trivial⟩
    rintro n6 ⟨hi2, hx2⟩
    simp only [Try.St_skeen_Check_7]
    refine .wf 77 (.int .i64 (a0.Waits.length : Int)) rfl ?_
    intro hln6
    replace hln6 : (a0.Waits.length : Int) ≤ 9223372036854775807 := by simp only [wf, wfL, IntKind.max, IntKind.min, IntKind.signed, IntKind.bits, List.length_map] at hln6; first | exact hln6.2 | exact hln6.1 | (simp at hln6; omega)
    refine .seq ?_
    refine .pl Try.S [1, 3, 4, 76, 77, 78] ?_
    refine .seq ?_
    refine .cond rfl rfl (fun hc4 => ?_) (fun hc4 => ?_)
    ·skip
     have h3 : n6 < a0.Waits.length := by simpa using hc4
     have hwn6 : wr .i64 ((n6 : Int) + 1) = ((n6 + 1 : Nat) : Int) := wr_succ h3 hln6
     have hpn6 : wr .i64 ((n6 : Int) - 1) = (n6 : Int) - 1 := wr_pred h3 hln6
     rw [List.drop_eq_getElem_cons h3, m_skeen_Check_loop2] at hx2
     refine .skip ?_
     refine .seq ?_
     refine .block ?_
     refine .seq ?_
     have e2 := nth_map TWait.d a0.Waits n6 h3
     refine .plx Try.S (And.intro e2 hwn6) [1, 3, 4, 76, 77, 78] ?_
     refine .seq ?_
     obtain ⟨v3, hv3, hx2⟩ := bind_some hx2
     obtain ⟨v4, hv4, hx2⟩ := bind_some hx2
     obtain ⟨v5, hv5, hx2⟩ := bind_some hx2
     have e3 := nth_mapD TWait.d a0.Waits (n6 - 1) (by omega)
     refine .rg Try.S [1, 3, 4, 7, 8, 76, 77, 78] ?_
     refine .rdx 2 (And.intro e3 (And.intro hpn6 hwn6)) ?_
     refine .call (r := .int .i64 v3) rfl rfl rfl rfl rfl rfl (callP_command_CheckMessage (a0.Waits[n6].Message) v3 hv3) ?_
     refine .rdx 6 (And.intro e3 (And.intro hpn6 hwn6)) ?_
     refine .rdx 6 (And.intro e3 (And.intro hpn6 hwn6)) ?_
     refine .rdx 6 (And.intro e3 (And.intro hpn6 hwn6)) ?_
     refine .rdx 6 (And.intro e3 (And.intro hpn6 hwn6)) ?_
     refine .rdx 6 (And.intro e3 (And.intro hpn6 hwn6)) ?_
     refine .rdx 6 (And.intro e3 (And.intro hpn6 hwn6)) ?_
     refine .rdx 6 (And.intro e3 (And.intro hpn6 hwn6)) ?_
     refine .rdx 5 (And.intro e3 (And.intro hpn6 hwn6)) ?_
     refine .gcall (r := .agg [.int .i64 v4.Time, .int .i64 v4.Id]) rfl rfl rfl rfl rfl (fun hg => ⟨[], [.agg [.int .i64 (a0.Waits[n6].Message.Id), .imm 1 ((a0.Waits[n6].Message.Groups).map (D.int .i64)) 4, .int .i64 (a0.Waits[n6].Message.Topic), .str (a0.Waits[n6].Message.Key), .str (a0.Waits[n6].Message.Body), .int .i64 (a0.Waits[n6].Time), .bool (a0.Waits[n6].Final)]], _, rfl, gd hg, rfl, (callP_skeen_of (a0.Waits[n6]) v4 (ite_lc hv4 hg))⟩) ?_
     refine .rdx 0 (And.intro e3 (And.intro hpn6 hwn6)) ?_
     refine .gcall (r := .bool v5) rfl rfl rfl rfl rfl (fun hg => ⟨[], [.agg [.int .i64 n1, .int .i64 n2], .agg [.int .i64 v4.Time, .int .i64 v4.Id]], _, rfl, gd hg, rfl, (callP_stamp_Less (⟨n1, n2⟩ : TStamp) v4 v5 (ite_lc hv5 hg))⟩) ?_
     refine .rdx 3 (And.intro e3 (And.intro hpn6 hwn6)) ?_
     refine .nil ⟨fun _ => schedB_of (by kernel_rfl), ?_⟩
     refine .cond rfl rfl (fun hc5 => ?_) (fun hc5 => ?_)
     ·skip
      replace hx2 := ite_lc hx2 hc5
      refine .seq ?_
      refine .plx Try.S hwn6 [] ?_
      have hq := Option.some.inj hx2
      subst x2
      try dsimp only at h
      have hq := Option.some.inj h
      subst r
      exact .ret ⟨.inr rfl, rsi⟩
     ·skip
      replace hx2 := ite_rc hx2 hc5
      refine .skip ?_
      refine .plx Try.S hwn6 [1, 3, 4, 76, 77, 78] ?_
      refine ⟨n6 + 1, ?_, ⟨by omega, hx2⟩, by dsimp only; omega⟩
      exact .mp [1, 3, 4, 76, 77, 78] [0, 1, 2] [] ⟨idsEs_mapD (fun _ => rfl) (fun _ => rfl) _, trivial⟩
    ·skip
     have h4 : n6 = a0.Waits.length := by have h4b := of_decide_eq_false hc4; omega
     rw [List.drop_of_length_le (by omega), m_skeen_Check_loop2] at hx2
     refine .exit ?_
     refine ⟨_, ?_, (Option.some.inj hx2).symm⟩
     exact .m [1] [0] []
   ·skip
    rintro ⟨⟩ hj2
    subst x2
    try dsimp only at h
    simp only [Try.St_skeen_Check_5]
    refine .seq ?_
    refine .seq ?_
    obtain ⟨v6, hv6, h⟩ := bind_some h
    refine .rg Try.S [1] ?_
    refine .rn 7 ?_
    refine .glcall (r := .agg [.int .i64 v6.Message.Id, .undef, .int .i64 v6.Message.Topic, .str v6.Message.Key, .str v6.Message.Body, .int .i64 v6.Time, .bool v6.Final]) [] rfl rfl rfl rfl rfl (fun hg => ⟨[], [.imm 7 (a0.Waits.map TWait.d) 4, .fn (.func 39) []], _, rfl, gd hg, (lend2s_cons rfl (lend2s_cons (lend2_fn lend2s_nil) lend2s_nil)), rfl, (callP_slices_MinFunc_Wait_Wait a0.Waits 39 [] (fun _ => rfl) (fun _ => rfl) (fun _ => rfl) m_skeen_order (fun x0 x1 y hy => callP_skeen_order x0 x1 y hy) v6 (ite_lc hv6 hg))⟩) ?_
    refine .rn 2 ?_
    refine .nil ⟨nofun, ?_⟩
    refine .cond rfl rfl (fun hc6 => ?_) (fun hc6 => ?_)
    ·skip
     replace h := ite_lc h hc6
     refine .seq ?_
     refine .pl Try.S [] ?_
     have hq := Option.some.inj h
     subst r
     exact .ret ⟨.inr rfl, rsi⟩
    ·skip
     replace h := ite_rc h hc6
     refine .skip ?_
     refine .seq ?_
     refine .pl Try.S [] ?_
     have hq := Option.some.inj h
     subst r
     exact .ret ⟨.inr rfl, rsi⟩
def Try.St_skeen_Apply_1 (n1 : Int) (l1 : List TWait) (l2 : List TStamp) : St := ⟨[(6, .ptr 2 0), (11, .ptr 24 0)], [(2, .box [.int .i64 0, .imm 0 [] 0, .imm 0 [] 0]), (24, .box [.int .i64 n1, .ref 25 7 0 l1.length (some unkC), .ref 26 2 0 l2.length (some unkC)]), (25, .arr 52 7 true (l1.map TWait.n)), (26, .arr 70 2 true (l2.map TStamp.d))], 27⟩
attribute [local go_sem] Try.St_skeen_Apply_1
def Try.Re_skeen_Apply (r : TSkeen × (List TMessage) × Int) : St := ⟨[(6, .ptr 3 0), (7, .ref 2 5 0 r.2.1.length (some unkC)), (8, .int .i64 r.2.2)], [(0, .arr 52 7 true (r.1.Waits.map TWait.n)), (1, .arr 70 2 true (r.1.Done.map TStamp.d)), (2, .arr 28 5 true (r.2.1.map TMessage.n)), (3, .box [.int .i64 r.1.Clock, .ref 0 7 0 r.1.Waits.length (some unkC), .ref 1 2 0 r.1.Done.length (some unkC)])], 4⟩
attribute [local go_sem] Try.Re_skeen_Apply
theorem callH_skeen_Apply (a0 : TSkeen) (a1 : Int) (a2 : TCommand) (r : TSkeen × (List TMessage) × Int) (h : m_skeen_Apply a0 a1 a2 = some r) : CallH Try.prog 7 [.agg [.int .i64 a0.Clock, .imm 7 (a0.Waits.map TWait.d) 4, .imm 2 (a0.Done.map TStamp.d) 4], .int .i64 a1, .agg [.int .u8 a2.Kind, .int .i64 a2.Message.Id, .imm 1 (a2.Message.Groups.map (D.int .i64)) 4, .int .i64 a2.Message.Topic, .str a2.Message.Key, .str a2.Message.Body, .int .i64 a2.Id, .int .i64 a2.Time, .imm 1 (a2.Members.map (D.int .i64)) 4, .int .i64 a2.Topic, .int .i64 a2.Who, .int .i64 a2.N]] [] (.tuple [.agg [.int .i64 r.1.Clock, .ref 0 7 0 r.1.Waits.length (some unkC), .ref 1 2 0 r.1.Done.length (some unkC)], .ref 2 5 0 r.2.1.length (some unkC), .int .i64 r.2.2]) [(0, some (.arr 52 7 true (r.1.Waits.map TWait.n))), (1, some (.arr 70 2 true (r.1.Done.map TStamp.d))), (2, some (.arr 28 5 true (r.2.1.map TMessage.n)))] (0, 48) := by
 refine callH_intro' Try.tmOk Try.func7 rfl (by decide) (Nat.le_of_ble_eq_true rfl) (by simp) ?_
 intro hwf
 unfold m_skeen_Apply at h
 refine .ends 0 (Nat.le_refl _) ?_
 refine .seq ?_
 refine .pl Try.S [0, 1, 2] ?_
 refine .seq ?_
 refine .seq ?_
 obtain ⟨v1, hv1, h⟩ := bind_some h
 refine .rg Try.S [1, 3, 5, 6] ?_
 refine .rn 1 ?_
 refine .call (r := .int .i64 v1) rfl rfl rfl rfl rfl rfl (callP_skeen_Check a0 v1 hv1) ?_
 refine .rn 1 ?_
 refine .nil ⟨nofun, ?_⟩
 refine .seq ?_
 refine .pl Try.S [1, 3, 5, 6, 9] ?_
 refine .cond rfl rfl (fun hc1 => ?_) (fun hc1 => ?_)
 ·skip
  replace h := ite_lc h hc1
  refine .seq ?_
  refine .pl Try.S [6, 9] ?_
  have hq := Option.some.inj h
  subst r
  refine .ret ⟨Try.Re_skeen_Apply ((⟨0, [], []⟩ : TSkeen), [], v1), ?_, .inr rfl, retH [2, 1, 0] ?_ ?_⟩
  ·skip
   refine Goes.new0 7 52 (Nat.le_of_ble_eq_true rfl) ?_
   refine Goes.new0 2 70 (Nat.le_of_ble_eq_true rfl) ?_
   refine Goes.new0 5 28 (Nat.le_of_ble_eq_true rfl) ?_
   refine Goes.boxs 2 _ [.int .i64 0, .ref 3 7 0 0 (some unkC), .ref 4 2 0 0 (some unkC)] rfl (.keep (.cons (.own0 3 _ _ _ (by decide)) (.cons (.own0 4 _ _ _ (by decide)) (.refl _)))) ?_
   refine Goes.wk 7 _ (.ref 5 5 0 0 (some unkC)) rfl (.own0 5 _ _ _ (by decide)) ?_
   exact .m [6, 7, 8] [3, 4, 5, 2] [(3, 0), (4, 1), (5, 2), (2, 3)]
  ·exact rsi0
  ·rfl
 ·skip
  replace h := ite_rc h hc1
  refine .skip ?_
  refine .seq ?_
  refine .seq ?_
  refine .pl Try.S [1, 3, 5, 6] ?_
  refine .cond rfl rfl (fun hc2 => ?_) (fun hc2 => ?_)
  ·skip
   replace h := ite_lc h hc2
   refine .seq ?_
   refine .pl Try.S [6] ?_
   have hq := Option.some.inj h
   subst r
   refine .ret ⟨Try.Re_skeen_Apply ((⟨0, [], []⟩ : TSkeen), [], 2), ?_, .inr rfl, retH [2, 1, 0] ?_ ?_⟩
   ·skip
    refine Goes.new0 7 52 (Nat.le_of_ble_eq_true rfl) ?_
    refine Goes.new0 2 70 (Nat.le_of_ble_eq_true rfl) ?_
    refine Goes.new0 5 28 (Nat.le_of_ble_eq_true rfl) ?_
    refine Goes.boxs 2 _ [.int .i64 0, .ref 3 7 0 0 (some unkC), .ref 4 2 0 0 (some unkC)] rfl (.keep (.cons (.own0 3 _ _ _ (by decide)) (.cons (.own0 4 _ _ _ (by decide)) (.refl _)))) ?_
    refine Goes.wk 7 _ (.ref 5 5 0 0 (some unkC)) rfl (.own0 5 _ _ _ (by decide)) ?_
    exact .m [6, 7, 8] [3, 4, 5, 2] [(3, 0), (4, 1), (5, 2), (2, 3)]
   ·exact rsi0
   ·rfl
  ·skip
   replace h := ite_rc h hc2
   refine .skip ?_
   refine .seq ?_
   refine .seq ?_
   obtain ⟨v2, hv2, h⟩ := bind_some h
   refine .rg Try.S [1, 3, 5, 6] ?_
   refine .rn 1 ?_
   refine .call (r := .int .i64 v2) rfl rfl rfl rfl rfl rfl (callP_command_Check a2 v2 hv2) ?_
   refine .rn 1 ?_
   refine .nil ⟨nofun, ?_⟩
   refine .seq ?_
   refine .pl Try.S [1, 3, 5, 6, 10] ?_
   refine .cond rfl rfl (fun hc3 => ?_) (fun hc3 => ?_)
   ·skip
    replace h := ite_lc h hc3
    refine .seq ?_
    refine .pl Try.S [6, 10] ?_
    have hq := Option.some.inj h
    subst r
    refine .ret ⟨Try.Re_skeen_Apply ((⟨0, [], []⟩ : TSkeen), [], v2), ?_, .inr rfl, retH [2, 1, 0] ?_ ?_⟩
    ·skip
     refine Goes.new0 7 52 (Nat.le_of_ble_eq_true rfl) ?_
     refine Goes.new0 2 70 (Nat.le_of_ble_eq_true rfl) ?_
     refine Goes.new0 5 28 (Nat.le_of_ble_eq_true rfl) ?_
     refine Goes.boxs 2 _ [.int .i64 0, .ref 3 7 0 0 (some unkC), .ref 4 2 0 0 (some unkC)] rfl (.keep (.cons (.own0 3 _ _ _ (by decide)) (.cons (.own0 4 _ _ _ (by decide)) (.refl _)))) ?_
     refine Goes.wk 7 _ (.ref 5 5 0 0 (some unkC)) rfl (.own0 5 _ _ _ (by decide)) ?_
     exact .m [6, 7, 8] [3, 4, 5, 2] [(3, 0), (4, 1), (5, 2), (2, 3)]
    ·exact rsi0
    ·rfl
   ·skip
    replace h := ite_rc h hc3
    refine .skip ?_
    refine .seq ?_
    obtain ⟨v3, hv3, h⟩ := bind_some h
    refine .rg Try.S [1, 3, 5, 6] ?_
    refine .rn 1 ?_
    refine .ncall (r := .agg [.int .i64 v3.Clock, .ref 12 7 0 v3.Waits.length (some unkC), .ref 13 2 0 v3.Done.length (some unkC)]) (eff := [(12, some (.arr 52 7 true (v3.Waits.map TWait.n))), (13, some (.arr 70 2 true (v3.Done.map TStamp.d)))]) (nw := (12, 24)) [] rfl rfl rfl rfl rfl (lend2s_cons rfl lend2s_nil) rfl (callH_at 12 (Nat.le_of_ble_eq_true rfl) (callH_skeen_Twin a0 v3 hv3)) (newE_cons rfl rfl (newB_arrN pln_TWait _ _ _) (newE_cons rfl rfl (newB_arr pl0_TStamp _ _ _) newE_nil)) (by intro i hi; simp [D.ids, D.idsL] at hi <;> omega) rfl ⟨Nat.le_of_ble_eq_true rfl, Nat.le_of_ble_eq_true rfl⟩ ?_
    refine .rn 3 ?_
    refine .nil ⟨nofun, ?_⟩
    obtain ⟨x1, hx1, h⟩ := bind_some h
    refine .seqM 25 (fun (j : Int × (List TWait) × (List TStamp)) => Try.St_skeen_Apply_1 j.1 j.2.1 j.2.2) (fun j => x1 = (.inr j)) (Nat.le_of_ble_eq_true rfl) ?_ ?_
    ·skip
     refine .seq ?_
     refine .pl Try.S [1, 5, 6, 11] ?_
     refine .block ?_
     refine .seq ?_
     refine .pl Try.S [1, 5, 6, 11, 38] ?_
     refine .cond rfl rfl (fun hc4 => ?_) (fun hc4 => ?_)
     ·skip
      replace hx1 := ite_lc hx1 hc4
      refine .seq ?_
      obtain ⟨v4, hv4, hx1⟩ := bind_some hx1
      refine .rg Try.S [1, 5, 6, 11] ?_
      refine .rn 4 ?_
      refine .hcall (H := [(24, .box [.int .i64 v3.Clock, .ref 12 7 0 v3.Waits.length (some unkC), .ref 13 2 0 v3.Done.length (some unkC)]), (12, .arr 52 7 true (v3.Waits.map TWait.n)), (13, .arr 70 2 true (v3.Done.map TStamp.d))]) (eff := [(24, some (.box [.int .i64 v4.2.Skeen.Clock, .ref 25 7 0 v4.2.Skeen.Waits.length (some unkC), .ref 26 2 0 v4.2.Skeen.Done.length (some unkC)])), (12, none), (13, none), (25, some (.arr 52 7 true (v4.2.Skeen.Waits.map TWait.n))), (26, some (.arr 70 2 true (v4.2.Skeen.Done.map TStamp.d)))]) (nw := (25, 30)) (r := .int .i64 v4.1) rfl rfl rfl rfl rfl (callH_bsw 25 (callH_sw 20002 13 (callH_sw 20001 12 (callH_sw 20000 24 (callH_skeen_clock_assign (⟨v3⟩ : Tskeen_clock) a1 a2.Message v4 hv4))))) (fun id b h => getL_pick [24, 12, 13] _ id b h) (by simp) (.inr ⟨Nat.le_of_ble_eq_true rfl, Nat.le_of_ble_eq_true rfl⟩) ?_
      refine .rn 1 ?_
      refine .nil ⟨nofun, ?_⟩
      refine .seq ?_
      refine .pl Try.S [6, 11, 12] ?_
      refine .cond rfl rfl (fun hc5 => ?_) (fun hc5 => ?_)
      ·skip
       replace hx1 := ite_lc hx1 hc5
       refine .seq ?_
       refine .pl Try.S [6, 12] ?_
       have hq := Option.some.inj hx1
       subst x1
       try dsimp only at h
       have hq := Option.some.inj h
       subst r
       refine .ret ⟨Try.Re_skeen_Apply ((⟨0, [], []⟩ : TSkeen), [], v4.1), ?_, .inr rfl, retH [2, 1, 0] ?_ ?_⟩
       ·skip
        refine Goes.new0 7 52 (Nat.le_of_ble_eq_true rfl) ?_
        refine Goes.new0 2 70 (Nat.le_of_ble_eq_true rfl) ?_
        refine Goes.new0 5 28 (Nat.le_of_ble_eq_true rfl) ?_
        refine Goes.boxs 2 _ [.int .i64 0, .ref 30 7 0 0 (some unkC), .ref 31 2 0 0 (some unkC)] rfl (.keep (.cons (.own0 30 _ _ _ (by decide)) (.cons (.own0 31 _ _ _ (by decide)) (.refl _)))) ?_
        refine Goes.wk 7 _ (.ref 32 5 0 0 (some unkC)) rfl (.own0 32 _ _ _ (by decide)) ?_
        exact .m [6, 7, 8] [30, 31, 32, 2] [(30, 0), (31, 1), (32, 2), (2, 3)]
       ·exact rsi0
       ·rfl
      ·skip
       replace hx1 := ite_rc hx1 hc5
       refine .skip ?_
       refine ⟨_, ?_, (Option.some.inj hx1).symm⟩
       exact .m [6, 11] [2, 24, 25, 26] []
     ·skip
      replace hx1 := ite_rc hx1 hc4
      refine .seq ?_
      refine .pl Try.S [5, 6, 11, 38] ?_
      refine .cond rfl rfl (fun hc6 => ?_) (fun hc6 => ?_)
      ·skip
       replace hx1 := ite_lc hx1 hc6
       obtain ⟨v5, hv5, hx1⟩ := bind_some hx1
       refine .rg Try.S [5, 6, 11] ?_
       refine .rn 5 ?_
       refine .hcall (H := [(24, .box [.int .i64 v3.Clock, .ref 12 7 0 v3.Waits.length (some unkC), .ref 13 2 0 v3.Done.length (some unkC)]), (12, .arr 52 7 true (v3.Waits.map TWait.n)), (13, .arr 70 2 true (v3.Done.map TStamp.d))]) (eff := [(24, some (.box [.int .i64 v5.Skeen.Clock, .ref 25 7 0 v5.Skeen.Waits.length (some unkC), .ref 26 2 0 v5.Skeen.Done.length (some unkC)])), (12, none), (13, none), (25, some (.arr 52 7 true (v5.Skeen.Waits.map TWait.n))), (26, some (.arr 70 2 true (v5.Skeen.Done.map TStamp.d)))]) (nw := (25, 29)) (r := .tuple []) rfl rfl rfl rfl rfl (callH_bsw 25 (callH_sw 20002 13 (callH_sw 20001 12 (callH_sw 20000 24 (callH_skeen_clock_final (⟨v3⟩ : Tskeen_clock) a2.Id a2.Time v5 hv5))))) (fun id b h => getL_pick [24, 12, 13] _ id b h) (by simp) (.inr ⟨Nat.le_of_ble_eq_true rfl, Nat.le_of_ble_eq_true rfl⟩) ?_
       refine .nil ⟨nofun, ?_⟩
       refine ⟨_, ?_, (Option.some.inj hx1).symm⟩
       exact .m [6, 11] [2, 24, 25, 26] []
      ·skip
       replace hx1 := ite_rc hx1 hc6
       refine .skip ?_
       refine ⟨_, ?_, (Option.some.inj hx1).symm⟩
       exact .m [6, 11] [2, 24, 12, 13] [(12, 25), (13, 26)]
    ·skip
     rintro ⟨n1, l1, l2⟩ hj1
     subst x1
     try dsimp only at h
     simp only [Try.St_skeen_Apply_1]
     refine .seq ?_
     obtain ⟨v6, hv6, h⟩ := bind_some h
     refine .rg Try.S [6, 11] ?_
     refine .rn 1 ?_
     refine .hcall (H := [(24, .box [.int .i64 n1, .ref 25 7 0 l1.length (some unkC), .ref 26 2 0 l2.length (some unkC)]), (25, .arr 52 7 true (l1.map TWait.n)), (26, .arr 70 2 true (l2.map TStamp.d))]) (eff := [(24, some (.box [.int .i64 v6.2.Skeen.Clock, .ref 28 7 0 v6.2.Skeen.Waits.length (some unkC), .ref 29 2 0 v6.2.Skeen.Done.length (some unkC)])), (25, none), (26, none), (27, some (.arr 28 5 true (v6.1.map TMessage.n))), (28, some (.arr 52 7 true (v6.2.Skeen.Waits.map TWait.n))), (29, some (.arr 70 2 true (v6.2.Skeen.Done.map TStamp.d)))]) (nw := (27, 43)) (r := .ref 27 5 0 v6.1.length (some unkC)) rfl rfl rfl rfl rfl (callH_bsw 27 (callH_sw 20002 26 (callH_sw 20001 25 (callH_sw 20000 24 (callH_skeen_clock_deliver (⟨(⟨n1, l1, l2⟩ : TSkeen)⟩ : Tskeen_clock) v6 hv6))))) (fun id b h => getL_pick [24, 25, 26] _ id b h) (by simp) (.inr ⟨Nat.le_of_ble_eq_true rfl, Nat.le_of_ble_eq_true rfl⟩) ?_
     refine .rn 1 ?_
     refine .nil ⟨nofun, ?_⟩
     refine .seq ?_
     refine .seq ?_
     refine .pl Try.S [6, 11, 13] ?_
     refine .cond rfl rfl (fun hc7 => ?_) (fun hc7 => ?_)
     ·skip
      replace h := ite_lc h hc7
      refine .seq ?_
      refine .pl Try.S [6] ?_
      have hq := Option.some.inj h
      subst r
      refine .ret ⟨Try.Re_skeen_Apply ((⟨0, [], []⟩ : TSkeen), [], 9), ?_, .inr rfl, retH [2, 1, 0] ?_ ?_⟩
      ·skip
       refine Goes.new0 7 52 (Nat.le_of_ble_eq_true rfl) ?_
       refine Goes.new0 2 70 (Nat.le_of_ble_eq_true rfl) ?_
       refine Goes.new0 5 28 (Nat.le_of_ble_eq_true rfl) ?_
       refine Goes.boxs 2 _ [.int .i64 0, .ref 43 7 0 0 (some unkC), .ref 44 2 0 0 (some unkC)] rfl (.keep (.cons (.own0 43 _ _ _ (by decide)) (.cons (.own0 44 _ _ _ (by decide)) (.refl _)))) ?_
       refine Goes.wk 7 _ (.ref 45 5 0 0 (some unkC)) rfl (.own0 45 _ _ _ (by decide)) ?_
       exact .m [6, 7, 8] [43, 44, 45, 2] [(43, 0), (44, 1), (45, 2), (2, 3)]
      ·exact rsi0
      ·rfl
     ·skip
      replace h := ite_rc h hc7
      refine .skip ?_
      refine .seq ?_
      refine .pl Try.S [6, 11, 13] ?_
      have hq := Option.some.inj h
      subst r
      refine .ret ⟨Try.Re_skeen_Apply (v6.2.Skeen, v6.1, 0), ?_, .inr rfl, retH [2, 1, 0] ?_ ?_⟩
      ·skip
       exact .m [6, 7, 8] [28, 29, 27, 2] [(28, 0), (29, 1), (27, 2), (2, 3)]
      ·exact rsi0
      ·rfl
theorem callP_skeen_Local (a0 : TSkeen) (a1 : Int) (r : Int × Bool × Int) (h : m_skeen_Local a0 a1 = some r) : CallP Try.prog 9 [.agg [.int .i64 a0.Clock, .imm 7 (a0.Waits.map TWait.d) 4, .imm 2 (a0.Done.map TStamp.d) 4], .int .i64 a1] (.tuple [.int .i64 r.1, .bool r.2.1, .int .i64 r.2.2]) := by
 refine callP_intro Try.tmOk 4 Try.func9 rfl (by decide) rfl rfl (Nat.le_of_ble_eq_true rfl) ?_
 intro hwf
 unfold m_skeen_Local at h
 refine .seq ?_
 refine .pl Try.S [0, 1] ?_
 refine .seq ?_
 refine .seq ?_
 obtain ⟨v1, hv1, h⟩ := bind_some h
 refine .rg Try.S [1, 2] ?_
 refine .rn 1 ?_
 refine .call (r := .int .i64 v1) rfl rfl rfl rfl rfl rfl (callP_skeen_Check a0 v1 hv1) ?_
 refine .rn 1 ?_
 refine .nil ⟨nofun, ?_⟩
 refine .seq ?_
 refine .pl Try.S [1, 2, 7] ?_
 refine .cond rfl rfl (fun hc1 => ?_) (fun hc1 => ?_)
 ·skip
  replace h := ite_lc h hc1
  refine .seq ?_
  refine .pl Try.S [7] ?_
  have hq := Option.some.inj h
  subst r
  exact .ret ⟨.inr rfl, rsi⟩
 ·skip
  replace h := ite_rc h hc1
  refine .skip ?_
  refine .seq ?_
  obtain ⟨v2, hv2, h⟩ := bind_some h
  refine .rg Try.S [1, 2] ?_
  refine .rn 4 ?_
  refine .lcall (r := .tuple [.int .i64 v2.1, .bool v2.2]) [] rfl rfl rfl rfl rfl (lend2s_cons (lend2_ptr rfl (lends_cons rfl (lends_cons rfl (lends_cons rfl lends_nil)))) (lend2s_cons rfl lend2s_nil)) rfl (callP_skeen_clock_find (⟨a0⟩ : Tskeen_clock) a1 v2 hv2) ?_
  refine .rn 5 ?_
  refine .nil ⟨nofun, ?_⟩
  refine .seq ?_
  refine .seq ?_
  refine .pl Try.S [2, 8, 9] ?_
  refine .cond rfl rfl (fun hc2 => ?_) (fun hc2 => ?_)
  ·skip
   replace h := ite_lc h hc2
   refine .seq ?_
   refine .pl Try.S [] ?_
   have hq := Option.some.inj h
   subst r
   exact .ret ⟨.inr rfl, rsi⟩
  ·skip
   replace h := ite_rc h hc2
   refine .skip ?_
   refine .seq ?_
   obtain ⟨k1, h⟩ := ite_ck h
   have e1 := nth_mapI TWait.d a0.Waits v2.1
   have e2 := nth_mapI TWait.d a0.Waits v2.1
   replace e1 := e1 k1
   replace e2 := e2 k1
   refine .rg Try.S [2, 8] ?_
   refine .rdx 6 (And.intro e1 e2) ?_
   refine .rdx 6 (And.intro e1 e2) ?_
   refine .rdx 3 (And.intro e1 e2) ?_
   refine .nil ⟨fun _ => schedB_of (by kernel_rfl), ?_⟩
   have hq := Option.some.inj h
   subst r
   exact .ret ⟨.inr rfl, rsi⟩
def Try.St_towncrierref12_May_1 (a0 : TCommand) (v1 : Bool) (b1 : Bool) : St := ⟨[(1, .ptr 0 0), (3, .bool (!v1)), (122, .bool b1)], [(0, .box [.int .u8 a0.Kind, .int .i64 a0.Message.Id, .imm 1 (a0.Message.Groups.map (D.int .i64)) 4, .int .i64 a0.Message.Topic, .str a0.Message.Key, .str a0.Message.Body, .int .i64 a0.Id, .int .i64 a0.Time, .imm 1 (a0.Members.map (D.int .i64)) 4, .int .i64 a0.Topic, .int .i64 a0.Who, .int .i64 a0.N])], 1⟩
attribute [local go_sem] Try.St_towncrierref12_May_1
theorem callP_towncrierref12_May (a0 : TCommand) (r : Bool) (h : m_towncrierref12_May a0 = some r) : CallP Try.prog 25 [.agg [.int .u8 a0.Kind, .int .i64 a0.Message.Id, .imm 1 (a0.Message.Groups.map (D.int .i64)) 4, .int .i64 a0.Message.Topic, .str a0.Message.Key, .str a0.Message.Body, .int .i64 a0.Id, .int .i64 a0.Time, .imm 1 (a0.Members.map (D.int .i64)) 4, .int .i64 a0.Topic, .int .i64 a0.Who, .int .i64 a0.N]] (.bool r) := by
 refine callP_intro Try.tmOk 3 Try.func25 rfl (by decide) rfl rfl (Nat.le_of_ble_eq_true rfl) ?_
 intro hwf
 unfold m_towncrierref12_May at h
 refine .seq ?_
 refine .pl Try.S [0] ?_
 refine .seq ?_
 obtain ⟨v1, hv1, h⟩ := bind_some h
 refine .rg Try.S [1] ?_
 refine .rn 3 ?_
 refine .call (r := .bool v1) rfl rfl rfl rfl rfl rfl (callP_wk (WkL.cons (Wk.refl _) (WkL.cons (Wk.agg (WkL.cons (Wk.refl _) (WkL.cons (Wk.nil4 0 1 0 rfl) (WkL.cons (Wk.refl _) (WkL.cons (Wk.refl _) (WkL.cons (Wk.refl _) (WkL.refl _))))))) (WkL.refl _))) (callP_towncrierref12_SameMessage a0.Message (⟨0, [], 0, [], []⟩ : TMessage) v1 hv1)) ?_
 refine .rn 2 ?_
 refine .nil ⟨nofun, ?_⟩
 refine .seq ?_
 refine .seq ?_
 refine .pl Try.S [1, 3] ?_
 refine .block ?_
 refine .seq ?_
 refine .pl Try.S [1, 3, 10] ?_
 refine .cond rfl rfl (fun hc1 => ?_) (fun hc1 => ?_)
 ·skip
  replace h := ite_lc h hc1
  refine .seq ?_
  obtain ⟨v2, hv2, h⟩ := bind_some h
  refine .rg Try.S [1] ?_
  refine .rn 2 ?_
  refine .call (r := .bool v2) rfl rfl rfl rfl rfl rfl (callP_wk (WkL.cons (Wk.refl _) (WkL.cons (Wk.agg (WkL.cons (Wk.refl _) (WkL.cons (Wk.refl _) (WkL.cons (Wk.nil4 0 1 0 rfl) (WkL.cons (Wk.refl _) (WkL.cons (Wk.refl _) (WkL.cons (Wk.refl _) (WkL.cons (Wk.refl _) (WkL.cons (Wk.refl _) (WkL.cons (Wk.nil4 0 1 0 rfl) (WkL.cons (Wk.refl _) (WkL.cons (Wk.refl _) (WkL.cons (Wk.refl _) (WkL.refl _)))))))))))))) (WkL.refl _))) (callP_towncrierref12_Same a0 (⟨0, (⟨0, [], 0, [], []⟩ : TMessage), 0, 0, [], 0, 0, 0⟩ : TCommand) v2 hv2)) ?_
  refine .rn 1 ?_
  refine .nil ⟨nofun, ?_⟩
  have hq := Option.some.inj h
  subst r
  exact .ret ⟨.inr rfl, rsi⟩
 ·skip
  replace h := ite_rc h hc1
  refine .seq ?_
  refine .pl Try.S [1, 3, 10] ?_
  refine .cond rfl rfl (fun hc2 => ?_) (fun hc2 => ?_)
  ·skip
   replace h := ite_lc h hc2
   refine .seq ?_
   obtain ⟨v3, hv3, h⟩ := bind_some h
   refine .rg Try.S [1] ?_
   refine .rn 2 ?_
   refine .call (r := .bool v3) rfl rfl rfl rfl rfl rfl (callP_towncrierref12_MayMessage a0.Message v3 hv3) ?_
   refine .rn 6 ?_
   refine .rn 6 ?_
   refine .rn 6 ?_
   refine .rn 6 ?_
   refine .rn 8 ?_
   refine .nil ⟨nofun, ?_⟩
   have hq := Option.some.inj h
   subst r
   exact .ret ⟨.inr rfl, rsi⟩
  ·skip
   replace h := ite_rc h hc2
   refine .seq ?_
   refine .pl Try.S [1, 3, 10] ?_
   refine .cond rfl rfl (fun hc3 => ?_) (fun hc3 => ?_)
   ·skip
    replace h := ite_lc h hc3
    refine .seq ?_
    obtain ⟨v4, hv4, h⟩ := bind_some h
    obtain ⟨v5, hv5, h⟩ := bind_some h
    refine .rg Try.S [1, 3] ?_
    refine .rn 5 ?_
    refine .gcall (r := .bool v4) rfl rfl rfl rfl rfl (fun hg => ⟨[], [.int .i64 a0.Id], _, rfl, gd hg, rfl, (callP_towncrierref12_Id a0.Id v4 (ite_lc hv4 hg))⟩) ?_
    refine .rn 4 ?_
    refine .gcall (r := .bool v5) rfl rfl rfl rfl rfl (fun hg => ⟨[], [.int .i64 a0.Time, .int .i64 1, .int .i64 1073741825], _, rfl, gd hg, rfl, (callP_towncrierref12_In a0.Time 1 1073741825 v5 (ite_lc hv5 hg))⟩) ?_
    refine .rn 6 ?_
    refine .rn 6 ?_
    refine .rn 6 ?_
    refine .rn 5 ?_
    refine .nil ⟨nofun, ?_⟩
    have hq := Option.some.inj h
    subst r
    exact .ret ⟨.inr rfl, rsi⟩
   ·skip
    replace h := ite_rc h hc3
    refine .seq ?_
    refine .pl Try.S [1, 3, 10] ?_
    refine .cond rfl rfl (fun hc4 => ?_) (fun hc4 => ?_)
    ·skip
     replace h := ite_lc h hc4
     refine .seq ?_
     obtain ⟨v6, hv6, h⟩ := bind_some h
     refine .rg Try.S [1, 3] ?_
     refine .rn 6 ?_
     refine .rn 6 ?_
     refine .rn 3 ?_
     refine .gcall (r := .int .i64 v6) rfl rfl rfl rfl rfl (fun hg => ⟨[], [.imm 1 (a0.Members.map (D.int .i64)) 4], _, rfl, gd hg, rfl, (callP_towncrierref06_Check a0.Members v6 (ite_lc hv6 hg))⟩) ?_
     refine .rn 6 ?_
     refine .rn 6 ?_
     refine .rn 6 ?_
     refine .nil ⟨nofun, ?_⟩
     have hq := Option.some.inj h
     subst r
     exact .ret ⟨.inr rfl, rsi⟩
    ·skip
     replace h := ite_rc h hc4
     obtain ⟨x1, hx1, h⟩ := bind_some h
     refine .seqM 1 (fun (j : Bool) => Try.St_towncrierref12_May_1 a0 v1 j) (fun j => x1 = j) (Nat.le_of_ble_eq_true rfl) ?_ ?_
     ·skip
      refine .seq ?_
      refine .pl Try.S [1, 3, 10] ?_
      refine .cond rfl rfl (fun hc5 => ?_) (fun hc5 => ?_)
      ·skip
       replace hx1 := ite_lc hx1 hc5
       refine .skip ?_
       refine ⟨_, ?_, (Option.some.inj hx1).symm⟩
       exact .m [1, 3, 122] [0] []
      ·skip
       replace hx1 := ite_rc hx1 hc5
       refine .seq ?_
       refine .pl Try.S [1, 3, 10] ?_
       refine .cond rfl rfl (fun hc6 => ?_) (fun hc6 => ?_)
       ·skip
        replace hx1 := ite_lc hx1 hc6
        refine .skip ?_
        refine ⟨_, ?_, (Option.some.inj hx1).symm⟩
        exact .m [1, 3, 122] [0] []
       ·skip
        replace hx1 := ite_rc hx1 hc6
        refine .pl Try.S [1, 3, 10] ?_
        refine ⟨_, ?_, (Option.some.inj hx1).symm⟩
        exact .m [1, 3, 122] [0] []
     ·skip
      rintro b1 hj1
      subst x1
      try dsimp only at h
      simp only [Try.St_towncrierref12_May_1]
      refine .cond rfl rfl (fun hc7 => ?_) (fun hc7 => ?_)
      ·skip
       replace h := ite_lc h hc7
       refine .seq ?_
       obtain ⟨v7, hv7, h⟩ := bind_some h
       obtain ⟨v8, hv8, h⟩ := bind_some h
       obtain ⟨v9, hv9, h⟩ := bind_some h
       obtain ⟨v10, hv10, h⟩ := bind_some h
       refine .rg Try.S [1, 3] ?_
       refine .rn 5 ?_
       refine .gcall (r := .bool v7) rfl rfl rfl rfl rfl (fun hg => ⟨[], [.int .i64 a0.Id], _, rfl, gd hg, rfl, (callP_towncrierref12_Id a0.Id v7 (ite_lc hv7 hg))⟩) ?_
       refine .rn 6 ?_
       refine .rn 6 ?_
       refine .rn 3 ?_
       refine .gcall (r := .bool v8) rfl rfl rfl rfl rfl (fun hg => ⟨[], [.int .i64 a0.Topic, .int .i64 0, .int .i64 4], _, rfl, gd hg, rfl, (callP_towncrierref12_In a0.Topic 0 4 v8 (ite_lc hv8 hg))⟩) ?_
       refine .rn 4 ?_
       refine .gcall (r := .bool v9) rfl rfl rfl rfl rfl (fun hg => ⟨[], [.int .i64 a0.N, .int .i64 0, .int .i64 1073741825], _, rfl, gd hg, rfl, (callP_towncrierref12_In a0.N 0 1073741825 v9 (ite_lc hv9 hg))⟩) ?_
       refine .rn 6 ?_
       refine .rn 6 ?_
       refine .gcall (r := .bool v10) rfl rfl rfl rfl rfl (fun hg => ⟨[], [.int .i64 a0.Who, .int .i64 0, .int .i64 8], _, rfl, gd hg, rfl, (callP_towncrierref12_In a0.Who 0 8 v10 (ite_lc hv10 hg))⟩) ?_
       refine .rn 4 ?_
       refine .nil ⟨nofun, ?_⟩
       have hq := Option.some.inj h
       subst r
       exact .ret ⟨.inr rfl, rsi⟩
      ·skip
       replace h := ite_rc h hc7
       refine .skip ?_
       refine .seq ?_
       refine .pl Try.S [] ?_
       have hq := Option.some.inj h
       subst r
       exact .ret ⟨.inr rfl, rsi⟩
end Go.Proofs
