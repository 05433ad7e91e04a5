/- Texts of the proof. -/
import Derived.Test.YtkananhhhkkpkaaOrderFinalPg
import Derived.Test.YtkananhhhkkpkaaOrderFinalPh
import Derived.Test.YtkananhhhkkpkaaOrderFinalPi
namespace Go.Proofs
open Go.Tm Go.RowKit Go.WideShapes
set_option maxRecDepth 100000
set_option maxHeartbeats 4000000
set_option linter.unusedSimpArgs false
set_option linter.unusedVariables false
attribute [local go_sem] zcw runE runK zex stepE aop opd opdsL opds opdO ev ofVal keep List.any zcf Bool.false_or Bool.true_or aggEq cond_true cond_false Bool.cond_false_right Bool.cond_true_left beq_true beq_false imp_self implies_true getR getL put St.app effL del nwB zid Nat.lt_irrefl Nat.lt_add_one zie Nat.le_refl Nat.beq_refl zez zdi capS capK zg9 zf0 zbx D.ids D.idsL bin arith zhy binT dpick Tm.part zh4 fillD oneD loadD zh3 srcD zdj idxOk decide_true gval dstAt D.cells List.map_cons List.map_nil List.take List.drop List.length_map List.append Int.toNat_natCast and_true true_and decide_false List.length_cons List.length_nil List.append_nil List.nil_append Bool.and_true Bool.true_and Bool.not_false Bool.not_true ne_eq not_false_eq_true BEq.rfl List.getElem?_cons_zero List.getElem?_cons_succ List.getElem?_nil Nat.zero_add List.all_cons List.all_nil List.isEmpty_cons List.isEmpty_nil Option.getD_some Option.getD_none List.any_cons List.any_nil List.drop_succ_cons List.drop_zero unfL unf okM okML low3 List.cons_append true_or or_true Nat.zero_mul Nat.zero_le zgo zgn  zi5 zi4 zgm Option.isSome_map keyD List.length_replicate List.map_replicate setEl List.length_set zfj zn4 zn2 zjp zhz mkM mkML zjr zjq zi0 zgd zfl ze4 List.take_length Int.toNat_zero zfe fpOf zfp opIds mvV mvH mvF pickL D.ren D.renL Blk.ren List.map_append List.length_append Bool.not_not Bool.or_not_self Bool.not_or_self Bool.or_true
attribute [local go_sem] Try.tm_1 Try.tm_2 Try.tm_3 Try.tm_4 Try.tm_5 Try.tm_6 Try.tm_7 Try.tm_8 Try.tm_9 Try.tm_10 Try.tm_11 Try.tm_12 Try.tm_13 Try.tm_14 Try.tm_15 Try.tm_16 Try.tm_17 Try.tm_18 Try.tm_19 Try.tm_20 Try.tm_21 Try.tm_22 Try.tm_23 Try.tm_24 Try.tm_25 Try.tm_26 Try.tm_27 Try.tm_28 Try.tm_30 Try.tm_32 Try.tm_33 Try.tm_35 Try.tm_36 Try.tm_37 Try.tm_38 Try.tm_39 Try.tm_40 Try.tm_41 Try.tm_42 Try.tm_43 Try.tm_44 Try.tm_45 Try.tm_46 Try.tm_48 Try.tm_49 Try.tm_50 Try.tm_51 Try.tm_52 Try.tm_53 Try.tm_54 Try.tm_56 Try.tm_57 Try.tm_59 Try.tm_61 Try.tm_62 Try.tm_63 Try.tm_64 Try.tm_65 Try.tm_66 Try.tm_67 Try.tm_68 Try.tm_69 Try.tm_70 Try.tm_71 Try.tm_72 Try.tm_74 Try.tm_75 Try.tm_76 Try.tm_78 Try.tm_79 Try.tm_80 Try.tm_81 Try.tm_82 Try.tm_83 Try.tm_84 Try.tm_85 Try.tm_86 Try.tm_87 Try.tm_88 Try.tm_89 Try.tm_90 Try.tm_92 Try.tm_94 Try.tm_95 Try.tm_96 Try.tm_97 Try.tm_98 Try.tm_99 Try.tm_100 Try.tm_101 Try.tm_102 Try.tm_103 Try.tm_104 Try.tm_105 Try.tm_107 Try.tm_108 Try.tm_109 Try.tm_110 Try.tm_111 Try.tm_112 Try.tm_113 Try.tm_114 Try.tm_115 Try.tm_116 Try.tm_117 Try.tm_119 Try.tm_120 Try.tm_121 Try.tm_123 Try.tm_124 Try.tm_125 Try.tm_126 Try.tm_127 Try.tm_128 Try.tm_129 Try.tm_130 Try.tm_131 Try.tm_132 Try.tm_133 Try.tm_134 Try.tm_135 Try.tm_136 Try.tm_137 Try.tm_138 Try.tm_139 Try.tm_140 Try.tm_141 Try.tm_142 Try.tm_143 Try.tm_144 Try.tm_145 Try.tm_146 Try.tm_147 Try.tm_148 Try.tm_149 Try.tm_150 Try.tm_151 Try.tm_152 Try.tm_153 Try.tm_155 Try.tm_156 Try.tm_158 Try.tm_160 Try.tm_161 Try.tm_162 Try.tm_163 Try.tm_164 Try.tm_165 Try.tm_168 Try.tm_169 Try.tm_170 Try.tm_171 Try.tm_172 Try.tm_173 Try.tm_174 Try.tm_175 Try.tm_176 TMessage.d TMessage.n TWait.d TWait.n TStamp.d TSkeen.d TSkeen.n TCommand.d TCommand.n Tskeen_clock.d Tskeen_clock.n ze5 zgg zfg zfh ze6 zcp Try.f71 Try.f81 Try.f34 Try.f35 Try.f17 Try.f38 Try.f62 Try.f72 Try.f69 Try.f50 Try.f49 Try.f30 Try.f44 Try.f73 Try.f73 Try.f87 Try.f86 Try.f75 Try.f97 Try.f88 Try.f89 Try.f76 Try.f59 Try.f58 Try.f56 Try.f55 Try.f43 Try.f41 Try.f45 Try.f22 Try.f28 Try.f12 Try.f61 Try.f47 Try.f74 Try.f57 Try.f54 Try.f42
theorem zml (a0 : TStamp) (r : Int) (h : zfq a0 = some r) : CallP Try.prog 71 [.agg [.int .i64 a0.Time, .int .i64 a0.Id]] (.int .i64 r) := by
 refine za9 Try.tmOk 3 Try.func71 rfl (by decide) rfl rfl (Nat.le_of_ble_eq_true rfl) ?_
 intro hwf
 unfold zfq at h
 refine .seq ?_
 refine .pl Try.S [0] ?_
 refine .seq ?_
 refine .seq ?_
 refine .rg Try.S [1] ?_
 refine .rn 6 ?_
 refine .rn 6 ?_
 refine .rn 6 ?_
 refine .nil ⟨nofun, ?_⟩
 refine .cond rfl rfl (fun hc1 => ?_) (fun hc1 => ?_)
 ·replace h := za2 h hc1
  refine .seq ?_
  refine .pl Try.S [] ?_
  have hq := Option.some.inj h
  subst r
  exact .ret ⟨.inr rfl, rsi⟩
 ·replace h := zaa h hc1
  refine .skip ?_
  refine .seq ?_
  refine .pl Try.S [] ?_
  have hq := Option.some.inj h
  subst r
  exact .ret ⟨.inr rfl, rsi⟩
theorem zjz (a0 : Int) (r : Bool) (h : zha a0 = some r) : CallP Try.prog 81 [.int .i64 a0] (.bool r) := by
 refine za9 Try.tmOk 2 Try.func81 rfl (by decide) rfl rfl (Nat.le_of_ble_eq_true rfl) ?_
 intro hwf
 unfold zha at h
 refine .seq ?_
 refine .pl Try.S [0] ?_
 refine .seq ?_
 refine .pl Try.S [0] ?_
 have hq := Option.some.inj h
 subst r
 exact .ret ⟨.inr rfl, rsi⟩
theorem zd6 (a0 : Int) (a1 : Int) (a2 : Int) (r : Bool) (h : zc5 a0 a1 a2 = some r) : CallP Try.prog 34 [.int .i64 a0, .int .i64 a1, .int .i64 a2] (.bool r) := by
 refine za9 Try.tmOk 2 Try.func34 rfl (by decide) rfl rfl (Nat.le_of_ble_eq_true rfl) ?_
 intro hwf
 unfold zc5 at h
 refine .seq ?_
 refine .pl Try.S [0, 1, 2] ?_
 refine .seq ?_
 refine .rg Try.S [0, 1, 2] ?_
 refine .rn 6 ?_
 refine .rn 3 ?_
 refine .nil ⟨nofun, ?_⟩
 have hq := Option.some.inj h
 subst r
 exact .ret ⟨.inr rfl, rsi⟩
theorem zh0 (a0 : Int) (r : Bool) (h : zep a0 = some r) : CallP Try.prog 35 [.int .i64 a0] (.bool r) := by
 refine za9 Try.tmOk 2 Try.func35 rfl (by decide) rfl rfl (Nat.le_of_ble_eq_true rfl) ?_
 intro hwf
 unfold zep at h
 refine .seq ?_
 refine .pl Try.S [0] ?_
 refine .seq ?_
 obtain ⟨v1, hv1, h⟩ := bind_some h
 refine .rg Try.S [0] ?_
 refine .rn 1 ?_
 refine .call (r := .bool v1) rfl rfl rfl rfl rfl rfl (zd6 a0 0 6291455 v1 hv1) ?_
 refine .rn 1 ?_
 refine .nil ⟨nofun, ?_⟩
 have hq := Option.some.inj h
 subst r
 exact .ret ⟨.inr rfl, rsi⟩
def Try.St_command_CheckMessage_1 (a0 : TMessage) (b1 : Bool) : St := ⟨[(1, .ptr 0 0), (3, .bool b1)], [(0, .box [.int .i64 a0.Id, .imm 1 (a0.Groups.map (D.int .i64)) 4, .int .i64 a0.Topic, .str a0.Key, .str a0.Body])], 1⟩
attribute [local go_sem] Try.St_command_CheckMessage_1
def Try.St_command_CheckMessage_3 (a0 : TMessage) (n1 : Nat) (b2 : Bool) : St := ⟨[(1, .ptr 0 0), (3, .bool b2), (17, .imm 1 (a0.Groups.map (D.int .i64)) 4), (18, .int .i64 (a0.Groups.length : Int)), (19, .int .i64 (n1 : Int))], [(0, .box [.int .i64 a0.Id, .imm 1 (a0.Groups.map (D.int .i64)) 4, .int .i64 a0.Topic, .str a0.Key, .str a0.Body])], 1⟩
attribute [local go_sem] Try.St_command_CheckMessage_3
theorem zdk (a0 : TMessage) (r : Int) (h : zam a0 = some r) : CallP Try.prog 17 [.agg [.int .i64 a0.Id, .imm 1 (a0.Groups.map (D.int .i64)) 4, .int .i64 a0.Topic, .str a0.Key, .str a0.Body]] (.int .i64 r) := by
 refine za9 Try.tmOk 3 Try.func17 rfl (by decide) rfl rfl (Nat.le_of_ble_eq_true rfl) ?_
 intro hwf
 unfold zam at h
 refine .seq ?_
 refine .pl Try.S [0] ?_
 refine .seq ?_
 refine .rg Try.S [1] ?_
 refine .rn 6 ?_
 refine .rn 5 ?_
 refine .nil ⟨nofun, ?_⟩
 obtain ⟨x1, hx1, h⟩ := bind_some h
 refine .seqM 1 (fun (j : Bool) => Try.St_command_CheckMessage_1 a0 j) (fun j => x1 = j) (Nat.le_of_ble_eq_true rfl) ?_ ?_
 ·refine .seq ?_
  refine .pl Try.S [1, 3] ?_
  refine .block ?_
  refine .loopG 1 (fun (j : Nat × Bool) => Try.St_command_CheckMessage_3 a0 j.1 j.2) (fun j => j.1 <= a0.Groups.length /\ zad a0 (a0.Groups.drop j.1) j.1 j.2 = some x1) (fun j => a0.Groups.length - j.1) (0, ((decide ((a0.Groups.length : Int) >= 1)) && (decide ((a0.Groups.length : Int) <= 4)))) (Nat.le_of_ble_eq_true rfl) ?_ ⟨Nat.zero_le _, hx1⟩ ?_
  ·exact .m [1, 3, 17, 18, 19] [0] []
  rintro ⟨n1, b2⟩ ⟨hi1, hx1⟩
  simp only [Try.St_command_CheckMessage_3]
  simp only at hi1 hx1
  refine .wf 18 (.int .i64 (a0.Groups.length : Int)) rfl ?_
  intro hln1
  replace hln1 : (a0.Groups.length : Int) <= 9223372036854775807 := by simp only [wf, wfL, IntKind.max, IntKind.min, IntKind.signed, IntKind.bits, List.length_map] at hln1; first | exact hln1.2 | exact hln1.1 | (simp at hln1; omega)
  refine .seq ?_
  refine .pl Try.S [1, 3, 17, 18, 19] ?_
  refine .seq ?_
  refine .cond rfl rfl (fun hc1 => ?_) (fun hc1 => ?_)
  ·have h1 : n1 < a0.Groups.length := by simpa using hc1
   have hwn1 : wr .i64 ((n1 : Int) + 1) = ((n1 + 1 : Nat) : Int) := zd4 h1 hln1
   have hpn1 : wr .i64 ((n1 : Int) - 1) = (n1 : Int) - 1 := zd5 h1 hln1
   rw [List.drop_eq_getElem_cons h1, zad] at hx1
   refine .skip ?_
   refine .seq ?_
   refine .block ?_
   refine .seq ?_
   have e1 := zcc (D.int .i64) a0.Groups n1 h1
   refine .plx Try.S (And.intro e1 hwn1) [1, 3, 17, 18, 19] ?_
   obtain ⟨v1, hv1, hx1⟩ := bind_some hx1
   have e2 := zh8 (D.int .i64) a0.Groups (n1 - 1) (by omega)
   refine .rg Try.S [1, 3, 4, 5, 17, 18, 19] ?_
   refine .rnx 3 (And.intro e2 (And.intro hpn1 hwn1)) ?_
   refine .gcall (r := .bool v1) rfl rfl rfl rfl rfl (fun hg => ⟨[], [.int .i64 (a0.Groups[n1]), .int .i64 0, .int .i64 3], _, rfl, gd hg, rfl, (zd6 (a0.Groups[n1]) 0 3 v1 (za2 hv1 hg))⟩) ?_
   refine .rnx 6 (And.intro e2 (And.intro hpn1 hwn1)) ?_
   refine .rnx 6 (And.intro e2 (And.intro hpn1 hwn1)) ?_
   refine .rnx 4 (And.intro e2 (And.intro hpn1 hwn1)) ?_
   refine .nil ⟨nofun, ?_⟩
   refine .plx Try.S hwn1 [1, 3, 17, 18, 19] ?_
   refine ⟨(n1 + 1, _), ?_, ⟨by omega, hx1⟩, by dsimp only; omega⟩
   exact .m [1, 3, 17, 18, 19] [0] []
  ·have h2 : n1 = a0.Groups.length := by have h2b := of_decide_eq_false hc1; omega
   rw [List.drop_of_length_le (by omega), zad] at hx1
   refine .exit ?_
   refine ⟨_, ?_, (Option.some.inj hx1).symm⟩
   exact .m [1, 3] [0] []
 ·rintro b1 hj1
  subst x1
  try dsimp only at h
  simp only [Try.St_command_CheckMessage_1]
  refine .seq ?_
  refine .seq ?_
  obtain ⟨v2, hv2, h⟩ := bind_some h
  obtain ⟨v3, hv3, h⟩ := bind_some h
  refine .rg Try.S [1, 3] ?_
  refine .rn 5 ?_
  refine .gcall (r := .bool v2) rfl rfl rfl rfl rfl (fun hg => ⟨[], [.int .i64 a0.Id], _, rfl, gd hg, rfl, (zh0 a0.Id v2 (za2 hv2 hg))⟩) ?_
  refine .rn 5 ?_
  refine .gcall (r := .bool v3) rfl rfl rfl rfl rfl (fun hg => ⟨[], [.int .i64 a0.Topic, .int .i64 0, .int .i64 3], _, rfl, gd hg, rfl, (zd6 a0.Topic 0 3 v3 (za2 hv3 hg))⟩) ?_
  refine .rn 6 ?_
  refine .rn 8 ?_
  refine .nil ⟨nofun, ?_⟩
  refine .cond rfl rfl (fun hc2 => ?_) (fun hc2 => ?_)
  ·replace h := za2 h hc2
   refine .seq ?_
   refine .pl Try.S [] ?_
   have hq := Option.some.inj h
   subst r
   exact .ret ⟨.inr rfl, rsi⟩
  ·replace h := zaa h hc2
   refine .skip ?_
   refine .seq ?_
   refine .pl Try.S [] ?_
   have hq := Option.some.inj h
   subst r
   exact .ret ⟨.inr rfl, rsi⟩
theorem zcz (a0 : TMessage) (a1 : TMessage) (r : Bool) (h : zbi a0 a1 = some r) : CallP Try.prog 38 [.agg [.int .i64 a0.Id, .imm 1 (a0.Groups.map (D.int .i64)) 4, .int .i64 a0.Topic, .str a0.Key, .str a0.Body], .agg [.int .i64 a1.Id, .imm 1 (a1.Groups.map (D.int .i64)) 4, .int .i64 a1.Topic, .str a1.Key, .str a1.Body]] (.bool r) := by
 refine za9 Try.tmOk 4 Try.func38 rfl (by decide) rfl rfl (Nat.le_of_ble_eq_true rfl) ?_
 intro hwf
 unfold zbi at h
 refine .seq ?_
 refine .pl Try.S [0, 1] ?_
 refine .seq ?_
 obtain ⟨v1, hv1, h⟩ := bind_some h
 refine .rg Try.S [2, 3] ?_
 refine .rn 6 ?_
 refine .rn 4 ?_
 refine .gcall (r := .bool v1) rfl rfl rfl rfl rfl (fun hg => ⟨[], [.imm 1 (a0.Groups.map (D.int .i64)) 4, .imm 1 (a1.Groups.map (D.int .i64)) 4], _, rfl, gd hg, rfl, (zeu a0.Groups a1.Groups v1 (za2 hv1 hg))⟩) ?_
 refine .rn 6 ?_
 refine .rn 6 ?_
 refine .rn 6 ?_
 refine .rn 5 ?_
 refine .nil ⟨nofun, ?_⟩
 have hq := Option.some.inj h
 subst r
 exact .ret ⟨.inr rfl, rsi⟩
theorem zlw (a0 : TCommand) (a1 : TCommand) (r : Bool) (h : zf3 a0 a1 = some r) : CallP Try.prog 62 [.agg [.int .u8 a0.Kind, .int .i64 a0.Message.Id, .imm 1 (a0.Message.Groups.map (D.int .i64)) 4, .int .i64 a0.Message.Topic, .str a0.Message.Key, .str a0.Message.Body, .int .i64 a0.Id, .int .i64 a0.Time, .imm 1 (a0.Members.map (D.int .i64)) 4, .int .i64 a0.Topic, .int .i64 a0.Who, .int .i64 a0.N], .agg [.int .u8 a1.Kind, .int .i64 a1.Message.Id, .imm 1 (a1.Message.Groups.map (D.int .i64)) 4, .int .i64 a1.Message.Topic, .str a1.Message.Key, .str a1.Message.Body, .int .i64 a1.Id, .int .i64 a1.Time, .imm 1 (a1.Members.map (D.int .i64)) 4, .int .i64 a1.Topic, .int .i64 a1.Who, .int .i64 a1.N]] (.bool r) := by
 refine za9 Try.tmOk 4 Try.func62 rfl (by decide) rfl rfl (Nat.le_of_ble_eq_true rfl) ?_
 intro hwf
 unfold zf3 at h
 refine .seq ?_
 refine .pl Try.S [0, 1] ?_
 refine .seq ?_
 obtain ⟨v1, hv1, h⟩ := bind_some h
 obtain ⟨v2, hv2, h⟩ := bind_some h
 refine .rg Try.S [2, 3] ?_
 refine .rn 6 ?_
 refine .rn 4 ?_
 refine .gcall (r := .bool v1) rfl rfl rfl rfl rfl (fun hg => ⟨[], [.agg [.int .i64 a0.Message.Id, .imm 1 (a0.Message.Groups.map (D.int .i64)) 4, .int .i64 a0.Message.Topic, .str a0.Message.Key, .str a0.Message.Body], .agg [.int .i64 a1.Message.Id, .imm 1 (a1.Message.Groups.map (D.int .i64)) 4, .int .i64 a1.Message.Topic, .str a1.Message.Key, .str a1.Message.Body]], _, rfl, gd hg, rfl, (zcz a0.Message a1.Message v1 (za2 hv1 hg))⟩) ?_
 refine .rn 6 ?_
 refine .rn 6 ?_
 refine .rn 8 ?_
 refine .gcall (r := .bool v2) rfl rfl rfl rfl rfl (fun hg => ⟨[], [.imm 1 (a0.Members.map (D.int .i64)) 4, .imm 1 (a1.Members.map (D.int .i64)) 4], _, rfl, gd hg, rfl, (zeu a0.Members a1.Members v2 (za2 hv2 hg))⟩) ?_
 refine .rn 6 ?_
 refine .rn 6 ?_
 refine .rn 6 ?_
 refine .rn 5 ?_
 refine .nil ⟨nofun, ?_⟩
 have hq := Option.some.inj h
 subst r
 exact .ret ⟨.inr rfl, rsi⟩
theorem zej (a0 : TWait) (r : TStamp) (h : zdy a0 = some r) : CallP Try.prog 72 [.agg [.int .i64 a0.Message.Id, .imm 1 (a0.Message.Groups.map (D.int .i64)) 4, .int .i64 a0.Message.Topic, .str a0.Message.Key, .str a0.Message.Body, .int .i64 a0.Time, .bool a0.Final]] (.agg [.int .i64 r.Time, .int .i64 r.Id]) := by
 refine za9 Try.tmOk 4 Try.func72 rfl (by decide) rfl rfl (Nat.le_of_ble_eq_true rfl) ?_
 intro hwf
 unfold zdy at h
 refine .seq ?_
 refine .pl Try.S [0] ?_
 refine .seq ?_
 refine .pl Try.S [1, 2] ?_
 have hq := Option.some.inj h
 subst r
 exact .ret ⟨.inr rfl, rsi⟩
theorem zht (a0 : Int) (r : Bool) (h : ze2 a0 = some r) : CallP Try.prog 69 [.int .i64 a0] (.bool r) := by
 refine za9 Try.tmOk 2 Try.func69 rfl (by decide) rfl rfl (Nat.le_of_ble_eq_true rfl) ?_
 intro hwf
 unfold ze2 at h
 refine .seq ?_
 refine .pl Try.S [0] ?_
 refine .seq ?_
 refine .pl Try.S [0] ?_
 have hq := Option.some.inj h
 subst r
 exact .ret ⟨.inr rfl, rsi⟩
theorem zgt (a0 : Int) (a1 : Int) (r : Int) (h : zde a0 a1 = some r) : CallP Try.prog 50 [.int .i64 a0, .int .i64 a1] (.int .i64 r) := by
 refine za9 Try.tmOk 2 Try.func50 rfl (by decide) rfl rfl (Nat.le_of_ble_eq_true rfl) ?_
 intro hwf
 unfold zde at h
 refine .seq ?_
 refine .pl Try.S [0, 1] ?_
 refine .seq ?_
 obtain ⟨v1, hv1, h⟩ := bind_some h
 refine .rg Try.S [0, 1] ?_
 refine .rn 1 ?_
 refine .call (r := .bool v1) rfl rfl rfl rfl rfl rfl (zht a0 v1 hv1) ?_
 refine .rn 1 ?_
 refine .nil ⟨nofun, ?_⟩
 refine .seq ?_
 obtain ⟨v2, hv2, h⟩ := bind_some h
 refine .rg Try.S [0, 1, 5] ?_
 refine .rn 1 ?_
 refine .call (r := .bool v2) rfl rfl rfl rfl rfl rfl (zht a1 v2 hv2) ?_
 refine .rn 1 ?_
 refine .nil ⟨nofun, ?_⟩
 refine .seq ?_
 refine .seq ?_
 refine .pl Try.S [0, 1, 5, 6] ?_
 refine .cond rfl rfl (fun hc1 => ?_) (fun hc1 => ?_)
 ·replace h := za2 h hc1
  refine .seq ?_
  refine .seq ?_
  refine .pl Try.S [6] ?_
  refine .cond rfl rfl (fun hc2 => ?_) (fun hc2 => ?_)
  ·replace h := za2 h hc2
   refine .seq ?_
   refine .pl Try.S [] ?_
   have hq := Option.some.inj h
   subst r
   exact .ret ⟨.inr rfl, rsi⟩
  ·replace h := zaa h hc2
   refine .skip ?_
   refine .seq ?_
   refine .pl Try.S [] ?_
   have hq := Option.some.inj h
   subst r
   exact .ret ⟨.inr rfl, rsi⟩
 ·replace h := zaa h hc1
  refine .skip ?_
  refine .seq ?_
  refine .seq ?_
  refine .pl Try.S [0, 1, 6] ?_
  refine .cond rfl rfl (fun hc3 => ?_) (fun hc3 => ?_)
  ·replace h := za2 h hc3
   refine .seq ?_
   refine .pl Try.S [] ?_
   have hq := Option.some.inj h
   subst r
   exact .ret ⟨.inr rfl, rsi⟩
  ·replace h := zaa h hc3
   refine .skip ?_
   refine .seq ?_
   refine .seq ?_
   refine .pl Try.S [0, 1] ?_
   refine .cond rfl rfl (fun hc4 => ?_) (fun hc4 => ?_)
   ·replace h := za2 h hc4
    refine .seq ?_
    refine .pl Try.S [] ?_
    have hq := Option.some.inj h
    subst r
    exact .ret ⟨.inr rfl, rsi⟩
   ·replace h := zaa h hc4
    refine .skip ?_
    refine .seq ?_
    refine .seq ?_
    refine .pl Try.S [0, 1] ?_
    refine .cond rfl rfl (fun hc5 => ?_) (fun hc5 => ?_)
    ·replace h := za2 h hc5
     refine .seq ?_
     refine .pl Try.S [] ?_
     have hq := Option.some.inj h
     subst r
     exact .ret ⟨.inr rfl, rsi⟩
    ·replace h := zaa h hc5
     refine .skip ?_
     refine .seq ?_
     refine .pl Try.S [] ?_
     have hq := Option.some.inj h
     subst r
     exact .ret ⟨.inr rfl, rsi⟩
def Try.St_cmp_Or_int_1 : St := ⟨[(3, .int .i64 0)], [], 0⟩
attribute [local go_sem] Try.St_cmp_Or_int_1
def Try.St_cmp_Or_int_3 (a0 : List Int) (n1 : Nat) : St := ⟨[(3, .int .i64 0), (6, .imm 1 (a0.map (D.int .i64)) 4), (7, .int .i64 (a0.length : Int)), (8, .int .i64 (n1 : Int))], [], 0⟩
attribute [local go_sem] Try.St_cmp_Or_int_3
theorem zna (a0 : List Int) (r : Int) (h : zgk a0 = some r) : CallP Try.prog 49 [.imm 1 (a0.map (D.int .i64)) 4] (.int .i64 r) := by
 refine za9 Try.tmOk 2 Try.func49 rfl (by decide) rfl rfl (Nat.le_of_ble_eq_true rfl) ?_
 intro hwf
 unfold zgk at h
 refine .seq ?_
 refine .pl Try.S [0] ?_
 refine .seq ?_
 refine .pl Try.S [0] ?_
 obtain ⟨x1, hx1, h⟩ := bind_some h
 refine .seqM 0 (fun (j : Unit) => Try.St_cmp_Or_int_1) (fun j => x1 = (.inr j)) (Nat.le_of_ble_eq_true rfl) ?_ ?_
 ·refine .seq ?_
  refine .pl Try.S [0, 3] ?_
  refine .block ?_
  refine .loopG 0 (fun (j : Nat) => Try.St_cmp_Or_int_3 a0 j) (fun j => j <= a0.length /\ zc6 (a0.drop j)  = some x1) (fun j => a0.length - j) (0) (Nat.le_of_ble_eq_true rfl) ?_ ⟨Nat.zero_le _, hx1⟩ ?_
  ·exact .m [3, 6, 7, 8] [] []
  rintro n1 ⟨hi1, hx1⟩
  simp only [Try.St_cmp_Or_int_3]
  refine .wf 7 (.int .i64 (a0.length : Int)) rfl ?_
  intro hln1
  replace hln1 : (a0.length : Int) <= 9223372036854775807 := by simp only [wf, wfL, IntKind.max, IntKind.min, IntKind.signed, IntKind.bits, List.length_map] at hln1; first | exact hln1.2 | exact hln1.1 | (simp at hln1; omega)
  refine .seq ?_
  refine .pl Try.S [3, 6, 7, 8] ?_
  refine .seq ?_
  refine .cond rfl rfl (fun hc1 => ?_) (fun hc1 => ?_)
  ·have h1 : n1 < a0.length := by simpa using hc1
   have hwn1 : wr .i64 ((n1 : Int) + 1) = ((n1 + 1 : Nat) : Int) := zd4 h1 hln1
   have hpn1 : wr .i64 ((n1 : Int) - 1) = (n1 : Int) - 1 := zd5 h1 hln1
   rw [List.drop_eq_getElem_cons h1, zc6] at hx1
   refine .skip ?_
   refine .seq ?_
   refine .block ?_
   refine .seq ?_
   have e1 := zcc (D.int .i64) a0 n1 h1
   refine .plx Try.S (And.intro e1 hwn1) [3, 6, 7, 8] ?_
   refine .seq ?_
   refine .plx Try.S hwn1 [3, 5, 6, 7, 8] ?_
   refine .cond rfl rfl (fun hc2 => ?_) (fun hc2 => ?_)
   ·replace hx1 := za2 hx1 hc2
    refine .seq ?_
    refine .plx Try.S hwn1 [5] ?_
    have hq := Option.some.inj hx1
    subst x1
    try dsimp only at h
    have hq := Option.some.inj h
    subst r
    exact .ret ⟨.inr rfl, rsi⟩
   ·replace hx1 := zaa hx1 hc2
    refine .skip ?_
    refine .plx Try.S hwn1 [3, 6, 7, 8] ?_
    refine ⟨n1 + 1, ?_, ⟨by omega, hx1⟩, by dsimp only; omega⟩
    exact .m [3, 6, 7, 8] [] []
  ·have h2 : n1 = a0.length := by have h2b := of_decide_eq_false hc1; omega
   rw [List.drop_of_length_le (by omega), zc6] at hx1
   refine .exit ?_
   refine ⟨_, ?_, (Option.some.inj hx1).symm⟩
   exact .m [3] [] []
 ·rintro ⟨⟩ hj1
  subst x1
  try dsimp only at h
  simp only [Try.St_cmp_Or_int_1]
  refine .seq ?_
  refine .pl Try.S [3] ?_
  have hq := Option.some.inj h
  subst r
  exact .ret ⟨.inr rfl, rsi⟩
def Try.St_slices_Equal_Stamp_Stamp_1 : St := ⟨[], [], 0⟩
attribute [local go_sem] Try.St_slices_Equal_Stamp_Stamp_1
def Try.St_slices_Equal_Stamp_Stamp_3 (a0 : List TStamp) (a1 : List TStamp) (n1 : Nat) : St := ⟨[(0, .imm 2 (a0.map TStamp.d) 4), (1, .imm 2 (a1.map TStamp.d) 4), (12, .int .i64 (a0.length : Int)), (13, .int .i64 (n1 : Int))], [], 0⟩
attribute [local go_sem] Try.St_slices_Equal_Stamp_Stamp_3
theorem zgr (a0 : List TStamp) (a1 : List TStamp) (r : Bool) (h : zbz a0 a1 = some r) : CallP Try.prog 30 [.imm 2 (a0.map TStamp.d) 4, .imm 2 (a1.map TStamp.d) 4] (.bool r) := by
 refine za9 Try.tmOk 2 Try.func30 rfl (by decide) rfl rfl (Nat.le_of_ble_eq_true rfl) ?_
 intro hwf
 unfold zbz at h
 refine .seq ?_
 refine .pl Try.S [0, 1] ?_
 refine .seq ?_
 refine .seq ?_
 refine .pl Try.S [0, 1] ?_
 refine .cond rfl rfl (fun hc1 => ?_) (fun hc1 => ?_)
 ·replace h := za2 h hc1
  refine .seq ?_
  refine .pl Try.S [] ?_
  have hq := Option.some.inj h
  subst r
  exact .ret ⟨.inr rfl, rsi⟩
 ·replace h := zaa h hc1
  refine .skip ?_
  obtain ⟨x1, hx1, h⟩ := bind_some h
  refine .seqM 0 (fun (j : Unit) => Try.St_slices_Equal_Stamp_Stamp_1) (fun j => x1 = (.inr j)) (Nat.le_of_ble_eq_true rfl) ?_ ?_
  ·refine .seq ?_
   refine .pl Try.S [0, 1] ?_
   refine .block ?_
   refine .loopG 0 (fun (j : Nat) => Try.St_slices_Equal_Stamp_Stamp_3 a0 a1 j) (fun j => j <= a0.length /\ zao a1 (a0.drop j) j  = some x1) (fun j => a0.length - j) (0) (Nat.le_of_ble_eq_true rfl) ?_ ⟨Nat.zero_le _, hx1⟩ ?_
   ·exact .m [0, 1, 12, 13] [] []
   rintro n1 ⟨hi1, hx1⟩
   simp only [Try.St_slices_Equal_Stamp_Stamp_3]
   refine .wf 12 (.int .i64 (a0.length : Int)) rfl ?_
   intro hln1
   replace hln1 : (a0.length : Int) <= 9223372036854775807 := by simp only [wf, wfL, IntKind.max, IntKind.min, IntKind.signed, IntKind.bits, List.length_map] at hln1; first | exact hln1.2 | exact hln1.1 | (simp at hln1; omega)
   refine .seq ?_
   refine .pl Try.S [0, 1, 12, 13] ?_
   refine .seq ?_
   refine .cond rfl rfl (fun hc2 => ?_) (fun hc2 => ?_)
   ·have h1 : n1 < a0.length := by simpa using hc2
    have hwn1 : wr .i64 ((n1 : Int) + 1) = ((n1 + 1 : Nat) : Int) := zd4 h1 hln1
    have hpn1 : wr .i64 ((n1 : Int) - 1) = (n1 : Int) - 1 := zd5 h1 hln1
    rw [List.drop_eq_getElem_cons h1, zao] at hx1
    refine .skip ?_
    refine .seq ?_
    refine .block ?_
    refine .seq ?_
    refine .plx Try.S hwn1 [0, 1, 12, 13] ?_
    refine .seq ?_
    obtain ⟨k1, hx1⟩ := zba hx1
    have e1 := zcc TStamp.d a0 n1 h1
    have e2 := zh8 TStamp.d a1 n1
    replace e2 := e2 k1
    refine .rg Try.S [0, 1, 5, 12, 13] ?_
    refine .rdx 6 (And.intro e1 (And.intro e2 hwn1)) ?_
    refine .rdx 3 (And.intro e1 (And.intro e2 hwn1)) ?_
    refine .nil ⟨fun _ => zbd (by kernel_rfl), ?_⟩
    refine .cond rfl rfl (fun hc3 => ?_) (fun hc3 => ?_)
    ·replace hx1 := za2 hx1 hc3
     refine .seq ?_
     refine .plx Try.S hwn1 [] ?_
     have hq := Option.some.inj hx1
     subst x1
     try dsimp only at h
     have hq := Option.some.inj h
     subst r
     exact .ret ⟨.inr rfl, rsi⟩
    ·replace hx1 := zaa hx1 hc3
     refine .skip ?_
     refine .plx Try.S hwn1 [0, 1, 12, 13] ?_
     refine ⟨n1 + 1, ?_, ⟨by omega, hx1⟩, by dsimp only; omega⟩
     exact .m [0, 1, 12, 13] [] []
   ·have h2 : n1 = a0.length := by have h2b := of_decide_eq_false hc2; omega
    rw [List.drop_of_length_le (by omega), zao] at hx1
    refine .exit ?_
    refine ⟨_, ?_, (Option.some.inj hx1).symm⟩
    exact .m [] [] []
  ·rintro ⟨⟩ hj1
   subst x1
   try dsimp only at h
   simp only [Try.St_slices_Equal_Stamp_Stamp_1]
   refine .seq ?_
   refine .pl Try.S [] ?_
   have hq := Option.some.inj h
   subst r
   exact .ret ⟨.inr rfl, rsi⟩
def Try.St_slices_EqualFunc_Wait_Wait_Wait_Wait_1 : St := ⟨[], [], 0⟩
attribute [local go_sem] Try.St_slices_EqualFunc_Wait_Wait_Wait_Wait_1
def Try.St_slices_EqualFunc_Wait_Wait_Wait_Wait_3 (a0 : List TWait) (a1 : List TWait) (Ka2 : Nat) (ca2 : List D) (n1 : Nat) : St := ⟨[(1, .imm 7 (a1.map TWait.d) 4), (2, .fn (.func Ka2) ca2), (15, .imm 7 (a0.map TWait.d) 4), (16, .int .i64 (a0.length : Int)), (17, .int .i64 (n1 : Int))], [], 0⟩
attribute [local go_sem] Try.St_slices_EqualFunc_Wait_Wait_Wait_Wait_3
theorem zeg (a0 : List TWait) (a1 : List TWait) (Ka2 : Nat) (ca2 : List D) (hca2 : ∀ hp, lends hp ca2 = (ca2, true)) (h2a2 : ∀ hp, zd1 hp ca2 = (ca2, true)) (h3a2 : ∀ hp, ids2s hp ca2 = []) (a2 : TWait -> TWait -> Option Bool) (ha2 : ∀ x0 x1 y, a2 x0 x1 = some y -> CallP Try.prog Ka2 (.agg [.int .i64 x0.Message.Id, .imm 1 (x0.Message.Groups.map (D.int .i64)) 4, .int .i64 x0.Message.Topic, .str x0.Message.Key, .str x0.Message.Body, .int .i64 x0.Time, .bool x0.Final] :: .agg [.int .i64 x1.Message.Id, .imm 1 (x1.Message.Groups.map (D.int .i64)) 4, .int .i64 x1.Message.Topic, .str x1.Message.Key, .str x1.Message.Body, .int .i64 x1.Time, .bool x1.Final] :: ca2) (.bool y)) (r : Bool) (h : zb2 a0 a1 a2 = some r) : CallP Try.prog 44 [.imm 7 (a0.map TWait.d) 4, .imm 7 (a1.map TWait.d) 4, .fn (.func Ka2) ca2] (.bool r) := by
 refine za9 Try.tmOk 4 Try.func44 rfl (by decide) rfl rfl (Nat.le_of_ble_eq_true rfl) ?_
 intro hwf
 unfold zb2 at h
 refine .seq ?_
 refine .pl Try.S [0, 1, 2] ?_
 refine .seq ?_
 refine .seq ?_
 refine .pl Try.S [0, 1, 2] ?_
 refine .cond rfl rfl (fun hc1 => ?_) (fun hc1 => ?_)
 ·replace h := za2 h hc1
  refine .seq ?_
  refine .pl Try.S [] ?_
  have hq := Option.some.inj h
  subst r
  exact .ret ⟨.inr rfl, rsi⟩
 ·replace h := zaa h hc1
  refine .skip ?_
  obtain ⟨x1, hx1, h⟩ := bind_some h
  refine .seqM 0 (fun (j : Unit) => Try.St_slices_EqualFunc_Wait_Wait_Wait_Wait_1) (fun j => x1 = (.inr j)) (Nat.le_of_ble_eq_true rfl) ?_ ?_
  ·refine .seq ?_
   refine .pl Try.S [0, 1, 2] ?_
   refine .block ?_
   refine .loopG 0 (fun (j : Nat) => Try.St_slices_EqualFunc_Wait_Wait_Wait_Wait_3 a0 a1 Ka2 ca2 j) (fun j => j <= a0.length /\ za8 a1 a2 (a0.drop j) j  = some x1) (fun j => a0.length - j) (0) (Nat.le_of_ble_eq_true rfl) ?_ ⟨Nat.zero_le _, hx1⟩ ?_
   ·refine Goes.mv [1, 2, 15, 16, 17] [] [] ?_ (Nat.le_of_ble_eq_true rfl) (Nat.le_of_ble_eq_true rfl) (by first | rfl | (simp only [idsV, idsH, pickL, getL, D.ids, Blk.ids, zcf, Nat.reduceBEq, cond_true, cond_false, List.append_nil, List.nil_append, List.cons_append, zb8 hca2] <;> rfl))
    first | rfl | (simp only [go_sem, Nat.reduceBEq, Nat.reduceAdd, za6 hca2]; done) | (simp only [go_sem, Nat.reduceBEq, Nat.reduceAdd, za6 hca2]; rfl)
   rintro n1 ⟨hi1, hx1⟩
   simp only [Try.St_slices_EqualFunc_Wait_Wait_Wait_Wait_3]
   refine .wf 16 (.int .i64 (a0.length : Int)) rfl ?_
   intro hln1
   replace hln1 : (a0.length : Int) <= 9223372036854775807 := by simp only [wf, wfL, IntKind.max, IntKind.min, IntKind.signed, IntKind.bits, List.length_map] at hln1; first | exact hln1.2 | exact hln1.1 | (simp at hln1; omega)
   refine .seq ?_
   refine .pl Try.S [1, 2, 15, 16, 17] ?_
   refine .seq ?_
   refine .cond rfl rfl (fun hc2 => ?_) (fun hc2 => ?_)
   ·have h1 : n1 < a0.length := by simpa using hc2
    have hwn1 : wr .i64 ((n1 : Int) + 1) = ((n1 + 1 : Nat) : Int) := zd4 h1 hln1
    have hpn1 : wr .i64 ((n1 : Int) - 1) = (n1 : Int) - 1 := zd5 h1 hln1
    rw [List.drop_eq_getElem_cons h1, za8] at hx1
    refine .skip ?_
    refine .seq ?_
    refine .block ?_
    refine .seq ?_
    have e1 := zcc TWait.d a0 n1 h1
    refine .plx Try.S (And.intro e1 hwn1) [1, 2, 15, 16, 17] ?_
    refine .seq ?_
    obtain ⟨k1, hx1⟩ := zba hx1
    have e2 := zh8 TWait.d a1 n1
    replace e2 := e2 k1
    refine .plx Try.S (And.intro e2 hwn1) [1, 2, 7, 8, 15, 16, 17] ?_
    refine .seq ?_
    obtain ⟨v1, hv1, hx1⟩ := bind_some hx1
    refine .rg Try.S [1, 2, 8, 9, 15, 16, 17] ?_
    refine .rnx 3 hwn1 ?_
    refine .call (r := .bool v1) rfl rfl rfl rfl rfl (za0 rfl (za0 rfl (hca2 _))) (ha2 _ _ v1 hv1) ?_
    refine .rnx 1 hwn1 ?_
    refine .nil ⟨nofun, ?_⟩
    refine .cond rfl rfl (fun hc3 => ?_) (fun hc3 => ?_)
    ·replace hx1 := za2 hx1 hc3
     refine .seq ?_
     refine .plx Try.S hwn1 [] ?_
     have hq := Option.some.inj hx1
     subst x1
     try dsimp only at h
     have hq := Option.some.inj h
     subst r
     exact .ret ⟨.inr rfl, rsi⟩
    ·replace hx1 := zaa hx1 hc3
     refine .skip ?_
     refine .plx Try.S hwn1 [1, 2, 15, 16, 17] ?_
     refine ⟨n1 + 1, ?_, ⟨by omega, hx1⟩, by dsimp only; omega⟩
     refine Goes.mv [1, 2, 15, 16, 17] [] [] ?_ (Nat.le_of_ble_eq_true rfl) (Nat.le_of_ble_eq_true rfl) (by first | rfl | (simp only [idsV, idsH, pickL, getL, D.ids, Blk.ids, zcf, Nat.reduceBEq, cond_true, cond_false, List.append_nil, List.nil_append, List.cons_append, zb8 hca2] <;> rfl))
     first | rfl | (simp only [go_sem, Nat.reduceBEq, Nat.reduceAdd, za6 hca2]; done) | (simp only [go_sem, Nat.reduceBEq, Nat.reduceAdd, za6 hca2]; rfl)
   ·have h2 : n1 = a0.length := by have h2b := of_decide_eq_false hc2; omega
    rw [List.drop_of_length_le (by omega), za8] at hx1
    refine .exit ?_
    refine ⟨_, ?_, (Option.some.inj hx1).symm⟩
    refine Goes.mv [] [] [] ?_ (Nat.le_of_ble_eq_true rfl) (Nat.le_of_ble_eq_true rfl) (by first | rfl | (simp only [idsV, idsH, pickL, getL, D.ids, Blk.ids, zcf, Nat.reduceBEq, cond_true, cond_false, List.append_nil, List.nil_append, List.cons_append, zb8 hca2] <;> rfl))
    first | rfl | (simp only [go_sem, Nat.reduceBEq, Nat.reduceAdd, za6 hca2]; done) | (simp only [go_sem, Nat.reduceBEq, Nat.reduceAdd, za6 hca2]; rfl)
  ·rintro ⟨⟩ hj1
   subst x1
   try dsimp only at h
   simp only [Try.St_slices_EqualFunc_Wait_Wait_Wait_Wait_1]
   refine .seq ?_
   refine .pl Try.S [] ?_
   have hq := Option.some.inj h
   subst r
   exact .ret ⟨.inr rfl, rsi⟩
def Try.St_slices_MinFunc_Wait_Wait_1 (n1 : Int) (l1 : List Int) (n2 : Int) (s1 : List UInt8) (s2 : List UInt8) (n3 : Int) (b1 : Bool) : St := ⟨[(4, .ptr 0 0), (5, .ptr 1 0)], [(0, .box [.int .i64 0, .imm 0 [] 0, .int .i64 0, .str [], .str [], .int .i64 0, .bool false]), (1, .box [.int .i64 n1, .imm 1 (l1.map (D.int .i64)) 4, .int .i64 n2, .str s1, .str s2, .int .i64 n3, .bool b1])], 2⟩
attribute [local go_sem] Try.St_slices_MinFunc_Wait_Wait_1
def Try.St_slices_MinFunc_Wait_Wait_3 (a0 : List TWait) (Ka1 : Nat) (ca1 : List D) (n4 : Int) (l2 : List Int) (n5 : Int) (s3 : List UInt8) (s4 : List UInt8) (n6 : Int) (b2 : Bool) (n7 : Int) : St := ⟨[(0, .imm 7 (a0.map TWait.d) 4), (1, .fn (.func Ka1) ca1), (4, .ptr 0 0), (5, .ptr 1 0), (6, .int .i64 n7)], [(0, .box [.int .i64 0, .imm 0 [] 0, .int .i64 0, .str [], .str [], .int .i64 0, .bool false]), (1, .box [.int .i64 n4, .imm 1 (l2.map (D.int .i64)) 4, .int .i64 n5, .str s3, .str s4, .int .i64 n6, .bool b2])], 2⟩
attribute [local go_sem] Try.St_slices_MinFunc_Wait_Wait_3
def Try.St_slices_MinFunc_Wait_Wait_5 (a0 : List TWait) (Ka1 : Nat) (ca1 : List D) (n7 : Int) (n8 : Int) (l3 : List Int) (n9 : Int) (s5 : List UInt8) (s6 : List UInt8) (n10 : Int) (b3 : Bool) : St := ⟨[(0, .imm 7 (a0.map TWait.d) 4), (1, .fn (.func Ka1) ca1), (4, .ptr 0 0), (5, .ptr 1 0), (6, .int .i64 n7)], [(0, .box [.int .i64 0, .imm 0 [] 0, .int .i64 0, .str [], .str [], .int .i64 0, .bool false]), (1, .box [.int .i64 n8, .imm 1 (l3.map (D.int .i64)) 4, .int .i64 n9, .str s5, .str s6, .int .i64 n10, .bool b3])], 2⟩
attribute [local go_sem] Try.St_slices_MinFunc_Wait_Wait_5
def Try.Re_slices_MinFunc_Wait_Wait (r : TWait) : St := ⟨[(4, .ptr 0 0)], [(0, .box [.int .i64 r.Message.Id, .imm 1 (r.Message.Groups.map (D.int .i64)) 4, .int .i64 r.Message.Topic, .str r.Message.Key, .str r.Message.Body, .int .i64 r.Time, .bool r.Final])], 1⟩
attribute [local go_sem] Try.Re_slices_MinFunc_Wait_Wait
theorem zgu (a0 : List TWait) (Ka1 : Nat) (ca1 : List D) (hca1 : ∀ hp, lends hp ca1 = (ca1, true)) (h2a1 : ∀ hp, zd1 hp ca1 = (ca1, true)) (h3a1 : ∀ hp, ids2s hp ca1 = []) (a1 : TWait -> TWait -> Option Int) (ha1 : ∀ x0 x1 y, a1 x0 x1 = some y -> CallP Try.prog Ka1 (.agg [.int .i64 x0.Message.Id, .imm 1 (x0.Message.Groups.map (D.int .i64)) 4, .int .i64 x0.Message.Topic, .str x0.Message.Key, .str x0.Message.Body, .int .i64 x0.Time, .bool x0.Final] :: .agg [.int .i64 x1.Message.Id, .imm 1 (x1.Message.Groups.map (D.int .i64)) 4, .int .i64 x1.Message.Topic, .str x1.Message.Key, .str x1.Message.Body, .int .i64 x1.Time, .bool x1.Final] :: ca1) (.int .i64 y)) (r : TWait) (h : zbc a0 a1 = some r) : CallH Try.prog 73 [.imm 7 (a0.map TWait.d) 4, .fn (.func Ka1) ca1] [] (.agg [.int .i64 r.Message.Id, .imm 1 (r.Message.Groups.map (D.int .i64)) 4, .int .i64 r.Message.Topic, .str r.Message.Key, .str r.Message.Body, .int .i64 r.Time, .bool r.Final]) [] (0, 4) := by
 refine za4 Try.tmOk Try.func73 rfl (by decide) (Nat.le_of_ble_eq_true rfl) (by simp) ?_
 intro hwf
 unfold zbc at h
 refine .ends 0 (Nat.le_refl _) ?_
 refine .seq ?_
 refine .pl Try.S [0, 1] ?_
 refine .seq ?_
 refine .seq ?_
 refine .pl Try.S [0, 1, 4] ?_
 refine .cond rfl rfl (fun hc1 => ?_) (fun hc1 => ?_)
 ·replace h := za2 h hc1
  cases h
 ·replace h := zaa h hc1
  refine .skip ?_
  refine .seq ?_
  obtain ⟨k1, h⟩ := zba h
  have e1 := zh8 TWait.d a0 0 k1
  refine .plx Try.S e1 [0, 1, 4] ?_
  obtain ⟨x1, hx1, h⟩ := bind_some h
  refine .seqM 2 (fun (j : Int × (List Int) × Int × (List UInt8) × (List UInt8) × Int × Bool) => Try.St_slices_MinFunc_Wait_Wait_1 j.1 j.2.1 j.2.2.1 j.2.2.2.1 j.2.2.2.2.1 j.2.2.2.2.2.1 j.2.2.2.2.2.2) (fun j => x1 = j) (Nat.le_of_ble_eq_true rfl) ?_ ?_
  ·refine .seq ?_
   refine .pl Try.S [0, 1, 4, 5] ?_
   refine .block ?_
   refine .loopG 2 (fun (j : Nat × Int × (List Int) × Int × (List UInt8) × (List UInt8) × Int × Bool × Int) => Try.St_slices_MinFunc_Wait_Wait_3 a0 Ka1 ca1 j.2.1 j.2.2.1 j.2.2.2.1 j.2.2.2.2.1 j.2.2.2.2.2.1 j.2.2.2.2.2.2.1 j.2.2.2.2.2.2.2.1 j.2.2.2.2.2.2.2.2) (fun j => zai a0 a1 j.1 j.2.1 j.2.2.1 j.2.2.2.1 j.2.2.2.2.1 j.2.2.2.2.2.1 j.2.2.2.2.2.2.1 j.2.2.2.2.2.2.2.1 j.2.2.2.2.2.2.2.2 = some x1) (fun j => j.1) (a0.length + 1, (a0.getD 0 default).Message.Id, (a0.getD 0 default).Message.Groups, (a0.getD 0 default).Message.Topic, (a0.getD 0 default).Message.Key, (a0.getD 0 default).Message.Body, (a0.getD 0 default).Time, (a0.getD 0 default).Final, 1) (Nat.le_of_ble_eq_true rfl) ?_ hx1 ?_
   ·refine Goes.mv [0, 1, 4, 5, 6] [0, 1] [] ?_ (Nat.le_of_ble_eq_true rfl) (Nat.le_of_ble_eq_true rfl) (by first | rfl | (simp only [idsV, idsH, pickL, getL, D.ids, Blk.ids, zcf, Nat.reduceBEq, cond_true, cond_false, List.append_nil, List.nil_append, List.cons_append, zb8 hca1] <;> rfl))
    first | rfl | (simp only [go_sem, Nat.reduceBEq, Nat.reduceAdd, za6 hca1]; done) | (simp only [go_sem, Nat.reduceBEq, Nat.reduceAdd, za6 hca1]; rfl)
   rintro ⟨fu1, n4, l2, n5, s3, s4, n6, b2, n7⟩ hx1
   simp only [Try.St_slices_MinFunc_Wait_Wait_3]
   try simp only at hx1
   obtain ⟨fu1, rfl⟩ : ∃ k, fu1 = k + 1 := by cases fu1 with | zero => (rw [zai] at hx1; cases hx1) | succ k => exact ⟨k, rfl⟩
   rw [zai] at hx1
   refine .seq ?_
   refine .seq ?_
   refine .pl Try.S [0, 1, 4, 5, 6] ?_
   refine .cond rfl rfl (fun hc2 => ?_) (fun hc2 => ?_)
   ·replace hx1 := za2 hx1 hc2
    refine .skip ?_
    obtain ⟨x2, hx2, hx1⟩ := bind_some hx1
    refine .seqM 2 (fun (j : Int × (List Int) × Int × (List UInt8) × (List UInt8) × Int × Bool) => Try.St_slices_MinFunc_Wait_Wait_5 a0 Ka1 ca1 n7 j.1 j.2.1 j.2.2.1 j.2.2.2.1 j.2.2.2.2.1 j.2.2.2.2.2.1 j.2.2.2.2.2.2) (fun j => x2 = j) (Nat.le_of_ble_eq_true rfl) ?_ ?_
    ·refine .block ?_
     refine .seq ?_
     obtain ⟨k2, hx2⟩ := zba hx2
     obtain ⟨v1, hv1, hx2⟩ := bind_some hx2
     have e2 := zcj TWait.d a0 n7
     replace e2 := e2 k2
     refine .rg Try.S [0, 1, 4, 5, 6] ?_
     refine .rdx 6 e2 ?_
     refine .call (r := .int .i64 v1) rfl rfl rfl rfl rfl (za0 rfl (za0 rfl (hca1 _))) (ha1 _ _ v1 hv1) ?_
     refine .rdx 1 e2 ?_
     refine .nil ⟨fun _ => zbd (by kernel_rfl), ?_⟩
     refine .cond rfl rfl (fun hc3 => ?_) (fun hc3 => ?_)
     ·replace hx2 := za2 hx2 hc3
      obtain ⟨k3, hx2⟩ := zba hx2
      have e3 := zcj TWait.d a0 n7
      replace e3 := e3 k3
      refine .plx Try.S e3 [0, 1, 4, 5, 6] ?_
      refine ⟨_, ?_, (Option.some.inj hx2).symm⟩
      refine Goes.mv [0, 1, 4, 5, 6] [0, 1] [] ?_ (Nat.le_of_ble_eq_true rfl) (Nat.le_of_ble_eq_true rfl) (by first | rfl | (simp only [idsV, idsH, pickL, getL, D.ids, Blk.ids, zcf, Nat.reduceBEq, cond_true, cond_false, List.append_nil, List.nil_append, List.cons_append, zb8 hca1] <;> rfl))
      first | rfl | (simp only [go_sem, Nat.reduceBEq, Nat.reduceAdd, za6 hca1]; done) | (simp only [go_sem, Nat.reduceBEq, Nat.reduceAdd, za6 hca1]; rfl)
     ·replace hx2 := zaa hx2 hc3
      refine .skip ?_
      refine ⟨_, ?_, (Option.some.inj hx2).symm⟩
      refine Goes.mv [0, 1, 4, 5, 6] [0, 1] [] ?_ (Nat.le_of_ble_eq_true rfl) (Nat.le_of_ble_eq_true rfl) (by first | rfl | (simp only [idsV, idsH, pickL, getL, D.ids, Blk.ids, zcf, Nat.reduceBEq, cond_true, cond_false, List.append_nil, List.nil_append, List.cons_append, zb8 hca1] <;> rfl))
      first | rfl | (simp only [go_sem, Nat.reduceBEq, Nat.reduceAdd, za6 hca1]; done) | (simp only [go_sem, Nat.reduceBEq, Nat.reduceAdd, za6 hca1]; rfl)
    ·rintro ⟨n8, l3, n9, s5, s6, n10, b3⟩ hj1
     subst x2
     try dsimp only at hx1
     simp only [Try.St_slices_MinFunc_Wait_Wait_5]
     refine .pl Try.S [0, 1, 4, 5, 6] ?_
     refine ⟨(fu1, _, _, _, _, _, _, _, _), ?_, hx1, by dsimp only; omega⟩
     refine Goes.mv [0, 1, 4, 5, 6] [0, 1] [] ?_ (Nat.le_of_ble_eq_true rfl) (Nat.le_of_ble_eq_true rfl) (by first | rfl | (simp only [idsV, idsH, pickL, getL, D.ids, Blk.ids, zcf, Nat.reduceBEq, cond_true, cond_false, List.append_nil, List.nil_append, List.cons_append, zb8 hca1] <;> rfl))
     first | rfl | (simp only [go_sem, Nat.reduceBEq, Nat.reduceAdd, za6 hca1]; done) | (simp only [go_sem, Nat.reduceBEq, Nat.reduceAdd, za6 hca1]; rfl)
   ·replace hx1 := zaa hx1 hc2
    refine .exit ?_
    refine ⟨_, ?_, (Option.some.inj hx1).symm⟩
    refine Goes.mv [4, 5] [0, 1] [] ?_ (Nat.le_of_ble_eq_true rfl) (Nat.le_of_ble_eq_true rfl) (by first | rfl | (simp only [idsV, idsH, pickL, getL, D.ids, Blk.ids, zcf, Nat.reduceBEq, cond_true, cond_false, List.append_nil, List.nil_append, List.cons_append, zb8 hca1] <;> rfl))
    first | rfl | (simp only [go_sem, Nat.reduceBEq, Nat.reduceAdd, za6 hca1]; done) | (simp only [go_sem, Nat.reduceBEq, Nat.reduceAdd, za6 hca1]; rfl)
  ·rintro ⟨n1, l1, n2, s1, s2, n3, b1⟩ hj2
   subst x1
   try dsimp only at h
   simp only [Try.St_slices_MinFunc_Wait_Wait_1]
   refine .seq ?_
   refine .pl Try.S [4, 5] ?_
   have hq := Option.some.inj h
   subst r
   refine .ret ⟨Try.Re_slices_MinFunc_Wait_Wait (⟨(⟨n1, l1, n2, s1, s2⟩ : TMessage), n3, b1⟩ : TWait), ?_, .inr rfl, retH [] ?_ ?_⟩
   ·refine Goes.mv [4] [0] [] ?_ (Nat.le_of_ble_eq_true rfl) (Nat.le_of_ble_eq_true rfl) (by first | rfl | (simp only [idsV, idsH, pickL, getL, D.ids, Blk.ids, zcf, Nat.reduceBEq, cond_true, cond_false, List.append_nil, List.nil_append, List.cons_append, zb8 hca1] <;> rfl))
    first | rfl | (simp only [go_sem, Nat.reduceBEq, Nat.reduceAdd, za6 hca1]; done) | (simp only [go_sem, Nat.reduceBEq, Nat.reduceAdd, za6 hca1]; rfl)
   ·exact rsi0
   ·rfl
theorem zgq (a0 : List TWait) (Ka1 : Nat) (ca1 : List D) (hca1 : ∀ hp, lends hp ca1 = (ca1, true)) (h2a1 : ∀ hp, zd1 hp ca1 = (ca1, true)) (h3a1 : ∀ hp, ids2s hp ca1 = []) (a1 : TWait -> TWait -> Option Int) (ha1 : ∀ x0 x1 y, a1 x0 x1 = some y -> CallP Try.prog Ka1 (.agg [.int .i64 x0.Message.Id, .imm 1 (x0.Message.Groups.map (D.int .i64)) 4, .int .i64 x0.Message.Topic, .str x0.Message.Key, .str x0.Message.Body, .int .i64 x0.Time, .bool x0.Final] :: .agg [.int .i64 x1.Message.Id, .imm 1 (x1.Message.Groups.map (D.int .i64)) 4, .int .i64 x1.Message.Topic, .str x1.Message.Key, .str x1.Message.Body, .int .i64 x1.Time, .bool x1.Final] :: ca1) (.int .i64 y)) (r : TWait) (h : zbc a0 a1 = some r) : CallP Try.prog 73 [.imm 7 (a0.map TWait.d) 4, .fn (.func Ka1) ca1] (.agg [.int .i64 r.Message.Id, .undef, .int .i64 r.Message.Topic, .str r.Message.Key, .str r.Message.Body, .int .i64 r.Time, .bool r.Final]) :=
 zkj rfl rfl (callH_res (.aggs (.cons (.refl _) (.cons (.un _) (.cons (.refl _) (.cons (.refl _) (.cons (.refl _) (.cons (.refl _) (.cons (.refl _) (.refl _))))))))) (zgu a0 Ka1 ca1 hca1 h2a1 h3a1 a1 ha1 r h))
def Try.St_slices_MinFunc_Wait_Wait_w_1 (a0 : List TWait) (n1 : Int) (l1 : List Int) (n2 : Int) (s1 : List UInt8) (s2 : List UInt8) (n3 : Int) (b1 : Bool) : St := ⟨[(0, .ref 20000 7 0 a0.length (some uC)), (4, .ptr 20100 0), (5, .ptr 20101 0)], [(20000, .arr 69 7 true (a0.map TWait.n)), (20100, .box [.int .i64 0, .imm 0 [] 0, .int .i64 0, .str [], .str [], .int .i64 0, .bool false]), (20101, .box [.int .i64 n1, .imm 1 (l1.map (D.int .i64)) 12, .int .i64 n2, .str s1, .str s2, .int .i64 n3, .bool b1])], 20102⟩
attribute [local go_sem] Try.St_slices_MinFunc_Wait_Wait_w_1
def Try.St_slices_MinFunc_Wait_Wait_w_3 (a0 : List TWait) (Ka1 : Nat) (ca1 : List D) (n4 : Int) (l2 : List Int) (n5 : Int) (s3 : List UInt8) (s4 : List UInt8) (n6 : Int) (b2 : Bool) (n7 : Int) : St := ⟨[(0, .ref 20000 7 0 a0.length (some uC)), (1, .fn (.func Ka1) ca1), (4, .ptr 20100 0), (5, .ptr 20101 0), (6, .int .i64 n7)], [(20000, .arr 69 7 true (a0.map TWait.n)), (20100, .box [.int .i64 0, .imm 0 [] 0, .int .i64 0, .str [], .str [], .int .i64 0, .bool false]), (20101, .box [.int .i64 n4, .imm 1 (l2.map (D.int .i64)) 12, .int .i64 n5, .str s3, .str s4, .int .i64 n6, .bool b2])], 20102⟩
attribute [local go_sem] Try.St_slices_MinFunc_Wait_Wait_w_3
def Try.St_slices_MinFunc_Wait_Wait_w_5 (a0 : List TWait) (Ka1 : Nat) (ca1 : List D) (n7 : Int) (n8 : Int) (l3 : List Int) (n9 : Int) (s5 : List UInt8) (s6 : List UInt8) (n10 : Int) (b3 : Bool) : St := ⟨[(0, .ref 20000 7 0 a0.length (some uC)), (1, .fn (.func Ka1) ca1), (4, .ptr 20100 0), (5, .ptr 20101 0), (6, .int .i64 n7)], [(20000, .arr 69 7 true (a0.map TWait.n)), (20100, .box [.int .i64 0, .imm 0 [] 0, .int .i64 0, .str [], .str [], .int .i64 0, .bool false]), (20101, .box [.int .i64 n8, .imm 1 (l3.map (D.int .i64)) 12, .int .i64 n9, .str s5, .str s6, .int .i64 n10, .bool b3])], 20102⟩
attribute [local go_sem] Try.St_slices_MinFunc_Wait_Wait_w_5
def Try.Re_slices_MinFunc_Wait_Wait_w (a0 : List TWait) (r : TWait) : St := ⟨[(4, .ptr 20100 0)], [(20000, .arr 69 7 true (a0.map TWait.n)), (20100, .box [.int .i64 r.Message.Id, .imm 1 (r.Message.Groups.map (D.int .i64)) 12, .int .i64 r.Message.Topic, .str r.Message.Key, .str r.Message.Body, .int .i64 r.Time, .bool r.Final])], 20101⟩
attribute [local go_sem] Try.Re_slices_MinFunc_Wait_Wait_w
theorem zfx (a0 : List TWait) (Ka1 : Nat) (ca1 : List D) (hca1 : ∀ hp, lends hp ca1 = (ca1, true)) (h2a1 : ∀ hp, zd1 hp ca1 = (ca1, true)) (h3a1 : ∀ hp, ids2s hp ca1 = []) (a1 : TWait -> TWait -> Option Int) (ha1 : ∀ x0 x1 y, a1 x0 x1 = some y -> CallP Try.prog Ka1 (.agg [.int .i64 x0.Message.Id, .imm 1 (x0.Message.Groups.map (D.int .i64)) 4, .int .i64 x0.Message.Topic, .str x0.Message.Key, .str x0.Message.Body, .int .i64 x0.Time, .bool x0.Final] :: .agg [.int .i64 x1.Message.Id, .imm 1 (x1.Message.Groups.map (D.int .i64)) 4, .int .i64 x1.Message.Topic, .str x1.Message.Key, .str x1.Message.Body, .int .i64 x1.Time, .bool x1.Final] :: ca1) (.int .i64 y)) (r : TWait) (h : zbp a0 a1 = some r) : CallH Try.prog 73 [.ref 20000 7 0 a0.length (some uC), .fn (.func Ka1) ca1] [(20000, .arr 69 7 true (a0.map TWait.n))] (.agg [.int .i64 r.Message.Id, .imm 1 (r.Message.Groups.map (D.int .i64)) 12, .int .i64 r.Message.Topic, .str r.Message.Key, .str r.Message.Body, .int .i64 r.Time, .bool r.Final]) [] (20100, 20104) := by
 refine za4 Try.tmOk Try.func73 rfl (by decide) (Nat.le_of_ble_eq_true rfl) (by simp) ?_
 intro hwf
 unfold zbp at h
 refine .ends 20100 (Nat.le_refl _) ?_
 refine .seq ?_
 refine .pl Try.S [0, 1] ?_
 refine .seq ?_
 refine .seq ?_
 refine .pl Try.S [0, 1, 4] ?_
 refine .cond rfl rfl (fun hc1 => ?_) (fun hc1 => ?_)
 ·replace h := za2 h hc1
  cases h
 ·replace h := zaa h hc1
  refine .skip ?_
  refine .seq ?_
  obtain ⟨k1, h⟩ := zba h
  have e1 := zh8 TWait.n a0 0 k1
  refine .plx Try.S e1 [0, 1, 4] ?_
  obtain ⟨x1, hx1, h⟩ := bind_some h
  refine .seqM 20102 (fun (j : Int × (List Int) × Int × (List UInt8) × (List UInt8) × Int × Bool) => Try.St_slices_MinFunc_Wait_Wait_w_1 a0 j.1 j.2.1 j.2.2.1 j.2.2.2.1 j.2.2.2.2.1 j.2.2.2.2.2.1 j.2.2.2.2.2.2) (fun j => x1 = j) (Nat.le_of_ble_eq_true rfl) ?_ ?_
  ·refine .seq ?_
   refine .pl Try.S [0, 1, 4, 5] ?_
   refine .block ?_
   refine .loopG 20102 (fun (j : Nat × Int × (List Int) × Int × (List UInt8) × (List UInt8) × Int × Bool × Int) => Try.St_slices_MinFunc_Wait_Wait_w_3 a0 Ka1 ca1 j.2.1 j.2.2.1 j.2.2.2.1 j.2.2.2.2.1 j.2.2.2.2.2.1 j.2.2.2.2.2.2.1 j.2.2.2.2.2.2.2.1 j.2.2.2.2.2.2.2.2) (fun j => zap a0 a1 j.1 j.2.1 j.2.2.1 j.2.2.2.1 j.2.2.2.2.1 j.2.2.2.2.2.1 j.2.2.2.2.2.2.1 j.2.2.2.2.2.2.2.1 j.2.2.2.2.2.2.2.2 = some x1) (fun j => j.1) (a0.length + 1, (a0.getD 0 default).Message.Id, (a0.getD 0 default).Message.Groups, (a0.getD 0 default).Message.Topic, (a0.getD 0 default).Message.Key, (a0.getD 0 default).Message.Body, (a0.getD 0 default).Time, (a0.getD 0 default).Final, 1) (Nat.le_of_ble_eq_true rfl) ?_ hx1 ?_
   ·refine Goes.mv [0, 1, 4, 5, 6] [20000, 20100, 20101] [] ?_ (Nat.le_of_ble_eq_true rfl) (Nat.le_of_ble_eq_true rfl) (by first | rfl | (simp only [idsV, idsH, pickL, getL, D.ids, Blk.ids, zcf, Nat.reduceBEq, cond_true, cond_false, List.append_nil, List.nil_append, List.cons_append, zb8 hca1] <;> rfl))
    first | rfl | (simp only [go_sem, Nat.reduceBEq, Nat.reduceAdd, za6 hca1]; done) | (simp only [go_sem, Nat.reduceBEq, Nat.reduceAdd, za6 hca1]; rfl)
   rintro ⟨fu1, n4, l2, n5, s3, s4, n6, b2, n7⟩ hx1
   simp only [Try.St_slices_MinFunc_Wait_Wait_w_3]
   try simp only at hx1
   obtain ⟨fu1, rfl⟩ : ∃ k, fu1 = k + 1 := by cases fu1 with | zero => (rw [zap] at hx1; cases hx1) | succ k => exact ⟨k, rfl⟩
   rw [zap] at hx1
   refine .seq ?_
   refine .seq ?_
   refine .pl Try.S [0, 1, 4, 5, 6] ?_
   refine .cond rfl rfl (fun hc2 => ?_) (fun hc2 => ?_)
   ·replace hx1 := za2 hx1 hc2
    refine .skip ?_
    obtain ⟨x2, hx2, hx1⟩ := bind_some hx1
    refine .seqM 20102 (fun (j : Int × (List Int) × Int × (List UInt8) × (List UInt8) × Int × Bool) => Try.St_slices_MinFunc_Wait_Wait_w_5 a0 Ka1 ca1 n7 j.1 j.2.1 j.2.2.1 j.2.2.2.1 j.2.2.2.2.1 j.2.2.2.2.2.1 j.2.2.2.2.2.2) (fun j => x2 = j) (Nat.le_of_ble_eq_true rfl) ?_ ?_
    ·refine .block ?_
     refine .seq ?_
     obtain ⟨k2, hx2⟩ := zba hx2
     obtain ⟨v1, hv1, hx2⟩ := bind_some hx2
     have e2 := zcj TWait.n a0 n7
     replace e2 := e2 k2
     refine .rg Try.S [0, 1, 4, 5, 6] ?_
     refine .rdx 6 e2 ?_
     refine .call (r := .int .i64 v1) rfl rfl rfl rfl rfl (za0 rfl (za0 rfl (hca1 _))) (ha1 _ _ v1 hv1) ?_
     refine .rdx 1 e2 ?_
     refine .nil ⟨fun _ => zbd (by kernel_rfl), ?_⟩
     refine .cond rfl rfl (fun hc3 => ?_) (fun hc3 => ?_)
     ·replace hx2 := za2 hx2 hc3
      obtain ⟨k3, hx2⟩ := zba hx2
      have e3 := zcj TWait.n a0 n7
      replace e3 := e3 k3
      refine .plx Try.S e3 [0, 1, 4, 5, 6] ?_
      refine ⟨_, ?_, (Option.some.inj hx2).symm⟩
      refine Goes.mv [0, 1, 4, 5, 6] [20000, 20100, 20101] [] ?_ (Nat.le_of_ble_eq_true rfl) (Nat.le_of_ble_eq_true rfl) (by first | rfl | (simp only [idsV, idsH, pickL, getL, D.ids, Blk.ids, zcf, Nat.reduceBEq, cond_true, cond_false, List.append_nil, List.nil_append, List.cons_append, zb8 hca1] <;> rfl))
      first | rfl | (simp only [go_sem, Nat.reduceBEq, Nat.reduceAdd, za6 hca1]; done) | (simp only [go_sem, Nat.reduceBEq, Nat.reduceAdd, za6 hca1]; rfl)
     ·replace hx2 := zaa hx2 hc3
      refine .skip ?_
      refine ⟨_, ?_, (Option.some.inj hx2).symm⟩
      refine Goes.mv [0, 1, 4, 5, 6] [20000, 20100, 20101] [] ?_ (Nat.le_of_ble_eq_true rfl) (Nat.le_of_ble_eq_true rfl) (by first | rfl | (simp only [idsV, idsH, pickL, getL, D.ids, Blk.ids, zcf, Nat.reduceBEq, cond_true, cond_false, List.append_nil, List.nil_append, List.cons_append, zb8 hca1] <;> rfl))
      first | rfl | (simp only [go_sem, Nat.reduceBEq, Nat.reduceAdd, za6 hca1]; done) | (simp only [go_sem, Nat.reduceBEq, Nat.reduceAdd, za6 hca1]; rfl)
    ·rintro ⟨n8, l3, n9, s5, s6, n10, b3⟩ hj1
     subst x2
     try dsimp only at hx1
     simp only [Try.St_slices_MinFunc_Wait_Wait_w_5]
     refine .pl Try.S [0, 1, 4, 5, 6] ?_
     refine ⟨(fu1, _, _, _, _, _, _, _, _), ?_, hx1, by dsimp only; omega⟩
     refine Goes.mv [0, 1, 4, 5, 6] [20000, 20100, 20101] [] ?_ (Nat.le_of_ble_eq_true rfl) (Nat.le_of_ble_eq_true rfl) (by first | rfl | (simp only [idsV, idsH, pickL, getL, D.ids, Blk.ids, zcf, Nat.reduceBEq, cond_true, cond_false, List.append_nil, List.nil_append, List.cons_append, zb8 hca1] <;> rfl))
     first | rfl | (simp only [go_sem, Nat.reduceBEq, Nat.reduceAdd, za6 hca1]; done) | (simp only [go_sem, Nat.reduceBEq, Nat.reduceAdd, za6 hca1]; rfl)
   ·replace hx1 := zaa hx1 hc2
    refine .exit ?_
    refine ⟨_, ?_, (Option.some.inj hx1).symm⟩
    refine Goes.mv [0, 4, 5] [20000, 20100, 20101] [] ?_ (Nat.le_of_ble_eq_true rfl) (Nat.le_of_ble_eq_true rfl) (by first | rfl | (simp only [idsV, idsH, pickL, getL, D.ids, Blk.ids, zcf, Nat.reduceBEq, cond_true, cond_false, List.append_nil, List.nil_append, List.cons_append, zb8 hca1] <;> rfl))
    first | rfl | (simp only [go_sem, Nat.reduceBEq, Nat.reduceAdd, za6 hca1]; done) | (simp only [go_sem, Nat.reduceBEq, Nat.reduceAdd, za6 hca1]; rfl)
  ·rintro ⟨n1, l1, n2, s1, s2, n3, b1⟩ hj2
   subst x1
   try dsimp only at h
   simp only [Try.St_slices_MinFunc_Wait_Wait_w_1]
   refine .seq ?_
   refine .pl Try.S [0, 4, 5] ?_
   have hq := Option.some.inj h
   subst r
   refine .ret ⟨Try.Re_slices_MinFunc_Wait_Wait_w a0 (⟨(⟨n1, l1, n2, s1, s2⟩ : TMessage), n3, b1⟩ : TWait), ?_, .inr rfl, retH [20000] ?_ ?_⟩
   ·refine Goes.mv [4] [20000, 20100] [] ?_ (Nat.le_of_ble_eq_true rfl) (Nat.le_of_ble_eq_true rfl) (by first | rfl | (simp only [idsV, idsH, pickL, getL, D.ids, Blk.ids, zcf, Nat.reduceBEq, cond_true, cond_false, List.append_nil, List.nil_append, List.cons_append, zb8 hca1] <;> rfl))
    first | rfl | (simp only [go_sem, Nat.reduceBEq, Nat.reduceAdd, za6 hca1]; done) | (simp only [go_sem, Nat.reduceBEq, Nat.reduceAdd, za6 hca1]; rfl)
   ·exact rsi0
   ·rfl
theorem zim (a0 : TWait) (a1 : Int) (r : Int) (h : zc0 a0 a1 = some r) : CallP Try.prog 87 [.agg [.int .i64 a0.Message.Id, .imm 1 (a0.Message.Groups.map (D.int .i64)) 4, .int .i64 a0.Message.Topic, .str a0.Message.Key, .str a0.Message.Body, .int .i64 a0.Time, .bool a0.Final], .int .i64 a1] (.int .i64 r) := by
 refine za9 Try.tmOk 3 Try.func87 rfl (by decide) rfl rfl (Nat.le_of_ble_eq_true rfl) ?_
 intro hwf
 unfold zc0 at h
 refine .seq ?_
 refine .pl Try.S [0, 1] ?_
 refine .seq ?_
 refine .pl Try.S [1, 2] ?_
 have hq := Option.some.inj h
 subst r
 exact .ret ⟨.inr rfl, rsi⟩
def Try.St_slices_BinarySearchFunc_Wait_Wait_int_1 (a0 : List TWait) (a1 : Int) (Ka2 : Nat) (ca2 : List D) (n1 : Int) : St := ⟨[(0, .imm 7 (a0.map TWait.d) 4), (1, .int .i64 a1), (2, .fn (.func Ka2) ca2), (8, .int .i64 (a0.length : Int)), (9, .int .i64 n1)], [], 0⟩
attribute [local go_sem] Try.St_slices_BinarySearchFunc_Wait_Wait_int_1
def Try.St_slices_BinarySearchFunc_Wait_Wait_int_3 (a0 : List TWait) (a1 : Int) (Ka2 : Nat) (ca2 : List D) (n2 : Int) (n3 : Int) : St := ⟨[(0, .imm 7 (a0.map TWait.d) 4), (1, .int .i64 a1), (2, .fn (.func Ka2) ca2), (8, .int .i64 (a0.length : Int)), (9, .int .i64 n2), (10, .int .i64 n3)], [], 0⟩
attribute [local go_sem] Try.St_slices_BinarySearchFunc_Wait_Wait_int_3
theorem zec (a0 : List TWait) (a1 : Int) (Ka2 : Nat) (ca2 : List D) (hca2 : ∀ hp, lends hp ca2 = (ca2, true)) (h2a2 : ∀ hp, zd1 hp ca2 = (ca2, true)) (h3a2 : ∀ hp, ids2s hp ca2 = []) (a2 : TWait -> Int -> Option Int) (ha2 : ∀ x0 x1 y, a2 x0 x1 = some y -> CallP Try.prog Ka2 (.agg [.int .i64 x0.Message.Id, .imm 1 (x0.Message.Groups.map (D.int .i64)) 4, .int .i64 x0.Message.Topic, .str x0.Message.Key, .str x0.Message.Body, .int .i64 x0.Time, .bool x0.Final] :: .int .i64 x1 :: ca2) (.int .i64 y)) (r : Int × Bool) (h : zbe a0 a1 a2 = some r) : CallP Try.prog 86 [.imm 7 (a0.map TWait.d) 4, .int .i64 a1, .fn (.func Ka2) ca2] (.tuple [.int .i64 r.1, .bool r.2]) := by
 refine za9 Try.tmOk 2 Try.func86 rfl (by decide) rfl rfl (Nat.le_of_ble_eq_true rfl) ?_
 intro hwf
 unfold zbe at h
 refine .seq ?_
 refine .pl Try.S [0, 1, 2] ?_
 refine .seq ?_
 refine .pl Try.S [0, 1, 2] ?_
 refine .seq ?_
 refine .pl Try.S [0, 1, 2, 8] ?_
 obtain ⟨x1, hx1, h⟩ := bind_some h
 refine .seqM 0 (fun (j : Int) => Try.St_slices_BinarySearchFunc_Wait_Wait_int_1 a0 a1 Ka2 ca2 j) (fun j => x1 = j) (Nat.le_of_ble_eq_true rfl) ?_ ?_
 ·refine .block ?_
  refine .loopG 0 (fun (j : Nat × Int × Int) => Try.St_slices_BinarySearchFunc_Wait_Wait_int_3 a0 a1 Ka2 ca2 j.2.1 j.2.2) (fun j => za7 a0 a1 a2 j.1 j.2.1 j.2.2 = some x1) (fun j => j.1) (a0.length + 1, 0, (a0.length : Int)) (Nat.le_of_ble_eq_true rfl) ?_ hx1 ?_
  ·refine Goes.mv [0, 1, 2, 8, 9, 10] [] [] ?_ (Nat.le_of_ble_eq_true rfl) (Nat.le_of_ble_eq_true rfl) (by first | rfl | (simp only [idsV, idsH, pickL, getL, D.ids, Blk.ids, zcf, Nat.reduceBEq, cond_true, cond_false, List.append_nil, List.nil_append, List.cons_append, zb8 hca2] <;> rfl))
   first | rfl | (simp only [go_sem, Nat.reduceBEq, Nat.reduceAdd, za6 hca2]; done) | (simp only [go_sem, Nat.reduceBEq, Nat.reduceAdd, za6 hca2]; rfl)
  rintro ⟨fu1, n2, n3⟩ hx1
  simp only [Try.St_slices_BinarySearchFunc_Wait_Wait_int_3]
  try simp only at hx1
  obtain ⟨fu1, rfl⟩ : ∃ k, fu1 = k + 1 := by cases fu1 with | zero => (rw [za7] at hx1; cases hx1) | succ k => exact ⟨k, rfl⟩
  rw [za7] at hx1
  refine .seq ?_
  refine .seq ?_
  refine .pl Try.S [0, 1, 2, 8, 9, 10] ?_
  refine .cond rfl rfl (fun hc1 => ?_) (fun hc1 => ?_)
  ·replace hx1 := za2 hx1 hc1
   refine .skip ?_
   refine .block ?_
   refine .seq ?_
   refine .pl Try.S [0, 1, 2, 8, 9, 10] ?_
   refine .seq ?_
   obtain ⟨k1, hx1⟩ := zba hx1
   obtain ⟨v1, hv1, hx1⟩ := bind_some hx1
   have e1 := zcj TWait.d a0 (wr .i64 (shw false .u64 (wr .u64 (wr .i64 (n2 + n3))) 1))
   replace e1 := e1 k1
   refine .rg Try.S [0, 1, 2, 8, 9, 10, 11] ?_
   refine .rnx 6 e1 ?_
   refine .call (r := .int .i64 v1) rfl rfl rfl rfl rfl (za0 rfl (za0 rfl (hca2 _))) (ha2 _ _ v1 hv1) ?_
   refine .rnx 1 e1 ?_
   refine .nil ⟨nofun, ?_⟩
   refine .cond rfl rfl (fun hc2 => ?_) (fun hc2 => ?_)
   ·replace hx1 := za2 hx1 hc2
    refine .pl Try.S [0, 1, 2, 8, 10, 11] ?_
    refine ⟨(fu1, _, _), ?_, hx1, by dsimp only; omega⟩
    refine Goes.mv [0, 1, 2, 8, 9, 10] [] [] ?_ (Nat.le_of_ble_eq_true rfl) (Nat.le_of_ble_eq_true rfl) (by first | rfl | (simp only [idsV, idsH, pickL, getL, D.ids, Blk.ids, zcf, Nat.reduceBEq, cond_true, cond_false, List.append_nil, List.nil_append, List.cons_append, zb8 hca2] <;> rfl))
    first | rfl | (simp only [go_sem, Nat.reduceBEq, Nat.reduceAdd, za6 hca2]; done) | (simp only [go_sem, Nat.reduceBEq, Nat.reduceAdd, za6 hca2]; rfl)
   ·replace hx1 := zaa hx1 hc2
    refine .pl Try.S [0, 1, 2, 8, 9, 11] ?_
    refine ⟨(fu1, _, _), ?_, hx1, by dsimp only; omega⟩
    refine Goes.mv [0, 1, 2, 8, 9, 10] [] [] ?_ (Nat.le_of_ble_eq_true rfl) (Nat.le_of_ble_eq_true rfl) (by first | rfl | (simp only [idsV, idsH, pickL, getL, D.ids, Blk.ids, zcf, Nat.reduceBEq, cond_true, cond_false, List.append_nil, List.nil_append, List.cons_append, zb8 hca2] <;> rfl))
    first | rfl | (simp only [go_sem, Nat.reduceBEq, Nat.reduceAdd, za6 hca2]; done) | (simp only [go_sem, Nat.reduceBEq, Nat.reduceAdd, za6 hca2]; rfl)
  ·replace hx1 := zaa hx1 hc1
   refine .exit ?_
   refine ⟨_, ?_, (Option.some.inj hx1).symm⟩
   refine Goes.mv [0, 1, 2, 8, 9] [] [] ?_ (Nat.le_of_ble_eq_true rfl) (Nat.le_of_ble_eq_true rfl) (by first | rfl | (simp only [idsV, idsH, pickL, getL, D.ids, Blk.ids, zcf, Nat.reduceBEq, cond_true, cond_false, List.append_nil, List.nil_append, List.cons_append, zb8 hca2] <;> rfl))
   first | rfl | (simp only [go_sem, Nat.reduceBEq, Nat.reduceAdd, za6 hca2]; done) | (simp only [go_sem, Nat.reduceBEq, Nat.reduceAdd, za6 hca2]; rfl)
 ·rintro n1 hj1
  subst x1
  try dsimp only at h
  simp only [Try.St_slices_BinarySearchFunc_Wait_Wait_int_1]
  obtain ⟨k2, h⟩ := zba h
  obtain ⟨v2, hv2, h⟩ := bind_some h
  refine .seqM 0 (fun (_ : Unit) => ⟨[(6, .int .i64 n1), (7, .bool ((decide (n1 < (a0.length : Int))) && (v2 == 0)))], [], 0⟩) (fun _ => True) (Nat.le_of_ble_eq_true rfl) ?_ (fun _ _ => ?_)
  ·by_cases hgd : n1 < (a0.length : Int)
   ·have eg10 := zcj TWait.d a0 n1 (k2 hgd)
    refine .rg Try.S [0, 1, 2, 8, 9] ?_
    refine .rnx 6 eg10 ?_
    refine .rnx 5 eg10 ?_
    refine .gcall (r := .int .i64 v2) rfl rfl rfl rfl rfl (fun hg => ⟨ca2, [.agg [.int .i64 ((a0.getD n1.toNat default).Message.Id), .imm 1 (((a0.getD n1.toNat default).Message.Groups).map (D.int .i64)) 4, .int .i64 ((a0.getD n1.toNat default).Message.Topic), .str ((a0.getD n1.toNat default).Message.Key), .str ((a0.getD n1.toNat default).Message.Body), .int .i64 ((a0.getD n1.toNat default).Time), .bool ((a0.getD n1.toNat default).Final)], .int .i64 a1], _, gd hg, gd hg, (za0 rfl (za0 rfl (hca2 _))), ha2 _ _ v2 (za2 hv2 hg)⟩) ?_
    refine .rnx 4 eg10 ?_
    refine .nil ⟨nofun, ?_⟩
    refine ⟨(), ?_, trivial⟩
    refine Goes.mv [6, 7] [] [] ?_ (Nat.le_of_ble_eq_true rfl) (Nat.le_of_ble_eq_true rfl) (by first | rfl | (simp only [idsV, idsH, pickL, getL, D.ids, Blk.ids, zcf, Nat.reduceBEq, cond_true, cond_false, List.append_nil, List.nil_append, List.cons_append, zb8 hca2] <;> rfl))
    first | rfl | (simp only [go_sem, Nat.reduceBEq, Nat.reduceAdd, za6 hca2]; done) | (simp only [go_sem, Nat.reduceBEq, Nat.reduceAdd, za6 hca2]; rfl)
   ·have hgf1 : (decide (n1 < (a0.length : Int))) = false := by first | simpa using hgd | (simp at hgd ⊢; omega) | grind
    rcases nth_or TWait.d a0 n1.toNat with eg10 | eg10
    ·refine .rg Try.S [0, 1, 2, 8, 9] ?_
     refine .rnx 6 (And.intro eg10 hgf1) ?_
     refine .rnx 5 (And.intro eg10 hgf1) ?_
     refine .gcall (r := .int .i64 v2) rfl rfl rfl rfl rfl (fun hg => ⟨ca2, [.agg [.int .i64 ((a0.getD n1.toNat default).Message.Id), .imm 1 (((a0.getD n1.toNat default).Message.Groups).map (D.int .i64)) 4, .int .i64 ((a0.getD n1.toNat default).Message.Topic), .str ((a0.getD n1.toNat default).Message.Key), .str ((a0.getD n1.toNat default).Message.Body), .int .i64 ((a0.getD n1.toNat default).Time), .bool ((a0.getD n1.toNat default).Final)], .int .i64 a1], _, gd hg, gd hg, (za0 rfl (za0 rfl (hca2 _))), ha2 _ _ v2 (za2 hv2 hg)⟩) ?_
     refine .rnx 4 (And.intro eg10 hgf1) ?_
     refine .nil ⟨nofun, ?_⟩
     refine ⟨(), ?_, trivial⟩
     refine Goes.mv [6, 7] [] [] ?_ (Nat.le_of_ble_eq_true rfl) (Nat.le_of_ble_eq_true rfl) (by first | rfl | (simp only [idsV, idsH, pickL, getL, D.ids, Blk.ids, zcf, Nat.reduceBEq, cond_true, cond_false, List.append_nil, List.nil_append, List.cons_append, zb8 hca2] <;> rfl))
     first | rfl | (simp only [hgf1, go_sem, Nat.reduceBEq, Nat.reduceAdd, za6 hca2, Bool.false_and, Bool.true_or, Bool.and_false]; done) | (simp only [hgf1, go_sem, Nat.reduceBEq, Nat.reduceAdd, za6 hca2, Bool.false_and, Bool.true_or, Bool.and_false]; rfl)
    ·refine .rg Try.S [0, 1, 2, 8, 9] ?_
     refine .rnx 6 (And.intro eg10 hgf1) ?_
     refine .rnx 5 (And.intro eg10 hgf1) ?_
     refine .gcall (r := .int .i64 v2) rfl rfl rfl rfl rfl (fun hg => ⟨ca2, [.agg [.int .i64 ((a0.getD n1.toNat default).Message.Id), .imm 1 (((a0.getD n1.toNat default).Message.Groups).map (D.int .i64)) 4, .int .i64 ((a0.getD n1.toNat default).Message.Topic), .str ((a0.getD n1.toNat default).Message.Key), .str ((a0.getD n1.toNat default).Message.Body), .int .i64 ((a0.getD n1.toNat default).Time), .bool ((a0.getD n1.toNat default).Final)], .int .i64 a1], _, gd hg, gd hg, (za0 rfl (za0 rfl (hca2 _))), ha2 _ _ v2 (za2 hv2 hg)⟩) ?_
     refine .rnx 4 (And.intro eg10 hgf1) ?_
     refine .nil ⟨nofun, ?_⟩
     refine ⟨(), ?_, trivial⟩
     refine Goes.mv [6, 7] [] [] ?_ (Nat.le_of_ble_eq_true rfl) (Nat.le_of_ble_eq_true rfl) (by first | rfl | (simp only [idsV, idsH, pickL, getL, D.ids, Blk.ids, zcf, Nat.reduceBEq, cond_true, cond_false, List.append_nil, List.nil_append, List.cons_append, zb8 hca2] <;> rfl))
     first | rfl | (simp only [hgf1, go_sem, Nat.reduceBEq, Nat.reduceAdd, za6 hca2, Bool.false_and, Bool.true_or, Bool.and_false]; done) | (simp only [hgf1, go_sem, Nat.reduceBEq, Nat.reduceAdd, za6 hca2, Bool.false_and, Bool.true_or, Bool.and_false]; rfl)
  have hq := Option.some.inj h
  subst r
  exact .ret ⟨.inr rfl, rsi⟩
theorem zek (a0 : Tskeen_clock) (a1 : Int) (r : Int × Bool) (h : zcn a0 a1 = some r) : CallP Try.prog 75 [.iptr 0 [.int .i64 a0.Skeen.Clock, .imm 7 (a0.Skeen.Waits.map TWait.d) 4, .imm 2 (a0.Skeen.Done.map TStamp.d) 4], .int .i64 a1] (.tuple [.int .i64 r.1, .bool r.2]) := by
 refine za9 Try.tmOk 2 Try.func75 rfl (by decide) rfl rfl (Nat.le_of_ble_eq_true rfl) ?_
 intro hwf
 unfold zcn at h
 refine .seq ?_
 refine .pl Try.S [0, 1] ?_
 refine .seq ?_
 obtain ⟨v1, hv1, h⟩ := bind_some h
 refine .rg Try.S [0, 1] ?_
 refine .rn 6 ?_
 refine .lcall (r := .tuple [.int .i64 v1.1, .bool v1.2]) [] rfl rfl rfl rfl rfl (za5 rfl (za5 rfl (za5 (zj2 zau) zau))) rfl (zec a0.Skeen.Waits a1 87 [] (fun _ => rfl) (fun _ => rfl) (fun _ => rfl) zc0 (fun x0 x1 y hy => zim x0 x1 y hy) v1 hv1) ?_
 refine .rn 4 ?_
 refine .nil ⟨nofun, ?_⟩
 have hq := Option.some.inj h
 subst r
 exact .ret ⟨.inr rfl, rsi⟩
def Try.St_slices_IndexFunc_Stamp_Stamp_1 : St := ⟨[], [], 0⟩
attribute [local go_sem] Try.St_slices_IndexFunc_Stamp_Stamp_1
def Try.St_slices_IndexFunc_Stamp_Stamp_3 (a0 : List TStamp) (Ka1 : Nat) (ca1 : List D) (n1 : Nat) : St := ⟨[(0, .imm 2 (a0.map TStamp.d) 4), (1, .fn (.func Ka1) ca1), (7, .int .i64 (a0.length : Int)), (8, .int .i64 (n1 : Int))], [], 0⟩
attribute [local go_sem] Try.St_slices_IndexFunc_Stamp_Stamp_3
theorem zfk (a0 : List TStamp) (Ka1 : Nat) (ca1 : List D) (hca1 : ∀ hp, lends hp ca1 = (ca1, true)) (h2a1 : ∀ hp, zd1 hp ca1 = (ca1, true)) (h3a1 : ∀ hp, ids2s hp ca1 = []) (a1 : TStamp -> Option Bool) (ha1 : ∀ x0 y, a1 x0 = some y -> CallP Try.prog Ka1 (.agg [.int .i64 x0.Time, .int .i64 x0.Id] :: ca1) (.bool y)) (r : Int) (h : zc3 a0 a1 = some r) : CallP Try.prog 97 [.imm 2 (a0.map TStamp.d) 4, .fn (.func Ka1) ca1] (.int .i64 r) := by
 refine za9 Try.tmOk 2 Try.func97 rfl (by decide) rfl rfl (Nat.le_of_ble_eq_true rfl) ?_
 intro hwf
 unfold zc3 at h
 refine .seq ?_
 refine .pl Try.S [0, 1] ?_
 obtain ⟨x1, hx1, h⟩ := bind_some h
 refine .seqM 0 (fun (j : Unit) => Try.St_slices_IndexFunc_Stamp_Stamp_1) (fun j => x1 = (.inr j)) (Nat.le_of_ble_eq_true rfl) ?_ ?_
 ·refine .seq ?_
  refine .pl Try.S [0, 1] ?_
  refine .block ?_
  refine .loopG 0 (fun (j : Nat) => Try.St_slices_IndexFunc_Stamp_Stamp_3 a0 Ka1 ca1 j) (fun j => j <= a0.length /\ zah a1 (a0.drop j) j  = some x1) (fun j => a0.length - j) (0) (Nat.le_of_ble_eq_true rfl) ?_ ⟨Nat.zero_le _, hx1⟩ ?_
  ·refine Goes.mv [0, 1, 7, 8] [] [] ?_ (Nat.le_of_ble_eq_true rfl) (Nat.le_of_ble_eq_true rfl) (by first | rfl | (simp only [idsV, idsH, pickL, getL, D.ids, Blk.ids, zcf, Nat.reduceBEq, cond_true, cond_false, List.append_nil, List.nil_append, List.cons_append, zb8 hca1] <;> rfl))
   first | rfl | (simp only [go_sem, Nat.reduceBEq, Nat.reduceAdd, za6 hca1]; done) | (simp only [go_sem, Nat.reduceBEq, Nat.reduceAdd, za6 hca1]; rfl)
  rintro n1 ⟨hi1, hx1⟩
  simp only [Try.St_slices_IndexFunc_Stamp_Stamp_3]
  refine .wf 7 (.int .i64 (a0.length : Int)) rfl ?_
  intro hln1
  replace hln1 : (a0.length : Int) <= 9223372036854775807 := by simp only [wf, wfL, IntKind.max, IntKind.min, IntKind.signed, IntKind.bits, List.length_map] at hln1; first | exact hln1.2 | exact hln1.1 | (simp at hln1; omega)
  refine .seq ?_
  refine .pl Try.S [0, 1, 7, 8] ?_
  refine .seq ?_
  refine .cond rfl rfl (fun hc1 => ?_) (fun hc1 => ?_)
  ·have h1 : n1 < a0.length := by simpa using hc1
   have hwn1 : wr .i64 ((n1 : Int) + 1) = ((n1 + 1 : Nat) : Int) := zd4 h1 hln1
   have hpn1 : wr .i64 ((n1 : Int) - 1) = (n1 : Int) - 1 := zd5 h1 hln1
   rw [List.drop_eq_getElem_cons h1, zah] at hx1
   refine .skip ?_
   refine .seq ?_
   refine .block ?_
   refine .seq ?_
   refine .plx Try.S hwn1 [0, 1, 7, 8] ?_
   refine .seq ?_
   obtain ⟨v1, hv1, hx1⟩ := bind_some hx1
   have e1 := zcc TStamp.d a0 n1 h1
   refine .rg Try.S [0, 1, 5, 7, 8] ?_
   refine .rnx 5 (And.intro e1 hwn1) ?_
   refine .call (r := .bool v1) rfl rfl rfl rfl rfl (za0 rfl (hca1 _)) (ha1 _ v1 hv1) ?_
   refine .nil ⟨nofun, ?_⟩
   refine .cond rfl rfl (fun hc2 => ?_) (fun hc2 => ?_)
   ·replace hx1 := za2 hx1 hc2
    refine .seq ?_
    refine .plx Try.S hwn1 [5] ?_
    have hq := Option.some.inj hx1
    subst x1
    try dsimp only at h
    have hq := Option.some.inj h
    subst r
    exact .ret ⟨.inr rfl, rsi⟩
   ·replace hx1 := zaa hx1 hc2
    refine .skip ?_
    refine .plx Try.S hwn1 [0, 1, 7, 8] ?_
    refine ⟨n1 + 1, ?_, ⟨by omega, hx1⟩, by dsimp only; omega⟩
    refine Goes.mv [0, 1, 7, 8] [] [] ?_ (Nat.le_of_ble_eq_true rfl) (Nat.le_of_ble_eq_true rfl) (by first | rfl | (simp only [idsV, idsH, pickL, getL, D.ids, Blk.ids, zcf, Nat.reduceBEq, cond_true, cond_false, List.append_nil, List.nil_append, List.cons_append, zb8 hca1] <;> rfl))
    first | rfl | (simp only [go_sem, Nat.reduceBEq, Nat.reduceAdd, za6 hca1]; done) | (simp only [go_sem, Nat.reduceBEq, Nat.reduceAdd, za6 hca1]; rfl)
  ·have h2 : n1 = a0.length := by have h2b := of_decide_eq_false hc1; omega
   rw [List.drop_of_length_le (by omega), zah] at hx1
   refine .exit ?_
   refine ⟨_, ?_, (Option.some.inj hx1).symm⟩
   refine Goes.mv [] [] [] ?_ (Nat.le_of_ble_eq_true rfl) (Nat.le_of_ble_eq_true rfl) (by first | rfl | (simp only [idsV, idsH, pickL, getL, D.ids, Blk.ids, zcf, Nat.reduceBEq, cond_true, cond_false, List.append_nil, List.nil_append, List.cons_append, zb8 hca1] <;> rfl))
   first | rfl | (simp only [go_sem, Nat.reduceBEq, Nat.reduceAdd, za6 hca1]; done) | (simp only [go_sem, Nat.reduceBEq, Nat.reduceAdd, za6 hca1]; rfl)
 ·rintro ⟨⟩ hj1
  subst x1
  try dsimp only at h
  simp only [Try.St_slices_IndexFunc_Stamp_Stamp_1]
  refine .seq ?_
  refine .pl Try.S [] ?_
  have hq := Option.some.inj h
  subst r
  exact .ret ⟨.inr rfl, rsi⟩
theorem zey (a0 : List TStamp) (Ka1 : Nat) (ca1 : List D) (hca1 : ∀ hp, lends hp ca1 = (ca1, true)) (h2a1 : ∀ hp, zd1 hp ca1 = (ca1, true)) (h3a1 : ∀ hp, ids2s hp ca1 = []) (a1 : TStamp -> Option Bool) (ha1 : ∀ x0 y, a1 x0 = some y -> CallP Try.prog Ka1 (.agg [.int .i64 x0.Time, .int .i64 x0.Id] :: ca1) (.bool y)) (r : Bool) (h : zbq a0 a1 = some r) : CallP Try.prog 88 [.imm 2 (a0.map TStamp.d) 4, .fn (.func Ka1) ca1] (.bool r) := by
 refine za9 Try.tmOk 2 Try.func88 rfl (by decide) rfl rfl (Nat.le_of_ble_eq_true rfl) ?_
 intro hwf
 unfold zbq at h
 refine .seq ?_
 refine .pl Try.S [0, 1] ?_
 refine .seq ?_
 obtain ⟨v1, hv1, h⟩ := bind_some h
 refine .rg Try.S [0, 1] ?_
 refine .rn 2 ?_
 refine .lcall (r := .int .i64 v1) [] rfl rfl rfl rfl rfl (za5 rfl (za5 (zj2 (h2a1 _)) zau)) (by show ids2s _ [.imm 2 (a0.map TStamp.d) 4, .fn (.func Ka1) ca1] = _; simp only [ids2s, ids2, List.append_nil, List.nil_append, List.cons_append, h3a1]) (zfk a0 Ka1 ca1 hca1 h2a1 h3a1 a1 ha1 v1 hv1) ?_
 refine .rn 2 ?_
 refine .nil ⟨nofun, ?_⟩
 have hq := Option.some.inj h
 subst r
 exact .ret ⟨.inr rfl, rsi⟩
theorem zin (a0 : TStamp) (c0 : Int) (r : Bool) (h : zd8 a0 c0 = some r) : CallP Try.prog 89 [.agg [.int .i64 a0.Time, .int .i64 a0.Id], .iptr 0 [.int .i64 c0]] (.bool r) := by
 refine za9 Try.tmOk 3 Try.func89 rfl (by decide) rfl rfl (Nat.le_of_ble_eq_true rfl) ?_
 intro hwf
 unfold zd8 at h
 refine .seq ?_
 refine .pl Try.S [0, 1] ?_
 refine .seq ?_
 refine .pl Try.S [1, 2] ?_
 have hq := Option.some.inj h
 subst r
 exact .ret ⟨.inr rfl, rsi⟩
theorem zjd (a0 : Tskeen_clock) (a1 : Int) (r : Bool) (h : zdn a0 a1 = some r) : CallP Try.prog 76 [.iptr 0 [.int .i64 a0.Skeen.Clock, .imm 7 (a0.Skeen.Waits.map TWait.d) 4, .imm 2 (a0.Skeen.Done.map TStamp.d) 4], .int .i64 a1] (.bool r) := by
 refine za9 Try.tmOk 3 Try.func76 rfl (by decide) rfl rfl (Nat.le_of_ble_eq_true rfl) ?_
 intro hwf
 unfold zdn at h
 refine .seq ?_
 refine .pl Try.S [0, 1] ?_
 refine .seq ?_
 obtain ⟨v1, hv1, h⟩ := bind_some h
 refine .rg Try.S [0, 3] ?_
 refine .rn 6 ?_
 refine .lcall (r := .bool v1) [] rfl rfl rfl rfl rfl (za5 rfl (za5 (zj2 (za5 (zhs rfl (za0 rfl zgl)) zau)) zau)) rfl (zey a0.Skeen.Done 89 [.iptr 0 [.int .i64 a1]] (fun _ => rfl) (fun _ => rfl) (fun _ => rfl) (fun x0 => zd8 x0 a1) (fun x0 y hy => zin x0 a1 y hy) v1 hv1) ?_
 refine .rn 1 ?_
 refine .nil ⟨nofun, ?_⟩
 have hq := Option.some.inj h
 subst r
 exact .ret ⟨.inr rfl, rsi⟩
def Try.Re_slices_Clone_Stamp_Stamp (r : (List TStamp)) : St := ⟨[(2, .ref 0 2 0 r.length (some uC))], [(0, .arr 38 2 true (r.map TStamp.d))], 1⟩
attribute [local go_sem] Try.Re_slices_Clone_Stamp_Stamp
theorem zgv (a0 : List TStamp) (r : (List TStamp)) (h : zcs a0 = some r) : CallH Try.prog 59 [.imm 2 (a0.map TStamp.d) 4] [] (.ref 0 2 0 r.length (some uC)) [(0, some (.arr 38 2 true (r.map TStamp.d)))] (0, 3) := by
 refine za4 Try.tmOk Try.func59 rfl (by decide) (Nat.le_of_ble_eq_true rfl) (by simp) ?_
 intro hwf
 unfold zcs at h
 refine .ends 0 (Nat.le_refl _) ?_
 refine .nil4 0 2 (a0.map TStamp.d) rfl ?_ (fun hl => ?_)
 ·refine .seq ?_
  refine .pl Try.S [0] ?_
  refine .seq ?_
  refine .seq ?_
  refine .pl Try.S [0] ?_
  refine .cond rfl rfl (fun hc => by cases hc) (fun hc => ?_)
  refine .skip ?_
  obtain ⟨k1, h⟩ := zba h
  refine .seqM 0 (fun (_ : Unit) => ⟨[(2, .ref 0 2 0 a0.length (some uC))], [(0, .arr 38 2 true (a0.map TStamp.d))], 1⟩) (fun _ => True) (Nat.le_of_ble_eq_true rfl) ?_ (fun _ _ => ?_)
  ·rcases zih a0 with hE1 | ⟨y, ys, hE1⟩
   ·have hM1 : a0.map TStamp.d = [] := by rw [hE1]; simp
    refine .plain Try.tmOk Try.tmMixed [0] (by decide +kernel) (by intro q hq; simp only [go_sem, Nat.reduceSub, Int.reduceEq, Nat.reduceLT, Nat.reduceDiv, Nat.reduceAdd, Nat.reduceBEq, Nat.reduceLeDiff, reduceCtorEq, Nat.reduceEqDiff, Nat.reduceMod, Nat.reduceMul, Try.tm_33, zhu hM1, TStamp.d]; exact hq) (by first | rfl | (simp only [go_sem, Nat.reduceLeDiff]; done) | (simp only [go_sem, Nat.reduceLeDiff]; rfl) | (simp; done) | (simp [oneD] <;> omega) | (simp_all; done) | (simp_all [oneD] <;> omega)) (by first | exact Nat.le_refl _ | exact Nat.le_of_ble_eq_true rfl | (dsimp only; omega) | (simp <;> omega)) ?_
    refine ⟨(), ?_, trivial⟩
    refine Goes.new0 2 38 (Nat.le_of_ble_eq_true rfl) ?_
    refine Goes.wk 2 _ (.ref 0 2 0 0 (some uC)) rfl (.own0 0 _ _ _ (by decide)) ?_
    exact .mx hE1 [2] [0] []
   ·have hM1 : a0.map TStamp.d ≠ [] := by rw [hE1]; simp
    refine .plain Try.tmOk Try.tmMixed [0] (by decide +kernel) (by intro q hq; simp only [go_sem, Nat.reduceSub, Int.reduceEq, Nat.reduceLT, Nat.reduceDiv, Nat.reduceAdd, Nat.reduceBEq, Nat.reduceLeDiff, reduceCtorEq, Nat.reduceEqDiff, Nat.reduceMod, Nat.reduceMul, Try.tm_33, zgw hM1, TStamp.d]; exact hq) (by first | rfl | (simp only [go_sem, Nat.reduceLeDiff]; done) | (simp only [go_sem, Nat.reduceLeDiff]; rfl) | (simp; done) | (simp [oneD] <;> omega) | (simp_all; done) | (simp_all [oneD] <;> omega)) (by first | exact Nat.le_refl _ | exact Nat.le_of_ble_eq_true rfl | (dsimp only; omega) | (simp <;> omega)) ?_
    refine ⟨(), ?_, trivial⟩
    refine Goes.wk 2 _ (.ref 0 2 0 a0.length (some uC)) rfl (.unk _ _ _ _ _) ?_
    exact .mx hE1 [2] [0] []
  have hq := Option.some.inj h
  subst r
  refine .ret ⟨Try.Re_slices_Clone_Stamp_Stamp a0, ?_, .inr rfl, retH [0] ?_ ?_⟩
  ·exact .m [2] [0] []
  ·exact rsi0
  ·rfl
 ·have hE0 : a0 = [] := by simpa using hl
  obtain ⟨k1, h⟩ := zba h
  refine .seq ?_
  refine .pl Try.S [0] ?_
  refine .seq ?_
  refine .seq ?_
  refine .pl Try.S [0] ?_
  refine .cond rfl rfl (fun hc => ?_) (fun hc => by cases hc)
  refine .seq ?_
  refine .pl Try.S [] ?_
  have hq := Option.some.inj h
  subst r
  refine .ret ⟨Try.Re_slices_Clone_Stamp_Stamp a0, ?_, .inr rfl, retH [0] ?_ ?_⟩
  ·refine Goes.new0 2 38 (Nat.le_of_ble_eq_true rfl) ?_
   refine Goes.wk 2 _ (.ref 0 2 0 0 (some uC)) rfl (.own0 0 _ _ _ (by decide)) ?_
   exact .mx hE0 [2] [0] []
  ·exact rsi0
  ·rfl
def Try.Re_slices_Clone_Wait_Wait (r : (List TWait)) : St := ⟨[(2, .ref 0 7 0 r.length (some uC))], [(0, .arr 69 7 true (r.map TWait.d))], 1⟩
attribute [local go_sem] Try.Re_slices_Clone_Wait_Wait
theorem zhe (a0 : List TWait) (r : (List TWait)) (h : zd2 a0 = some r) : CallH Try.prog 58 [.imm 7 (a0.map TWait.d) 4] [] (.ref 0 7 0 r.length (some uC)) [(0, some (.arr 69 7 true (r.map TWait.d)))] (0, 3) := by
 refine za4 Try.tmOk Try.func58 rfl (by decide) (Nat.le_of_ble_eq_true rfl) (by simp) ?_
 intro hwf
 unfold zd2 at h
 refine .ends 0 (Nat.le_refl _) ?_
 refine .nil4 0 7 (a0.map TWait.d) rfl ?_ (fun hl => ?_)
 ·refine .seq ?_
  refine .pl Try.S [0] ?_
  refine .seq ?_
  refine .seq ?_
  refine .pl Try.S [0] ?_
  refine .cond rfl rfl (fun hc => by cases hc) (fun hc => ?_)
  refine .skip ?_
  obtain ⟨k1, h⟩ := zba h
  refine .seqM 0 (fun (_ : Unit) => ⟨[(2, .ref 0 7 0 a0.length (some uC))], [(0, .arr 69 7 true (a0.map TWait.d))], 1⟩) (fun _ => True) (Nat.le_of_ble_eq_true rfl) ?_ (fun _ _ => ?_)
  ·rcases zih a0 with hE1 | ⟨y, ys, hE1⟩
   ·have hM1 : a0.map TWait.d = [] := by rw [hE1]; simp
    refine .plain Try.tmOk Try.tmMixed [0] (by decide +kernel) (by intro q hq; simp only [go_sem, Nat.reduceSub, Int.reduceEq, Nat.reduceLT, Nat.reduceDiv, Nat.reduceAdd, Nat.reduceBEq, Nat.reduceLeDiff, reduceCtorEq, Nat.reduceEqDiff, Nat.reduceMod, Nat.reduceMul, Try.tm_43, zhu hM1, TWait.d]; exact hq) (by first | rfl | (simp only [go_sem, Nat.reduceLeDiff]; done) | (simp only [go_sem, Nat.reduceLeDiff]; rfl) | (simp; done) | (simp [oneD] <;> omega) | (simp_all; done) | (simp_all [oneD] <;> omega)) (by first | exact Nat.le_refl _ | exact Nat.le_of_ble_eq_true rfl | (dsimp only; omega) | (simp <;> omega)) ?_
    refine ⟨(), ?_, trivial⟩
    refine Goes.new0 7 69 (Nat.le_of_ble_eq_true rfl) ?_
    refine Goes.wk 2 _ (.ref 0 7 0 0 (some uC)) rfl (.own0 0 _ _ _ (by decide)) ?_
    exact .mx hE1 [2] [0] []
   ·have hM1 : a0.map TWait.d ≠ [] := by rw [hE1]; simp
    refine .plain Try.tmOk Try.tmMixed [0] (by decide +kernel) (by intro q hq; simp only [go_sem, Nat.reduceSub, Int.reduceEq, Nat.reduceLT, Nat.reduceDiv, Nat.reduceAdd, Nat.reduceBEq, Nat.reduceLeDiff, reduceCtorEq, Nat.reduceEqDiff, Nat.reduceMod, Nat.reduceMul, Try.tm_43, zgw hM1, TWait.d]; exact hq) (by first | rfl | (simp only [go_sem, Nat.reduceLeDiff]; done) | (simp only [go_sem, Nat.reduceLeDiff]; rfl) | (simp; done) | (simp [oneD] <;> omega) | (simp_all; done) | (simp_all [oneD] <;> omega)) (by first | exact Nat.le_refl _ | exact Nat.le_of_ble_eq_true rfl | (dsimp only; omega) | (simp <;> omega)) ?_
    refine ⟨(), ?_, trivial⟩
    refine Goes.wk 2 _ (.ref 0 7 0 a0.length (some uC)) rfl (.unk _ _ _ _ _) ?_
    exact .mx hE1 [2] [0] []
  have hq := Option.some.inj h
  subst r
  refine .ret ⟨Try.Re_slices_Clone_Wait_Wait a0, ?_, .inr rfl, retH [0] ?_ ?_⟩
  ·exact .m [2] [0] []
  ·exact rsi0
  ·rfl
 ·have hE0 : a0 = [] := by simpa using hl
  obtain ⟨k1, h⟩ := zba h
  refine .seq ?_
  refine .pl Try.S [0] ?_
  refine .seq ?_
  refine .seq ?_
  refine .pl Try.S [0] ?_
  refine .cond rfl rfl (fun hc => ?_) (fun hc => by cases hc)
  refine .seq ?_
  refine .pl Try.S [] ?_
  have hq := Option.some.inj h
  subst r
  refine .ret ⟨Try.Re_slices_Clone_Wait_Wait a0, ?_, .inr rfl, retH [0] ?_ ?_⟩
  ·refine Goes.new0 7 69 (Nat.le_of_ble_eq_true rfl) ?_
   refine Goes.wk 2 _ (.ref 0 7 0 0 (some uC)) rfl (.own0 0 _ _ _ (by decide)) ?_
   exact .mx hE0 [2] [0] []
  ·exact rsi0
  ·rfl
def Try.Re_skeen_clock_final (r : Tskeen_clock) : St := ⟨[(0, .ptr 20000 0)], [(20000, .box [.int .i64 r.Skeen.Clock, .ref 20100 7 0 r.Skeen.Waits.length (some uC), .ref 20101 2 0 r.Skeen.Done.length (some uC)]), (20100, .arr 69 7 true (r.Skeen.Waits.map TWait.n)), (20101, .arr 38 2 true (r.Skeen.Done.map TStamp.d))], 20102⟩
attribute [local go_sem] Try.Re_skeen_clock_final
theorem zj7 (a0 : Tskeen_clock) (a1 : Int) (a2 : Int) (r : Tskeen_clock) (h : zbj a0 a1 a2 = some r) : CallH Try.prog 56 [.ptr 20000 0, .int .i64 a1, .int .i64 a2] [(20000, .box [.int .i64 a0.Skeen.Clock, .ref 20001 7 0 a0.Skeen.Waits.length (some uC), .ref 20002 2 0 a0.Skeen.Done.length (some uC)]), (20001, .arr 69 7 true (a0.Skeen.Waits.map TWait.n)), (20002, .arr 38 2 true (a0.Skeen.Done.map TStamp.d))] (.tuple []) [(20000, some (.box [.int .i64 r.Skeen.Clock, .ref 20100 7 0 r.Skeen.Waits.length (some uC), .ref 20101 2 0 r.Skeen.Done.length (some uC)])), (20001, none), (20002, none), (20100, some (.arr 69 7 true (r.Skeen.Waits.map TWait.n))), (20101, some (.arr 38 2 true (r.Skeen.Done.map TStamp.d)))] (20100, 20104) := by
 refine za4 Try.tmOk Try.func56 rfl (by decide) (Nat.le_of_ble_eq_true rfl) (by simp) ?_
 intro hwf
 unfold zbj at h
 refine .ends 20100 (Nat.le_refl _) ?_
 refine .seq ?_
 obtain ⟨v1, hv1, h⟩ := bind_some h
 refine .rg Try.S [0, 1, 2] ?_
 refine .rn 2 ?_
 refine .lcall (r := .tuple [.int .i64 v1.1, .bool v1.2]) [20001, 20002] rfl rfl rfl rfl rfl (za5 (zhs rfl (za0 rfl (za0 (zle zgf (by first | rfl | (simp only [go_sem, Nat.reduceBEq]; rfl)) (by first | rfl | (simp; done) | (simp <;> omega))) (za0 (zi3 zjo (by first | rfl | (simp only [go_sem, Nat.reduceBEq]; rfl)) (by first | rfl | (simp; done) | (simp <;> omega))) zgl)))) (za5 rfl zau)) rfl (zek a0 a1 v1 hv1) ?_
 refine .rn 5 ?_
 refine .nil ⟨nofun, ?_⟩
 refine .seq ?_
 obtain ⟨k1, h⟩ := zba h
 obtain ⟨k2, h⟩ := zba h
 refine .seqM 20100 (fun (_ : Unit) => ⟨[(0, .ptr 20000 0), (2, .int .i64 a2), (6, .int .i64 v1.1), (39, .bool (((!v1.2) || (a0.Skeen.Waits.getD v1.1.toNat default).Final) || (decide (a2 < (a0.Skeen.Waits.getD v1.1.toNat default).Time))))], [(20000, .box [.int .i64 a0.Skeen.Clock, .ref 20001 7 0 a0.Skeen.Waits.length (some uC), .ref 20002 2 0 a0.Skeen.Done.length (some uC)]), (20001, .arr 69 7 true (a0.Skeen.Waits.map TWait.n)), (20002, .arr 38 2 true (a0.Skeen.Done.map TStamp.d))], 20100⟩) (fun _ => True) (Nat.le_of_ble_eq_true rfl) ?_ (fun _ _ => ?_)
 ·by_cases hgd : ¬ (¬ (v1.2 = true))
  ·have eg10 := zcj TWait.n a0.Skeen.Waits v1.1 (k1 hgd)
   by_cases hgd : ¬ ((¬ (v1.2 = true)) \/ ((a0.Skeen.Waits.getD v1.1.toNat default).Final = true))
   ·have eg20 := zcj TWait.n a0.Skeen.Waits v1.1 (k2 hgd)
    refine .rg Try.S [0, 2, 6, 7] ?_
    refine .rnx 6 (And.intro eg10 eg20) ?_
    refine .rnx 6 (And.intro eg10 eg20) ?_
    refine .rnx 6 (And.intro eg10 eg20) ?_
    refine .rnx 8 (And.intro eg10 eg20) ?_
    refine .nil ⟨nofun, ?_⟩
    refine ⟨(), ?_, trivial⟩
    exact .m [0, 2, 6, 39] [20000, 20001, 20002] []
   ·have hgf2 : (!((!v1.2) || (a0.Skeen.Waits.getD v1.1.toNat default).Final)) = false := by first | simpa using hgd | (simp at hgd ⊢; omega) | grind
    have hgf2t : ((!v1.2) || (a0.Skeen.Waits.getD v1.1.toNat default).Final) = true := by first | simpa using hgf2 | grind
    rcases nth_or TWait.n a0.Skeen.Waits v1.1.toNat with eg20 | eg20
    ·refine .rg Try.S [0, 2, 6, 7] ?_
     refine .rnx 6 (And.intro eg10 (And.intro eg20 (And.intro hgf2 hgf2t))) ?_
     refine .rnx 6 (And.intro eg10 (And.intro eg20 (And.intro hgf2 hgf2t))) ?_
     refine .rnx 6 (And.intro eg10 (And.intro eg20 (And.intro hgf2 hgf2t))) ?_
     refine .rnx 8 (And.intro eg10 (And.intro eg20 (And.intro hgf2 hgf2t))) ?_
     refine .nil ⟨nofun, ?_⟩
     refine ⟨(), ?_, trivial⟩
     exact .mx (And.intro hgf2 hgf2t) [0, 2, 6, 39] [20000, 20001, 20002] []
    ·refine .rg Try.S [0, 2, 6, 7] ?_
     refine .rnx 6 (And.intro eg10 (And.intro eg20 (And.intro hgf2 hgf2t))) ?_
     refine .rnx 6 (And.intro eg10 (And.intro eg20 (And.intro hgf2 hgf2t))) ?_
     refine .rnx 6 (And.intro eg10 (And.intro eg20 (And.intro hgf2 hgf2t))) ?_
     refine .rnx 8 (And.intro eg10 (And.intro eg20 (And.intro hgf2 hgf2t))) ?_
     refine .nil ⟨nofun, ?_⟩
     refine ⟨(), ?_, trivial⟩
     exact .mx (And.intro hgf2 hgf2t) [0, 2, 6, 39] [20000, 20001, 20002] []
  ·have hgf1 : (!(!v1.2)) = false := by first | simpa using hgd | (simp at hgd ⊢; omega) | grind
   have hgf1t : (!v1.2) = true := by first | simpa using hgf1 | grind
   rcases nth_or TWait.n a0.Skeen.Waits v1.1.toNat with eg10 | eg10
   ·by_cases hgd : ¬ ((¬ (v1.2 = true)) \/ ((a0.Skeen.Waits.getD v1.1.toNat default).Final = true))
    ·have eg30 := zcj TWait.n a0.Skeen.Waits v1.1 (k2 hgd)
     refine .rg Try.S [0, 2, 6, 7] ?_
     refine .rnx 6 (And.intro eg10 (And.intro hgf1 (And.intro hgf1t eg30))) ?_
     refine .rnx 6 (And.intro eg10 (And.intro hgf1 (And.intro hgf1t eg30))) ?_
     refine .rnx 6 (And.intro eg10 (And.intro hgf1 (And.intro hgf1t eg30))) ?_
     refine .rnx 8 (And.intro eg10 (And.intro hgf1 (And.intro hgf1t eg30))) ?_
     refine .nil ⟨nofun, ?_⟩
     refine ⟨(), ?_, trivial⟩
     exact .mx (And.intro hgf1 hgf1t) [0, 2, 6, 39] [20000, 20001, 20002] []
    ·have hgf3 : (!((!v1.2) || (a0.Skeen.Waits.getD v1.1.toNat default).Final)) = false := by first | simpa using hgd | (simp at hgd ⊢; omega) | grind
     have hgf3t : ((!v1.2) || (a0.Skeen.Waits.getD v1.1.toNat default).Final) = true := by first | simpa using hgf3 | grind
     rcases nth_or TWait.n a0.Skeen.Waits v1.1.toNat with eg30 | eg30
     ·refine .rg Try.S [0, 2, 6, 7] ?_
      refine .rnx 6 (And.intro eg10 (And.intro hgf1 (And.intro hgf1t (And.intro eg30 (And.intro hgf3 hgf3t))))) ?_
      refine .rnx 6 (And.intro eg10 (And.intro hgf1 (And.intro hgf1t (And.intro eg30 (And.intro hgf3 hgf3t))))) ?_
      refine .rnx 6 (And.intro eg10 (And.intro hgf1 (And.intro hgf1t (And.intro eg30 (And.intro hgf3 hgf3t))))) ?_
      refine .rnx 8 (And.intro eg10 (And.intro hgf1 (And.intro hgf1t (And.intro eg30 (And.intro hgf3 hgf3t))))) ?_
      refine .nil ⟨nofun, ?_⟩
      refine ⟨(), ?_, trivial⟩
      exact .mx (And.intro hgf1 (And.intro hgf1t (And.intro hgf3 hgf3t))) [0, 2, 6, 39] [20000, 20001, 20002] []
     ·refine .rg Try.S [0, 2, 6, 7] ?_
      refine .rnx 6 (And.intro eg10 (And.intro hgf1 (And.intro hgf1t (And.intro eg30 (And.intro hgf3 hgf3t))))) ?_
      refine .rnx 6 (And.intro eg10 (And.intro hgf1 (And.intro hgf1t (And.intro eg30 (And.intro hgf3 hgf3t))))) ?_
      refine .rnx 6 (And.intro eg10 (And.intro hgf1 (And.intro hgf1t (And.intro eg30 (And.intro hgf3 hgf3t))))) ?_
      refine .rnx 8 (And.intro eg10 (And.intro hgf1 (And.intro hgf1t (And.intro eg30 (And.intro hgf3 hgf3t))))) ?_
      refine .nil ⟨nofun, ?_⟩
      refine ⟨(), ?_, trivial⟩
      exact .mx (And.intro hgf1 (And.intro hgf1t (And.intro hgf3 hgf3t))) [0, 2, 6, 39] [20000, 20001, 20002] []
   ·by_cases hgd : ¬ ((¬ (v1.2 = true)) \/ ((a0.Skeen.Waits.getD v1.1.toNat default).Final = true))
    ·have eg40 := zcj TWait.n a0.Skeen.Waits v1.1 (k2 hgd)
     refine .rg Try.S [0, 2, 6, 7] ?_
     refine .rnx 6 (And.intro eg10 (And.intro hgf1 (And.intro hgf1t eg40))) ?_
     refine .rnx 6 (And.intro eg10 (And.intro hgf1 (And.intro hgf1t eg40))) ?_
     refine .rnx 6 (And.intro eg10 (And.intro hgf1 (And.intro hgf1t eg40))) ?_
     refine .rnx 8 (And.intro eg10 (And.intro hgf1 (And.intro hgf1t eg40))) ?_
     refine .nil ⟨nofun, ?_⟩
     refine ⟨(), ?_, trivial⟩
     exact .mx (And.intro hgf1 hgf1t) [0, 2, 6, 39] [20000, 20001, 20002] []
    ·have hgf4 : (!((!v1.2) || (a0.Skeen.Waits.getD v1.1.toNat default).Final)) = false := by first | simpa using hgd | (simp at hgd ⊢; omega) | grind
     have hgf4t : ((!v1.2) || (a0.Skeen.Waits.getD v1.1.toNat default).Final) = true := by first | simpa using hgf4 | grind
     rcases nth_or TWait.n a0.Skeen.Waits v1.1.toNat with eg40 | eg40
     ·refine .rg Try.S [0, 2, 6, 7] ?_
      refine .rnx 6 (And.intro eg10 (And.intro hgf1 (And.intro hgf1t (And.intro eg40 (And.intro hgf4 hgf4t))))) ?_
      refine .rnx 6 (And.intro eg10 (And.intro hgf1 (And.intro hgf1t (And.intro eg40 (And.intro hgf4 hgf4t))))) ?_
      refine .rnx 6 (And.intro eg10 (And.intro hgf1 (And.intro hgf1t (And.intro eg40 (And.intro hgf4 hgf4t))))) ?_
      refine .rnx 8 (And.intro eg10 (And.intro hgf1 (And.intro hgf1t (And.intro eg40 (And.intro hgf4 hgf4t))))) ?_
      refine .nil ⟨nofun, ?_⟩
      refine ⟨(), ?_, trivial⟩
      exact .mx (And.intro hgf1 (And.intro hgf1t (And.intro hgf4 hgf4t))) [0, 2, 6, 39] [20000, 20001, 20002] []
     ·refine .rg Try.S [0, 2, 6, 7] ?_
      refine .rnx 6 (And.intro eg10 (And.intro hgf1 (And.intro hgf1t (And.intro eg40 (And.intro hgf4 hgf4t))))) ?_
      refine .rnx 6 (And.intro eg10 (And.intro hgf1 (And.intro hgf1t (And.intro eg40 (And.intro hgf4 hgf4t))))) ?_
      refine .rnx 6 (And.intro eg10 (And.intro hgf1 (And.intro hgf1t (And.intro eg40 (And.intro hgf4 hgf4t))))) ?_
      refine .rnx 8 (And.intro eg10 (And.intro hgf1 (And.intro hgf1t (And.intro eg40 (And.intro hgf4 hgf4t))))) ?_
      refine .nil ⟨nofun, ?_⟩
      refine ⟨(), ?_, trivial⟩
      exact .mx (And.intro hgf1 (And.intro hgf1t (And.intro hgf4 hgf4t))) [0, 2, 6, 39] [20000, 20001, 20002] []
 refine .cond rfl rfl (fun hc1 => ?_) (fun hc1 => ?_)
 ·replace h := za2 h hc1
  have hq := Option.some.inj h
  subst r
  refine .ret ⟨Try.Re_skeen_clock_final a0, ?_, .inr rfl, retH [20000, 20101, 20100] ?_ ?_⟩
  ·exact .m [0] [20000, 20001, 20002] [(20001, 20100), (20002, 20101)]
  ·exact rsi0
  ·rfl
 ·replace h := zaa h hc1
  refine .skip ?_
  refine .seq ?_
  obtain ⟨k3, h⟩ := zba h
  obtain ⟨k4, h⟩ := zba h
  have e1 := zcj TWait.n a0.Skeen.Waits v1.1
  have es1 := setN_map TWait.n a0.Skeen.Waits v1.1.toNat (⟨(a0.Skeen.Waits.getD v1.1.toNat default).Message, a2, (a0.Skeen.Waits.getD v1.1.toNat default).Final⟩ : TWait)
  have e2 := zcj TWait.n (a0.Skeen.Waits.set v1.1.toNat (⟨(a0.Skeen.Waits.getD v1.1.toNat default).Message, a2, (a0.Skeen.Waits.getD v1.1.toNat default).Final⟩ : TWait)) v1.1
  have es2 := setN_map TWait.n (a0.Skeen.Waits.set v1.1.toNat (⟨(a0.Skeen.Waits.getD v1.1.toNat default).Message, a2, (a0.Skeen.Waits.getD v1.1.toNat default).Final⟩ : TWait)) v1.1.toNat (⟨((a0.Skeen.Waits.set v1.1.toNat (⟨(a0.Skeen.Waits.getD v1.1.toNat default).Message, a2, (a0.Skeen.Waits.getD v1.1.toNat default).Final⟩ : TWait)).getD v1.1.toNat default).Message, ((a0.Skeen.Waits.set v1.1.toNat (⟨(a0.Skeen.Waits.getD v1.1.toNat default).Message, a2, (a0.Skeen.Waits.getD v1.1.toNat default).Final⟩ : TWait)).getD v1.1.toNat default).Time, true⟩ : TWait)
  replace e1 := e1 k3
  replace es1 : setN (a0.Skeen.Waits.map TWait.n) v1.1.toNat (.agg [.int .i64 ((a0.Skeen.Waits.getD v1.1.toNat default).Message.Id), .imm 1 (((a0.Skeen.Waits.getD v1.1.toNat default).Message.Groups).map (D.int .i64)) 12, .int .i64 ((a0.Skeen.Waits.getD v1.1.toNat default).Message.Topic), .str ((a0.Skeen.Waits.getD v1.1.toNat default).Message.Key), .str ((a0.Skeen.Waits.getD v1.1.toNat default).Message.Body), .int .i64 a2, .bool ((a0.Skeen.Waits.getD v1.1.toNat default).Final)]) = (a0.Skeen.Waits.set v1.1.toNat (⟨(a0.Skeen.Waits.getD v1.1.toNat default).Message, a2, (a0.Skeen.Waits.getD v1.1.toNat default).Final⟩ : TWait)).map TWait.n := es1
  replace e2 := e2 k4
  replace es2 : setN ((a0.Skeen.Waits.set v1.1.toNat (⟨(a0.Skeen.Waits.getD v1.1.toNat default).Message, a2, (a0.Skeen.Waits.getD v1.1.toNat default).Final⟩ : TWait)).map TWait.n) v1.1.toNat (.agg [.int .i64 (((a0.Skeen.Waits.set v1.1.toNat (⟨(a0.Skeen.Waits.getD v1.1.toNat default).Message, a2, (a0.Skeen.Waits.getD v1.1.toNat default).Final⟩ : TWait)).getD v1.1.toNat default).Message.Id), .imm 1 ((((a0.Skeen.Waits.set v1.1.toNat (⟨(a0.Skeen.Waits.getD v1.1.toNat default).Message, a2, (a0.Skeen.Waits.getD v1.1.toNat default).Final⟩ : TWait)).getD v1.1.toNat default).Message.Groups).map (D.int .i64)) 12, .int .i64 (((a0.Skeen.Waits.set v1.1.toNat (⟨(a0.Skeen.Waits.getD v1.1.toNat default).Message, a2, (a0.Skeen.Waits.getD v1.1.toNat default).Final⟩ : TWait)).getD v1.1.toNat default).Message.Topic), .str (((a0.Skeen.Waits.set v1.1.toNat (⟨(a0.Skeen.Waits.getD v1.1.toNat default).Message, a2, (a0.Skeen.Waits.getD v1.1.toNat default).Final⟩ : TWait)).getD v1.1.toNat default).Message.Key), .str (((a0.Skeen.Waits.set v1.1.toNat (⟨(a0.Skeen.Waits.getD v1.1.toNat default).Message, a2, (a0.Skeen.Waits.getD v1.1.toNat default).Final⟩ : TWait)).getD v1.1.toNat default).Message.Body), .int .i64 (((a0.Skeen.Waits.set v1.1.toNat (⟨(a0.Skeen.Waits.getD v1.1.toNat default).Message, a2, (a0.Skeen.Waits.getD v1.1.toNat default).Final⟩ : TWait)).getD v1.1.toNat default).Time), .bool true]) = ((a0.Skeen.Waits.set v1.1.toNat (⟨(a0.Skeen.Waits.getD v1.1.toNat default).Message, a2, (a0.Skeen.Waits.getD v1.1.toNat default).Final⟩ : TWait)).set v1.1.toNat (⟨((a0.Skeen.Waits.set v1.1.toNat (⟨(a0.Skeen.Waits.getD v1.1.toNat default).Message, a2, (a0.Skeen.Waits.getD v1.1.toNat default).Final⟩ : TWait)).getD v1.1.toNat default).Message, ((a0.Skeen.Waits.set v1.1.toNat (⟨(a0.Skeen.Waits.getD v1.1.toNat default).Message, a2, (a0.Skeen.Waits.getD v1.1.toNat default).Final⟩ : TWait)).getD v1.1.toNat default).Time, true⟩ : TWait)).map TWait.n := es2
  refine .rg Try.S [0, 2, 6] ?_
  refine .rdx 6 (And.intro e1 (And.intro es1 (And.intro e2 es2))) ?_
  refine .rdx 6 (And.intro e1 (And.intro es1 (And.intro e2 es2))) ?_
  refine .rdx 7 (And.intro e1 (And.intro es1 (And.intro e2 es2))) ?_
  refine .nil ⟨fun _ => zbd (by kernel_rfl), ?_⟩
  refine .rg Try.S [0, 2] ?_
  refine .rn 6 ?_
  refine .rn 6 ?_
  refine .nil ⟨nofun, ?_⟩
  have hq := Option.some.inj h
  subst r
  refine ⟨Try.Re_skeen_clock_final (⟨(⟨(max a0.Skeen.Clock a2), ((a0.Skeen.Waits.set v1.1.toNat (⟨(a0.Skeen.Waits.getD v1.1.toNat default).Message, a2, (a0.Skeen.Waits.getD v1.1.toNat default).Final⟩ : TWait)).set v1.1.toNat (⟨((a0.Skeen.Waits.set v1.1.toNat (⟨(a0.Skeen.Waits.getD v1.1.toNat default).Message, a2, (a0.Skeen.Waits.getD v1.1.toNat default).Final⟩ : TWait)).getD v1.1.toNat default).Message, ((a0.Skeen.Waits.set v1.1.toNat (⟨(a0.Skeen.Waits.getD v1.1.toNat default).Message, a2, (a0.Skeen.Waits.getD v1.1.toNat default).Final⟩ : TWait)).getD v1.1.toNat default).Time, true⟩ : TWait)), a0.Skeen.Done⟩ : TSkeen)⟩ : Tskeen_clock), ?_, .inl rfl, retH [20000, 20101, 20100] ?_ ?_⟩
  ·exact .m [0] [20000, 20001, 20002] [(20001, 20100), (20002, 20101)]
  ·exact rsi0
  ·rfl
def Try.Re_skeen_clock_assign (r : Int × Tskeen_clock) : St := ⟨[(0, .ptr 20000 0), (6, .int .i64 r.1)], [(20000, .box [.int .i64 r.2.Skeen.Clock, .ref 20100 7 0 r.2.Skeen.Waits.length (some uC), .ref 20101 2 0 r.2.Skeen.Done.length (some uC)]), (20100, .arr 69 7 true (r.2.Skeen.Waits.map TWait.n)), (20101, .arr 38 2 true (r.2.Skeen.Done.map TStamp.d))], 20102⟩
attribute [local go_sem] Try.Re_skeen_clock_assign
theorem zis (a0 : Tskeen_clock) (a1 : Int) (a2 : TMessage) (r : Int × Tskeen_clock) (h : zbk a0 a1 a2 = some r) : CallH Try.prog 55 [.ptr 20000 0, .int .i64 a1, .agg [.int .i64 a2.Id, .imm 1 (a2.Groups.map (D.int .i64)) 4, .int .i64 a2.Topic, .str a2.Key, .str a2.Body]] [(20000, .box [.int .i64 a0.Skeen.Clock, .ref 20001 7 0 a0.Skeen.Waits.length (some uC), .ref 20002 2 0 a0.Skeen.Done.length (some uC)]), (20001, .arr 69 7 true (a0.Skeen.Waits.map TWait.n)), (20002, .arr 38 2 true (a0.Skeen.Done.map TStamp.d))] (.int .i64 r.1) [(20000, some (.box [.int .i64 r.2.Skeen.Clock, .ref 20100 7 0 r.2.Skeen.Waits.length (some uC), .ref 20101 2 0 r.2.Skeen.Done.length (some uC)])), (20001, none), (20002, none), (20100, some (.arr 69 7 true (r.2.Skeen.Waits.map TWait.n))), (20101, some (.arr 38 2 true (r.2.Skeen.Done.map TStamp.d)))] (20100, 20105) := by
 refine za4 Try.tmOk Try.func55 rfl (by decide) (Nat.le_of_ble_eq_true rfl) (by simp) ?_
 intro hwf
 unfold zbk at h
 refine .ends 20100 (Nat.le_refl _) ?_
 refine .seq ?_
 refine .pl Try.S [0, 1, 2] ?_
 refine .seq ?_
 obtain ⟨v1, hv1, h⟩ := bind_some h
 refine .rg Try.S [0, 1, 5] ?_
 refine .rn 3 ?_
 refine .lcall (r := .tuple [.int .i64 v1.1, .bool v1.2]) [20001, 20002] rfl rfl rfl rfl rfl (za5 (zhs rfl (za0 rfl (za0 (zle zgf (by first | rfl | (simp only [go_sem, Nat.reduceBEq]; rfl)) (by first | rfl | (simp; done) | (simp <;> omega))) (za0 (zi3 zjo (by first | rfl | (simp only [go_sem, Nat.reduceBEq]; rfl)) (by first | rfl | (simp; done) | (simp <;> omega))) zgl)))) (za5 rfl zau)) rfl (zek a0 a2.Id v1 hv1) ?_
 refine .rn 5 ?_
 refine .nil ⟨nofun, ?_⟩
 refine .seq ?_
 refine .seq ?_
 obtain ⟨v2, hv2, h⟩ := bind_some h
 obtain ⟨v3, hv3, h⟩ := bind_some h
 refine .rg Try.S [0, 1, 5, 7, 8] ?_
 refine .rn 5 ?_
 refine .glcall (r := .bool v2) [20001, 20002] rfl rfl rfl rfl rfl (fun hg => ⟨[], [.ptr 20000 0, .int .i64 a2.Id], _, rfl, gd hg, (za5 (zhs rfl (za0 rfl (za0 (zle zgf (by first | rfl | (simp only [go_sem, Nat.reduceBEq]; rfl)) (by first | rfl | (simp; done) | (simp <;> omega))) (za0 (zi3 zjo (by first | rfl | (simp only [go_sem, Nat.reduceBEq]; rfl)) (by first | rfl | (simp; done) | (simp <;> omega))) zgl)))) (za5 rfl zau)), rfl, (zjd a0 a2.Id v2 (za2 hv2 hg))⟩) ?_
 refine .rn 5 ?_
 refine .gcall (r := .bool v3) rfl rfl rfl rfl rfl (fun hg => ⟨[], [.imm 1 (a2.Groups.map (D.int .i64)) 4, .int .i64 a1], _, rfl, gd hg, rfl, (zgz a2.Groups a1 v3 (za2 hv3 hg))⟩) ?_
 refine .rn 2 ?_
 refine .nil ⟨nofun, ?_⟩
 refine .cond rfl rfl (fun hc1 => ?_) (fun hc1 => ?_)
 ·replace h := za2 h hc1
  refine .seq ?_
  refine .pl Try.S [0] ?_
  have hq := Option.some.inj h
  subst r
  refine .ret ⟨Try.Re_skeen_clock_assign (0, a0), ?_, .inr rfl, retH [20000, 20101, 20100] ?_ ?_⟩
  ·exact .m [0, 6] [20000, 20001, 20002] [(20001, 20100), (20002, 20101)]
  ·exact rsi0
  ·rfl
 ·replace h := zaa h hc1
  refine .skip ?_
  refine .seq ?_
  refine .seq ?_
  refine .rg Try.S [0, 5, 7] ?_
  refine .rn 6 ?_
  refine .rn 6 ?_
  refine .rn 3 ?_
  refine .nil ⟨nofun, ?_⟩
  refine .cond rfl rfl (fun hc2 => ?_) (fun hc2 => ?_)
  ·replace h := za2 h hc2
   refine .seq ?_
   refine .pl Try.S [0] ?_
   have hq := Option.some.inj h
   subst r
   refine .ret ⟨Try.Re_skeen_clock_assign (9, a0), ?_, .inr rfl, retH [20000, 20101, 20100] ?_ ?_⟩
   ·exact .m [0, 6] [20000, 20001, 20002] [(20001, 20100), (20002, 20101)]
   ·exact rsi0
   ·rfl
  ·replace h := zaa h hc2
   refine .skip ?_
   refine .seq ?_
   refine .rg Try.S [0, 5, 7] ?_
   refine .rn 6 ?_
   refine .rn 4 ?_
   refine .nil ⟨nofun, ?_⟩
   refine .seq ?_
   obtain ⟨v4, hv4, h⟩ := bind_some h
   refine .rg Try.S [0, 5, 7] ?_
   refine .rn 2 ?_
   refine .call (r := .imm 1 (v4.map (D.int .i64)) 12) rfl rfl rfl rfl rfl rfl (zev a2.Groups v4 hv4) ?_
   refine .rn 2 ?_
   refine .nil ⟨nofun, ?_⟩
   refine .seq ?_
   obtain ⟨k1, h⟩ := zba h
   obtain ⟨k2, h⟩ := zba h
   refine .rg Try.S [0, 5, 7] ?_
   refine .rd 6 ?_
   refine .rd 6 ?_
   refine .rd 3 ?_
   refine .hcall (r := .ref 20102 7 0 (((a0.Skeen.Waits.take v1.1.toNat) ++ ((⟨(⟨a2.Id, v4, a2.Topic, a2.Key, a2.Body⟩ : TMessage), (wr .i64 (a0.Skeen.Clock + 1)), false⟩ : TWait) :: (a0.Skeen.Waits.drop v1.1.toNat))).length) (some uC)) rfl rfl rfl rfl rfl (insT78n 20001 20101 20102 (by decide) (by decide) (by decide) a0.Skeen.Waits (⟨(⟨a2.Id, v4, a2.Topic, a2.Key, a2.Body⟩ : TMessage), (wr .i64 (a0.Skeen.Clock + 1)), false⟩ : TWait) v1.1 k1 k2) (fun id b h => zak [20001, 20101] _ id b h) (by simp) (.inr ⟨Nat.le_refl _, Nat.le_of_ble_eq_true rfl⟩) ?_
   refine .rd 4 ?_
   refine .nil ⟨fun _ => zbd (by kernel_rfl), ?_⟩
   refine .seq ?_
   refine .pl Try.S [0] ?_
   have hq := Option.some.inj h
   subst r
   refine .ret ⟨Try.Re_skeen_clock_assign (0, (⟨(⟨(wr .i64 (a0.Skeen.Clock + 1)), ((a0.Skeen.Waits.take v1.1.toNat) ++ ((⟨(⟨a2.Id, v4, a2.Topic, a2.Key, a2.Body⟩ : TMessage), (wr .i64 (a0.Skeen.Clock + 1)), false⟩ : TWait) :: (a0.Skeen.Waits.drop v1.1.toNat))), a0.Skeen.Done⟩ : TSkeen)⟩ : Tskeen_clock)), ?_, .inr rfl, retH [20000, 20101, 20100] ?_ ?_⟩
   ·exact .m [0, 6] [20000, 20102, 20002] [(20102, 20100), (20002, 20101)]
   ·exact rsi0
   ·rfl
def Try.St_skeen_Twin_1 (a0 : TSkeen) (v2 : List TStamp) (l1 : List TWait) : St := ⟨[(1, .ptr 0 0), (2, .ptr 1 0)], [(0, .box [.int .i64 a0.Clock, .ref 9 7 0 l1.length (some uC), .ref 6 2 0 v2.length (some uC)]), (1, .box [.int .i64 0, .imm 0 [] 0, .imm 0 [] 0]), (6, .arr 38 2 true (v2.map TStamp.d)), (9, .arr 69 7 true (l1.map TWait.n))], 10⟩
attribute [local go_sem] Try.St_skeen_Twin_1
def Try.St_skeen_Twin_3 (a0 : TSkeen) (v1 : (List TWait)) (v2 : List TStamp) (l2 : List TWait) (n1 : Int) : St := ⟨[(1, .ptr 0 0), (2, .ptr 1 0), (14, .int .i64 (v1.length : Int)), (15, .int .i64 n1)], [(0, .box [.int .i64 a0.Clock, .ref 9 7 0 l2.length (some uC), .ref 6 2 0 v2.length (some uC)]), (1, .box [.int .i64 0, .imm 0 [] 0, .imm 0 [] 0]), (6, .arr 38 2 true (v2.map TStamp.d)), (9, .arr 69 7 true (mx TWait.n TWait.d n1.toNat l2))], 10⟩
attribute [local go_sem] Try.St_skeen_Twin_3
def Try.Re_skeen_Twin (r : TSkeen) : St := ⟨[(2, .ptr 2 0)], [(0, .arr 69 7 true (r.Waits.map TWait.n)), (1, .arr 38 2 true (r.Done.map TStamp.d)), (2, .box [.int .i64 r.Clock, .ref 0 7 0 r.Waits.length (some uC), .ref 1 2 0 r.Done.length (some uC)])], 3⟩
attribute [local go_sem] Try.Re_skeen_Twin
theorem zh1 (a0 : TSkeen) (r : TSkeen) (h : zcg a0 = some r) : CallH Try.prog 43 [.agg [.int .i64 a0.Clock, .imm 7 (a0.Waits.map TWait.d) 4, .imm 2 (a0.Done.map TStamp.d) 4]] [] (.agg [.int .i64 r.Clock, .ref 0 7 0 r.Waits.length (some uC), .ref 1 2 0 r.Done.length (some uC)]) [(0, some (.arr 69 7 true (r.Waits.map TWait.n))), (1, some (.arr 38 2 true (r.Done.map TStamp.d)))] (0, 12) := by
 refine za4 Try.tmOk Try.func43 rfl (by decide) (Nat.le_of_ble_eq_true rfl) (by simp) ?_
 intro hwf
 unfold zcg at h
 refine .ends 0 (Nat.le_refl _) ?_
 refine .seq ?_
 refine .pl Try.S [0] ?_
 refine .seq ?_
 obtain ⟨v1, hv1, h⟩ := bind_some h
 obtain ⟨v2, hv2, h⟩ := bind_some h
 refine .rg Try.S [1, 2] ?_
 refine .rd 2 ?_
 refine .hcall (H := []) (eff := [(3, some (.arr 69 7 true (v1.map TWait.d)))]) (nw := (3, 6)) (r := .ref 3 7 0 v1.length (some uC)) rfl rfl rfl rfl rfl (zee 3 (Nat.le_of_ble_eq_true rfl) (zhe a0.Waits v1 hv1)) (fun id b h => zak [] _ id b h) (by simp) (.inr ⟨Nat.le_of_ble_eq_true rfl, Nat.le_of_ble_eq_true rfl⟩) ?_
 refine .rd 2 ?_
 refine .ncall (r := .ref 6 2 0 v2.length (some uC)) (eff := [(6, some (.arr 38 2 true (v2.map TStamp.d)))]) (nw := (6, 9)) [] rfl rfl rfl rfl rfl (za5 rfl zau) rfl (zee 6 (Nat.le_of_ble_eq_true rfl) (zgv a0.Done v2 hv2)) (zdf rfl rfl (zfn zhh _ _ _) zf6) (by intro i hi; simp [D.ids, D.idsL] at hi <;> omega) rfl ⟨Nat.le_of_ble_eq_true rfl, Nat.le_of_ble_eq_true rfl⟩ ?_
 refine .rd 4 ?_
 refine .nil ⟨fun _ => zbd (by kernel_rfl), ?_⟩
 obtain ⟨x1, hx1, h⟩ := bind_some h
 refine .seqM 9 (fun (j : (List TWait)) => Try.St_skeen_Twin_1 a0 v2 j) (fun j => x1 = j) (Nat.le_of_ble_eq_true rfl) ?_ ?_
 ·refine .seq ?_
  refine .pl Try.S [1, 2] ?_
  refine .block ?_
  refine .loopG 9 (fun (j : Nat × (List TWait) × Int) => Try.St_skeen_Twin_3 a0 v1 v2 j.2.1 j.2.2) (fun j => zc4 v1 j.1 j.2.1 j.2.2 = some x1) (fun j => j.1) (a0.Waits.length + 1, v1, 0) (Nat.le_of_ble_eq_true rfl) ?_ hx1 ?_
  ·refine Goes.arr 3 (v1.map TWait.d) (mx TWait.n TWait.d (Int.toNat 0) v1) rfl (.mx0 _ _ _) ?_
   exact .m [1, 2, 14, 15] [0, 1, 6, 3] [(3, 9)]
  rintro ⟨fu1, l2, n1⟩ hx1
  simp only [Try.St_skeen_Twin_3]
  try simp only at hx1
  obtain ⟨fu1, rfl⟩ : ∃ k, fu1 = k + 1 := by cases fu1 with | zero => (rw [zc4] at hx1; cases hx1) | succ k => exact ⟨k, rfl⟩
  rw [zc4] at hx1
  refine .seq ?_
  refine .pl Try.S [1, 2, 14, 15] ?_
  refine .seq ?_
  refine .cond rfl rfl (fun hc1 => ?_) (fun hc1 => ?_)
  ·replace hx1 := za2 hx1 hc1
   refine .skip ?_
   refine .seq ?_
   refine .block ?_
   refine .seq ?_
   refine .pl Try.S [1, 2, 14, 15] ?_
   obtain ⟨k1, hx1⟩ := zba hx1
   obtain ⟨v3, hv3, hx1⟩ := bind_some hx1
   obtain ⟨k2, hx1⟩ := zba hx1
   have e1 := mx_nth TWait.n TWait.d (k := n1.toNat) (l := l2) (by omega)
   have e2 := mx_nth TWait.n TWait.d (k := n1.toNat) (l := l2) (by omega)
   have es1 := mx_set TWait.n TWait.d (k := n1.toNat) (l := l2) (⟨(⟨(l2.getD n1.toNat default).Message.Id, v3, (l2.getD n1.toNat default).Message.Topic, (l2.getD n1.toNat default).Message.Key, (l2.getD n1.toNat default).Message.Body⟩ : TMessage), (l2.getD n1.toNat default).Time, (l2.getD n1.toNat default).Final⟩ : TWait) (by omega)
   replace es1 : setN (mx TWait.n TWait.d n1.toNat l2) n1.toNat (.agg [.int .i64 ((l2.getD n1.toNat default).Message.Id), .imm 1 (v3.map (D.int .i64)) 12, .int .i64 ((l2.getD n1.toNat default).Message.Topic), .str ((l2.getD n1.toNat default).Message.Key), .str ((l2.getD n1.toNat default).Message.Body), .int .i64 ((l2.getD n1.toNat default).Time), .bool ((l2.getD n1.toNat default).Final)]) = mx TWait.n TWait.d (n1.toNat + 1) (l2.set n1.toNat (⟨(⟨(l2.getD n1.toNat default).Message.Id, v3, (l2.getD n1.toNat default).Message.Topic, (l2.getD n1.toNat default).Message.Key, (l2.getD n1.toNat default).Message.Body⟩ : TMessage), (l2.getD n1.toNat default).Time, (l2.getD n1.toNat default).Final⟩ : TWait)) := es1
   refine .rg Try.S [1, 2, 3, 14, 15] ?_
   refine .rdx 6 (And.intro e1 (And.intro e2 es1)) ?_
   refine .rdx 4 (And.intro e1 (And.intro e2 es1)) ?_
   refine .call (r := .imm 1 (v3.map (D.int .i64)) 12) rfl rfl rfl rfl rfl rfl (zev ((l2.getD n1.toNat default).Message.Groups) v3 hv3) ?_
   refine .rdx 4 (And.intro e1 (And.intro e2 es1)) ?_
   refine .nil ⟨fun _ => zbd (by kernel_rfl), ?_⟩
   refine .pl Try.S [1, 2, 14, 15] ?_
   refine ⟨(fu1, _, _), ?_, hx1, by dsimp only; omega⟩
   refine Goes.arr 9 (mx TWait.n TWait.d (n1.toNat + 1) (l2.set n1.toNat (⟨(⟨(l2.getD n1.toNat default).Message.Id, v3, (l2.getD n1.toNat default).Message.Topic, (l2.getD n1.toNat default).Message.Key, (l2.getD n1.toNat default).Message.Body⟩ : TMessage), (l2.getD n1.toNat default).Time, (l2.getD n1.toNat default).Final⟩ : TWait))) (mx TWait.n TWait.d ((wr .i64 (n1 + 1)).toNat) (l2.set n1.toNat (⟨(⟨(l2.getD n1.toNat default).Message.Id, v3, (l2.getD n1.toNat default).Message.Topic, (l2.getD n1.toNat default).Message.Key, (l2.getD n1.toNat default).Message.Body⟩ : TMessage), (l2.getD n1.toNat default).Time, (l2.getD n1.toNat default).Final⟩ : TWait))) rfl (.mxk _ _ _ (toNat_succ k1 k2)) ?_
   exact .m [1, 2, 14, 15] [0, 1, 6, 9] []
  ·replace hx1 := zaa hx1 hc1
   refine .exit ?_
   obtain ⟨k3, hx1⟩ := zba hx1
   refine ⟨_, ?_, (Option.some.inj hx1).symm⟩
   refine Goes.arr 9 (mx TWait.n TWait.d n1.toNat l2) (l2.map TWait.n) rfl (.mxe _ _ k3) ?_
   exact .m [1, 2] [0, 1, 6, 9] []
 ·rintro l1 hj1
  subst x1
  try dsimp only at h
  simp only [Try.St_skeen_Twin_1]
  refine .seq ?_
  refine .pl Try.S [1, 2] ?_
  have hq := Option.some.inj h
  subst r
  refine .ret ⟨Try.Re_skeen_Twin (⟨a0.Clock, l1, v2⟩ : TSkeen), ?_, .inr rfl, retH [1, 0] ?_ ?_⟩
  ·exact .m [2] [9, 6, 1] [(9, 0), (6, 1), (1, 2)]
  ·exact rsi0
  ·rfl
def Try.Re_skeen_New (r : TSkeen) : St := ⟨[(0, .ptr 0 0)], [(0, .box [.int .i64 r.Clock, .imm 7 (r.Waits.map TWait.d) 12, .imm 2 (r.Done.map TStamp.d) 12])], 1⟩
attribute [local go_sem] Try.Re_skeen_New
theorem callH_skeen_New (r : TSkeen) (h : zen  = some r) : CallH Try.prog 41 [] [] (.agg [.int .i64 r.Clock, .imm 7 (r.Waits.map TWait.d) 12, .imm 2 (r.Done.map TStamp.d) 12]) [] (0, 3) := by
 refine za4 Try.tmOk Try.func41 rfl (by decide) (Nat.le_of_ble_eq_true rfl) (by simp) ?_
 intro hwf
 unfold zen at h
 refine .ends 0 (Nat.le_refl _) ?_
 refine .seq ?_
 refine .pl Try.S [] ?_
 refine .seq ?_
 refine .pl Try.S [0] ?_
 have hq := Option.some.inj h
 subst r
 refine .ret ⟨Try.Re_skeen_New (⟨0, [], []⟩ : TSkeen), ?_, .inr rfl, retH [] ?_ ?_⟩
 ·refine Goes.boxs 0 _ [.int .i64 0, .imm 7 [] 12, .imm 2 [] 12] rfl (.keep (.cons (.nil12 _ _ 0 (by decide)) (.cons (.nil12 _ _ 0 (by decide)) (.refl _)))) ?_
  exact .m [0] [0] []
 ·exact rsi0
 ·rfl
theorem zjx (r : TSkeen) (h : zen  = some r) : CallP Try.prog 41 [] (.agg [.int .i64 r.Clock, .imm 7 (r.Waits.map TWait.d) 12, .imm 2 (r.Done.map TStamp.d) 12]) :=
 zgs (frz_agg (zbb rfl (zbb rfl (zbb rfl zhb)))) (callH_skeen_New  r h)
theorem zlt (a0 : TWait) (a1 : TWait) (r : Bool) (h : zdd a0 a1 = some r) : CallP Try.prog 45 [.agg [.int .i64 a0.Message.Id, .imm 1 (a0.Message.Groups.map (D.int .i64)) 4, .int .i64 a0.Message.Topic, .str a0.Message.Key, .str a0.Message.Body, .int .i64 a0.Time, .bool a0.Final], .agg [.int .i64 a1.Message.Id, .imm 1 (a1.Message.Groups.map (D.int .i64)) 4, .int .i64 a1.Message.Topic, .str a1.Message.Key, .str a1.Message.Body, .int .i64 a1.Time, .bool a1.Final]] (.bool r) := by
 refine za9 Try.tmOk 4 Try.func45 rfl (by decide) rfl rfl (Nat.le_of_ble_eq_true rfl) ?_
 intro hwf
 unfold zdd at h
 refine .seq ?_
 refine .pl Try.S [0, 1] ?_
 refine .seq ?_
 obtain ⟨v1, hv1, h⟩ := bind_some h
 refine .rg Try.S [2, 3] ?_
 refine .rn 4 ?_
 refine .call (r := .bool v1) rfl rfl rfl rfl rfl rfl (zcz a0.Message a1.Message v1 hv1) ?_
 refine .rn 6 ?_
 refine .rn 6 ?_
 refine .rn 3 ?_
 refine .nil ⟨nofun, ?_⟩
 have hq := Option.some.inj h
 subst r
 exact .ret ⟨.inr rfl, rsi⟩
theorem zn9 (a0 : TSkeen) (a1 : TSkeen) (r : Bool) (h : zgh a0 a1 = some r) : CallP Try.prog 22 [.agg [.int .i64 a0.Clock, .imm 7 (a0.Waits.map TWait.d) 4, .imm 2 (a0.Done.map TStamp.d) 4], .agg [.int .i64 a1.Clock, .imm 7 (a1.Waits.map TWait.d) 4, .imm 2 (a1.Done.map TStamp.d) 4]] (.bool r) := by
 refine za9 Try.tmOk 4 Try.func22 rfl (by decide) rfl rfl (Nat.le_of_ble_eq_true rfl) ?_
 intro hwf
 unfold zgh at h
 refine .seq ?_
 refine .pl Try.S [0, 1] ?_
 refine .seq ?_
 obtain ⟨v1, hv1, h⟩ := bind_some h
 obtain ⟨v2, hv2, h⟩ := bind_some h
 refine .rg Try.S [2, 3] ?_
 refine .rn 6 ?_
 refine .rn 4 ?_
 refine .gcall (r := .bool v1) rfl rfl rfl rfl rfl (fun hg => ⟨[], [.imm 2 (a0.Done.map TStamp.d) 4, .imm 2 (a1.Done.map TStamp.d) 4], _, rfl, gd hg, rfl, (zgr a0.Done a1.Done v1 (za2 hv1 hg))⟩) ?_
 refine .rn 6 ?_
 refine .glcall (r := .bool v2) [] rfl rfl rfl rfl rfl (fun hg => ⟨[], [.imm 7 (a0.Waits.map TWait.d) 4, .imm 7 (a1.Waits.map TWait.d) 4, .fn (.func 45) []], _, rfl, gd hg, (za5 rfl (za5 rfl (za5 (zj2 zau) zau))), rfl, (zeg a0.Waits a1.Waits 45 [] (fun _ => rfl) (fun _ => rfl) (fun _ => rfl) zdd (fun x0 x1 y hy => zlt x0 x1 y hy) v2 (za2 hv2 hg))⟩) ?_
 refine .rn 2 ?_
 refine .nil ⟨nofun, ?_⟩
 have hq := Option.some.inj h
 subst r
 exact .ret ⟨.inr rfl, rsi⟩
theorem zfb (a0 : TStamp) (a1 : TStamp) (r : Bool) (h : ze7 a0 a1 = some r) : CallP Try.prog 28 [.agg [.int .i64 a0.Time, .int .i64 a0.Id], .agg [.int .i64 a1.Time, .int .i64 a1.Id]] (.bool r) := by
 refine za9 Try.tmOk 5 Try.func28 rfl (by decide) rfl rfl (Nat.le_of_ble_eq_true rfl) ?_
 intro hwf
 unfold ze7 at h
 refine .seq ?_
 refine .pl Try.S [0, 1] ?_
 refine .seq ?_
 obtain ⟨v1, hv1, h⟩ := bind_some h
 obtain ⟨v2, hv2, h⟩ := bind_some h
 obtain ⟨v3, hv3, h⟩ := bind_some h
 refine .rg Try.S [2, 3] ?_
 refine .rd 4 ?_
 refine .call (r := .int .i64 v1) rfl rfl rfl rfl rfl rfl (zgt a0.Time a1.Time v1 hv1) ?_
 refine .rd 4 ?_
 refine .call (r := .int .i64 v2) rfl rfl rfl rfl rfl rfl (zgt a0.Id a1.Id v2 hv2) ?_
 refine .rd 1 ?_
 refine .lcall (r := .int .i64 v3) [] rfl rfl rfl rfl rfl (za5 (lend2_of (zi3 (pl_int .i64) (by first | rfl | (simp only [go_sem, Nat.reduceBEq]; rfl)) (by first | rfl | (simp; done) | (simp <;> omega))) trivial) zau) rfl (zna [v1, v2] v3 hv3) ?_
 refine .rd 2 ?_
 refine .nil ⟨fun _ => zbd (by kernel_rfl), ?_⟩
 have hq := Option.some.inj h
 subst r
 exact .ret ⟨.inr rfl, rsi⟩
def Try.St_command_plain_1 (a0 : TCommand) (n1 : Int) (b1 : Bool) : St := ⟨[(1, .ptr 0 0), (2, .ptr 1 0), (4, .ptr 2 0), (5, .bool b1)], [(0, .box [.int .u8 a0.Kind, .int .i64 a0.Message.Id, .imm 1 (a0.Message.Groups.map (D.int .i64)) 4, .int .i64 a0.Message.Topic, .str a0.Message.Key, .str a0.Message.Body, .int .i64 a0.Id, .int .i64 a0.Time, .imm 1 (a0.Members.map (D.int .i64)) 4, .int .i64 a0.Topic, .int .i64 a0.Who, .int .i64 a0.N]), (1, .box [.int .u8 0, .int .i64 0, .imm 0 [] 0, .int .i64 0, .str [], .str [], .int .i64 0, .int .i64 0, .imm 0 [] 0, .int .i64 0, .int .i64 0, .int .i64 0]), (2, .box [.int .u8 a0.Kind, .int .i64 0, .imm 0 [] 0, .int .i64 0, .str [], .str [], .int .i64 0, .int .i64 0, .imm 0 [] 0, .int .i64 0, .int .i64 n1, .int .i64 0])], 3⟩
attribute [local go_sem] Try.St_command_plain_1
def Try.St_command_plain_3 (a0 : TCommand) (v1 : Bool) (v2 : Bool) (v3 : Bool) (b3 : Bool) : St := ⟨[(1, .ptr 0 0), (2, .ptr 1 0), (4, .ptr 2 0), (5, .bool ((v1 && v2) && v3)), (34, .bool b3)], [(0, .box [.int .u8 a0.Kind, .int .i64 a0.Message.Id, .imm 1 (a0.Message.Groups.map (D.int .i64)) 4, .int .i64 a0.Message.Topic, .str a0.Message.Key, .str a0.Message.Body, .int .i64 a0.Id, .int .i64 a0.Time, .imm 1 (a0.Members.map (D.int .i64)) 4, .int .i64 a0.Topic, .int .i64 a0.Who, .int .i64 a0.N]), (1, .box [.int .u8 0, .int .i64 0, .imm 0 [] 0, .int .i64 0, .str [], .str [], .int .i64 0, .int .i64 0, .imm 0 [] 0, .int .i64 0, .int .i64 0, .int .i64 0]), (2, .box [.int .u8 a0.Kind, .int .i64 0, .imm 0 [] 0, .int .i64 0, .str [], .str [], .int .i64 0, .int .i64 0, .imm 0 [] 0, .int .i64 0, .int .i64 0, .int .i64 0])], 3⟩
attribute [local go_sem] Try.St_command_plain_3
def Try.Re_command_plain (r : TCommand × Bool) : St := ⟨[(2, .ptr 0 0), (3, .bool r.2)], [(0, .box [.int .u8 r.1.Kind, .int .i64 r.1.Message.Id, .imm 1 (r.1.Message.Groups.map (D.int .i64)) 4, .int .i64 r.1.Message.Topic, .str r.1.Message.Key, .str r.1.Message.Body, .int .i64 r.1.Id, .int .i64 r.1.Time, .imm 1 (r.1.Members.map (D.int .i64)) 4, .int .i64 r.1.Topic, .int .i64 r.1.Who, .int .i64 r.1.N])], 1⟩
attribute [local go_sem] Try.Re_command_plain
theorem zkz (a0 : TCommand) (r : TCommand × Bool) (h : ze1 a0 = some r) : CallH Try.prog 61 [.agg [.int .u8 a0.Kind, .int .i64 a0.Message.Id, .imm 1 (a0.Message.Groups.map (D.int .i64)) 4, .int .i64 a0.Message.Topic, .str a0.Message.Key, .str a0.Message.Body, .int .i64 a0.Id, .int .i64 a0.Time, .imm 1 (a0.Members.map (D.int .i64)) 4, .int .i64 a0.Topic, .int .i64 a0.Who, .int .i64 a0.N]] [] (.tuple [.agg [.int .u8 r.1.Kind, .int .i64 r.1.Message.Id, .imm 1 (r.1.Message.Groups.map (D.int .i64)) 4, .int .i64 r.1.Message.Topic, .str r.1.Message.Key, .str r.1.Message.Body, .int .i64 r.1.Id, .int .i64 r.1.Time, .imm 1 (r.1.Members.map (D.int .i64)) 4, .int .i64 r.1.Topic, .int .i64 r.1.Who, .int .i64 r.1.N], .bool r.2]) [] (0, 5) := by
 refine za4 Try.tmOk Try.func61 rfl (by decide) (Nat.le_of_ble_eq_true rfl) (by simp) ?_
 intro hwf
 unfold ze1 at h
 refine .ends 0 (Nat.le_refl _) ?_
 refine .seq ?_
 refine .pl Try.S [0] ?_
 refine .seq ?_
 refine .pl Try.S [1, 2] ?_
 refine .seq ?_
 obtain ⟨v1, hv1, h⟩ := bind_some h
 obtain ⟨v2, hv2, h⟩ := bind_some h
 obtain ⟨v3, hv3, h⟩ := bind_some h
 refine .rg Try.S [1, 2, 4] ?_
 refine .rn 2 ?_
 refine .call (r := .bool v1) rfl rfl rfl rfl rfl rfl (zh0 a0.Id v1 hv1) ?_
 refine .rn 3 ?_
 refine .gcall (r := .bool v2) rfl rfl rfl rfl rfl (fun hg => ⟨[], [.int .i64 a0.Topic, .int .i64 0, .int .i64 3], _, rfl, gd hg, rfl, (zd6 a0.Topic 0 3 v2 (za2 hv2 hg))⟩) ?_
 refine .rn 4 ?_
 refine .gcall (r := .bool v3) rfl rfl rfl rfl rfl (fun hg => ⟨[], [.int .i64 a0.N, .int .i64 0, .int .i64 1073741824], _, rfl, gd hg, rfl, (zd6 a0.N 0 1073741824 v3 (za2 hv3 hg))⟩) ?_
 refine .rn 2 ?_
 refine .nil ⟨nofun, ?_⟩
 refine .seq ?_
 refine .seq ?_
 refine .pl Try.S [1, 2, 4, 5] ?_
 refine .block ?_
 obtain ⟨x1, hx1, h⟩ := bind_some h
 refine .seqM 3 (fun (j : Int × Bool) => Try.St_command_plain_1 a0 j.1 j.2) (fun j => x1 = (.inr (.inr j))) (Nat.le_of_ble_eq_true rfl) ?_ ?_
 ·refine .block ?_
  refine .seq ?_
  refine .block ?_
  refine .seq ?_
  refine .block ?_
  refine .seq ?_
  refine .block ?_
  refine .seq ?_
  refine .block ?_
  refine .seq ?_
  refine .block ?_
  refine .seq ?_
  refine .seq ?_
  refine .seq ?_
  refine .pl Try.S [1, 2, 4, 5, 23] ?_
  refine .cond rfl rfl (fun hc1 => ?_) (fun hc1 => ?_)
  ·replace hx1 := za2 hx1 hc1
   refine .exit ?_
   refine .seq ?_
   refine .seq ?_
   refine .pl Try.S [2, 4] ?_
   have hq := Option.some.inj hx1
   subst x1
   try dsimp only at h
   have hq := Option.some.inj h
   subst r
   refine .ret ⟨Try.Re_command_plain ((⟨a0.Kind, (⟨0, [], 0, [], []⟩ : TMessage), 0, 0, [], 0, 0, 0⟩ : TCommand), true), ?_, .inr rfl, retH [] ?_ ?_⟩
   ·refine Goes.boxs 1 _ [.int .u8 a0.Kind, .int .i64 0, .imm 1 [] 4, .int .i64 0, .str [], .str [], .int .i64 0, .int .i64 0, .imm 1 [] 4, .int .i64 0, .int .i64 0, .int .i64 0] rfl (.keep (.keep (.cons (.nil4 _ _ 0 rfl) (.keep (.keep (.keep (.keep (.keep (.cons (.nil4 _ _ 0 rfl) (.refl _)))))))))) ?_
    exact .m [2, 3] [1] [(1, 0)]
   ·exact rsi0
   ·rfl
  ·replace hx1 := zaa hx1 hc1
   refine .skip ?_
   refine .seq ?_
   refine .seq ?_
   refine .pl Try.S [1, 2, 4, 5, 23] ?_
   refine .cond rfl rfl (fun hc2 => ?_) (fun hc2 => ?_)
   ·replace hx1 := za2 hx1 hc2
    refine .exit ?_
    refine .seq ?_
    refine .seq ?_
    refine .pl Try.S [1, 2, 4] ?_
    refine .seq ?_
    obtain ⟨v4, hv4, hx1⟩ := bind_some hx1
    refine .rg Try.S [1, 2, 4] ?_
    refine .rd 3 ?_
    refine .call (r := .int .i64 v4) rfl rfl rfl rfl rfl rfl (zdk a0.Message v4 hv4) ?_
    refine .rd 3 ?_
    refine .nil ⟨fun _ => zbd (by kernel_rfl), ?_⟩
    have hq := Option.some.inj hx1
    subst x1
    try dsimp only at h
    have hq := Option.some.inj h
    subst r
    refine .ret ⟨Try.Re_command_plain ((⟨a0.Kind, a0.Message, 0, 0, [], 0, 0, 0⟩ : TCommand), (v4 == 0)), ?_, .inr rfl, retH [] ?_ ?_⟩
    ·refine Goes.boxs 1 _ [.int .u8 a0.Kind, .int .i64 a0.Message.Id, .imm 1 (a0.Message.Groups.map (D.int .i64)) 4, .int .i64 a0.Message.Topic, .str a0.Message.Key, .str a0.Message.Body, .int .i64 0, .int .i64 0, .imm 1 [] 4, .int .i64 0, .int .i64 0, .int .i64 0] rfl (.keep (.keep (.keep (.keep (.keep (.keep (.keep (.keep (.cons (.nil4 _ _ 0 rfl) (.refl _)))))))))) ?_
     exact .m [2, 3] [1] [(1, 0)]
    ·exact rsi0
    ·rfl
   ·replace hx1 := zaa hx1 hc2
    refine .skip ?_
    refine .seq ?_
    refine .seq ?_
    refine .pl Try.S [1, 2, 4, 5, 23] ?_
    refine .cond rfl rfl (fun hc3 => ?_) (fun hc3 => ?_)
    ·replace hx1 := za2 hx1 hc3
     refine .exit ?_
     refine .seq ?_
     refine .seq ?_
     refine .dr Try.S [1, 2, 4] ?_
     refine .seq ?_
     obtain ⟨v5, hv5, hx1⟩ := bind_some hx1
     obtain ⟨v6, hv6, hx1⟩ := bind_some hx1
     refine .rg Try.S [1, 2, 4] ?_
     refine .rd 3 ?_
     refine .call (r := .bool v5) rfl rfl rfl rfl rfl rfl (zh0 a0.Id v5 hv5) ?_
     refine .rd 3 ?_
     refine .gcall (r := .bool v6) rfl rfl rfl rfl rfl (fun hg => ⟨[], [.int .i64 a0.Time, .int .i64 1, .int .i64 1073741824], _, rfl, gd hg, rfl, (zd6 a0.Time 1 1073741824 v6 (za2 hv6 hg))⟩) ?_
     refine .rd 3 ?_
     refine .nil ⟨fun _ => zbd (by kernel_rfl), ?_⟩
     have hq := Option.some.inj hx1
     subst x1
     try dsimp only at h
     have hq := Option.some.inj h
     subst r
     refine .ret ⟨Try.Re_command_plain ((⟨a0.Kind, (⟨0, [], 0, [], []⟩ : TMessage), a0.Id, a0.Time, [], 0, 0, 0⟩ : TCommand), (v5 && v6)), ?_, .inr rfl, retH [] ?_ ?_⟩
     ·refine Goes.boxs 1 _ [.int .u8 a0.Kind, .int .i64 0, .imm 1 [] 4, .int .i64 0, .str [], .str [], .int .i64 a0.Id, .int .i64 a0.Time, .imm 1 [] 4, .int .i64 0, .int .i64 0, .int .i64 0] rfl (.keep (.keep (.cons (.nil4 _ _ 0 rfl) (.keep (.keep (.keep (.keep (.keep (.cons (.nil4 _ _ 0 rfl) (.refl _)))))))))) ?_
      exact .m [2, 3] [1] [(1, 0)]
     ·exact rsi0
     ·rfl
    ·replace hx1 := zaa hx1 hc3
     refine .skip ?_
     refine .seq ?_
     refine .seq ?_
     refine .pl Try.S [1, 2, 4, 5, 23] ?_
     refine .cond rfl rfl (fun hc4 => ?_) (fun hc4 => ?_)
     ·replace hx1 := za2 hx1 hc4
      refine .exit ?_
      refine .seq ?_
      refine .seq ?_
      refine .pl Try.S [1, 2, 4] ?_
      refine .seq ?_
      obtain ⟨v7, hv7, hx1⟩ := bind_some hx1
      refine .rg Try.S [1, 2, 4] ?_
      refine .rd 3 ?_
      refine .call (r := .int .i64 v7) rfl rfl rfl rfl rfl rfl (zlu a0.Members v7 hv7) ?_
      refine .rd 3 ?_
      refine .nil ⟨fun _ => zbd (by kernel_rfl), ?_⟩
      have hq := Option.some.inj hx1
      subst x1
      try dsimp only at h
      have hq := Option.some.inj h
      subst r
      refine .ret ⟨Try.Re_command_plain ((⟨a0.Kind, (⟨0, [], 0, [], []⟩ : TMessage), 0, 0, a0.Members, 0, 0, 0⟩ : TCommand), (v7 == 0)), ?_, .inr rfl, retH [] ?_ ?_⟩
      ·refine Goes.boxs 1 _ [.int .u8 a0.Kind, .int .i64 0, .imm 1 [] 4, .int .i64 0, .str [], .str [], .int .i64 0, .int .i64 0, .imm 1 (a0.Members.map (D.int .i64)) 4, .int .i64 0, .int .i64 0, .int .i64 0] rfl (.keep (.keep (.cons (.nil4 _ _ 0 rfl) (.refl _)))) ?_
       exact .m [2, 3] [1] [(1, 0)]
      ·exact rsi0
      ·rfl
     ·replace hx1 := zaa hx1 hc4
      refine .skip ?_
      refine .seq ?_
      refine .seq ?_
      refine .pl Try.S [1, 2, 4, 5, 23] ?_
      refine .cond rfl rfl (fun hc5 => ?_) (fun hc5 => ?_)
      ·replace hx1 := za2 hx1 hc5
       refine .exit ?_
       refine .seq ?_
       refine .pl Try.S [1, 2, 4, 5] ?_
       obtain ⟨v8, hv8, hx1⟩ := bind_some hx1
       refine .rg Try.S [1, 2, 4, 5] ?_
       refine .rn 4 ?_
       refine .gcall (r := .bool v8) rfl rfl rfl rfl rfl (fun hg => ⟨[], [.int .i64 a0.Who, .int .i64 0, .int .i64 7], _, rfl, gd hg, rfl, (zd6 a0.Who 0 7 v8 (za2 hv8 hg))⟩) ?_
       refine .rn 2 ?_
       refine .nil ⟨nofun, ?_⟩
       refine ⟨_, ?_, (Option.some.inj hx1).symm⟩
       exact .m [1, 2, 4, 5] [0, 1, 2] []
      ·replace hx1 := zaa hx1 hc5
       refine .skip ?_
       obtain ⟨x2, hx2, hx1⟩ := bind_some hx1
       refine .seqM 3 (fun (j : Bool) => Try.St_command_plain_3 a0 v1 v2 v3 j) (fun j => x2 = j) (Nat.le_of_ble_eq_true rfl) ?_ ?_
       ·refine .seq ?_
        refine .pl Try.S [1, 2, 4, 5, 23] ?_
        refine .cond rfl rfl (fun hc6 => ?_) (fun hc6 => ?_)
        ·replace hx2 := za2 hx2 hc6
         refine .skip ?_
         refine ⟨_, ?_, (Option.some.inj hx2).symm⟩
         exact .m [1, 2, 4, 5, 34] [0, 1, 2] []
        ·replace hx2 := zaa hx2 hc6
         refine .pl Try.S [1, 2, 4, 5, 23] ?_
         refine ⟨_, ?_, (Option.some.inj hx2).symm⟩
         exact .m [1, 2, 4, 5, 34] [0, 1, 2] []
       ·rintro b3 hj1
        subst x2
        try dsimp only at hx1
        simp only [Try.St_command_plain_3]
        refine .cond rfl rfl (fun hc7 => ?_) (fun hc7 => ?_)
        ·replace hx1 := za2 hx1 hc7
         refine .exit ?_
         refine ⟨_, ?_, (Option.some.inj hx1).symm⟩
         exact .m [1, 2, 4, 5] [0, 1, 2] []
        ·replace hx1 := zaa hx1 hc7
         refine .skip ?_
         refine .exit ?_
         have hq := Option.some.inj hx1
         subst x1
         try dsimp only at h
         refine .seq ?_
         refine .pl Try.S [2, 4] ?_
         have hq := Option.some.inj h
         subst r
         refine .ret ⟨Try.Re_command_plain ((⟨a0.Kind, (⟨0, [], 0, [], []⟩ : TMessage), 0, 0, [], 0, 0, 0⟩ : TCommand), false), ?_, .inr rfl, retH [] ?_ ?_⟩
         ·refine Goes.boxs 1 _ [.int .u8 a0.Kind, .int .i64 0, .imm 1 [] 4, .int .i64 0, .str [], .str [], .int .i64 0, .int .i64 0, .imm 1 [] 4, .int .i64 0, .int .i64 0, .int .i64 0] rfl (.keep (.keep (.cons (.nil4 _ _ 0 rfl) (.keep (.keep (.keep (.keep (.keep (.cons (.nil4 _ _ 0 rfl) (.refl _)))))))))) ?_
          exact .m [2, 3] [1] [(1, 0)]
         ·exact rsi0
         ·rfl
 ·rintro ⟨n1, b1⟩ hj2
  subst x1
  try dsimp only at h
  simp only [Try.St_command_plain_1]
  refine .seq ?_
  refine .seq ?_
  refine .rg Try.S [1, 2, 4, 5] ?_
  refine .rd 6 ?_
  refine .rd 6 ?_
  refine .nil ⟨fun _ => zbd (by kernel_rfl), ?_⟩
  refine .seq ?_
  refine .pl Try.S [2, 4, 5] ?_
  have hq := Option.some.inj h
  subst r
  refine .ret ⟨Try.Re_command_plain ((⟨a0.Kind, (⟨0, [], 0, [], []⟩ : TMessage), a0.Id, 0, [], a0.Topic, n1, a0.N⟩ : TCommand), b1), ?_, .inr rfl, retH [] ?_ ?_⟩
  ·refine Goes.boxs 1 _ [.int .u8 a0.Kind, .int .i64 0, .imm 1 [] 4, .int .i64 0, .str [], .str [], .int .i64 a0.Id, .int .i64 0, .imm 1 [] 4, .int .i64 a0.Topic, .int .i64 n1, .int .i64 a0.N] rfl (.keep (.keep (.cons (.nil4 _ _ 0 rfl) (.keep (.keep (.keep (.keep (.keep (.cons (.nil4 _ _ 0 rfl) (.refl _)))))))))) ?_
   exact .m [2, 3] [1] [(1, 0)]
  ·exact rsi0
  ·rfl
theorem zfd (a0 : TCommand) (r : Int) (h : zbw a0 = some r) : CallP Try.prog 47 [.agg [.int .u8 a0.Kind, .int .i64 a0.Message.Id, .imm 1 (a0.Message.Groups.map (D.int .i64)) 4, .int .i64 a0.Message.Topic, .str a0.Message.Key, .str a0.Message.Body, .int .i64 a0.Id, .int .i64 a0.Time, .imm 1 (a0.Members.map (D.int .i64)) 4, .int .i64 a0.Topic, .int .i64 a0.Who, .int .i64 a0.N]] (.int .i64 r) := by
 refine za9 Try.tmOk 13 Try.func47 rfl (by decide) rfl rfl (Nat.le_of_ble_eq_true rfl) ?_
 intro hwf
 unfold zbw at h
 refine .seq ?_
 refine .pl Try.S [0] ?_
 refine .seq ?_
 refine .seq ?_
 obtain ⟨v1, hv1, h⟩ := bind_some h
 refine .rg Try.S [1] ?_
 refine .rn 1 ?_
 refine .hcall (H := []) (eff := []) (nw := (5, 10)) (r := .tuple [.agg [.int .u8 v1.1.Kind, .int .i64 v1.1.Message.Id, .imm 1 (v1.1.Message.Groups.map (D.int .i64)) 4, .int .i64 v1.1.Message.Topic, .str v1.1.Message.Key, .str v1.1.Message.Body, .int .i64 v1.1.Id, .int .i64 v1.1.Time, .imm 1 (v1.1.Members.map (D.int .i64)) 4, .int .i64 v1.1.Topic, .int .i64 v1.1.Who, .int .i64 v1.1.N], .bool v1.2]) rfl rfl rfl rfl rfl (zee 5 (Nat.le_of_ble_eq_true rfl) (zkz a0 v1 hv1)) (fun id b h => zak [] _ id b h) (by simp) (.inr ⟨Nat.le_of_ble_eq_true rfl, Nat.le_of_ble_eq_true rfl⟩) ?_
 refine .rn 6 ?_
 refine .nil ⟨nofun, ?_⟩
 refine .seq ?_
 obtain ⟨v2, hv2, h⟩ := bind_some h
 refine .rg Try.S [1, 3, 4] ?_
 refine .rn 5 ?_
 refine .gcall (r := .bool v2) rfl rfl rfl rfl rfl (fun hg => ⟨[], [.agg [.int .u8 v1.1.Kind, .int .i64 v1.1.Message.Id, .imm 1 (v1.1.Message.Groups.map (D.int .i64)) 4, .int .i64 v1.1.Message.Topic, .str v1.1.Message.Key, .str v1.1.Message.Body, .int .i64 v1.1.Id, .int .i64 v1.1.Time, .imm 1 (v1.1.Members.map (D.int .i64)) 4, .int .i64 v1.1.Topic, .int .i64 v1.1.Who, .int .i64 v1.1.N], .agg [.int .u8 a0.Kind, .int .i64 a0.Message.Id, .imm 1 (a0.Message.Groups.map (D.int .i64)) 4, .int .i64 a0.Message.Topic, .str a0.Message.Key, .str a0.Message.Body, .int .i64 a0.Id, .int .i64 a0.Time, .imm 1 (a0.Members.map (D.int .i64)) 4, .int .i64 a0.Topic, .int .i64 a0.Who, .int .i64 a0.N]], _, rfl, gd hg, rfl, (zlw v1.1 a0 v2 (za2 hv2 hg))⟩) ?_
 refine .rn 2 ?_
 refine .nil ⟨nofun, ?_⟩
 refine .cond rfl rfl (fun hc1 => ?_) (fun hc1 => ?_)
 ·replace h := za2 h hc1
  refine .seq ?_
  refine .pl Try.S [] ?_
  have hq := Option.some.inj h
  subst r
  exact .ret ⟨.inr rfl, rsi⟩
 ·replace h := zaa h hc1
  refine .skip ?_
  refine .seq ?_
  refine .pl Try.S [] ?_
  have hq := Option.some.inj h
  subst r
  exact .ret ⟨.inr rfl, rsi⟩
theorem zil (a0 : TWait) (a1 : TWait) (r : Int) (h : zcm a0 a1 = some r) : CallP Try.prog 74 [.agg [.int .i64 a0.Message.Id, .imm 1 (a0.Message.Groups.map (D.int .i64)) 4, .int .i64 a0.Message.Topic, .str a0.Message.Key, .str a0.Message.Body, .int .i64 a0.Time, .bool a0.Final], .agg [.int .i64 a1.Message.Id, .imm 1 (a1.Message.Groups.map (D.int .i64)) 4, .int .i64 a1.Message.Topic, .str a1.Message.Key, .str a1.Message.Body, .int .i64 a1.Time, .bool a1.Final]] (.int .i64 r) := by
 refine za9 Try.tmOk 4 Try.func74 rfl (by decide) rfl rfl (Nat.le_of_ble_eq_true rfl) ?_
 intro hwf
 unfold zcm at h
 refine .seq ?_
 refine .pl Try.S [0, 1] ?_
 refine .seq ?_
 refine .block ?_
 refine .seq ?_
 obtain ⟨v1, hv1, h⟩ := bind_some h
 obtain ⟨v2, hv2, h⟩ := bind_some h
 obtain ⟨v3, hv3, h⟩ := bind_some h
 refine .rg Try.S [2, 3] ?_
 refine .rd 1 ?_
 refine .call (r := .agg [.int .i64 v1.Time, .int .i64 v1.Id]) rfl rfl rfl rfl rfl rfl (zej a0 v1 hv1) ?_
 refine .rd 1 ?_
 refine .call (r := .agg [.int .i64 v2.Time, .int .i64 v2.Id]) rfl rfl rfl rfl rfl rfl (zej a1 v2 hv2) ?_
 refine .rd 0 ?_
 refine .call (r := .bool v3) rfl rfl rfl rfl rfl rfl (zfb v1 v2 v3 hv3) ?_
 refine .rd 1 ?_
 refine .nil ⟨fun _ => zbd (by kernel_rfl), ?_⟩
 refine .cond rfl rfl (fun hc1 => ?_) (fun hc1 => ?_)
 ·replace h := za2 h hc1
  refine .seq ?_
  refine .pl Try.S [] ?_
  have hq := Option.some.inj h
  subst r
  exact .ret ⟨.inr rfl, rsi⟩
 ·replace h := zaa h hc1
  refine .seq ?_
  obtain ⟨v4, hv4, h⟩ := bind_some h
  obtain ⟨v5, hv5, h⟩ := bind_some h
  obtain ⟨v6, hv6, h⟩ := bind_some h
  refine .rg Try.S [2, 3] ?_
  refine .rd 1 ?_
  refine .call (r := .agg [.int .i64 v4.Time, .int .i64 v4.Id]) rfl rfl rfl rfl rfl rfl (zej a1 v4 hv4) ?_
  refine .rd 1 ?_
  refine .call (r := .agg [.int .i64 v5.Time, .int .i64 v5.Id]) rfl rfl rfl rfl rfl rfl (zej a0 v5 hv5) ?_
  refine .rd 0 ?_
  refine .call (r := .bool v6) rfl rfl rfl rfl rfl rfl (zfb v4 v5 v6 hv6) ?_
  refine .rd 1 ?_
  refine .nil ⟨fun _ => zbd (by kernel_rfl), ?_⟩
  refine .cond rfl rfl (fun hc2 => ?_) (fun hc2 => ?_)
  ·replace h := za2 h hc2
   refine .seq ?_
   refine .pl Try.S [] ?_
   have hq := Option.some.inj h
   subst r
   exact .ret ⟨.inr rfl, rsi⟩
  ·replace h := zaa h hc2
   refine .skip ?_
   refine .seq ?_
   refine .pl Try.S [] ?_
   have hq := Option.some.inj h
   subst r
   exact .ret ⟨.inr rfl, rsi⟩
def Try.St_skeen_clock_deliver_1 (a0 : Tskeen_clock) (l1 : List TWait) (l2 : List TStamp) (l3 : List TMessage) : St := ⟨[(0, .ptr 20000 0), (2, .ref 20102 5 0 l3.length (some uC))], [(20000, .box [.int .i64 a0.Skeen.Clock, .ref 20100 7 0 l1.length (some uC), .ref 20101 2 0 l2.length (some uC)]), (20100, .arr 69 7 true (l1.map TWait.n)), (20101, .arr 38 2 true (l2.map TStamp.d)), (20102, .arr 25 5 true (l3.map TMessage.n))], 20103⟩
attribute [local go_sem] Try.St_skeen_clock_deliver_1
def Try.St_skeen_clock_deliver_3 (a0 : Tskeen_clock) (l4 : List TWait) (l5 : List TStamp) (l6 : List TMessage) : St := ⟨[(0, .ptr 20000 0), (2, .ref 20102 5 0 l6.length (some uC))], [(20000, .box [.int .i64 a0.Skeen.Clock, .ref 20100 7 0 l4.length (some uC), .ref 20101 2 0 l5.length (some uC)]), (20100, .arr 69 7 true (l4.map TWait.n)), (20101, .arr 38 2 true (l5.map TStamp.d)), (20102, .arr 25 5 true (l6.map TMessage.n))], 20103⟩
attribute [local go_sem] Try.St_skeen_clock_deliver_3
def Try.Re_skeen_clock_deliver (r : (List TMessage) × Tskeen_clock) : St := ⟨[(0, .ptr 20000 0), (2, .ref 20100 5 0 r.1.length (some uC))], [(20000, .box [.int .i64 r.2.Skeen.Clock, .ref 20101 7 0 r.2.Skeen.Waits.length (some uC), .ref 20102 2 0 r.2.Skeen.Done.length (some uC)]), (20100, .arr 25 5 true (r.1.map TMessage.n)), (20101, .arr 69 7 true (r.2.Skeen.Waits.map TWait.n)), (20102, .arr 38 2 true (r.2.Skeen.Done.map TStamp.d))], 20103⟩
attribute [local go_sem] Try.Re_skeen_clock_deliver
theorem zic (a0 : Tskeen_clock) (r : (List TMessage) × Tskeen_clock) (h : zbt a0 = some r) : CallH Try.prog 57 [.ptr 20000 0] [(20000, .box [.int .i64 a0.Skeen.Clock, .ref 20001 7 0 a0.Skeen.Waits.length (some uC), .ref 20002 2 0 a0.Skeen.Done.length (some uC)]), (20001, .arr 69 7 true (a0.Skeen.Waits.map TWait.n)), (20002, .arr 38 2 true (a0.Skeen.Done.map TStamp.d))] (.ref 20100 5 0 r.1.length (some uC)) [(20000, some (.box [.int .i64 r.2.Skeen.Clock, .ref 20101 7 0 r.2.Skeen.Waits.length (some uC), .ref 20102 2 0 r.2.Skeen.Done.length (some uC)])), (20001, none), (20002, none), (20100, some (.arr 25 5 true (r.1.map TMessage.n))), (20101, some (.arr 69 7 true (r.2.Skeen.Waits.map TWait.n))), (20102, some (.arr 38 2 true (r.2.Skeen.Done.map TStamp.d)))] (20100, 20116) := by
 refine za4 Try.tmOk Try.func57 rfl (by decide) (Nat.le_of_ble_eq_true rfl) (by simp) ?_
 intro hwf
 unfold zbt at h
 refine .ends 20100 (Nat.le_refl _) ?_
 refine .seq ?_
 refine .pl Try.S [0] ?_
 refine .scopeT ?_
 refine .seq ?_
 refine .label ?_
 obtain ⟨x1, hx1, h⟩ := bind_some h
 refine .seqM 20100 (fun (j : (List TWait) × (List TStamp) × (List TMessage)) => Try.St_skeen_clock_deliver_1 a0 j.1 j.2.1 j.2.2) (fun j => x1 = j) (Nat.le_of_ble_eq_true rfl) ?_ ?_
 ·refine .block ?_
  refine .loopG 20100 (fun (j : Nat × (List TWait) × (List TStamp) × (List TMessage)) => Try.St_skeen_clock_deliver_3 a0 j.2.1 j.2.2.1 j.2.2.2) (fun j => zan a0 j.1 j.2.1 j.2.2.1 j.2.2.2 = some x1) (fun j => j.1) (a0.Skeen.Waits.length + 1, a0.Skeen.Waits, a0.Skeen.Done, []) (Nat.le_of_ble_eq_true rfl) ?_ hx1 ?_
  ·refine Goes.new0 5 25 (Nat.le_of_ble_eq_true rfl) ?_
   refine Goes.wk 2 _ (.ref 20100 5 0 0 (some uC)) rfl (.own0 20100 _ _ _ (by decide)) ?_
   exact .m [0, 2] [20000, 20001, 20002, 20100] [(20001, 20100), (20002, 20101), (20100, 20102)]
  rintro ⟨fu1, l4, l5, l6⟩ hx1
  simp only [Try.St_skeen_clock_deliver_3]
  try simp only at hx1
  obtain ⟨fu1, rfl⟩ : ∃ k, fu1 = k + 1 := by cases fu1 with | zero => (rw [zan] at hx1; cases hx1) | succ k => exact ⟨k, rfl⟩
  rw [zan] at hx1
  refine .seq ?_
  refine .seq ?_
  refine .pl Try.S [0, 2] ?_
  refine .cond rfl rfl (fun hc1 => ?_) (fun hc1 => ?_)
  ·replace hx1 := za2 hx1 hc1
   refine .skip ?_
   refine .block ?_
   refine .seq ?_
   obtain ⟨v1, hv1, hx1⟩ := bind_some hx1
   refine .rg Try.S [0, 2] ?_
   refine .rn 5 ?_
   refine .hcall (H := [(20100, .arr 69 7 true (l4.map TWait.n))]) (eff := []) (nw := (20104, 20108)) (r := .agg [.int .i64 v1.Message.Id, .imm 1 (v1.Message.Groups.map (D.int .i64)) 12, .int .i64 v1.Message.Topic, .str v1.Message.Key, .str v1.Message.Body, .int .i64 v1.Time, .bool v1.Final]) rfl rfl rfl rfl rfl (zag 20000 20100 (zby 20104 (zfx l4 74 [] (fun _ => rfl) (fun _ => rfl) (fun _ => rfl) zcm (fun x0 x1 y hy => zil x0 x1 y hy) v1 hv1))) (fun id b h => zak [20100] _ id b h) (by simp) (.inr ⟨Nat.le_of_ble_eq_true rfl, Nat.le_of_ble_eq_true rfl⟩) ?_
   refine .rn 2 ?_
   refine .nil ⟨nofun, ?_⟩
   refine .seq ?_
   refine .seq ?_
   refine .pl Try.S [0, 2, 3] ?_
   refine .cond rfl rfl (fun hc2 => ?_) (fun hc2 => ?_)
   ·replace hx1 := za2 hx1 hc2
    refine .exit ?_
    refine ⟨_, ?_, (Option.some.inj hx1).symm⟩
    exact .m [0, 2] [20000, 20100, 20101, 20102] []
   ·replace hx1 := zaa hx1 hc2
    refine .skip ?_
    refine .seq ?_
    obtain ⟨v2, hv2, hx1⟩ := bind_some hx1
    refine .rg Try.S [0, 2, 3] ?_
    refine .rn 4 ?_
    refine .lcall (r := .tuple [.int .i64 v2.1, .bool v2.2]) [20100, 20101] rfl rfl rfl rfl rfl (za5 (zhs rfl (za0 rfl (za0 (zle zgf (by first | rfl | (simp only [go_sem, Nat.reduceBEq]; rfl)) (by first | rfl | (simp; done) | (simp <;> omega))) (za0 (zi3 zjo (by first | rfl | (simp only [go_sem, Nat.reduceBEq]; rfl)) (by first | rfl | (simp; done) | (simp <;> omega))) zgl)))) (za5 rfl zau)) rfl (zek (⟨(⟨a0.Skeen.Clock, l4, l5⟩ : TSkeen)⟩ : Tskeen_clock) v1.Message.Id v2 hv2) ?_
    refine .rn 5 ?_
    refine .nil ⟨nofun, ?_⟩
    refine .seq ?_
    obtain ⟨k1, hx1⟩ := zba hx1
    obtain ⟨k2, hx1⟩ := zba hx1
    refine .rg Try.S [0, 2, 3, 4] ?_
    refine .rn 6 ?_
    refine .rn 3 ?_
    refine .hcall (r := .ref 20109 7 0 ((l4.eraseIdx v2.1.toNat).length) (some uC)) rfl rfl rfl rfl rfl (delT79n 20100 20109 (by decide) l4 v2.1 k1 k2) (fun id b h => zak [20100] _ id b h) (by simp) (.inr ⟨Nat.le_refl _, Nat.le_of_ble_eq_true rfl⟩) ?_
    refine .rn 4 ?_
    refine .nil ⟨nofun, ?_⟩
    refine .seq ?_
    obtain ⟨v3, hv3, hx1⟩ := bind_some hx1
    obtain ⟨k3, hx1⟩ := zba hx1
    refine .rg Try.S [0, 2, 3] ?_
    refine .rd 7 ?_
    refine .call (r := .agg [.int .i64 v3.Time, .int .i64 v3.Id]) rfl rfl rfl rfl rfl rfl (zej v1 v3 hv3) ?_
    refine .rd 6 ?_
    refine .nil ⟨fun _ => zbd (by kernel_rfl), ?_⟩
    obtain ⟨k4, hx1⟩ := zba hx1
    refine .pl Try.S [0, 2, 3] ?_
    refine ⟨(fu1, _, _, _), ?_, hx1, by dsimp only; omega⟩
    exact .m [0, 2] [20000, 20109, 20111, 20113] [(20109, 20100), (20111, 20101), (20113, 20102)]
  ·replace hx1 := zaa hx1 hc1
   refine .exit ?_
   refine ⟨_, ?_, (Option.some.inj hx1).symm⟩
   exact .m [0, 2] [20000, 20100, 20101, 20102] []
 ·rintro ⟨l1, l2, l3⟩ hj1
  subst x1
  try dsimp only at h
  simp only [Try.St_skeen_clock_deliver_1]
  refine .seq ?_
  refine .pl Try.S [0, 2] ?_
  have hq := Option.some.inj h
  subst r
  refine .ret ⟨Try.Re_skeen_clock_deliver (l3, (⟨(⟨a0.Skeen.Clock, l1, l2⟩ : TSkeen)⟩ : Tskeen_clock)), ?_, .inr rfl, retH [20000, 20102, 20101, 20100] ?_ ?_⟩
  ·exact .m [0, 2] [20000, 20102, 20100, 20101] [(20102, 20100), (20100, 20101), (20101, 20102)]
  ·exact rsi0
  ·rfl
def Try.St_skeen_Check_1 (a0 : TSkeen) (m1 : List (Int × Int)) (n1 : Int) (n2 : Int) : St := ⟨[(1, .ptr 0 0), (3, .mref 1), (4, .ptr 2 0)], [(0, .box [.int .i64 a0.Clock, .imm 7 (a0.Waits.map TWait.d) 4, .imm 2 (a0.Done.map TStamp.d) 4]), (1, .map (mapD (D.int .i64) (D.int .i64) m1)), (2, .box [.int .i64 n1, .int .i64 n2])], 3⟩
attribute [local go_sem] Try.St_skeen_Check_1
def Try.St_skeen_Check_3 (a0 : TSkeen) (n5 : Nat) (m2 : List (Int × Int)) (n3 : Int) (n4 : Int) : St := ⟨[(1, .ptr 0 0), (3, .mref 1), (4, .ptr 2 0), (31, .imm 2 (a0.Done.map TStamp.d) 4), (32, .int .i64 (a0.Done.length : Int)), (33, .int .i64 (n5 : Int))], [(0, .box [.int .i64 a0.Clock, .imm 7 (a0.Waits.map TWait.d) 4, .imm 2 (a0.Done.map TStamp.d) 4]), (1, .map (mapD (D.int .i64) (D.int .i64) m2)), (2, .box [.int .i64 n3, .int .i64 n4])], 3⟩
attribute [local go_sem] Try.St_skeen_Check_3
def Try.St_skeen_Check_5 (a0 : TSkeen) : St := ⟨[(1, .ptr 0 0)], [(0, .box [.int .i64 a0.Clock, .imm 7 (a0.Waits.map TWait.d) 4, .imm 2 (a0.Done.map TStamp.d) 4])], 3⟩
attribute [local go_sem] Try.St_skeen_Check_5
def Try.St_skeen_Check_7 (a0 : TSkeen) (m1 : List (Int × Int)) (n1 : Int) (n2 : Int) (n6 : Nat) : St := ⟨[(1, .ptr 0 0), (3, .mref 1), (4, .ptr 2 0), (76, .imm 7 (a0.Waits.map TWait.d) 4), (77, .int .i64 (a0.Waits.length : Int)), (78, .int .i64 (n6 : Int))], [(0, .box [.int .i64 a0.Clock, .imm 7 (a0.Waits.map TWait.d) 4, .imm 2 (a0.Done.map TStamp.d) 4]), (1, .map (mapD (D.int .i64) (D.int .i64) m1)), (2, .box [.int .i64 n1, .int .i64 n2])], 3⟩
attribute [local go_sem] Try.St_skeen_Check_7
theorem zmm (a0 : TSkeen) (r : Int) (h : zer a0 = some r) : CallP Try.prog 54 [.agg [.int .i64 a0.Clock, .imm 7 (a0.Waits.map TWait.d) 4, .imm 2 (a0.Done.map TStamp.d) 4]] (.int .i64 r) := by
 refine za9 Try.tmOk 6 Try.func54 rfl (by decide) rfl rfl (Nat.le_of_ble_eq_true rfl) ?_
 intro hwf
 unfold zer at h
 refine .seq ?_
 refine .pl Try.S [0] ?_
 refine .seq ?_
 refine .seq ?_
 refine .rg Try.S [1] ?_
 refine .rn 6 ?_
 refine .rn 6 ?_
 refine .rn 8 ?_
 refine .nil ⟨nofun, ?_⟩
 refine .cond rfl rfl (fun hc1 => ?_) (fun hc1 => ?_)
 ·replace h := za2 h hc1
  refine .seq ?_
  refine .pl Try.S [] ?_
  have hq := Option.some.inj h
  subst r
  exact .ret ⟨.inr rfl, rsi⟩
 ·replace h := zaa h hc1
  refine .skip ?_
  refine .seq ?_
  refine .pl Try.S [1] ?_
  refine .seq ?_
  refine .pl Try.S [1, 3] ?_
  obtain ⟨x1, hx1, h⟩ := bind_some h
  refine .seqM 3 (fun (j : (List (Int × Int)) × Int × Int) => Try.St_skeen_Check_1 a0 j.1 j.2.1 j.2.2) (fun j => x1 = (.inr j)) (Nat.le_of_ble_eq_true rfl) ?_ ?_
  ·refine .seq ?_
   refine .pl Try.S [1, 3, 4] ?_
   refine .block ?_
   refine .loopG 3 (fun (j : Nat × (List (Int × Int)) × Int × Int) => Try.St_skeen_Check_3 a0 j.1 j.2.1 j.2.2.1 j.2.2.2) (fun j => j.1 <= a0.Done.length /\ zb5 a0 (a0.Done.drop j.1) j.1 j.2.1 j.2.2.1 j.2.2.2 = some x1) (fun j => a0.Done.length - j.1) (0, [], 0, 0) (Nat.le_of_ble_eq_true rfl) ?_ ⟨Nat.zero_le _, hx1⟩ ?_
   ·exact .mp [1, 3, 4, 31, 32, 33] [0, 1, 2] [] ⟨rfl, trivial⟩
   rintro ⟨n5, m2, n3, n4⟩ ⟨hi1, hx1⟩
   simp only [Try.St_skeen_Check_3]
   simp only at hi1 hx1
   refine .wf 32 (.int .i64 (a0.Done.length : Int)) rfl ?_
   intro hln5
   replace hln5 : (a0.Done.length : Int) <= 9223372036854775807 := by simp only [wf, wfL, IntKind.max, IntKind.min, IntKind.signed, IntKind.bits, List.length_map] at hln5; first | exact hln5.2 | exact hln5.1 | (simp at hln5; omega)
   refine .seq ?_
   refine .pl Try.S [1, 3, 4, 31, 32, 33] ?_
   refine .seq ?_
   refine .cond rfl rfl (fun hc2 => ?_) (fun hc2 => ?_)
   ·have h1 : n5 < a0.Done.length := by simpa using hc2
    have hwn5 : wr .i64 ((n5 : Int) + 1) = ((n5 + 1 : Nat) : Int) := zd4 h1 hln5
    have hpn5 : wr .i64 ((n5 : Int) - 1) = (n5 : Int) - 1 := zd5 h1 hln5
    rw [List.drop_eq_getElem_cons h1, zb5] at hx1
    refine .skip ?_
    refine .seq ?_
    refine .block ?_
    refine .seq ?_
    have e1 := zcc TStamp.d a0.Done n5 h1
    refine .plx Try.S (And.intro e1 hwn5) [1, 3, 4, 31, 32, 33] ?_
    refine .seq ?_
    refine .seq ?_
    obtain ⟨v1, hv1, hx1⟩ := bind_some hx1
    obtain ⟨v2, hv2, hx1⟩ := bind_some hx1
    refine .rg Try.S [1, 3, 4, 5, 6, 31, 32, 33] ?_
    refine .rnx 1 hwn5 ?_
    refine .call (r := .int .i64 v1) rfl rfl rfl rfl rfl rfl (zml (a0.Done[n5]) v1 hv1) ?_
    refine .rnx 6 hwn5 ?_
    refine .rnx 6 hwn5 ?_
    refine .rnx 7 hwn5 ?_
    refine .gcall (r := .bool v2) rfl rfl rfl rfl rfl (fun hg => ⟨[], [.agg [.int .i64 n3, .int .i64 n4], .agg [.int .i64 (a0.Done[n5].Time), .int .i64 (a0.Done[n5].Id)]], _, rfl, gd hg, rfl, (zfb (⟨n3, n4⟩ : TStamp) (a0.Done[n5]) v2 (za2 hv2 hg))⟩) ?_
    refine .rnx 6 hwn5 ?_
    refine .rnx 4 hwn5 ?_
    refine .nil ⟨nofun, ?_⟩
    refine .cond rfl rfl (fun hc3 => ?_) (fun hc3 => ?_)
    ·replace hx1 := za2 hx1 hc3
     refine .seq ?_
     refine .plx Try.S hwn5 [] ?_
     have hq := Option.some.inj hx1
     subst x1
     try dsimp only at h
     have hq := Option.some.inj h
     subst r
     exact .ret ⟨.inr rfl, rsi⟩
    ·replace hx1 := zaa hx1 hc3
     refine .skip ?_
     have em1 : updD (.int .i64 (a0.Done[n5].Id)) (.int .i64 1) (mapD (D.int .i64) (D.int .i64) m2) = some (mapD (D.int .i64) (D.int .i64) (mput (a0.Done[n5].Id) 1 m2)) := updD_int _ (D.int .i64) (a0.Done[n5].Id) 1 _ rfl m2
     refine .drx Try.S (And.intro em1 hwn5) [1, 3, 4, 6, 31, 32, 33] ?_
     refine .plx Try.S hwn5 [1, 3, 4, 31, 32, 33] ?_
     refine ⟨(n5 + 1, _, _, _), ?_, ⟨by omega, hx1⟩, by dsimp only; omega⟩
     exact .mp [1, 3, 4, 31, 32, 33] [0, 1, 2] [] ⟨zg6 (fun _ => rfl) (fun _ => rfl) _, trivial⟩
   ·have h2 : n5 = a0.Done.length := by have h2b := of_decide_eq_false hc2; omega
    rw [List.drop_of_length_le (by omega), zb5] at hx1
    refine .exit ?_
    refine ⟨_, ?_, (Option.some.inj hx1).symm⟩
    exact .mp [1, 3, 4] [0, 1, 2] [] ⟨zg6 (fun _ => rfl) (fun _ => rfl) _, trivial⟩
  ·rintro ⟨m1, n1, n2⟩ hj1
   subst x1
   try dsimp only at h
   simp only [Try.St_skeen_Check_1]
   obtain ⟨x2, hx2, h⟩ := bind_some h
   refine .seqM 3 (fun (j : Unit) => Try.St_skeen_Check_5 a0) (fun j => x2 = (.inr j)) (Nat.le_of_ble_eq_true rfl) ?_ ?_
   ·refine .seq ?_
    refine .pl Try.S [1, 3, 4] ?_
    refine .block ?_
    refine .loopG 3 (fun (j : Nat) => Try.St_skeen_Check_7 a0 m1 n1 n2 j) (fun j => j <= a0.Waits.length /\ zb4 a0 m1 n1 n2 (a0.Waits.drop j) j  = some x2) (fun j => a0.Waits.length - j) (0) (Nat.le_of_ble_eq_true rfl) ?_ ⟨Nat.zero_le _, hx2⟩ ?_
    ·exact .mp [1, 3, 4, 76, 77, 78] [0, 1, 2] [] ⟨zg6 (fun _ => rfl) (fun _ => rfl) _, trivial⟩
    rintro n6 ⟨hi2, hx2⟩
    simp only [Try.St_skeen_Check_7]
    refine .wf 77 (.int .i64 (a0.Waits.length : Int)) rfl ?_
    intro hln6
    replace hln6 : (a0.Waits.length : Int) <= 9223372036854775807 := by simp only [wf, wfL, IntKind.max, IntKind.min, IntKind.signed, IntKind.bits, List.length_map] at hln6; first | exact hln6.2 | exact hln6.1 | (simp at hln6; omega)
    refine .seq ?_
    refine .pl Try.S [1, 3, 4, 76, 77, 78] ?_
    refine .seq ?_
    refine .cond rfl rfl (fun hc4 => ?_) (fun hc4 => ?_)
    ·have h3 : n6 < a0.Waits.length := by simpa using hc4
     have hwn6 : wr .i64 ((n6 : Int) + 1) = ((n6 + 1 : Nat) : Int) := zd4 h3 hln6
     have hpn6 : wr .i64 ((n6 : Int) - 1) = (n6 : Int) - 1 := zd5 h3 hln6
     rw [List.drop_eq_getElem_cons h3, zb4] at hx2
     refine .skip ?_
     refine .seq ?_
     refine .block ?_
     refine .seq ?_
     have e2 := zcc TWait.d a0.Waits n6 h3
     refine .plx Try.S (And.intro e2 hwn6) [1, 3, 4, 76, 77, 78] ?_
     refine .seq ?_
     obtain ⟨v3, hv3, hx2⟩ := bind_some hx2
     obtain ⟨v4, hv4, hx2⟩ := bind_some hx2
     obtain ⟨v5, hv5, hx2⟩ := bind_some hx2
     have e3 := zh8 TWait.d a0.Waits (n6 - 1) (by omega)
     refine .rg Try.S [1, 3, 4, 7, 8, 76, 77, 78] ?_
     refine .rdx 2 (And.intro e3 (And.intro hpn6 hwn6)) ?_
     refine .call (r := .int .i64 v3) rfl rfl rfl rfl rfl rfl (zdk (a0.Waits[n6].Message) v3 hv3) ?_
     refine .rdx 6 (And.intro e3 (And.intro hpn6 hwn6)) ?_
     refine .rdx 6 (And.intro e3 (And.intro hpn6 hwn6)) ?_
     refine .rdx 6 (And.intro e3 (And.intro hpn6 hwn6)) ?_
     refine .rdx 6 (And.intro e3 (And.intro hpn6 hwn6)) ?_
     refine .rdx 6 (And.intro e3 (And.intro hpn6 hwn6)) ?_
     refine .rdx 6 (And.intro e3 (And.intro hpn6 hwn6)) ?_
     refine .rdx 6 (And.intro e3 (And.intro hpn6 hwn6)) ?_
     refine .rdx 5 (And.intro e3 (And.intro hpn6 hwn6)) ?_
     refine .gcall (r := .agg [.int .i64 v4.Time, .int .i64 v4.Id]) rfl rfl rfl rfl rfl (fun hg => ⟨[], [.agg [.int .i64 (a0.Waits[n6].Message.Id), .imm 1 ((a0.Waits[n6].Message.Groups).map (D.int .i64)) 4, .int .i64 (a0.Waits[n6].Message.Topic), .str (a0.Waits[n6].Message.Key), .str (a0.Waits[n6].Message.Body), .int .i64 (a0.Waits[n6].Time), .bool (a0.Waits[n6].Final)]], _, rfl, gd hg, rfl, (zej (a0.Waits[n6]) v4 (za2 hv4 hg))⟩) ?_
     refine .rdx 0 (And.intro e3 (And.intro hpn6 hwn6)) ?_
     refine .gcall (r := .bool v5) rfl rfl rfl rfl rfl (fun hg => ⟨[], [.agg [.int .i64 n1, .int .i64 n2], .agg [.int .i64 v4.Time, .int .i64 v4.Id]], _, rfl, gd hg, rfl, (zfb (⟨n1, n2⟩ : TStamp) v4 v5 (za2 hv5 hg))⟩) ?_
     refine .rdx 3 (And.intro e3 (And.intro hpn6 hwn6)) ?_
     refine .nil ⟨fun _ => zbd (by kernel_rfl), ?_⟩
     refine .cond rfl rfl (fun hc5 => ?_) (fun hc5 => ?_)
     ·replace hx2 := za2 hx2 hc5
      refine .seq ?_
      refine .plx Try.S hwn6 [] ?_
      have hq := Option.some.inj hx2
      subst x2
      try dsimp only at h
      have hq := Option.some.inj h
      subst r
      exact .ret ⟨.inr rfl, rsi⟩
     ·replace hx2 := zaa hx2 hc5
      refine .skip ?_
      refine .plx Try.S hwn6 [1, 3, 4, 76, 77, 78] ?_
      refine ⟨n6 + 1, ?_, ⟨by omega, hx2⟩, by dsimp only; omega⟩
      exact .mp [1, 3, 4, 76, 77, 78] [0, 1, 2] [] ⟨zg6 (fun _ => rfl) (fun _ => rfl) _, trivial⟩
    ·have h4 : n6 = a0.Waits.length := by have h4b := of_decide_eq_false hc4; omega
     rw [List.drop_of_length_le (by omega), zb4] at hx2
     refine .exit ?_
     refine ⟨_, ?_, (Option.some.inj hx2).symm⟩
     exact .m [1] [0] []
   ·rintro ⟨⟩ hj2
    subst x2
    try dsimp only at h
    simp only [Try.St_skeen_Check_5]
    refine .seq ?_
    refine .seq ?_
    obtain ⟨v6, hv6, h⟩ := bind_some h
    refine .rg Try.S [1] ?_
    refine .rn 7 ?_
    refine .glcall (r := .agg [.int .i64 v6.Message.Id, .undef, .int .i64 v6.Message.Topic, .str v6.Message.Key, .str v6.Message.Body, .int .i64 v6.Time, .bool v6.Final]) [] rfl rfl rfl rfl rfl (fun hg => ⟨[], [.imm 7 (a0.Waits.map TWait.d) 4, .fn (.func 74) []], _, rfl, gd hg, (za5 rfl (za5 (zj2 zau) zau)), rfl, (zgq a0.Waits 74 [] (fun _ => rfl) (fun _ => rfl) (fun _ => rfl) zcm (fun x0 x1 y hy => zil x0 x1 y hy) v6 (za2 hv6 hg))⟩) ?_
    refine .rn 2 ?_
    refine .nil ⟨nofun, ?_⟩
    refine .cond rfl rfl (fun hc6 => ?_) (fun hc6 => ?_)
    ·replace h := za2 h hc6
     refine .seq ?_
     refine .pl Try.S [] ?_
     have hq := Option.some.inj h
     subst r
     exact .ret ⟨.inr rfl, rsi⟩
    ·replace h := zaa h hc6
     refine .skip ?_
     refine .seq ?_
     refine .pl Try.S [] ?_
     have hq := Option.some.inj h
     subst r
     exact .ret ⟨.inr rfl, rsi⟩
def Try.St_skeen_Apply_1 (n1 : Int) (l1 : List TWait) (l2 : List TStamp) : St := ⟨[(6, .ptr 2 0), (11, .ptr 24 0)], [(2, .box [.int .i64 0, .imm 0 [] 0, .imm 0 [] 0]), (24, .box [.int .i64 n1, .ref 25 7 0 l1.length (some uC), .ref 26 2 0 l2.length (some uC)]), (25, .arr 69 7 true (l1.map TWait.n)), (26, .arr 38 2 true (l2.map TStamp.d))], 27⟩
attribute [local go_sem] Try.St_skeen_Apply_1
def Try.Re_skeen_Apply (r : TSkeen × (List TMessage) × Int) : St := ⟨[(6, .ptr 3 0), (7, .ref 2 5 0 r.2.1.length (some uC)), (8, .int .i64 r.2.2)], [(0, .arr 69 7 true (r.1.Waits.map TWait.n)), (1, .arr 38 2 true (r.1.Done.map TStamp.d)), (2, .arr 25 5 true (r.2.1.map TMessage.n)), (3, .box [.int .i64 r.1.Clock, .ref 0 7 0 r.1.Waits.length (some uC), .ref 1 2 0 r.1.Done.length (some uC)])], 4⟩
attribute [local go_sem] Try.Re_skeen_Apply
theorem zmq (a0 : TSkeen) (a1 : Int) (a2 : TCommand) (r : TSkeen × (List TMessage) × Int) (h : zbr a0 a1 a2 = some r) : CallH Try.prog 42 [.agg [.int .i64 a0.Clock, .imm 7 (a0.Waits.map TWait.d) 4, .imm 2 (a0.Done.map TStamp.d) 4], .int .i64 a1, .agg [.int .u8 a2.Kind, .int .i64 a2.Message.Id, .imm 1 (a2.Message.Groups.map (D.int .i64)) 4, .int .i64 a2.Message.Topic, .str a2.Message.Key, .str a2.Message.Body, .int .i64 a2.Id, .int .i64 a2.Time, .imm 1 (a2.Members.map (D.int .i64)) 4, .int .i64 a2.Topic, .int .i64 a2.Who, .int .i64 a2.N]] [] (.tuple [.agg [.int .i64 r.1.Clock, .ref 0 7 0 r.1.Waits.length (some uC), .ref 1 2 0 r.1.Done.length (some uC)], .ref 2 5 0 r.2.1.length (some uC), .int .i64 r.2.2]) [(0, some (.arr 69 7 true (r.1.Waits.map TWait.n))), (1, some (.arr 38 2 true (r.1.Done.map TStamp.d))), (2, some (.arr 25 5 true (r.2.1.map TMessage.n)))] (0, 48) := by
 refine za4 Try.tmOk Try.func42 rfl (by decide) (Nat.le_of_ble_eq_true rfl) (by simp) ?_
 intro hwf
 unfold zbr at h
 refine .ends 0 (Nat.le_refl _) ?_
 refine .seq ?_
 refine .pl Try.S [0, 1, 2] ?_
 refine .seq ?_
 refine .seq ?_
 obtain ⟨v1, hv1, h⟩ := bind_some h
 refine .rg Try.S [1, 3, 5, 6] ?_
 refine .rn 1 ?_
 refine .call (r := .int .i64 v1) rfl rfl rfl rfl rfl rfl (zmm a0 v1 hv1) ?_
 refine .rn 1 ?_
 refine .nil ⟨nofun, ?_⟩
 refine .seq ?_
 refine .pl Try.S [1, 3, 5, 6, 9] ?_
 refine .cond rfl rfl (fun hc1 => ?_) (fun hc1 => ?_)
 ·replace h := za2 h hc1
  refine .seq ?_
  refine .pl Try.S [6, 9] ?_
  have hq := Option.some.inj h
  subst r
  refine .ret ⟨Try.Re_skeen_Apply ((⟨0, [], []⟩ : TSkeen), [], v1), ?_, .inr rfl, retH [2, 1, 0] ?_ ?_⟩
  ·refine Goes.new0 7 69 (Nat.le_of_ble_eq_true rfl) ?_
   refine Goes.new0 2 38 (Nat.le_of_ble_eq_true rfl) ?_
   refine Goes.new0 5 25 (Nat.le_of_ble_eq_true rfl) ?_
   refine Goes.boxs 2 _ [.int .i64 0, .ref 3 7 0 0 (some uC), .ref 4 2 0 0 (some uC)] rfl (.keep (.cons (.own0 3 _ _ _ (by decide)) (.cons (.own0 4 _ _ _ (by decide)) (.refl _)))) ?_
   refine Goes.wk 7 _ (.ref 5 5 0 0 (some uC)) rfl (.own0 5 _ _ _ (by decide)) ?_
   exact .m [6, 7, 8] [3, 4, 5, 2] [(3, 0), (4, 1), (5, 2), (2, 3)]
  ·exact rsi0
  ·rfl
 ·replace h := zaa h hc1
  refine .skip ?_
  refine .seq ?_
  refine .seq ?_
  refine .pl Try.S [1, 3, 5, 6] ?_
  refine .cond rfl rfl (fun hc2 => ?_) (fun hc2 => ?_)
  ·replace h := za2 h hc2
   refine .seq ?_
   refine .pl Try.S [6] ?_
   have hq := Option.some.inj h
   subst r
   refine .ret ⟨Try.Re_skeen_Apply ((⟨0, [], []⟩ : TSkeen), [], 2), ?_, .inr rfl, retH [2, 1, 0] ?_ ?_⟩
   ·refine Goes.new0 7 69 (Nat.le_of_ble_eq_true rfl) ?_
    refine Goes.new0 2 38 (Nat.le_of_ble_eq_true rfl) ?_
    refine Goes.new0 5 25 (Nat.le_of_ble_eq_true rfl) ?_
    refine Goes.boxs 2 _ [.int .i64 0, .ref 3 7 0 0 (some uC), .ref 4 2 0 0 (some uC)] rfl (.keep (.cons (.own0 3 _ _ _ (by decide)) (.cons (.own0 4 _ _ _ (by decide)) (.refl _)))) ?_
    refine Goes.wk 7 _ (.ref 5 5 0 0 (some uC)) rfl (.own0 5 _ _ _ (by decide)) ?_
    exact .m [6, 7, 8] [3, 4, 5, 2] [(3, 0), (4, 1), (5, 2), (2, 3)]
   ·exact rsi0
   ·rfl
  ·replace h := zaa h hc2
   refine .skip ?_
   refine .seq ?_
   refine .seq ?_
   obtain ⟨v2, hv2, h⟩ := bind_some h
   refine .rg Try.S [1, 3, 5, 6] ?_
   refine .rn 1 ?_
   refine .call (r := .int .i64 v2) rfl rfl rfl rfl rfl rfl (zfd a2 v2 hv2) ?_
   refine .rn 1 ?_
   refine .nil ⟨nofun, ?_⟩
   refine .seq ?_
   refine .pl Try.S [1, 3, 5, 6, 10] ?_
   refine .cond rfl rfl (fun hc3 => ?_) (fun hc3 => ?_)
   ·replace h := za2 h hc3
    refine .seq ?_
    refine .pl Try.S [6, 10] ?_
    have hq := Option.some.inj h
    subst r
    refine .ret ⟨Try.Re_skeen_Apply ((⟨0, [], []⟩ : TSkeen), [], v2), ?_, .inr rfl, retH [2, 1, 0] ?_ ?_⟩
    ·refine Goes.new0 7 69 (Nat.le_of_ble_eq_true rfl) ?_
     refine Goes.new0 2 38 (Nat.le_of_ble_eq_true rfl) ?_
     refine Goes.new0 5 25 (Nat.le_of_ble_eq_true rfl) ?_
     refine Goes.boxs 2 _ [.int .i64 0, .ref 3 7 0 0 (some uC), .ref 4 2 0 0 (some uC)] rfl (.keep (.cons (.own0 3 _ _ _ (by decide)) (.cons (.own0 4 _ _ _ (by decide)) (.refl _)))) ?_
     refine Goes.wk 7 _ (.ref 5 5 0 0 (some uC)) rfl (.own0 5 _ _ _ (by decide)) ?_
     exact .m [6, 7, 8] [3, 4, 5, 2] [(3, 0), (4, 1), (5, 2), (2, 3)]
    ·exact rsi0
    ·rfl
   ·replace h := zaa h hc3
    refine .skip ?_
    refine .seq ?_
    obtain ⟨v3, hv3, h⟩ := bind_some h
    refine .rg Try.S [1, 3, 5, 6] ?_
    refine .rn 1 ?_
    refine .ncall (r := .agg [.int .i64 v3.Clock, .ref 12 7 0 v3.Waits.length (some uC), .ref 13 2 0 v3.Done.length (some uC)]) (eff := [(12, some (.arr 69 7 true (v3.Waits.map TWait.n))), (13, some (.arr 38 2 true (v3.Done.map TStamp.d)))]) (nw := (12, 24)) [] rfl rfl rfl rfl rfl (za5 rfl zau) rfl (zee 12 (Nat.le_of_ble_eq_true rfl) (zh1 a0 v3 hv3)) (zdf rfl rfl (zlc zgf _ _ _) (zdf rfl rfl (zfn zhh _ _ _) zf6)) (by intro i hi; simp [D.ids, D.idsL] at hi <;> omega) rfl ⟨Nat.le_of_ble_eq_true rfl, Nat.le_of_ble_eq_true rfl⟩ ?_
    refine .rn 3 ?_
    refine .nil ⟨nofun, ?_⟩
    obtain ⟨x1, hx1, h⟩ := bind_some h
    refine .seqM 25 (fun (j : Int × (List TWait) × (List TStamp)) => Try.St_skeen_Apply_1 j.1 j.2.1 j.2.2) (fun j => x1 = (.inr j)) (Nat.le_of_ble_eq_true rfl) ?_ ?_
    ·refine .seq ?_
     refine .pl Try.S [1, 5, 6, 11] ?_
     refine .block ?_
     refine .seq ?_
     refine .pl Try.S [1, 5, 6, 11, 38] ?_
     refine .cond rfl rfl (fun hc4 => ?_) (fun hc4 => ?_)
     ·replace hx1 := za2 hx1 hc4
      refine .seq ?_
      obtain ⟨v4, hv4, hx1⟩ := bind_some hx1
      refine .rg Try.S [1, 5, 6, 11] ?_
      refine .rn 4 ?_
      refine .hcall (H := [(24, .box [.int .i64 v3.Clock, .ref 12 7 0 v3.Waits.length (some uC), .ref 13 2 0 v3.Done.length (some uC)]), (12, .arr 69 7 true (v3.Waits.map TWait.n)), (13, .arr 38 2 true (v3.Done.map TStamp.d))]) (eff := [(24, some (.box [.int .i64 v4.2.Skeen.Clock, .ref 25 7 0 v4.2.Skeen.Waits.length (some uC), .ref 26 2 0 v4.2.Skeen.Done.length (some uC)])), (12, none), (13, none), (25, some (.arr 69 7 true (v4.2.Skeen.Waits.map TWait.n))), (26, some (.arr 38 2 true (v4.2.Skeen.Done.map TStamp.d)))]) (nw := (25, 30)) (r := .int .i64 v4.1) rfl rfl rfl rfl rfl (zda 25 (zag 20002 13 (zag 20001 12 (zag 20000 24 (zis (⟨v3⟩ : Tskeen_clock) a1 a2.Message v4 hv4))))) (fun id b h => zak [24, 12, 13] _ id b h) (by simp) (.inr ⟨Nat.le_of_ble_eq_true rfl, Nat.le_of_ble_eq_true rfl⟩) ?_
      refine .rn 1 ?_
      refine .nil ⟨nofun, ?_⟩
      refine .seq ?_
      refine .pl Try.S [6, 11, 12] ?_
      refine .cond rfl rfl (fun hc5 => ?_) (fun hc5 => ?_)
      ·replace hx1 := za2 hx1 hc5
       refine .seq ?_
       refine .pl Try.S [6, 12] ?_
       have hq := Option.some.inj hx1
       subst x1
       try dsimp only at h
       have hq := Option.some.inj h
       subst r
       refine .ret ⟨Try.Re_skeen_Apply ((⟨0, [], []⟩ : TSkeen), [], v4.1), ?_, .inr rfl, retH [2, 1, 0] ?_ ?_⟩
       ·refine Goes.new0 7 69 (Nat.le_of_ble_eq_true rfl) ?_
        refine Goes.new0 2 38 (Nat.le_of_ble_eq_true rfl) ?_
        refine Goes.new0 5 25 (Nat.le_of_ble_eq_true rfl) ?_
        refine Goes.boxs 2 _ [.int .i64 0, .ref 30 7 0 0 (some uC), .ref 31 2 0 0 (some uC)] rfl (.keep (.cons (.own0 30 _ _ _ (by decide)) (.cons (.own0 31 _ _ _ (by decide)) (.refl _)))) ?_
        refine Goes.wk 7 _ (.ref 32 5 0 0 (some uC)) rfl (.own0 32 _ _ _ (by decide)) ?_
        exact .m [6, 7, 8] [30, 31, 32, 2] [(30, 0), (31, 1), (32, 2), (2, 3)]
       ·exact rsi0
       ·rfl
      ·replace hx1 := zaa hx1 hc5
       refine .skip ?_
       refine ⟨_, ?_, (Option.some.inj hx1).symm⟩
       exact .m [6, 11] [2, 24, 25, 26] []
     ·replace hx1 := zaa hx1 hc4
      refine .seq ?_
      refine .pl Try.S [5, 6, 11, 38] ?_
      refine .cond rfl rfl (fun hc6 => ?_) (fun hc6 => ?_)
      ·replace hx1 := za2 hx1 hc6
       obtain ⟨v5, hv5, hx1⟩ := bind_some hx1
       refine .rg Try.S [5, 6, 11] ?_
       refine .rn 5 ?_
       refine .hcall (H := [(24, .box [.int .i64 v3.Clock, .ref 12 7 0 v3.Waits.length (some uC), .ref 13 2 0 v3.Done.length (some uC)]), (12, .arr 69 7 true (v3.Waits.map TWait.n)), (13, .arr 38 2 true (v3.Done.map TStamp.d))]) (eff := [(24, some (.box [.int .i64 v5.Skeen.Clock, .ref 25 7 0 v5.Skeen.Waits.length (some uC), .ref 26 2 0 v5.Skeen.Done.length (some uC)])), (12, none), (13, none), (25, some (.arr 69 7 true (v5.Skeen.Waits.map TWait.n))), (26, some (.arr 38 2 true (v5.Skeen.Done.map TStamp.d)))]) (nw := (25, 29)) (r := .tuple []) rfl rfl rfl rfl rfl (zda 25 (zag 20002 13 (zag 20001 12 (zag 20000 24 (zj7 (⟨v3⟩ : Tskeen_clock) a2.Id a2.Time v5 hv5))))) (fun id b h => zak [24, 12, 13] _ id b h) (by simp) (.inr ⟨Nat.le_of_ble_eq_true rfl, Nat.le_of_ble_eq_true rfl⟩) ?_
       refine .nil ⟨nofun, ?_⟩
       refine ⟨_, ?_, (Option.some.inj hx1).symm⟩
       exact .m [6, 11] [2, 24, 25, 26] []
      ·replace hx1 := zaa hx1 hc6
       refine .skip ?_
       refine ⟨_, ?_, (Option.some.inj hx1).symm⟩
       exact .m [6, 11] [2, 24, 12, 13] [(12, 25), (13, 26)]
    ·rintro ⟨n1, l1, l2⟩ hj1
     subst x1
     try dsimp only at h
     simp only [Try.St_skeen_Apply_1]
     refine .seq ?_
     obtain ⟨v6, hv6, h⟩ := bind_some h
     refine .rg Try.S [6, 11] ?_
     refine .rn 1 ?_
     refine .hcall (H := [(24, .box [.int .i64 n1, .ref 25 7 0 l1.length (some uC), .ref 26 2 0 l2.length (some uC)]), (25, .arr 69 7 true (l1.map TWait.n)), (26, .arr 38 2 true (l2.map TStamp.d))]) (eff := [(24, some (.box [.int .i64 v6.2.Skeen.Clock, .ref 28 7 0 v6.2.Skeen.Waits.length (some uC), .ref 29 2 0 v6.2.Skeen.Done.length (some uC)])), (25, none), (26, none), (27, some (.arr 25 5 true (v6.1.map TMessage.n))), (28, some (.arr 69 7 true (v6.2.Skeen.Waits.map TWait.n))), (29, some (.arr 38 2 true (v6.2.Skeen.Done.map TStamp.d)))]) (nw := (27, 43)) (r := .ref 27 5 0 v6.1.length (some uC)) rfl rfl rfl rfl rfl (zda 27 (zag 20002 26 (zag 20001 25 (zag 20000 24 (zic (⟨(⟨n1, l1, l2⟩ : TSkeen)⟩ : Tskeen_clock) v6 hv6))))) (fun id b h => zak [24, 25, 26] _ id b h) (by simp) (.inr ⟨Nat.le_of_ble_eq_true rfl, Nat.le_of_ble_eq_true rfl⟩) ?_
     refine .rn 1 ?_
     refine .nil ⟨nofun, ?_⟩
     refine .seq ?_
     refine .seq ?_
     refine .pl Try.S [6, 11, 13] ?_
     refine .cond rfl rfl (fun hc7 => ?_) (fun hc7 => ?_)
     ·replace h := za2 h hc7
      refine .seq ?_
      refine .pl Try.S [6] ?_
      have hq := Option.some.inj h
      subst r
      refine .ret ⟨Try.Re_skeen_Apply ((⟨0, [], []⟩ : TSkeen), [], 9), ?_, .inr rfl, retH [2, 1, 0] ?_ ?_⟩
      ·refine Goes.new0 7 69 (Nat.le_of_ble_eq_true rfl) ?_
       refine Goes.new0 2 38 (Nat.le_of_ble_eq_true rfl) ?_
       refine Goes.new0 5 25 (Nat.le_of_ble_eq_true rfl) ?_
       refine Goes.boxs 2 _ [.int .i64 0, .ref 43 7 0 0 (some uC), .ref 44 2 0 0 (some uC)] rfl (.keep (.cons (.own0 43 _ _ _ (by decide)) (.cons (.own0 44 _ _ _ (by decide)) (.refl _)))) ?_
       refine Goes.wk 7 _ (.ref 45 5 0 0 (some uC)) rfl (.own0 45 _ _ _ (by decide)) ?_
       exact .m [6, 7, 8] [43, 44, 45, 2] [(43, 0), (44, 1), (45, 2), (2, 3)]
      ·exact rsi0
      ·rfl
     ·replace h := zaa h hc7
      refine .skip ?_
      refine .seq ?_
      refine .pl Try.S [6, 11, 13] ?_
      have hq := Option.some.inj h
      subst r
      refine .ret ⟨Try.Re_skeen_Apply (v6.2.Skeen, v6.1, 0), ?_, .inr rfl, retH [2, 1, 0] ?_ ?_⟩
      ·exact .m [6, 7, 8] [28, 29, 27, 2] [(28, 0), (29, 1), (27, 2), (2, 3)]
      ·exact rsi0
      ·rfl
theorem zio (a0 : TSkeen) (a1 : Int) (a2 : TCommand) (r : TSkeen × (List TMessage) × Int) (h : zbr a0 a1 a2 = some r) : CallP Try.prog 42 [.agg [.int .i64 a0.Clock, .imm 7 (a0.Waits.map TWait.d) 4, .imm 2 (a0.Done.map TStamp.d) 4], .int .i64 a1, .agg [.int .u8 a2.Kind, .int .i64 a2.Message.Id, .imm 1 (a2.Message.Groups.map (D.int .i64)) 4, .int .i64 a2.Message.Topic, .str a2.Message.Key, .str a2.Message.Body, .int .i64 a2.Id, .int .i64 a2.Time, .imm 1 (a2.Members.map (D.int .i64)) 4, .int .i64 a2.Topic, .int .i64 a2.Who, .int .i64 a2.N]] (.tuple [.agg [.int .i64 r.1.Clock, .imm 7 (r.1.Waits.map TWait.d) 12, .imm 2 (r.1.Done.map TStamp.d) 12], .imm 5 (r.2.1.map TMessage.d) 12, .int .i64 r.2.2]) :=
 zgs (zmh (zbb (frz_agg (zbb rfl (zbb (zll zgf rfl rfl) (zbb (zlm zhh rfl rfl) zhb)))) (zbb (zll pln_TMessage rfl rfl) (zbb rfl zhb)))) (zmq a0 a1 a2 r h)
end Go.Proofs
