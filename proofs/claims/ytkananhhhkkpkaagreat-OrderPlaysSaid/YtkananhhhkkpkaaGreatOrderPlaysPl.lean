/- Texts of the proof. -/
import Derived.Test.YtkananhhhkkpkaaGreatOrderPlaysPf
import Derived.Test.YtkananhhhkkpkaaGreatOrderPlaysPg
import Derived.Test.YtkananhhhkkpkaaGreatOrderPlaysPh
import Derived.Test.YtkananhhhkkpkaaGreatOrderPlaysPi
import Derived.Test.YtkananhhhkkpkaaGreatOrderPlaysPj
import Derived.Test.YtkananhhhkkpkaaGreatOrderPlaysPk
namespace Go.Proofs
open Go.Tm Go.RowKit Go.WideShapes
set_option maxRecDepth 100000
set_option maxHeartbeats 4000000
set_option linter.unusedSimpArgs false
set_option linter.unusedVariables false
attribute [local go_sem] zg3 runE runK zh4 stepE aop opd opdsL opds opdO ev ofVal keep List.any zem Bool.false_or Bool.true_or aggEq cond_true cond_false Bool.cond_false_right Bool.cond_true_left beq_true beq_false imp_self implies_true getR getL put St.app effL del nwB zlc Nat.lt_irrefl Nat.lt_add_one zld Nat.le_refl Nat.beq_refl zhk zfi capS capK zj9 zhm zdl D.ids D.idsL bin arith zkt binT dpick Tm.part zj8 fillD oneD loadD zjt srcD zfj idxOk decide_true gval dstAt D.cells List.map_cons List.map_nil List.take List.drop List.length_map List.append Int.toNat_natCast and_true true_and decide_false List.length_cons List.length_nil List.append_nil List.nil_append Bool.and_true Bool.true_and Bool.not_false Bool.not_true ne_eq not_false_eq_true BEq.rfl List.getElem?_cons_zero List.getElem?_cons_succ List.getElem?_nil Nat.zero_add List.all_cons List.all_nil List.isEmpty_cons List.isEmpty_nil Option.getD_some Option.getD_none List.any_cons List.any_nil List.drop_succ_cons List.drop_zero unfL unf okM okML low3 List.cons_append true_or or_true Nat.zero_mul Nat.zero_le zk2 zk1  zlq zlp zk0 Option.isSome_map keyD List.length_replicate List.map_replicate setEl List.length_set zii map_ub mx_len znd zli mkM mkML znf zne zlj zjb zi3 zgq List.take_length Int.toNat_zero zib fpOf zhn opIds mvV mvH mvF pickL D.ren D.renL Blk.ren List.map_append List.length_append Bool.not_not Bool.or_not_self Bool.not_or_self Bool.or_true
attribute [local go_sem] Tryz.tm_1 Tryz.tm_2 Tryz.tm_3 Tryz.tm_4 Tryz.tm_5 Tryz.tm_6 Tryz.tm_7 Tryz.tm_8 Tryz.tm_9 Tryz.tm_10 Tryz.tm_11 Tryz.tm_12 Tryz.tm_13 Tryz.tm_14 Tryz.tm_15 Tryz.tm_16 Tryz.tm_17 Tryz.tm_18 Tryz.tm_19 Tryz.tm_20 Tryz.tm_21 Tryz.tm_22 Tryz.tm_23 Tryz.tm_24 Tryz.tm_25 Tryz.tm_26 Tryz.tm_27 Tryz.tm_28 Tryz.tm_29 Tryz.tm_30 Tryz.tm_32 Tryz.tm_34 Tryz.tm_36 Tryz.tm_38 Tryz.tm_39 Tryz.tm_40 Tryz.tm_41 Tryz.tm_42 Tryz.tm_43 Tryz.tm_44 Tryz.tm_45 Tryz.tm_46 Tryz.tm_48 Tryz.tm_50 Tryz.tm_52 Tryz.tm_54 Tryz.tm_55 Tryz.tm_57 Tryz.tm_58 Tryz.tm_59 Tryz.tm_60 Tryz.tm_61 Tryz.tm_62 Tryz.tm_63 Tryz.tm_65 Tryz.tm_66 Tryz.tm_68 Tryz.tm_69 Tryz.tm_70 Tryz.tm_71 Tryz.tm_72 Tryz.tm_73 Tryz.tm_74 Tryz.tm_75 Tryz.tm_76 Tryz.tm_77 Tryz.tm_78 Tryz.tm_79 Tryz.tm_80 Tryz.tm_81 Tryz.tm_83 Tryz.tm_84 Tryz.tm_86 Tryz.tm_87 Tryz.tm_88 Tryz.tm_89 Tryz.tm_90 Tryz.tm_91 Tryz.tm_92 Tryz.tm_93 Tryz.tm_94 Tryz.tm_95 Tryz.tm_97 Tryz.tm_98 Tryz.tm_99 Tryz.tm_100 Tryz.tm_101 Tryz.tm_102 Tryz.tm_103 Tryz.tm_104 Tryz.tm_105 Tryz.tm_106 Tryz.tm_107 Tryz.tm_108 Tryz.tm_109 Tryz.tm_110 Tryz.tm_111 Tryz.tm_112 Tryz.tm_114 Tryz.tm_115 Tryz.tm_117 Tryz.tm_119 Tryz.tm_120 Tryz.tm_121 Tryz.tm_122 Tryz.tm_123 Tryz.tm_124 Tryz.tm_125 Tryz.tm_126 Tryz.tm_127 Tryz.tm_128 Tryz.tm_129 Tryz.tm_130 Tryz.tm_132 Tryz.tm_133 Tryz.tm_135 Tryz.tm_136 Tryz.tm_137 Tryz.tm_138 Tryz.tm_139 Tryz.tm_140 Tryz.tm_141 Tryz.tm_142 Tryz.tm_143 Tryz.tm_144 Tryz.tm_145 Tryz.tm_146 Tryz.tm_148 Tryz.tm_149 Tryz.tm_150 Tryz.tm_151 Tryz.tm_152 Tryz.tm_153 Tryz.tm_155 Tryz.tm_156 Tryz.tm_157 Tryz.tm_158 Tryz.tm_159 Tryz.tm_160 Tryz.tm_161 Tryz.tm_162 Tryz.tm_163 Tryz.tm_164 Tryz.tm_165 Tryz.tm_166 Tryz.tm_167 Tryz.tm_168 Tryz.tm_169 Tryz.tm_170 Tryz.tm_171 Tryz.tm_172 Tryz.tm_173 Tryz.tm_174 Tryz.tm_175 Tryz.tm_177 Tryz.tm_179 Tryz.tm_180 Tryz.tm_182 Tryz.tm_183 Tryz.tm_185 Tryz.tm_187 Tryz.tm_188 Tryz.tm_189 Tryz.tm_191 Tryz.tm_193 Tryz.tm_195 Tryz.tm_196 Tryz.tm_197 Tryz.tm_198 Tryz.tm_199 Tryz.tm_200 Tryz.tm_203 Tryz.tm_204 Tryz.tm_205 Tryz.tm_206 Tryz.tm_207 Tryz.tm_208 Tryz.tm_209 Tryz.tm_210 Tryz.tm_211 TMessage.d TMessage.n TWait.d TWait.n TStamp.d TSkeen.d TSkeen.n TCommand.d TCommand.n Tskeen_clock.d Tskeen_clock.n zgt zjz zid zie zgu zeo Torder_step.d Torder_step.n Torder_given.d Torder_given.n Tcommand_reader.d Tcommand_reader.n dL_str nL_str zl4 zku zir mk1_dL_str Ttowncrierref16_Step.d Ttowncrierref16_Step.n Ttowncrierref16_Given.d Ttowncrierref16_Given.n zjy zjg Tryz.f132 Tryz.f126 Tryz.f128 Tryz.f127 Tryz.f13 Tryz.f113 Tryz.f114 Tryz.f115 Tryz.f90 Tryz.f71 Tryz.f46 Tryz.f72 Tryz.f95 Tryz.f99 Tryz.f73 Tryz.f47 Tryz.f23 Tryz.f22 Tryz.f7 Tryz.f25 Tryz.f9 Tryz.f3
attribute [local go_sem] tn1 tn2 tn3
theorem zkq (a0 : Int) (r : Bool) (h : zej a0 = some r) : CallP Tryz.prog 132 [.int .i64 a0] (.bool r) := by
 refine za5 Tryz.tmOk 2 Tryz.func132 rfl (by decide) rfl rfl (Nat.le_of_ble_eq_true rfl) ?_
 intro hwf
 unfold zej at h
 refine .seq ?_
 refine .pl zS [0] ?_
 refine .seq ?_
 refine .pl zS [0] ?_
 have hq := Option.some.inj h
 subst r
 exact .ret ⟨.inr rfl, rsi⟩
def Tryz.St_towncrierref01_Get_1 : St := ⟨[], [], 0⟩
attribute [local go_sem] Tryz.St_towncrierref01_Get_1
def Tryz.St_towncrierref01_Get_3 (a0 : List Int) (n3 : Nat) (n1 : Int) (n2 : Int) : St := ⟨[(0, .imm 1 (a0.map (D.int .u8)) 4), (5, .int .i64 n1), (6, .int .i64 n2), (7, .int .i64 (n3 : Int))], [], 0⟩
attribute [local go_sem] Tryz.St_towncrierref01_Get_3
theorem ze4 (a0 : List Int) (r : Int × Int × Int) (h : zce a0 = some r) : CallP Tryz.prog 126 [.imm 1 (a0.map (D.int .u8)) 4] (.tuple [.int .i64 r.1, .int .i64 r.2.1, .int .i64 r.2.2]) := by
 refine za5 Tryz.tmOk 2 Tryz.func126 rfl (by decide) rfl rfl (Nat.le_of_ble_eq_true rfl) ?_
 intro hwf
 unfold zce at h
 refine .seq ?_
 refine .pl zS [0] ?_
 refine .seq ?_
 refine .pl zS [0] ?_
 obtain ⟨x1, hx1, h⟩ := bind_some h
 refine .seqM 0 (fun (j : Unit) => Tryz.St_towncrierref01_Get_1) (fun j => x1 = (.inr j)) (Nat.le_of_ble_eq_true rfl) ?_ ?_
 ·refine .seq ?_
  refine .pl zS [0, 5, 6] ?_
  refine .block ?_
  refine .loopG 0 (fun (j : Nat × Int × Int) => Tryz.St_towncrierref01_Get_3 a0 j.1 j.2.1 j.2.2) (fun j => j.1 <= a0.length /\ zaj (a0.drop j.1) j.1 j.2.1 j.2.2 = some x1) (fun j => a0.length - j.1) (0, 0, 1) (Nat.le_of_ble_eq_true rfl) ?_ ⟨Nat.zero_le _, hx1⟩ ?_
  ·exact .m [0, 5, 6, 7] [] []
  rintro ⟨n3, n1, n2⟩ ⟨hi1, hx1⟩
  simp only [Tryz.St_towncrierref01_Get_3]
  simp only at hi1 hx1
  refine .wf 0 (.imm 1 (a0.map (D.int .u8)) 4) rfl ?_
  intro hln3
  replace hln3 : (a0.length : Int) <= 9223372036854775807 := by simp only [wf, wfL, IntKind.max, IntKind.min, IntKind.signed, IntKind.bits, List.length_map] at hln3; first | exact hln3.2 | exact hln3.1 | (simp at hln3; omega)
  refine .seq ?_
  refine .seq ?_
  refine .pl zS [0, 5, 6, 7] ?_
  refine .cond rfl rfl (fun hc1 => ?_) (fun hc1 => ?_)
  ·have h1 : n3 < a0.length := by have hq := hc1; simp at hq; omega
   have hwn3 : wr .i64 ((n3 : Int) + 1) = ((n3 + 1 : Nat) : Int) := zd5 h1 hln3
   have hpn3 : wr .i64 ((n3 : Int) - 1) = (n3 : Int) - 1 := zd6 h1 hln3
   rw [List.drop_eq_getElem_cons h1, zaj] at hx1
   replace hx1 := za0 hx1 hc1
   refine .skip ?_
   refine .seq ?_
   refine .block ?_
   refine .seq ?_
   have e1 := zby (D.int .u8) a0 n3 h1
   refine .rg zS [0, 5, 6, 7] ?_
   refine .rnx 6 (And.intro e1 hwn3) ?_
   refine .rnx 5 (And.intro e1 hwn3) ?_
   refine .nil ⟨nofun, ?_⟩
   refine .seq ?_
   refine .plx zS hwn3 [0, 5, 6, 7] ?_
   refine .seq ?_
   have e2 := zby (D.int .u8) a0 n3 h1
   refine .plx zS (And.intro e2 hwn3) [0, 5, 6, 7] ?_
   refine .cond rfl rfl (fun hc2 => ?_) (fun hc2 => ?_)
   ·replace hx1 := za0 hx1 hc2
    refine .seq ?_
    refine .seq ?_
    obtain ⟨v1, hv1, hx1⟩ := bind_some hx1
    have e3 := zby (D.int .u8) a0 n3 h1
    refine .rg zS [0, 5, 7] ?_
    refine .rnx 6 (And.intro e3 hwn3) ?_
    refine .rnx 5 (And.intro e3 hwn3) ?_
    refine .gcall (r := .bool v1) rfl rfl rfl rfl rfl (fun hg => ⟨[], [.int .i64 (wr .i64 (n1 + (wr .i64 ((wr .i64 ((a0[n3]).tmod 128)) * n2))))], _, rfl, gd hg, rfl, (zkq (wr .i64 (n1 + (wr .i64 ((wr .i64 ((a0[n3]).tmod 128)) * n2)))) v1 (za0 hv1 hg))⟩) ?_
    refine .rnx 2 (And.intro e3 hwn3) ?_
    refine .nil ⟨nofun, ?_⟩
    refine .cond rfl rfl (fun hc3 => ?_) (fun hc3 => ?_)
    ·replace hx1 := za0 hx1 hc3
     refine .seq ?_
     refine .plx zS hwn3 [] ?_
     have hq := Option.some.inj hx1
     subst x1
     try dsimp only at h
     have hq := Option.some.inj h
     subst r
     exact .ret ⟨.inr rfl, rsi⟩
    ·replace hx1 := za1 hx1 hc3
     refine .skip ?_
     refine .seq ?_
     refine .plx zS hwn3 [5, 7] ?_
     have hq := Option.some.inj hx1
     subst x1
     try dsimp only at h
     have hq := Option.some.inj h
     subst r
     rw [hwn3]
     exact .ret ⟨.inr rfl, rsi⟩
   ·replace hx1 := za1 hx1 hc2
    refine .skip ?_
    refine .plx zS hwn3 [0, 5, 6, 7] ?_
    refine ⟨(n3 + 1, _, _), ?_, ⟨by omega, hx1⟩, by dsimp only; omega⟩
    exact .m [0, 5, 6, 7] [] []
  ·by_cases h2 : n3 < a0.length
   ·rw [List.drop_eq_getElem_cons h2, zaj] at hx1
    replace hx1 := ite_r hx1 (by have hq := hc1; simp at hq ⊢; first | exact hq (by omega) | omega | grind)
    refine .exit ?_
    refine ⟨_, ?_, (Option.some.inj hx1).symm⟩
    exact .m [] [] []
   ·rw [List.drop_of_length_le (by omega), zaj] at hx1
    refine .exit ?_
    refine ⟨_, ?_, (Option.some.inj hx1).symm⟩
    exact .m [] [] []
 ·rintro ⟨⟩ hj1
  subst x1
  try dsimp only at h
  simp only [Tryz.St_towncrierref01_Get_1]
  refine .seq ?_
  refine .pl zS [] ?_
  have hq := Option.some.inj h
  subst r
  exact .ret ⟨.inr rfl, rsi⟩
theorem zfw (a0 : List Int) (r : (List UInt8) × Int × Int) (h : zcm a0 = some r) : CallP Tryz.prog 128 [.imm 1 (a0.map (D.int .u8)) 4] (.tuple [.str r.1, .int .i64 r.2.1, .int .i64 r.2.2]) := by
 refine za5 Tryz.tmOk 2 Tryz.func128 rfl (by decide) rfl rfl (Nat.le_of_ble_eq_true rfl) ?_
 intro hwf
 unfold zcm at h
 refine .seq ?_
 refine .pl zS [0] ?_
 refine .seq ?_
 obtain ⟨v1, hv1, h⟩ := bind_some h
 refine .rg zS [0] ?_
 refine .rn 1 ?_
 refine .call (r := .tuple [.int .i64 v1.1, .int .i64 v1.2.1, .int .i64 v1.2.2]) rfl rfl rfl rfl rfl rfl (ze4 a0 v1 hv1) ?_
 refine .rn 7 ?_
 refine .nil ⟨nofun, ?_⟩
 refine .seq ?_
 refine .seq ?_
 refine .rg zS [0, 5, 6, 7] ?_
 refine .rn 6 ?_
 refine .rn 8 ?_
 refine .nil ⟨nofun, ?_⟩
 refine .cond rfl rfl (fun hc1 => ?_) (fun hc1 => ?_)
 ·replace h := za0 h hc1
  refine .seq ?_
  refine .pl zS [] ?_
  have hq := Option.some.inj h
  subst r
  exact .ret ⟨.inr rfl, rsi⟩
 ·replace h := za1 h hc1
  refine .skip ?_
  refine .seq ?_
  obtain ⟨k1, h⟩ := zai h
  refine .rg zS [0, 5, 6] ?_
  refine .rn 6 ?_
  refine .rn 7 ?_
  refine .nil ⟨nofun, ?_⟩
  have hq := Option.some.inj h
  subst r
  exact .ret ⟨.inr rfl, rsi⟩
def Tryz.St_towncrierref01_GetInts_1 (n1 : Int) (l1 : List Int) : St := ⟨[(8, .int .i64 n1), (10, .ref 0 1 0 l1.length (some uC))], [(0, .arr 3 1 true (l1.map (D.int .i64)))], 1⟩
attribute [local go_sem] Tryz.St_towncrierref01_GetInts_1
def Tryz.St_towncrierref01_GetInts_3 (a0 : List Int) (v1 : Int × Int × Int) (n2 : Int) (l2 : List Int) (n3 : Int) : St := ⟨[(0, .imm 1 (a0.map (D.int .u8)) 4), (7, .int .i64 v1.1), (8, .int .i64 n2), (10, .ref 0 1 0 l2.length (some uC)), (11, .int .i64 n3)], [(0, .arr 3 1 true (l2.map (D.int .i64)))], 1⟩
attribute [local go_sem] Tryz.St_towncrierref01_GetInts_3
def Tryz.Re_towncrierref01_GetInts (r : (List Int) × Int × Int) : St := ⟨[(4, .ref 0 1 0 r.1.length (some uC)), (5, .int .i64 r.2.1), (6, .int .i64 r.2.2)], [(0, .arr 3 1 true (r.1.map (D.int .i64)))], 1⟩
attribute [local go_sem] Tryz.Re_towncrierref01_GetInts
theorem zi8 (a0 : List Int) (a1 : Int) (r : (List Int) × Int × Int) (h : zdc a0 a1 = some r) : CallH Tryz.prog 127 [.imm 1 (a0.map (D.int .u8)) 4, .int .i64 a1] [] (.tuple [.ref 0 1 0 r.1.length (some uC), .int .i64 r.2.1, .int .i64 r.2.2]) [(0, some (.arr 3 1 true (r.1.map (D.int .i64))))] (0, 5) := by
 refine za4 Tryz.tmOk Tryz.func127 rfl (by decide) (Nat.le_of_ble_eq_true rfl) (by simp) ?_
 intro hwf
 unfold zdc at h
 refine .ends 0 (Nat.le_refl _) ?_
 refine .seq ?_
 refine .pl zS [0, 1] ?_
 refine .seq ?_
 refine .seq ?_
 refine .pl zS [0, 1] ?_
 refine .cond rfl rfl (fun hc1 => ?_) (fun hc1 => ?_)
 ·replace h := za0 h hc1
  refine .seq ?_
  refine .pl zS [] ?_
  have hq := Option.some.inj h
  subst r
  refine .ret ⟨Tryz.Re_towncrierref01_GetInts ([], 0, 2), ?_, .inr rfl, retH [0] ?_ ?_⟩
  ·refine Goes.new0 1 3 (Nat.le_of_ble_eq_true rfl) ?_
   refine Goes.wk 4 _ (.ref 0 1 0 0 (some uC)) rfl (.own0 0 _ _ _ (by decide)) ?_
   exact .m [4, 5, 6] [0] []
  ·exact rsi0
  ·rfl
 ·replace h := za1 h hc1
  refine .skip ?_
  refine .seq ?_
  obtain ⟨v1, hv1, h⟩ := bind_some h
  refine .rg zS [0, 1] ?_
  refine .rn 1 ?_
  refine .call (r := .tuple [.int .i64 v1.1, .int .i64 v1.2.1, .int .i64 v1.2.2]) rfl rfl rfl rfl rfl rfl (ze4 a0 v1 hv1) ?_
  refine .rn 7 ?_
  refine .nil ⟨nofun, ?_⟩
  refine .seq ?_
  refine .seq ?_
  refine .pl zS [0, 1, 7, 8, 9] ?_
  refine .cond rfl rfl (fun hc2 => ?_) (fun hc2 => ?_)
  ·replace h := za0 h hc2
   refine .seq ?_
   refine .pl zS [] ?_
   have hq := Option.some.inj h
   subst r
   refine .ret ⟨Tryz.Re_towncrierref01_GetInts ([], 0, 8), ?_, .inr rfl, retH [0] ?_ ?_⟩
   ·refine Goes.new0 1 3 (Nat.le_of_ble_eq_true rfl) ?_
    refine Goes.wk 4 _ (.ref 0 1 0 0 (some uC)) rfl (.own0 0 _ _ _ (by decide)) ?_
    exact .m [4, 5, 6] [0] []
   ·exact rsi0
   ·rfl
  ·replace h := za1 h hc2
   refine .skip ?_
   refine .seq ?_
   refine .pl zS [0, 7, 8] ?_
   obtain ⟨x1, hx1, h⟩ := bind_some h
   refine .seqM 0 (fun (j : Int × (List Int)) => Tryz.St_towncrierref01_GetInts_1 j.1 j.2) (fun j => x1 = (.inr j)) (Nat.le_of_ble_eq_true rfl) ?_ ?_
   ·refine .seq ?_
    refine .pl zS [0, 7, 8, 10] ?_
    refine .block ?_
    refine .loopG 0 (fun (j : Nat × Int × (List Int) × Int) => Tryz.St_towncrierref01_GetInts_3 a0 v1 j.2.1 j.2.2.1 j.2.2.2) (fun j => zb9 a0 v1 j.1 j.2.1 j.2.2.1 j.2.2.2 = some x1) (fun j => j.1) (v1.1.toNat + 1, v1.2.1, [], 0) (Nat.le_of_ble_eq_true rfl) ?_ hx1 ?_
    ·refine Goes.new0 1 3 (Nat.le_of_ble_eq_true rfl) ?_
     refine Goes.wk 10 _ (.ref 0 1 0 0 (some uC)) rfl (.own0 0 _ _ _ (by decide)) ?_
     exact .m [0, 7, 8, 10, 11] [0] []
    rintro ⟨fu1, n2, l2, n3⟩ hx1
    simp only [Tryz.St_towncrierref01_GetInts_3]
    try simp only at hx1
    obtain ⟨fu1, rfl⟩ : ∃ k, fu1 = k + 1 := by cases fu1 with | zero => (rw [zb9] at hx1; cases hx1) | succ k => exact ⟨k, rfl⟩
    rw [zb9] at hx1
    refine .seq ?_
    refine .seq ?_
    refine .pl zS [0, 7, 8, 10, 11] ?_
    refine .cond rfl rfl (fun hc3 => ?_) (fun hc3 => ?_)
    ·replace hx1 := za0 hx1 hc3
     refine .skip ?_
     refine .seq ?_
     refine .block ?_
     refine .seq ?_
     obtain ⟨k1, hx1⟩ := zai hx1
     obtain ⟨v2, hv2, hx1⟩ := bind_some hx1
     refine .rg zS [0, 7, 8, 10, 11] ?_
     refine .rn 3 ?_
     refine .call (r := .tuple [.int .i64 v2.1, .int .i64 v2.2.1, .int .i64 v2.2.2]) rfl rfl rfl rfl rfl rfl (ze4 (a0.drop n2.toNat) v2 hv2) ?_
     refine .rn 7 ?_
     refine .nil ⟨nofun, ?_⟩
     refine .seq ?_
     refine .seq ?_
     refine .pl zS [0, 7, 8, 10, 11, 12, 13, 14] ?_
     refine .cond rfl rfl (fun hc4 => ?_) (fun hc4 => ?_)
     ·replace hx1 := za0 hx1 hc4
      refine .seq ?_
      refine .pl zS [] ?_
      have hq := Option.some.inj hx1
      subst x1
      try dsimp only at h
      have hq := Option.some.inj h
      subst r
      refine .ret ⟨Tryz.Re_towncrierref01_GetInts ([], 0, 8), ?_, .inr rfl, retH [0] ?_ ?_⟩
      ·refine Goes.new0 1 3 (Nat.le_of_ble_eq_true rfl) ?_
       refine Goes.wk 4 _ (.ref 1 1 0 0 (some uC)) rfl (.own0 1 _ _ _ (by decide)) ?_
       exact .m [4, 5, 6] [1] [(1, 0)]
      ·exact rsi0
      ·rfl
     ·replace hx1 := za1 hx1 hc4
      refine .skip ?_
      refine .seq ?_
      obtain ⟨k2, hx1⟩ := zai hx1
      refine .pl zS [0, 7, 8, 10, 11, 12, 13] ?_
      refine .pl zS [0, 7, 8, 10, 11, 13] ?_
      refine .pl zS [0, 7, 8, 10, 11] ?_
      refine ⟨(fu1, _, _, _), ?_, hx1, by dsimp only; omega⟩
      exact .m [0, 7, 8, 10, 11] [2] [(2, 0)]
    ·replace hx1 := za1 hx1 hc3
     refine .exit ?_
     refine ⟨_, ?_, (Option.some.inj hx1).symm⟩
     exact .m [8, 10] [0] []
   ·rintro ⟨n1, l1⟩ hj1
    subst x1
    try dsimp only at h
    simp only [Tryz.St_towncrierref01_GetInts_1]
    refine .seq ?_
    refine .pl zS [8, 10] ?_
    have hq := Option.some.inj h
    subst r
    refine .ret ⟨Tryz.Re_towncrierref01_GetInts (l1, n1, 0), ?_, .inr rfl, retH [0] ?_ ?_⟩
    ·exact .m [4, 5, 6] [0] []
    ·exact rsi0
    ·rfl
def Tryz.St_towncrierref01_SameTexts_1 : St := ⟨[], [], 0⟩
attribute [local go_sem] Tryz.St_towncrierref01_SameTexts_1
def Tryz.St_towncrierref01_SameTexts_3 (a : List (List UInt8)) (b : List (List UInt8)) (n1 : Nat) : St := ⟨[(0, .imm 1 (a.map D.str) 4), (1, .imm 1 (b.map D.str) 4), (5, .int .i64 (n1 : Int))], [], 0⟩
attribute [local go_sem] Tryz.St_towncrierref01_SameTexts_3
theorem zhr (a : List (List UInt8)) (b : List (List UInt8)) (r : Bool) (h : zcu a b = some r) : CallP Tryz.prog 13 [.imm 1 (a.map D.str) 4, .imm 1 (b.map D.str) 4] (.bool r) := by
 refine za5 Tryz.tmOk 2 Tryz.func13 rfl (by decide) rfl rfl (Nat.le_of_ble_eq_true rfl) ?_
 intro hwf
 unfold zcu at h
 refine .seq ?_
 refine .pl zS [0, 1] ?_
 refine .seq ?_
 refine .seq ?_
 refine .pl zS [0, 1] ?_
 refine .cond rfl rfl (fun hc1 => ?_) (fun hc1 => ?_)
 ·replace h := za0 h hc1
  refine .seq ?_
  refine .pl zS [] ?_
  have hq := Option.some.inj h
  subst r
  exact .ret ⟨.inr rfl, rsi⟩
 ·replace h := za1 h hc1
  refine .skip ?_
  obtain ⟨x1, hx1, h⟩ := bind_some h
  refine .seqM 0 (fun (j : Unit) => Tryz.St_towncrierref01_SameTexts_1) (fun j => x1 = (.inr j)) (Nat.le_of_ble_eq_true rfl) ?_ ?_
  ·refine .seq ?_
   refine .pl zS [0, 1] ?_
   refine .block ?_
   refine .loopG 0 (fun (j : Nat) => Tryz.St_towncrierref01_SameTexts_3 a b j) (fun j => j <= a.length /\ zax b (a.drop j) j  = some x1) (fun j => a.length - j) (0) (Nat.le_of_ble_eq_true rfl) ?_ ⟨Nat.zero_le _, hx1⟩ ?_
   ·exact .m [0, 1, 5] [] []
   rintro n1 ⟨hi1, hx1⟩
   simp only [Tryz.St_towncrierref01_SameTexts_3]
   refine .wf 0 (.imm 1 (a.map D.str) 4) rfl ?_
   intro hln1
   replace hln1 : (a.length : Int) <= 9223372036854775807 := by simp only [wf, wfL, IntKind.max, IntKind.min, IntKind.signed, IntKind.bits, List.length_map] at hln1; first | exact hln1.2 | exact hln1.1 | (simp at hln1; omega)
   refine .seq ?_
   refine .seq ?_
   refine .pl zS [0, 1, 5] ?_
   refine .cond rfl rfl (fun hc2 => ?_) (fun hc2 => ?_)
   ·have h1 : n1 < a.length := by simpa using hc2
    have hwn1 : wr .i64 ((n1 : Int) + 1) = ((n1 + 1 : Nat) : Int) := zd5 h1 hln1
    have hpn1 : wr .i64 ((n1 : Int) - 1) = (n1 : Int) - 1 := zd6 h1 hln1
    rw [List.drop_eq_getElem_cons h1, zax] at hx1
    refine .skip ?_
    refine .seq ?_
    refine .block ?_
    refine .seq ?_
    obtain ⟨k1, hx1⟩ := zai hx1
    have e1 := zby D.str a n1 h1
    have e2 := zcr D.str b n1
    replace e2 := e2 k1
    refine .rg zS [0, 1, 5] ?_
    refine .rdx 6 (And.intro e1 (And.intro e2 hwn1)) ?_
    refine .rdx 3 (And.intro e1 (And.intro e2 hwn1)) ?_
    refine .nil ⟨fun _ => zab (by kernel_rfl), ?_⟩
    refine .cond rfl rfl (fun hc3 => ?_) (fun hc3 => ?_)
    ·replace hx1 := za0 hx1 hc3
     refine .seq ?_
     refine .plx zS hwn1 [] ?_
     have hq := Option.some.inj hx1
     subst x1
     try dsimp only at h
     have hq := Option.some.inj h
     subst r
     exact .ret ⟨.inr rfl, rsi⟩
    ·replace hx1 := za1 hx1 hc3
     refine .skip ?_
     refine .plx zS hwn1 [0, 1, 5] ?_
     refine ⟨n1 + 1, ?_, ⟨by omega, hx1⟩, by dsimp only; omega⟩
     exact .m [0, 1, 5] [] []
   ·have h2 : n1 = a.length := by have h2b := of_decide_eq_false hc2; omega
    rw [List.drop_of_length_le (by omega), zax] at hx1
    refine .exit ?_
    refine ⟨_, ?_, (Option.some.inj hx1).symm⟩
    exact .m [] [] []
  ·rintro ⟨⟩ hj1
   subst x1
   try dsimp only at h
   simp only [Tryz.St_towncrierref01_SameTexts_1]
   refine .seq ?_
   refine .pl zS [] ?_
   have hq := Option.some.inj h
   subst r
   exact .ret ⟨.inr rfl, rsi⟩
def Tryz.St_towncrierref12_Numbers_1 (l1 : List Int) (l2 : List Int) : St := ⟨[(0, .imm 1 (l1.map (D.int .u8)) 4), (7, .ref 0 1 0 l2.length (some uC))], [(0, .arr 3 1 true (l2.map (D.int .i64)))], 1⟩
attribute [local go_sem] Tryz.St_towncrierref12_Numbers_1
def Tryz.St_towncrierref12_Numbers_3 (a1 : Int) (l3 : List Int) (l4 : List Int) (n1 : Int) : St := ⟨[(0, .imm 1 (l3.map (D.int .u8)) 4), (1, .int .i64 a1), (7, .ref 0 1 0 l4.length (some uC)), (8, .int .i64 n1)], [(0, .arr 3 1 true (l4.map (D.int .i64)))], 1⟩
attribute [local go_sem] Tryz.St_towncrierref12_Numbers_3
def Tryz.Re_towncrierref12_Numbers (r : (List Int) × (List Int) × Bool) : St := ⟨[(4, .ref 0 1 0 r.1.length (some uC)), (5, .imm 1 (r.2.1.map (D.int .u8)) 4), (6, .bool r.2.2)], [(0, .arr 3 1 true (r.1.map (D.int .i64)))], 1⟩
attribute [local go_sem] Tryz.Re_towncrierref12_Numbers
theorem zc0 (a0 : List Int) (a1 : Int) (r : (List Int) × (List Int) × Bool) (h : zad a0 a1 = some r) : CallH Tryz.prog 113 [.imm 1 (a0.map (D.int .u8)) 4, .int .i64 a1] [] (.tuple [.ref 0 1 0 r.1.length (some uC), .imm 1 (r.2.1.map (D.int .u8)) 4, .bool r.2.2]) [(0, some (.arr 3 1 true (r.1.map (D.int .i64))))] (0, 5) := by
 refine za4 Tryz.tmOk Tryz.func113 rfl (by decide) (Nat.le_of_ble_eq_true rfl) (by simp) ?_
 intro hwf
 unfold zad at h
 refine .ends 0 (Nat.le_refl _) ?_
 refine .seq ?_
 refine .pl zS [0, 1] ?_
 refine .seq ?_
 refine .pl zS [0, 1] ?_
 obtain ⟨x1, hx1, h⟩ := bind_some h
 refine .seqM 0 (fun (j : (List Int) × (List Int)) => Tryz.St_towncrierref12_Numbers_1 j.1 j.2) (fun j => x1 = (.inr j)) (Nat.le_of_ble_eq_true rfl) ?_ ?_
 ·refine .seq ?_
  refine .pl zS [0, 1, 7] ?_
  refine .block ?_
  refine .loopG 0 (fun (j : Nat × (List Int) × (List Int) × Int) => Tryz.St_towncrierref12_Numbers_3 a1 j.2.1 j.2.2.1 j.2.2.2) (fun j => zau a1 j.1 j.2.1 j.2.2.1 j.2.2.2 = some x1) (fun j => j.1) (a1.toNat + 1, a0, [], 0) (Nat.le_of_ble_eq_true rfl) ?_ hx1 ?_
  ·refine Goes.new0 1 3 (Nat.le_of_ble_eq_true rfl) ?_
   refine Goes.wk 7 _ (.ref 0 1 0 0 (some uC)) rfl (.own0 0 _ _ _ (by decide)) ?_
   exact .m [0, 1, 7, 8] [0] []
  rintro ⟨fu1, l3, l4, n1⟩ hx1
  simp only [Tryz.St_towncrierref12_Numbers_3]
  try simp only at hx1
  obtain ⟨fu1, rfl⟩ : ∃ k, fu1 = k + 1 := by cases fu1 with | zero => (rw [zau] at hx1; cases hx1) | succ k => exact ⟨k, rfl⟩
  rw [zau] at hx1
  refine .seq ?_
  refine .seq ?_
  refine .pl zS [0, 1, 7, 8] ?_
  refine .cond rfl rfl (fun hc1 => ?_) (fun hc1 => ?_)
  ·replace hx1 := za0 hx1 hc1
   refine .skip ?_
   refine .seq ?_
   refine .block ?_
   refine .seq ?_
   obtain ⟨v1, hv1, hx1⟩ := bind_some hx1
   refine .rg zS [0, 1, 7, 8] ?_
   refine .rn 1 ?_
   refine .call (r := .tuple [.int .i64 v1.1, .int .i64 v1.2.1, .int .i64 v1.2.2]) rfl rfl rfl rfl rfl rfl (ze4 l3 v1 hv1) ?_
   refine .rn 7 ?_
   refine .nil ⟨nofun, ?_⟩
   refine .seq ?_
   refine .seq ?_
   refine .pl zS [0, 1, 7, 8, 9, 10, 11] ?_
   refine .cond rfl rfl (fun hc2 => ?_) (fun hc2 => ?_)
   ·replace hx1 := za0 hx1 hc2
    refine .seq ?_
    refine .pl zS [] ?_
    have hq := Option.some.inj hx1
    subst x1
    try dsimp only at h
    have hq := Option.some.inj h
    subst r
    refine .ret ⟨Tryz.Re_towncrierref12_Numbers ([], [], false), ?_, .inr rfl, retH [0] ?_ ?_⟩
    ·refine Goes.new0 1 3 (Nat.le_of_ble_eq_true rfl) ?_
     refine Goes.wk 4 _ (.ref 1 1 0 0 (some uC)) rfl (.own0 1 _ _ _ (by decide)) ?_
     refine Goes.wk 5 _ (.imm 1 [] 4) rfl (.nil4 _ _ 0 rfl) ?_
     exact .m [4, 5, 6] [1] [(1, 0)]
    ·exact rsi0
    ·rfl
   ·replace hx1 := za1 hx1 hc2
    refine .skip ?_
    refine .seq ?_
    obtain ⟨k1, hx1⟩ := zai hx1
    refine .pl zS [0, 1, 7, 8, 9, 10] ?_
    obtain ⟨k2, hx1⟩ := zai hx1
    refine .pl zS [0, 1, 7, 8, 10] ?_
    refine .pl zS [0, 1, 7, 8] ?_
    refine ⟨(fu1, _, _, _), ?_, hx1, by dsimp only; omega⟩
    exact .m [0, 1, 7, 8] [2] [(2, 0)]
  ·replace hx1 := za1 hx1 hc1
   refine .exit ?_
   refine ⟨_, ?_, (Option.some.inj hx1).symm⟩
   exact .m [0, 7] [0] []
 ·rintro ⟨l1, l2⟩ hj1
  subst x1
  try dsimp only at h
  simp only [Tryz.St_towncrierref12_Numbers_1]
  refine .seq ?_
  refine .pl zS [0, 7] ?_
  have hq := Option.some.inj h
  subst r
  refine .ret ⟨Tryz.Re_towncrierref12_Numbers (l2, l1, true), ?_, .inr rfl, retH [0] ?_ ?_⟩
  ·exact .m [4, 5, 6] [0] []
  ·exact rsi0
  ·rfl
def Tryz.Re_towncrierref12_List (r : (List Int) × (List Int) × Bool) : St := ⟨[(4, .ref 0 1 0 r.1.length (some uC)), (5, .imm 1 (r.2.1.map (D.int .u8)) 4), (6, .bool r.2.2)], [(0, .arr 3 1 true (r.1.map (D.int .i64)))], 1⟩
attribute [local go_sem] Tryz.Re_towncrierref12_List
theorem zgj (a0 : List Int) (a1 : Int) (r : (List Int) × (List Int) × Bool) (h : zdb a0 a1 = some r) : CallH Tryz.prog 114 [.imm 1 (a0.map (D.int .u8)) 4, .int .i64 a1] [] (.tuple [.ref 0 1 0 r.1.length (some uC), .imm 1 (r.2.1.map (D.int .u8)) 4, .bool r.2.2]) [(0, some (.arr 3 1 true (r.1.map (D.int .i64))))] (0, 13) := by
 refine za4 Tryz.tmOk Tryz.func114 rfl (by decide) (Nat.le_of_ble_eq_true rfl) (by simp) ?_
 intro hwf
 unfold zdb at h
 refine .ends 0 (Nat.le_refl _) ?_
 refine .seq ?_
 refine .pl zS [0, 1] ?_
 refine .seq ?_
 obtain ⟨v1, hv1, h⟩ := bind_some h
 refine .rg zS [0, 1] ?_
 refine .rn 2 ?_
 refine .ncall (r := .tuple [.ref 5 1 0 v1.1.length (some uC), .int .i64 v1.2.1, .int .i64 v1.2.2]) (eff := [(5, some (.arr 3 1 true (v1.1.map (D.int .i64))))]) (nw := (5, 10)) [] rfl rfl rfl rfl rfl (za6 rfl (za6 rfl zas)) rfl (zdi 5 (Nat.le_of_ble_eq_true rfl) (zi8 a0 a1 v1 hv1)) (zdo rfl rfl (zgm zjf _ _ _) zh0) (by intro i hi; simp [D.ids, D.idsL] at hi <;> omega) rfl ⟨Nat.le_of_ble_eq_true rfl, Nat.le_of_ble_eq_true rfl⟩ ?_
 refine .rn 7 ?_
 refine .nil ⟨nofun, ?_⟩
 refine .seq ?_
 refine .seq ?_
 refine .pl zS [0, 7, 8, 9] ?_
 refine .cond rfl rfl (fun hc1 => ?_) (fun hc1 => ?_)
 ·replace h := za0 h hc1
  refine .seq ?_
  refine .pl zS [] ?_
  have hq := Option.some.inj h
  subst r
  refine .ret ⟨Tryz.Re_towncrierref12_List ([], [], false), ?_, .inr rfl, retH [0] ?_ ?_⟩
  ·refine Goes.new0 1 3 (Nat.le_of_ble_eq_true rfl) ?_
   refine Goes.wk 4 _ (.ref 10 1 0 0 (some uC)) rfl (.own0 10 _ _ _ (by decide)) ?_
   refine Goes.wk 5 _ (.imm 1 [] 4) rfl (.nil4 _ _ 0 rfl) ?_
   exact .m [4, 5, 6] [10] [(10, 0)]
  ·exact rsi0
  ·rfl
 ·replace h := za1 h hc1
  refine .skip ?_
  refine .seq ?_
  obtain ⟨k1, h⟩ := zai h
  refine .dr zS [0, 7, 8] ?_
  have hq := Option.some.inj h
  subst r
  refine .ret ⟨Tryz.Re_towncrierref12_List (v1.1, (a0.drop v1.2.1.toNat), true), ?_, .inr rfl, retH [0] ?_ ?_⟩
  ·exact .m [4, 5, 6] [5] [(5, 0)]
  ·exact rsi0
  ·rfl
def Tryz.Re_towncrierref12_Texts (r : (List UInt8) × (List UInt8) × (List Int) × Bool) : St := ⟨[(2, .str r.1), (3, .str r.2.1), (4, .imm 1 (r.2.2.1.map (D.int .u8)) 4), (5, .bool r.2.2.2)], [], 0⟩
attribute [local go_sem] Tryz.Re_towncrierref12_Texts
theorem zj6 (a0 : List Int) (r : (List UInt8) × (List UInt8) × (List Int) × Bool) (h : zdt a0 = some r) : CallH Tryz.prog 115 [.imm 1 (a0.map (D.int .u8)) 4] [] (.tuple [.str r.1, .str r.2.1, .imm 1 (r.2.2.1.map (D.int .u8)) 4, .bool r.2.2.2]) [] (0, 2) := by
 refine za4 Tryz.tmOk Tryz.func115 rfl (by decide) (Nat.le_of_ble_eq_true rfl) (by simp) ?_
 intro hwf
 unfold zdt at h
 refine .ends 0 (Nat.le_refl _) ?_
 refine .seq ?_
 refine .pl zS [0] ?_
 refine .seq ?_
 obtain ⟨v1, hv1, h⟩ := bind_some h
 refine .rg zS [0] ?_
 refine .rn 1 ?_
 refine .call (r := .tuple [.str v1.1, .int .i64 v1.2.1, .int .i64 v1.2.2]) rfl rfl rfl rfl rfl rfl (zfw a0 v1 hv1) ?_
 refine .rn 7 ?_
 refine .nil ⟨nofun, ?_⟩
 refine .seq ?_
 refine .seq ?_
 refine .pl zS [0, 6, 7, 8] ?_
 refine .cond rfl rfl (fun hc1 => ?_) (fun hc1 => ?_)
 ·replace h := za0 h hc1
  refine .seq ?_
  refine .pl zS [] ?_
  have hq := Option.some.inj h
  subst r
  refine .ret ⟨Tryz.Re_towncrierref12_Texts ([], [], [], false), ?_, .inr rfl, retH [] ?_ ?_⟩
  ·refine Goes.wk 4 _ (.imm 1 [] 4) rfl (.nil4 _ _ 0 rfl) ?_
   exact .m [2, 3, 4, 5] [] []
  ·exact rsi0
  ·rfl
 ·replace h := za1 h hc1
  refine .skip ?_
  refine .seq ?_
  obtain ⟨k1, h⟩ := zai h
  obtain ⟨v2, hv2, h⟩ := bind_some h
  refine .rg zS [0, 6, 7] ?_
  refine .rn 3 ?_
  refine .call (r := .tuple [.str v2.1, .int .i64 v2.2.1, .int .i64 v2.2.2]) rfl rfl rfl rfl rfl rfl (zfw (a0.drop v1.2.1.toNat) v2 hv2) ?_
  refine .rn 7 ?_
  refine .nil ⟨nofun, ?_⟩
  refine .seq ?_
  refine .seq ?_
  refine .pl zS [0, 6, 7, 9, 10, 11] ?_
  refine .cond rfl rfl (fun hc2 => ?_) (fun hc2 => ?_)
  ·replace h := za0 h hc2
   refine .seq ?_
   refine .pl zS [] ?_
   have hq := Option.some.inj h
   subst r
   refine .ret ⟨Tryz.Re_towncrierref12_Texts ([], [], [], false), ?_, .inr rfl, retH [] ?_ ?_⟩
   ·refine Goes.wk 4 _ (.imm 1 [] 4) rfl (.nil4 _ _ 0 rfl) ?_
    exact .m [2, 3, 4, 5] [] []
   ·exact rsi0
   ·rfl
  ·replace h := za1 h hc2
   refine .skip ?_
   refine .seq ?_
   obtain ⟨k2, h⟩ := zai h
   refine .rg zS [0, 6, 7, 9, 10] ?_
   refine .rd 6 ?_
   refine .rd 5 ?_
   refine .nil ⟨fun _ => zab (by kernel_rfl), ?_⟩
   have hq := Option.some.inj h
   subst r
   refine .ret ⟨Tryz.Re_towncrierref12_Texts (v1.1, v2.1, (a0.drop (wr .i64 (v1.2.1 + v2.2.1)).toNat), true), ?_, .inr rfl, retH [] ?_ ?_⟩
   ·exact .m [2, 3, 4, 5] [] []
   ·exact rsi0
   ·rfl
def Tryz.St_towncrierref12_parse_1 (v1 : (List Int) × (List Int) × Bool) (l1 : List Int) (b1 : Bool) (n1 : Int) (l2 : List Int) (n2 : Int) (s1 : List UInt8) (s2 : List UInt8) (n3 : Int) (n4 : Int) (l3 : List Int) (n5 : Int) (n6 : Int) (n7 : Int) : St := ⟨[(2, .ptr 0 0), (6, .imm 1 (l1.map (D.int .u8)) 4), (7, .bool b1), (8, .ptr 10 0)], [(0, .box [.int .u8 0, .int .i64 0, .imm 0 [] 0, .int .i64 0, .str [], .str [], .int .i64 0, .int .i64 0, .imm 0 [] 0, .int .i64 0, .int .i64 0, .int .i64 0]), (10, .box [.int .u8 (wr .u8 (v1.1.getD 0 default)), .int .i64 n1, .ref 11 1 0 l2.length (some uC), .int .i64 n2, .str s1, .str s2, .int .i64 n3, .int .i64 n4, .ref 12 1 0 l3.length (some uC), .int .i64 n5, .int .i64 n6, .int .i64 n7]), (11, .arr 3 1 true (l2.map (D.int .i64))), (12, .arr 3 1 true (l3.map (D.int .i64)))], 13⟩
attribute [local go_sem] Tryz.St_towncrierref12_parse_1
def Tryz.St_towncrierref12_parse_3 (v1 : (List Int) × (List Int) × Bool) (b2 : Bool) : St := ⟨[(2, .ptr 0 0), (6, .imm 1 (v1.2.1.map (D.int .u8)) 4), (7, .bool v1.2.2), (8, .ptr 10 0), (135, .bool b2)], [(0, .box [.int .u8 0, .int .i64 0, .imm 0 [] 0, .int .i64 0, .str [], .str [], .int .i64 0, .int .i64 0, .imm 0 [] 0, .int .i64 0, .int .i64 0, .int .i64 0]), (10, .box [.int .u8 (wr .u8 (v1.1.getD 0 default)), .int .i64 0, .imm 0 [] 0, .int .i64 0, .str [], .str [], .int .i64 0, .int .i64 0, .imm 0 [] 0, .int .i64 0, .int .i64 0, .int .i64 0])], 11⟩
attribute [local go_sem] Tryz.St_towncrierref12_parse_3
def Tryz.Re_towncrierref12_parse (r : TCommand × (List Int) × Bool) : St := ⟨[(2, .ptr 2 0), (3, .imm 1 (r.2.1.map (D.int .u8)) 4), (4, .bool r.2.2)], [(0, .arr 3 1 true (r.1.Message.Groups.map (D.int .i64))), (1, .arr 3 1 true (r.1.Members.map (D.int .i64))), (2, .box [.int .u8 r.1.Kind, .int .i64 r.1.Message.Id, .ref 0 1 0 r.1.Message.Groups.length (some uC), .int .i64 r.1.Message.Topic, .str r.1.Message.Key, .str r.1.Message.Body, .int .i64 r.1.Id, .int .i64 r.1.Time, .ref 1 1 0 r.1.Members.length (some uC), .int .i64 r.1.Topic, .int .i64 r.1.Who, .int .i64 r.1.N])], 3⟩
attribute [local go_sem] Tryz.Re_towncrierref12_parse
theorem zj5 (a0 : List Int) (r : TCommand × (List Int) × Bool) (h : zd2 a0 = some r) : CallH Tryz.prog 90 [.imm 1 (a0.map (D.int .u8)) 4] [] (.tuple [.agg [.int .u8 r.1.Kind, .int .i64 r.1.Message.Id, .ref 0 1 0 r.1.Message.Groups.length (some uC), .int .i64 r.1.Message.Topic, .str r.1.Message.Key, .str r.1.Message.Body, .int .i64 r.1.Id, .int .i64 r.1.Time, .ref 1 1 0 r.1.Members.length (some uC), .int .i64 r.1.Topic, .int .i64 r.1.Who, .int .i64 r.1.N], .imm 1 (r.2.1.map (D.int .u8)) 4, .bool r.2.2]) [(0, some (.arr 3 1 true (r.1.Message.Groups.map (D.int .i64)))), (1, some (.arr 3 1 true (r.1.Members.map (D.int .i64))))] (0, 39) := by
 refine za4 Tryz.tmOk Tryz.func90 rfl (by decide) (Nat.le_of_ble_eq_true rfl) (by simp) ?_
 intro hwf
 unfold zd2 at h
 refine .ends 0 (Nat.le_refl _) ?_
 refine .seq ?_
 refine .pl zS [0] ?_
 refine .seq ?_
 obtain ⟨v1, hv1, h⟩ := bind_some h
 refine .rg zS [0, 2] ?_
 refine .rn 1 ?_
 refine .hcall (H := []) (eff := [(5, some (.arr 3 1 true (v1.1.map (D.int .i64))))]) (nw := (5, 10)) (r := .tuple [.ref 5 1 0 v1.1.length (some uC), .imm 1 (v1.2.1.map (D.int .u8)) 4, .bool v1.2.2]) rfl rfl rfl rfl rfl (zdi 5 (Nat.le_of_ble_eq_true rfl) (zc0 a0 1 v1 hv1)) (fun id b h => zae [] _ id b h) (by simp) (.inr ⟨Nat.le_of_ble_eq_true rfl, Nat.le_of_ble_eq_true rfl⟩) ?_
 refine .rn 7 ?_
 refine .nil ⟨nofun, ?_⟩
 refine .seq ?_
 obtain ⟨k1, h⟩ := zai h
 refine .seqM 10 (fun (_ : Unit) => ⟨[(2, .ptr 0 0), (5, .ref 5 1 0 v1.1.length (some uC)), (6, .imm 1 (v1.2.1.map (D.int .u8)) 4), (7, .bool v1.2.2), (23, .bool ((!v1.2.2) || (decide ((v1.1.getD 0 default) > 6))))], [(0, .box [.int .u8 0, .int .i64 0, .imm 0 [] 0, .int .i64 0, .str [], .str [], .int .i64 0, .int .i64 0, .imm 0 [] 0, .int .i64 0, .int .i64 0, .int .i64 0]), (5, .arr 3 1 true (v1.1.map (D.int .i64)))], 10⟩) (fun _ => True) (Nat.le_of_ble_eq_true rfl) ?_ (fun _ _ => ?_)
 ·by_cases hgd : ¬ (¬ (v1.2.2 = true))
  ·have eg10 := zcr (D.int .i64) v1.1 0 (k1 hgd)
   have hk := k1 hgd
   have hb : v1.2.2 = true := by simpa using hgd
   refine .plx zS eg10 [2, 5, 6, 7] (hv := by simp [hk, hb, oneD]) ?_
   refine ⟨(), ?_, trivial⟩
   exact .m [2, 5, 6, 7, 23] [0, 5] []
  ·have hgf1 : (!(!v1.2.2)) = false := by first | simpa using hgd | (simp at hgd ⊢; omega) | grind
   have hgf1t : (!v1.2.2) = true := by first | simpa using hgf1 | grind
   rcases zlx (D.int .i64) v1.1 0 with eg10 | eg10
   ·refine .plx zS (And.intro eg10 (And.intro hgf1 hgf1t)) [2, 5, 6, 7] ?_
    refine ⟨(), ?_, trivial⟩
    exact .mx (And.intro hgf1 hgf1t) [2, 5, 6, 7, 23] [0, 5] []
   ·refine .plx zS (And.intro eg10 (And.intro hgf1 hgf1t)) [2, 5, 6, 7] ?_
    refine ⟨(), ?_, trivial⟩
    exact .mx (And.intro hgf1 hgf1t) [2, 5, 6, 7, 23] [0, 5] []
 refine .cond rfl rfl (fun hc1 => ?_) (fun hc1 => ?_)
 ·replace h := za0 h hc1
  refine .seq ?_
  refine .pl zS [2] ?_
  have hq := Option.some.inj h
  subst r
  refine .ret ⟨Tryz.Re_towncrierref12_parse ((⟨0, (⟨0, [], 0, [], []⟩ : TMessage), 0, 0, [], 0, 0, 0⟩ : TCommand), [], false), ?_, .inr rfl, retH [1, 0] ?_ ?_⟩
  ·refine Goes.new0 1 3 (Nat.le_of_ble_eq_true rfl) ?_
   refine Goes.new0 1 3 (Nat.le_of_ble_eq_true rfl) ?_
   refine Goes.boxs 0 _ [.int .u8 0, .int .i64 0, .ref 10 1 0 0 (some uC), .int .i64 0, .str [], .str [], .int .i64 0, .int .i64 0, .ref 11 1 0 0 (some uC), .int .i64 0, .int .i64 0, .int .i64 0] rfl (.keep (.keep (.cons (.own0 10 _ _ _ (by decide)) (.keep (.keep (.keep (.keep (.keep (.cons (.own0 11 _ _ _ (by decide)) (.refl _)))))))))) ?_
   refine Goes.wk 3 _ (.imm 1 [] 4) rfl (.nil4 _ _ 0 rfl) ?_
   exact .m [2, 3, 4] [10, 11, 0] [(10, 0), (11, 1), (0, 2)]
  ·exact rsi0
  ·rfl
 ·replace h := za1 h hc1
  refine .skip ?_
  refine .seq ?_
  obtain ⟨k2, h⟩ := zai h
  have e1 := zcr (D.int .i64) v1.1 0 k2
  refine .plx zS e1 [2, 5, 6, 7] ?_
  refine .seq ?_
  refine .pl zS [2, 6, 7, 8] ?_
  obtain ⟨x1, hx1, h⟩ := bind_some h
  refine .seqM 11 (fun (j : (List Int) × Bool × Int × (List Int) × Int × (List UInt8) × (List UInt8) × Int × Int × (List Int) × Int × Int × Int) => Tryz.St_towncrierref12_parse_1 v1 j.1 j.2.1 j.2.2.1 j.2.2.2.1 j.2.2.2.2.1 j.2.2.2.2.2.1 j.2.2.2.2.2.2.1 j.2.2.2.2.2.2.2.1 j.2.2.2.2.2.2.2.2.1 j.2.2.2.2.2.2.2.2.2.1 j.2.2.2.2.2.2.2.2.2.2.1 j.2.2.2.2.2.2.2.2.2.2.2.1 j.2.2.2.2.2.2.2.2.2.2.2.2) (fun j => x1 = (.inr j)) (Nat.le_of_ble_eq_true rfl) ?_ ?_
  ·refine .seq ?_
   refine .pl zS [2, 6, 7, 8] ?_
   refine .block ?_
   refine .seq ?_
   refine .pl zS [2, 6, 7, 8, 31] ?_
   refine .cond rfl rfl (fun hc2 => ?_) (fun hc2 => ?_)
   ·replace hx1 := za0 hx1 hc2
    refine .seq ?_
    obtain ⟨v2, hv2, hx1⟩ := bind_some hx1
    refine .rg zS [2, 6, 8] ?_
    refine .rn 1 ?_
    refine .hcall (H := []) (eff := [(11, some (.arr 3 1 true (v2.1.map (D.int .i64))))]) (nw := (11, 16)) (r := .tuple [.ref 11 1 0 v2.1.length (some uC), .imm 1 (v2.2.1.map (D.int .u8)) 4, .bool v2.2.2]) rfl rfl rfl rfl rfl (zdi 11 (Nat.le_of_ble_eq_true rfl) (zc0 v1.2.1 1 v2 hv2)) (fun id b h => zae [] _ id b h) (by simp) (.inr ⟨Nat.le_of_ble_eq_true rfl, Nat.le_of_ble_eq_true rfl⟩) ?_
    refine .rn 7 ?_
    refine .nil ⟨nofun, ?_⟩
    refine .seq ?_
    refine .seq ?_
    refine .pl zS [2, 6, 7, 8, 9] ?_
    refine .cond rfl rfl (fun hc3 => ?_) (fun hc3 => ?_)
    ·replace hx1 := za0 hx1 hc3
     refine .seq ?_
     refine .pl zS [2, 8] ?_
     have hq := Option.some.inj hx1
     subst x1
     try dsimp only at h
     have hq := Option.some.inj h
     subst r
     refine .ret ⟨Tryz.Re_towncrierref12_parse ((⟨(wr .u8 (v1.1.getD 0 default)), (⟨0, [], 0, [], []⟩ : TMessage), 0, 0, [], 0, 0, 0⟩ : TCommand), [], false), ?_, .inr rfl, retH [1, 0] ?_ ?_⟩
     ·refine Goes.new0 1 3 (Nat.le_of_ble_eq_true rfl) ?_
      refine Goes.new0 1 3 (Nat.le_of_ble_eq_true rfl) ?_
      refine Goes.boxs 0 _ [.int .u8 (wr .u8 (v1.1.getD 0 default)), .int .i64 0, .ref 16 1 0 0 (some uC), .int .i64 0, .str [], .str [], .int .i64 0, .int .i64 0, .ref 17 1 0 0 (some uC), .int .i64 0, .int .i64 0, .int .i64 0] rfl (.keep (.keep (.cons (.own0 16 _ _ _ (by decide)) (.keep (.keep (.keep (.keep (.keep (.cons (.own0 17 _ _ _ (by decide)) (.refl _)))))))))) ?_
      refine Goes.wk 3 _ (.imm 1 [] 4) rfl (.nil4 _ _ 0 rfl) ?_
      exact .m [2, 3, 4] [16, 17, 0] [(16, 0), (17, 1), (0, 2)]
     ·exact rsi0
     ·rfl
    ·replace hx1 := za1 hx1 hc3
     refine .skip ?_
     refine .seq ?_
     obtain ⟨k3, hx1⟩ := zai hx1
     have e2 := zcr (D.int .i64) v2.1 0 k3
     refine .plx zS e2 [2, 6, 8, 9] ?_
     refine .seq ?_
     obtain ⟨v3, hv3, hx1⟩ := bind_some hx1
     refine .rg zS [2, 6, 8] ?_
     refine .rn 1 ?_
     refine .hcall (H := []) (eff := [(16, some (.arr 3 1 true (v3.1.map (D.int .i64))))]) (nw := (16, 29)) (r := .tuple [.ref 16 1 0 v3.1.length (some uC), .imm 1 (v3.2.1.map (D.int .u8)) 4, .bool v3.2.2]) rfl rfl rfl rfl rfl (zdi 16 (Nat.le_of_ble_eq_true rfl) (zgj v2.2.1 4 v3 hv3)) (fun id b h => zae [] _ id b h) (by simp) (.inr ⟨Nat.le_of_ble_eq_true rfl, Nat.le_of_ble_eq_true rfl⟩) ?_
     refine .rn 6 ?_
     refine .rn 3 ?_
     refine .nil ⟨nofun, ?_⟩
     refine .seq ?_
     refine .seq ?_
     refine .pl zS [2, 6, 7, 8] ?_
     refine .cond rfl rfl (fun hc4 => ?_) (fun hc4 => ?_)
     ·replace hx1 := za0 hx1 hc4
      refine .seq ?_
      refine .pl zS [2, 8] ?_
      have hq := Option.some.inj hx1
      subst x1
      try dsimp only at h
      have hq := Option.some.inj h
      subst r
      refine .ret ⟨Tryz.Re_towncrierref12_parse ((⟨(wr .u8 (v1.1.getD 0 default)), (⟨(v2.1.getD 0 default), v3.1, 0, [], []⟩ : TMessage), 0, 0, [], 0, 0, 0⟩ : TCommand), [], false), ?_, .inr rfl, retH [1, 0] ?_ ?_⟩
      ·refine Goes.new0 1 3 (Nat.le_of_ble_eq_true rfl) ?_
       refine Goes.boxs 0 _ [.int .u8 (wr .u8 (v1.1.getD 0 default)), .int .i64 (v2.1.getD 0 default), .ref 16 1 0 v3.1.length (some uC), .int .i64 0, .str [], .str [], .int .i64 0, .int .i64 0, .ref 29 1 0 0 (some uC), .int .i64 0, .int .i64 0, .int .i64 0] rfl (.keep (.keep (.keep (.keep (.keep (.keep (.keep (.keep (.cons (.own0 29 _ _ _ (by decide)) (.refl _)))))))))) ?_
       refine Goes.wk 3 _ (.imm 1 [] 4) rfl (.nil4 _ _ 0 rfl) ?_
       exact .m [2, 3, 4] [16, 29, 0] [(16, 0), (29, 1), (0, 2)]
      ·exact rsi0
      ·rfl
     ·replace hx1 := za1 hx1 hc4
      refine .skip ?_
      refine .seq ?_
      obtain ⟨v4, hv4, hx1⟩ := bind_some hx1
      refine .rg zS [2, 6, 8] ?_
      refine .rn 1 ?_
      refine .hcall (H := []) (eff := [(29, some (.arr 3 1 true (v4.1.map (D.int .i64))))]) (nw := (29, 34)) (r := .tuple [.ref 29 1 0 v4.1.length (some uC), .imm 1 (v4.2.1.map (D.int .u8)) 4, .bool v4.2.2]) rfl rfl rfl rfl rfl (zdi 29 (Nat.le_of_ble_eq_true rfl) (zc0 v3.2.1 1 v4 hv4)) (fun id b h => zae [] _ id b h) (by simp) (.inr ⟨Nat.le_of_ble_eq_true rfl, Nat.le_of_ble_eq_true rfl⟩) ?_
      refine .rn 7 ?_
      refine .nil ⟨nofun, ?_⟩
      refine .seq ?_
      refine .seq ?_
      refine .pl zS [2, 6, 7, 8, 9] ?_
      refine .cond rfl rfl (fun hc5 => ?_) (fun hc5 => ?_)
      ·replace hx1 := za0 hx1 hc5
       refine .seq ?_
       refine .pl zS [2, 8] ?_
       have hq := Option.some.inj hx1
       subst x1
       try dsimp only at h
       have hq := Option.some.inj h
       subst r
       refine .ret ⟨Tryz.Re_towncrierref12_parse ((⟨(wr .u8 (v1.1.getD 0 default)), (⟨(v2.1.getD 0 default), v3.1, 0, [], []⟩ : TMessage), 0, 0, [], 0, 0, 0⟩ : TCommand), [], false), ?_, .inr rfl, retH [1, 0] ?_ ?_⟩
       ·refine Goes.new0 1 3 (Nat.le_of_ble_eq_true rfl) ?_
        refine Goes.boxs 0 _ [.int .u8 (wr .u8 (v1.1.getD 0 default)), .int .i64 (v2.1.getD 0 default), .ref 16 1 0 v3.1.length (some uC), .int .i64 0, .str [], .str [], .int .i64 0, .int .i64 0, .ref 34 1 0 0 (some uC), .int .i64 0, .int .i64 0, .int .i64 0] rfl (.keep (.keep (.keep (.keep (.keep (.keep (.keep (.keep (.cons (.own0 34 _ _ _ (by decide)) (.refl _)))))))))) ?_
        refine Goes.wk 3 _ (.imm 1 [] 4) rfl (.nil4 _ _ 0 rfl) ?_
        exact .m [2, 3, 4] [16, 34, 0] [(16, 0), (34, 1), (0, 2)]
       ·exact rsi0
       ·rfl
      ·replace hx1 := za1 hx1 hc5
       refine .skip ?_
       refine .seq ?_
       obtain ⟨k4, hx1⟩ := zai hx1
       have e3 := zcr (D.int .i64) v4.1 0 k4
       refine .plx zS e3 [2, 6, 8, 9] ?_
       obtain ⟨v5, hv5, hx1⟩ := bind_some hx1
       refine .rg zS [2, 6, 8] ?_
       refine .rn 1 ?_
       refine .hcall (H := []) (eff := []) (nw := (34, 36)) (r := .tuple [.str v5.1, .str v5.2.1, .imm 1 (v5.2.2.1.map (D.int .u8)) 4, .bool v5.2.2.2]) rfl rfl rfl rfl rfl (zdi 34 (Nat.le_of_ble_eq_true rfl) (zj6 v4.2.1 v5 hv5)) (fun id b h => zae [] _ id b h) (by simp) (.inr ⟨Nat.le_of_ble_eq_true rfl, Nat.le_of_ble_eq_true rfl⟩) ?_
       refine .rn 6 ?_
       refine .rn 7 ?_
       refine .nil ⟨nofun, ?_⟩
       refine ⟨_, ?_, (Option.some.inj hx1).symm⟩
       refine Goes.new0 1 3 (Nat.le_of_ble_eq_true rfl) ?_
       refine Goes.boxs 10 _ [.int .u8 (wr .u8 (v1.1.getD 0 default)), .int .i64 (v2.1.getD 0 default), .ref 16 1 0 v3.1.length (some uC), .int .i64 (v4.1.getD 0 default), .str v5.1, .str v5.2.1, .int .i64 0, .int .i64 0, .ref 36 1 0 0 (some uC), .int .i64 0, .int .i64 0, .int .i64 0] rfl (.keep (.keep (.keep (.keep (.keep (.keep (.keep (.keep (.cons (.own0 36 _ _ _ (by decide)) (.refl _)))))))))) ?_
       exact .m [2, 6, 7, 8] [0, 10, 16, 36] [(16, 11), (36, 12)]
   ·replace hx1 := za1 hx1 hc2
    refine .seq ?_
    refine .pl zS [2, 6, 7, 8, 31] ?_
    refine .cond rfl rfl (fun hc6 => ?_) (fun hc6 => ?_)
    ·replace hx1 := za0 hx1 hc6
     refine .seq ?_
     obtain ⟨v6, hv6, hx1⟩ := bind_some hx1
     refine .rg zS [2, 6, 8] ?_
     refine .rn 1 ?_
     refine .hcall (H := []) (eff := [(11, some (.arr 3 1 true (v6.1.map (D.int .i64))))]) (nw := (11, 16)) (r := .tuple [.ref 11 1 0 v6.1.length (some uC), .imm 1 (v6.2.1.map (D.int .u8)) 4, .bool v6.2.2]) rfl rfl rfl rfl rfl (zdi 11 (Nat.le_of_ble_eq_true rfl) (zc0 v1.2.1 2 v6 hv6)) (fun id b h => zae [] _ id b h) (by simp) (.inr ⟨Nat.le_of_ble_eq_true rfl, Nat.le_of_ble_eq_true rfl⟩) ?_
     refine .rn 7 ?_
     refine .nil ⟨nofun, ?_⟩
     refine .seq ?_
     refine .pl zS [2, 6, 7, 8, 9] ?_
     refine .cond rfl rfl (fun hc7 => ?_) (fun hc7 => ?_)
     ·replace hx1 := za0 hx1 hc7
      refine .seq ?_
      obtain ⟨k5, hx1⟩ := zai hx1
      have e4 := zcr (D.int .i64) v6.1 0 k5
      refine .plx zS e4 [2, 6, 7, 8, 9] ?_
      obtain ⟨k6, hx1⟩ := zai hx1
      have e5 := zcr (D.int .i64) v6.1 1 k6
      refine .plx zS e5 [2, 6, 7, 8, 9] ?_
      refine ⟨_, ?_, (Option.some.inj hx1).symm⟩
      refine Goes.new0 1 3 (Nat.le_of_ble_eq_true rfl) ?_
      refine Goes.new0 1 3 (Nat.le_of_ble_eq_true rfl) ?_
      refine Goes.boxs 10 _ [.int .u8 (wr .u8 (v1.1.getD 0 default)), .int .i64 0, .ref 16 1 0 0 (some uC), .int .i64 0, .str [], .str [], .int .i64 (v6.1.getD 0 default), .int .i64 (v6.1.getD 1 default), .ref 17 1 0 0 (some uC), .int .i64 0, .int .i64 0, .int .i64 0] rfl (.keep (.keep (.cons (.own0 16 _ _ _ (by decide)) (.keep (.keep (.keep (.keep (.keep (.cons (.own0 17 _ _ _ (by decide)) (.refl _)))))))))) ?_
      exact .m [2, 6, 7, 8] [0, 10, 16, 17] [(16, 11), (17, 12)]
     ·replace hx1 := za1 hx1 hc7
      refine .skip ?_
      refine ⟨_, ?_, (Option.some.inj hx1).symm⟩
      refine Goes.new0 1 3 (Nat.le_of_ble_eq_true rfl) ?_
      refine Goes.new0 1 3 (Nat.le_of_ble_eq_true rfl) ?_
      refine Goes.boxs 10 _ [.int .u8 (wr .u8 (v1.1.getD 0 default)), .int .i64 0, .ref 16 1 0 0 (some uC), .int .i64 0, .str [], .str [], .int .i64 0, .int .i64 0, .ref 17 1 0 0 (some uC), .int .i64 0, .int .i64 0, .int .i64 0] rfl (.keep (.keep (.cons (.own0 16 _ _ _ (by decide)) (.keep (.keep (.keep (.keep (.keep (.cons (.own0 17 _ _ _ (by decide)) (.refl _)))))))))) ?_
      exact .m [2, 6, 7, 8] [0, 10, 16, 17] [(16, 11), (17, 12)]
    ·replace hx1 := za1 hx1 hc6
     refine .seq ?_
     refine .pl zS [2, 6, 7, 8, 31] ?_
     refine .cond rfl rfl (fun hc8 => ?_) (fun hc8 => ?_)
     ·replace hx1 := za0 hx1 hc8
      obtain ⟨v7, hv7, hx1⟩ := bind_some hx1
      refine .rg zS [2, 6, 8] ?_
      refine .rn 1 ?_
      refine .hcall (H := []) (eff := [(13, some (.arr 3 1 true (v7.1.map (D.int .i64))))]) (nw := (13, 26)) (r := .tuple [.ref 13 1 0 v7.1.length (some uC), .imm 1 (v7.2.1.map (D.int .u8)) 4, .bool v7.2.2]) rfl rfl rfl rfl rfl (zdi 13 (Nat.le_of_ble_eq_true rfl) (zgj v1.2.1 6 v7 hv7)) (fun id b h => zae [] _ id b h) (by simp) (.inr ⟨Nat.le_of_ble_eq_true rfl, Nat.le_of_ble_eq_true rfl⟩) ?_
      refine .rn 8 ?_
      refine .nil ⟨nofun, ?_⟩
      refine ⟨_, ?_, (Option.some.inj hx1).symm⟩
      refine Goes.new0 1 3 (Nat.le_of_ble_eq_true rfl) ?_
      refine Goes.boxs 10 _ [.int .u8 (wr .u8 (v1.1.getD 0 default)), .int .i64 0, .ref 26 1 0 0 (some uC), .int .i64 0, .str [], .str [], .int .i64 0, .int .i64 0, .ref 13 1 0 v7.1.length (some uC), .int .i64 0, .int .i64 0, .int .i64 0] rfl (.keep (.keep (.cons (.own0 26 _ _ _ (by decide)) (.refl _)))) ?_
      exact .m [2, 6, 7, 8] [0, 10, 26, 13] [(26, 11), (13, 12)]
     ·replace hx1 := za1 hx1 hc8
      refine .seq ?_
      refine .pl zS [2, 6, 7, 8, 31] ?_
      refine .cond rfl rfl (fun hc9 => ?_) (fun hc9 => ?_)
      ·replace hx1 := za0 hx1 hc9
       refine .seq ?_
       obtain ⟨v8, hv8, hx1⟩ := bind_some hx1
       refine .rg zS [2, 6, 8] ?_
       refine .rn 1 ?_
       refine .hcall (H := []) (eff := [(11, some (.arr 3 1 true (v8.1.map (D.int .i64))))]) (nw := (11, 16)) (r := .tuple [.ref 11 1 0 v8.1.length (some uC), .imm 1 (v8.2.1.map (D.int .u8)) 4, .bool v8.2.2]) rfl rfl rfl rfl rfl (zdi 11 (Nat.le_of_ble_eq_true rfl) (zc0 v1.2.1 4 v8 hv8)) (fun id b h => zae [] _ id b h) (by simp) (.inr ⟨Nat.le_of_ble_eq_true rfl, Nat.le_of_ble_eq_true rfl⟩) ?_
       refine .rn 7 ?_
       refine .nil ⟨nofun, ?_⟩
       refine .seq ?_
       refine .pl zS [2, 6, 7, 8, 9] ?_
       refine .cond rfl rfl (fun hc10 => ?_) (fun hc10 => ?_)
       ·replace hx1 := za0 hx1 hc10
        refine .seq ?_
        obtain ⟨k7, hx1⟩ := zai hx1
        have e6 := zcr (D.int .i64) v8.1 0 k7
        refine .plx zS e6 [2, 6, 7, 8, 9] ?_
        refine .seq ?_
        obtain ⟨k8, hx1⟩ := zai hx1
        have e7 := zcr (D.int .i64) v8.1 1 k8
        refine .plx zS e7 [2, 6, 7, 8, 9] ?_
        refine .seq ?_
        obtain ⟨k9, hx1⟩ := zai hx1
        have e8 := zcr (D.int .i64) v8.1 2 k9
        refine .plx zS e8 [2, 6, 7, 8, 9] ?_
        obtain ⟨k10, hx1⟩ := zai hx1
        have e9 := zcr (D.int .i64) v8.1 3 k10
        refine .plx zS e9 [2, 6, 7, 8, 9] ?_
        refine ⟨_, ?_, (Option.some.inj hx1).symm⟩
        refine Goes.new0 1 3 (Nat.le_of_ble_eq_true rfl) ?_
        refine Goes.new0 1 3 (Nat.le_of_ble_eq_true rfl) ?_
        refine Goes.boxs 10 _ [.int .u8 (wr .u8 (v1.1.getD 0 default)), .int .i64 0, .ref 16 1 0 0 (some uC), .int .i64 0, .str [], .str [], .int .i64 (v8.1.getD 0 default), .int .i64 0, .ref 17 1 0 0 (some uC), .int .i64 (v8.1.getD 1 default), .int .i64 (v8.1.getD 2 default), .int .i64 (v8.1.getD 3 default)] rfl (.keep (.keep (.cons (.own0 16 _ _ _ (by decide)) (.keep (.keep (.keep (.keep (.keep (.cons (.own0 17 _ _ _ (by decide)) (.refl _)))))))))) ?_
        exact .m [2, 6, 7, 8] [0, 10, 16, 17] [(16, 11), (17, 12)]
       ·replace hx1 := za1 hx1 hc10
        refine .skip ?_
        refine ⟨_, ?_, (Option.some.inj hx1).symm⟩
        refine Goes.new0 1 3 (Nat.le_of_ble_eq_true rfl) ?_
        refine Goes.new0 1 3 (Nat.le_of_ble_eq_true rfl) ?_
        refine Goes.boxs 10 _ [.int .u8 (wr .u8 (v1.1.getD 0 default)), .int .i64 0, .ref 16 1 0 0 (some uC), .int .i64 0, .str [], .str [], .int .i64 0, .int .i64 0, .ref 17 1 0 0 (some uC), .int .i64 0, .int .i64 0, .int .i64 0] rfl (.keep (.keep (.cons (.own0 16 _ _ _ (by decide)) (.keep (.keep (.keep (.keep (.keep (.cons (.own0 17 _ _ _ (by decide)) (.refl _)))))))))) ?_
        exact .m [2, 6, 7, 8] [0, 10, 16, 17] [(16, 11), (17, 12)]
      ·replace hx1 := za1 hx1 hc9
       obtain ⟨x2, hx2, hx1⟩ := bind_some hx1
       refine .seqM 11 (fun (j : Bool) => Tryz.St_towncrierref12_parse_3 v1 j) (fun j => x2 = j) (Nat.le_of_ble_eq_true rfl) ?_ ?_
       ·refine .seq ?_
        refine .pl zS [2, 6, 7, 8, 31] ?_
        refine .cond rfl rfl (fun hc11 => ?_) (fun hc11 => ?_)
        ·replace hx2 := za0 hx2 hc11
         refine .skip ?_
         refine ⟨_, ?_, (Option.some.inj hx2).symm⟩
         exact .m [2, 6, 7, 8, 135] [0, 10] []
        ·replace hx2 := za1 hx2 hc11
         refine .pl zS [2, 6, 7, 8, 31] ?_
         refine ⟨_, ?_, (Option.some.inj hx2).symm⟩
         exact .m [2, 6, 7, 8, 135] [0, 10] []
       ·rintro b2 hj1
        subst x2
        try dsimp only at hx1
        simp only [Tryz.St_towncrierref12_parse_3]
        refine .cond rfl rfl (fun hc12 => ?_) (fun hc12 => ?_)
        ·replace hx1 := za0 hx1 hc12
         refine .seq ?_
         obtain ⟨v9, hv9, hx1⟩ := bind_some hx1
         refine .rg zS [2, 6, 8] ?_
         refine .rn 1 ?_
         refine .hcall (H := []) (eff := [(11, some (.arr 3 1 true (v9.1.map (D.int .i64))))]) (nw := (11, 16)) (r := .tuple [.ref 11 1 0 v9.1.length (some uC), .imm 1 (v9.2.1.map (D.int .u8)) 4, .bool v9.2.2]) rfl rfl rfl rfl rfl (zdi 11 (Nat.le_of_ble_eq_true rfl) (zc0 v1.2.1 3 v9 hv9)) (fun id b h => zae [] _ id b h) (by simp) (.inr ⟨Nat.le_of_ble_eq_true rfl, Nat.le_of_ble_eq_true rfl⟩) ?_
         refine .rn 7 ?_
         refine .nil ⟨nofun, ?_⟩
         refine .seq ?_
         refine .pl zS [2, 6, 7, 8, 9] ?_
         refine .cond rfl rfl (fun hc13 => ?_) (fun hc13 => ?_)
         ·replace hx1 := za0 hx1 hc13
          refine .seq ?_
          obtain ⟨k11, hx1⟩ := zai hx1
          have e10 := zcr (D.int .i64) v9.1 0 k11
          refine .plx zS e10 [2, 6, 7, 8, 9] ?_
          refine .seq ?_
          obtain ⟨k12, hx1⟩ := zai hx1
          have e11 := zcr (D.int .i64) v9.1 1 k12
          refine .plx zS e11 [2, 6, 7, 8, 9] ?_
          obtain ⟨k13, hx1⟩ := zai hx1
          have e12 := zcr (D.int .i64) v9.1 2 k13
          refine .plx zS e12 [2, 6, 7, 8, 9] ?_
          refine ⟨_, ?_, (Option.some.inj hx1).symm⟩
          refine Goes.new0 1 3 (Nat.le_of_ble_eq_true rfl) ?_
          refine Goes.new0 1 3 (Nat.le_of_ble_eq_true rfl) ?_
          refine Goes.boxs 10 _ [.int .u8 (wr .u8 (v1.1.getD 0 default)), .int .i64 0, .ref 16 1 0 0 (some uC), .int .i64 0, .str [], .str [], .int .i64 (v9.1.getD 0 default), .int .i64 0, .ref 17 1 0 0 (some uC), .int .i64 (v9.1.getD 1 default), .int .i64 0, .int .i64 (v9.1.getD 2 default)] rfl (.keep (.keep (.cons (.own0 16 _ _ _ (by decide)) (.keep (.keep (.keep (.keep (.keep (.cons (.own0 17 _ _ _ (by decide)) (.refl _)))))))))) ?_
          exact .m [2, 6, 7, 8] [0, 10, 16, 17] [(16, 11), (17, 12)]
         ·replace hx1 := za1 hx1 hc13
          refine .skip ?_
          refine ⟨_, ?_, (Option.some.inj hx1).symm⟩
          refine Goes.new0 1 3 (Nat.le_of_ble_eq_true rfl) ?_
          refine Goes.new0 1 3 (Nat.le_of_ble_eq_true rfl) ?_
          refine Goes.boxs 10 _ [.int .u8 (wr .u8 (v1.1.getD 0 default)), .int .i64 0, .ref 16 1 0 0 (some uC), .int .i64 0, .str [], .str [], .int .i64 0, .int .i64 0, .ref 17 1 0 0 (some uC), .int .i64 0, .int .i64 0, .int .i64 0] rfl (.keep (.keep (.cons (.own0 16 _ _ _ (by decide)) (.keep (.keep (.keep (.keep (.keep (.cons (.own0 17 _ _ _ (by decide)) (.refl _)))))))))) ?_
          exact .m [2, 6, 7, 8] [0, 10, 16, 17] [(16, 11), (17, 12)]
        ·replace hx1 := za1 hx1 hc12
         refine .skip ?_
         refine ⟨_, ?_, (Option.some.inj hx1).symm⟩
         refine Goes.new0 1 3 (Nat.le_of_ble_eq_true rfl) ?_
         refine Goes.new0 1 3 (Nat.le_of_ble_eq_true rfl) ?_
         refine Goes.boxs 10 _ [.int .u8 (wr .u8 (v1.1.getD 0 default)), .int .i64 0, .ref 11 1 0 0 (some uC), .int .i64 0, .str [], .str [], .int .i64 0, .int .i64 0, .ref 12 1 0 0 (some uC), .int .i64 0, .int .i64 0, .int .i64 0] rfl (.keep (.keep (.cons (.own0 11 _ _ _ (by decide)) (.keep (.keep (.keep (.keep (.keep (.cons (.own0 12 _ _ _ (by decide)) (.refl _)))))))))) ?_
         exact .m [2, 6, 7, 8] [0, 10, 11, 12] []
  ·rintro ⟨l1, b1, n1, l2, n2, s1, s2, n3, n4, l3, n5, n6, n7⟩ hj2
   subst x1
   try dsimp only at h
   simp only [Tryz.St_towncrierref12_parse_1]
   refine .seq ?_
   refine .pl zS [2, 6, 7, 8] ?_
   have hq := Option.some.inj h
   subst r
   refine .ret ⟨Tryz.Re_towncrierref12_parse ((⟨(wr .u8 (v1.1.getD 0 default)), (⟨n1, l2, n2, s1, s2⟩ : TMessage), n3, n4, l3, n5, n6, n7⟩ : TCommand), l1, b1), ?_, .inr rfl, retH [1, 0] ?_ ?_⟩
   ·exact .m [2, 3, 4] [11, 12, 0] [(11, 0), (12, 1), (0, 2)]
   ·exact rsi0
   ·rfl
def Tryz.Re_towncrierref12_Read (r : TCommand × Int) : St := ⟨[(2, .ptr 2 0), (3, .int .i64 r.2)], [(0, .arr 3 1 true (r.1.Message.Groups.map (D.int .i64))), (1, .arr 3 1 true (r.1.Members.map (D.int .i64))), (2, .box [.int .u8 r.1.Kind, .int .i64 r.1.Message.Id, .ref 0 1 0 r.1.Message.Groups.length (some uC), .int .i64 r.1.Message.Topic, .str r.1.Message.Key, .str r.1.Message.Body, .int .i64 r.1.Id, .int .i64 r.1.Time, .ref 1 1 0 r.1.Members.length (some uC), .int .i64 r.1.Topic, .int .i64 r.1.Who, .int .i64 r.1.N])], 3⟩
attribute [local go_sem] Tryz.Re_towncrierref12_Read
theorem zgi (a0 : List UInt8) (r : TCommand × Int) (h : zbn a0 = some r) : CallH Tryz.prog 71 [.str a0] [] (.tuple [.agg [.int .u8 r.1.Kind, .int .i64 r.1.Message.Id, .ref 0 1 0 r.1.Message.Groups.length (some uC), .int .i64 r.1.Message.Topic, .str r.1.Message.Key, .str r.1.Message.Body, .int .i64 r.1.Id, .int .i64 r.1.Time, .ref 1 1 0 r.1.Members.length (some uC), .int .i64 r.1.Topic, .int .i64 r.1.Who, .int .i64 r.1.N], .int .i64 r.2]) [(0, some (.arr 3 1 true (r.1.Message.Groups.map (D.int .i64)))), (1, some (.arr 3 1 true (r.1.Members.map (D.int .i64))))] (0, 83) := by
 refine za4 Tryz.tmOk Tryz.func71 rfl (by decide) (Nat.le_of_ble_eq_true rfl) (by simp) ?_
 intro hwf
 unfold zbn at h
 refine .ends 0 (Nat.le_refl _) ?_
 refine .seq ?_
 refine .pl zS [0] ?_
 refine .seq ?_
 refine .seq ?_
 refine .pl zS [0, 2] ?_
 refine .cond rfl rfl (fun hc1 => ?_) (fun hc1 => ?_)
 ·replace h := za0 h hc1
  refine .seq ?_
  refine .pl zS [2] ?_
  have hq := Option.some.inj h
  subst r
  refine .ret ⟨Tryz.Re_towncrierref12_Read ((⟨0, (⟨0, [], 0, [], []⟩ : TMessage), 0, 0, [], 0, 0, 0⟩ : TCommand), 3), ?_, .inr rfl, retH [1, 0] ?_ ?_⟩
  ·refine Goes.new0 1 3 (Nat.le_of_ble_eq_true rfl) ?_
   refine Goes.new0 1 3 (Nat.le_of_ble_eq_true rfl) ?_
   refine Goes.boxs 0 _ [.int .u8 0, .int .i64 0, .ref 1 1 0 0 (some uC), .int .i64 0, .str [], .str [], .int .i64 0, .int .i64 0, .ref 2 1 0 0 (some uC), .int .i64 0, .int .i64 0, .int .i64 0] rfl (.keep (.keep (.cons (.own0 1 _ _ _ (by decide)) (.keep (.keep (.keep (.keep (.keep (.cons (.own0 2 _ _ _ (by decide)) (.refl _)))))))))) ?_
   exact .m [2, 3] [1, 2, 0] [(1, 0), (2, 1), (0, 2)]
  ·exact rsi0
  ·rfl
 ·replace h := za1 h hc1
  refine .skip ?_
  refine .seq ?_
  obtain ⟨v1, hv1, h⟩ := bind_some h
  refine .rg zS [0, 2] ?_
  refine .rn 2 ?_
  refine .hcall (H := []) (eff := [(39, some (.arr 3 1 true (v1.1.Message.Groups.map (D.int .i64)))), (40, some (.arr 3 1 true (v1.1.Members.map (D.int .i64))))]) (nw := (39, 78)) (r := .tuple [.agg [.int .u8 v1.1.Kind, .int .i64 v1.1.Message.Id, .ref 39 1 0 v1.1.Message.Groups.length (some uC), .int .i64 v1.1.Message.Topic, .str v1.1.Message.Key, .str v1.1.Message.Body, .int .i64 v1.1.Id, .int .i64 v1.1.Time, .ref 40 1 0 v1.1.Members.length (some uC), .int .i64 v1.1.Topic, .int .i64 v1.1.Who, .int .i64 v1.1.N], .imm 1 (v1.2.1.map (D.int .u8)) 4, .bool v1.2.2]) rfl rfl rfl rfl rfl (zdi 39 (Nat.le_of_ble_eq_true rfl) (callH_wkG (.cons (.new4 _ _ rfl) (.refl _)) (zj5 (zft a0) v1 hv1))) (fun id b h => zae [] _ id b h) (by simp) (.inr ⟨Nat.le_of_ble_eq_true rfl, Nat.le_of_ble_eq_true rfl⟩) ?_
  refine .rn 8 ?_
  refine .nil ⟨nofun, ?_⟩
  refine .seq ?_
  refine .seq ?_
  obtain ⟨v2, hv2, h⟩ := bind_some h
  refine .rg zS [2, 4, 5, 6] ?_
  refine .rn 6 ?_
  refine .rn 3 ?_
  refine .glcall (r := .bool v2) [] rfl rfl rfl rfl rfl (fun hg => ⟨[], [.agg [.int .u8 v1.1.Kind, .int .i64 v1.1.Message.Id, .ref 39 1 0 v1.1.Message.Groups.length (some uC), .int .i64 v1.1.Message.Topic, .str v1.1.Message.Key, .str v1.1.Message.Body, .int .i64 v1.1.Id, .int .i64 v1.1.Time, .ref 40 1 0 v1.1.Members.length (some uC), .int .i64 v1.1.Topic, .int .i64 v1.1.Who, .int .i64 v1.1.N]], _, rfl, gd hg, (za6 (zfd (zlm (za3 rfl (za3 rfl (za3 (zef (pl_int .i64) (by first | rfl | (simp only [go_sem, Nat.reduceBEq]; rfl)) (by first | rfl | (simp; done) | (simp <;> omega))) (za3 rfl (za3 rfl (za3 rfl (za3 rfl (za3 rfl (za3 (zef (pl_int .i64) (by first | rfl | (simp only [go_sem, Nat.reduceBEq]; rfl)) (by first | rfl | (simp; done) | (simp <;> omega))) (za3 rfl (za3 rfl (za3 rfl zg1))))))))))))) trivial) zas), rfl, (zk6 v1.1 v2 (za0 hv2 hg))⟩) ?_
  refine .rn 2 ?_
  refine .nil ⟨nofun, ?_⟩
  refine .cond rfl rfl (fun hc2 => ?_) (fun hc2 => ?_)
  ·replace h := za0 h hc2
   refine .seq ?_
   refine .pl zS [2] ?_
   have hq := Option.some.inj h
   subst r
   refine .ret ⟨Tryz.Re_towncrierref12_Read ((⟨0, (⟨0, [], 0, [], []⟩ : TMessage), 0, 0, [], 0, 0, 0⟩ : TCommand), 8), ?_, .inr rfl, retH [1, 0] ?_ ?_⟩
   ·refine Goes.new0 1 3 (Nat.le_of_ble_eq_true rfl) ?_
    refine Goes.new0 1 3 (Nat.le_of_ble_eq_true rfl) ?_
    refine Goes.boxs 0 _ [.int .u8 0, .int .i64 0, .ref 79 1 0 0 (some uC), .int .i64 0, .str [], .str [], .int .i64 0, .int .i64 0, .ref 80 1 0 0 (some uC), .int .i64 0, .int .i64 0, .int .i64 0] rfl (.keep (.keep (.cons (.own0 79 _ _ _ (by decide)) (.keep (.keep (.keep (.keep (.keep (.cons (.own0 80 _ _ _ (by decide)) (.refl _)))))))))) ?_
    exact .m [2, 3] [79, 80, 0] [(79, 0), (80, 1), (0, 2)]
   ·exact rsi0
   ·rfl
  ·replace h := za1 h hc2
   refine .skip ?_
   refine .seq ?_
   refine .pl zS [2, 4] ?_
   have hq := Option.some.inj h
   subst r
   refine .ret ⟨Tryz.Re_towncrierref12_Read (v1.1, 0), ?_, .inr rfl, retH [1, 0] ?_ ?_⟩
   ·exact .m [2, 3] [39, 40, 0] [(39, 0), (40, 1), (0, 2)]
   ·exact rsi0
   ·rfl
theorem zjn (a0 : List UInt8) (r : TCommand × Int) (h : zbn a0 = some r) : CallP Tryz.prog 71 [.str a0] (.tuple [.agg [.int .u8 r.1.Kind, .int .i64 r.1.Message.Id, .imm 1 (r.1.Message.Groups.map (D.int .i64)) 12, .int .i64 r.1.Message.Topic, .str r.1.Message.Key, .str r.1.Message.Body, .int .i64 r.1.Id, .int .i64 r.1.Time, .imm 1 (r.1.Members.map (D.int .i64)) 12, .int .i64 r.1.Topic, .int .i64 r.1.Who, .int .i64 r.1.N], .int .i64 r.2]) :=
 zf1 (zm5 (za8 (zm6 (za8 rfl (za8 rfl (za8 (zja zjf rfl rfl) (za8 rfl (za8 rfl (za8 rfl (za8 rfl (za8 rfl (za8 (zja zjf rfl rfl) (za8 rfl (za8 rfl (za8 rfl zfe))))))))))))) (za8 rfl zfe))) (zgi a0 r h)
def Tryz.St_towncrierref13_Check_1 : St := ⟨[], [], 0⟩
attribute [local go_sem] Tryz.St_towncrierref13_Check_1
def Tryz.St_towncrierref13_Check_3 (a0 : List (List UInt8)) (n1 : Nat) : St := ⟨[(0, .imm 1 (a0.map D.str) 4), (3, .int .i64 (n1 : Int))], [], 0⟩
attribute [local go_sem] Tryz.St_towncrierref13_Check_3
theorem ziz (a0 : List (List UInt8)) (r : Int) (h : zek a0 = some r) : CallP Tryz.prog 46 [.imm 1 (a0.map D.str) 4] (.int .i64 r) := by
 refine za5 Tryz.tmOk 169 Tryz.func46 rfl (by decide) rfl rfl (Nat.le_of_ble_eq_true rfl) ?_
 intro hwf
 unfold zek at h
 refine .seq ?_
 refine .pl zS [0] ?_
 refine .seq ?_
 refine .seq ?_
 refine .pl zS [0] ?_
 refine .cond rfl rfl (fun hc1 => ?_) (fun hc1 => ?_)
 ·replace h := za0 h hc1
  refine .seq ?_
  refine .pl zS [] ?_
  have hq := Option.some.inj h
  subst r
  exact .ret ⟨.inr rfl, rsi⟩
 ·replace h := za1 h hc1
  refine .skip ?_
  obtain ⟨x1, hx1, h⟩ := bind_some h
  refine .seqM 0 (fun (j : Unit) => Tryz.St_towncrierref13_Check_1) (fun j => x1 = (.inr j)) (Nat.le_of_ble_eq_true rfl) ?_ ?_
  ·refine .seq ?_
   refine .pl zS [0] ?_
   refine .block ?_
   refine .loopG 0 (fun (j : Nat) => Tryz.St_towncrierref13_Check_3 a0 j) (fun j => j <= a0.length /\ zb4 (a0.drop j)  = some x1) (fun j => a0.length - j) (0) (Nat.le_of_ble_eq_true rfl) ?_ ⟨Nat.zero_le _, hx1⟩ ?_
   ·exact .m [0, 3] [] []
   rintro n1 ⟨hi1, hx1⟩
   simp only [Tryz.St_towncrierref13_Check_3]
   refine .wf 0 (.imm 1 (a0.map D.str) 4) rfl ?_
   intro hln1
   replace hln1 : (a0.length : Int) <= 9223372036854775807 := by simp only [wf, wfL, IntKind.max, IntKind.min, IntKind.signed, IntKind.bits, List.length_map] at hln1; first | exact hln1.2 | exact hln1.1 | (simp at hln1; omega)
   refine .seq ?_
   refine .seq ?_
   refine .pl zS [0, 3] ?_
   refine .cond rfl rfl (fun hc2 => ?_) (fun hc2 => ?_)
   ·have h1 : n1 < a0.length := by simpa using hc2
    have hwn1 : wr .i64 ((n1 : Int) + 1) = ((n1 + 1 : Nat) : Int) := zd5 h1 hln1
    have hpn1 : wr .i64 ((n1 : Int) - 1) = (n1 : Int) - 1 := zd6 h1 hln1
    rw [List.drop_eq_getElem_cons h1, zb4] at hx1
    refine .skip ?_
    refine .seq ?_
    refine .block ?_
    refine .seq ?_
    obtain ⟨v1, hv1, hx1⟩ := bind_some hx1
    have e1 := zby D.str a0 n1 h1
    refine .rg zS [0, 3] ?_
    refine .rnx 4 (And.intro e1 hwn1) ?_
    refine .ncall (r := .tuple [.agg [.int .u8 v1.1.Kind, .int .i64 v1.1.Message.Id, .ref 83 1 0 v1.1.Message.Groups.length (some uC), .int .i64 v1.1.Message.Topic, .str v1.1.Message.Key, .str v1.1.Message.Body, .int .i64 v1.1.Id, .int .i64 v1.1.Time, .ref 84 1 0 v1.1.Members.length (some uC), .int .i64 v1.1.Topic, .int .i64 v1.1.Who, .int .i64 v1.1.N], .int .i64 v1.2]) (eff := [(83, some (.arr 3 1 true (v1.1.Message.Groups.map (D.int .i64)))), (84, some (.arr 3 1 true (v1.1.Members.map (D.int .i64))))]) (nw := (83, 166)) [] rfl rfl rfl rfl rfl (za6 rfl zas) rfl (zdi 83 (Nat.le_of_ble_eq_true rfl) (zgi (a0[n1]) v1 hv1)) (zdo rfl rfl (zgm zjf _ _ _) (zdo rfl rfl (zgm zjf _ _ _) zh0)) (by intro i hi; simp [D.ids, D.idsL] at hi <;> omega) rfl ⟨Nat.le_of_ble_eq_true rfl, Nat.le_of_ble_eq_true rfl⟩ ?_
    refine .rnx 6 (And.intro e1 hwn1) ?_
    refine .nil ⟨nofun, ?_⟩
    refine .seq ?_
    refine .plx zS hwn1 [0, 3, 5] ?_
    refine .cond rfl rfl (fun hc3 => ?_) (fun hc3 => ?_)
    ·replace hx1 := za0 hx1 hc3
     refine .seq ?_
     refine .plx zS hwn1 [] ?_
     have hq := Option.some.inj hx1
     subst x1
     try dsimp only at h
     have hq := Option.some.inj h
     subst r
     exact .ret ⟨.inr rfl, rsi⟩
    ·replace hx1 := za1 hx1 hc3
     refine .skip ?_
     refine .plx zS hwn1 [0, 3] ?_
     refine ⟨n1 + 1, ?_, ⟨by omega, hx1⟩, by dsimp only; omega⟩
     exact .m [0, 3] [] []
   ·have h2 : n1 = a0.length := by have h2b := of_decide_eq_false hc2; omega
    rw [List.drop_of_length_le (by omega), zb4] at hx1
    refine .exit ?_
    refine ⟨_, ?_, (Option.some.inj hx1).symm⟩
    exact .m [] [] []
  ·rintro ⟨⟩ hj1
   subst x1
   try dsimp only at h
   simp only [Tryz.St_towncrierref13_Check_1]
   refine .seq ?_
   refine .pl zS [] ?_
   have hq := Option.some.inj h
   subst r
   exact .ret ⟨.inr rfl, rsi⟩
def Tryz.St_towncrierref13_All_1 (l1 : List TCommand) : St := ⟨[(3, .ref 0 12 0 l1.length (some uC))], [(0, .arr 59 12 true (l1.map TCommand.n))], 1⟩
attribute [local go_sem] Tryz.St_towncrierref13_All_1
def Tryz.St_towncrierref13_All_3 (a0 : List (List UInt8)) (n1 : Nat) (l2 : List TCommand) : St := ⟨[(0, .imm 1 (a0.map D.str) 4), (3, .ref 0 12 0 l2.length (some uC)), (4, .int .i64 (n1 : Int))], [(0, .arr 59 12 true (l2.map TCommand.n))], 1⟩
attribute [local go_sem] Tryz.St_towncrierref13_All_3
def Tryz.Re_towncrierref13_All (r : (List TCommand)) : St := ⟨[(2, .ref 0 12 0 r.length (some uC))], [(0, .arr 59 12 true (r.map TCommand.n))], 1⟩
attribute [local go_sem] Tryz.Re_towncrierref13_All
theorem zke (a0 : List (List UInt8)) (r : (List TCommand)) (h : ze8 a0 = some r) : CallH Tryz.prog 72 [.imm 1 (a0.map D.str) 4] [] (.ref 0 12 0 r.length (some uC)) [(0, some (.arr 59 12 true (r.map TCommand.n)))] (0, 6) := by
 refine za4 Tryz.tmOk Tryz.func72 rfl (by decide) (Nat.le_of_ble_eq_true rfl) (by simp) ?_
 intro hwf
 unfold ze8 at h
 refine .ends 0 (Nat.le_refl _) ?_
 refine .seq ?_
 refine .pl zS [0] ?_
 refine .seq ?_
 refine .pl zS [0] ?_
 obtain ⟨x1, hx1, h⟩ := bind_some h
 refine .seqM 0 (fun (j : (List TCommand)) => Tryz.St_towncrierref13_All_1 j) (fun j => x1 = j) (Nat.le_of_ble_eq_true rfl) ?_ ?_
 ·refine .seq ?_
  refine .pl zS [0, 3] ?_
  refine .block ?_
  refine .loopG 0 (fun (j : Nat × (List TCommand)) => Tryz.St_towncrierref13_All_3 a0 j.1 j.2) (fun j => j.1 <= a0.length /\ zaz (a0.drop j.1) j.2 = some x1) (fun j => a0.length - j.1) (0, []) (Nat.le_of_ble_eq_true rfl) ?_ ⟨Nat.zero_le _, hx1⟩ ?_
  ·refine Goes.new0 12 59 (Nat.le_of_ble_eq_true rfl) ?_
   refine Goes.wk 3 _ (.ref 0 12 0 0 (some uC)) rfl (.own0 0 _ _ _ (by decide)) ?_
   exact .m [0, 3, 4] [0] []
  rintro ⟨n1, l2⟩ ⟨hi1, hx1⟩
  simp only [Tryz.St_towncrierref13_All_3]
  simp only at hi1 hx1
  refine .wf 0 (.imm 1 (a0.map D.str) 4) rfl ?_
  intro hln1
  replace hln1 : (a0.length : Int) <= 9223372036854775807 := by simp only [wf, wfL, IntKind.max, IntKind.min, IntKind.signed, IntKind.bits, List.length_map] at hln1; first | exact hln1.2 | exact hln1.1 | (simp at hln1; omega)
  refine .seq ?_
  refine .seq ?_
  refine .pl zS [0, 3, 4] ?_
  refine .cond rfl rfl (fun hc1 => ?_) (fun hc1 => ?_)
  ·have h1 : n1 < a0.length := by simpa using hc1
   have hwn1 : wr .i64 ((n1 : Int) + 1) = ((n1 + 1 : Nat) : Int) := zd5 h1 hln1
   have hpn1 : wr .i64 ((n1 : Int) - 1) = (n1 : Int) - 1 := zd6 h1 hln1
   rw [List.drop_eq_getElem_cons h1, zi5] at hx1
   refine .skip ?_
   refine .seq ?_
   refine .block ?_
   refine .seq ?_
   obtain ⟨v1, hv1, hx1⟩ := bind_some hx1
   have e1 := zby D.str a0 n1 h1
   refine .rg zS [0, 3, 4] ?_
   refine .rnx 4 (And.intro e1 hwn1) ?_
   refine .call (r := .tuple [.agg [.int .u8 v1.1.Kind, .int .i64 v1.1.Message.Id, .imm 1 (v1.1.Message.Groups.map (D.int .i64)) 12, .int .i64 v1.1.Message.Topic, .str v1.1.Message.Key, .str v1.1.Message.Body, .int .i64 v1.1.Id, .int .i64 v1.1.Time, .imm 1 (v1.1.Members.map (D.int .i64)) 12, .int .i64 v1.1.Topic, .int .i64 v1.1.Who, .int .i64 v1.1.N], .int .i64 v1.2]) rfl rfl rfl rfl rfl rfl (zjn (a0[n1]) v1 hv1) ?_
   refine .rnx 6 (And.intro e1 hwn1) ?_
   refine .nil ⟨nofun, ?_⟩
   obtain ⟨k1, hx1⟩ := zai hx1
   refine .plx zS hwn1 [0, 3, 4, 5] ?_
   refine .plx zS hwn1 [0, 3, 4] ?_
   refine ⟨(n1 + 1, _), ?_, ⟨by omega, hx1⟩, by dsimp only; omega⟩
   exact .m [0, 3, 4] [3] [(3, 0)]
  ·have h2 : n1 = a0.length := by have h2b := of_decide_eq_false hc1; omega
   rw [List.drop_of_length_le (by omega), zi4] at hx1
   refine .exit ?_
   refine ⟨_, ?_, (Option.some.inj hx1).symm⟩
   exact .m [3] [0] []
 ·rintro l1 hj1
  subst x1
  try dsimp only at h
  simp only [Tryz.St_towncrierref13_All_1]
  refine .seq ?_
  refine .pl zS [3] ?_
  have hq := Option.some.inj h
  subst r
  refine .ret ⟨Tryz.Re_towncrierref13_All l1, ?_, .inr rfl, retH [0] ?_ ?_⟩
  ·exact .m [2] [0] []
  ·exact rsi0
  ·rfl
theorem zk5 (a0 : List (List UInt8)) (r : (List TCommand)) (h : ze8 a0 = some r) : CallP Tryz.prog 72 [.imm 1 (a0.map D.str) 4] (.imm 12 (r.map TCommand.d) 12) :=
 zf1 (zhi znw rfl rfl) (zke a0 r h)
def Tryz.St_towncrierref15_with_w_1 (a0 : List TWait) (a1 : TWait) (l1 : List TWait) : St := ⟨[(0, .ref 20000 7 0 a0.length (some uC)), (3, .ptr 20100 0), (5, .ref 20101 7 0 l1.length (some uC))], [(20000, .arr 78 7 true (a0.map TWait.n)), (20100, .box [.int .i64 a1.Message.Id, .imm 1 (a1.Message.Groups.map (D.int .i64)) 12, .int .i64 a1.Message.Topic, .str a1.Message.Key, .str a1.Message.Body, .int .i64 a1.Time, .bool a1.Final]), (20101, .arr 78 7 true (l1.map TWait.n))], 20102⟩
attribute [local go_sem] Tryz.St_towncrierref15_with_w_1
def Tryz.St_towncrierref15_with_w_3 (a0 : List TWait) (a1 : TWait) (l2 : List TWait) (n1 : Int) : St := ⟨[(0, .ref 20000 7 0 a0.length (some uC)), (3, .ptr 20100 0), (5, .ref 20101 7 0 l2.length (some uC)), (6, .int .i64 n1)], [(20000, .arr 78 7 true (a0.map TWait.n)), (20100, .box [.int .i64 a1.Message.Id, .imm 1 (a1.Message.Groups.map (D.int .i64)) 12, .int .i64 a1.Message.Topic, .str a1.Message.Key, .str a1.Message.Body, .int .i64 a1.Time, .bool a1.Final]), (20101, .arr 78 7 true (l2.map TWait.n))], 20102⟩
attribute [local go_sem] Tryz.St_towncrierref15_with_w_3
def Tryz.St_towncrierref15_with_w_5 (a0 : List TWait) (a1 : TWait) (n1 : Int) (l3 : List TWait) : St := ⟨[(0, .ref 20000 7 0 a0.length (some uC)), (3, .ptr 20100 0), (5, .ref 20102 7 0 l3.length (some uC)), (6, .int .i64 n1)], [(20000, .arr 78 7 true (a0.map TWait.n)), (20100, .box [.int .i64 a1.Message.Id, .imm 1 (a1.Message.Groups.map (D.int .i64)) 12, .int .i64 a1.Message.Topic, .str a1.Message.Key, .str a1.Message.Body, .int .i64 a1.Time, .bool a1.Final]), (20102, .arr 78 7 true (l3.map TWait.n))], 20103⟩
attribute [local go_sem] Tryz.St_towncrierref15_with_w_5
def Tryz.St_towncrierref15_with_w_7 (l4 : List TWait) : St := ⟨[(5, .ref 20104 7 0 l4.length (some uC))], [(20104, .arr 78 7 true (l4.map TWait.n))], 20105⟩
attribute [local go_sem] Tryz.St_towncrierref15_with_w_7
def Tryz.St_towncrierref15_with_w_9 (a0 : List TWait) (a1 : TWait) (l5 : List TWait) (n2 : Int) : St := ⟨[(0, .ref 20000 7 0 a0.length (some uC)), (3, .ptr 20100 0), (5, .ref 20104 7 0 l5.length (some uC)), (7, .int .i64 n2)], [(20000, .arr 78 7 true (a0.map TWait.n)), (20100, .box [.int .i64 a1.Message.Id, .imm 1 (a1.Message.Groups.map (D.int .i64)) 12, .int .i64 a1.Message.Topic, .str a1.Message.Key, .str a1.Message.Body, .int .i64 a1.Time, .bool a1.Final]), (20104, .arr 78 7 true (l5.map TWait.n))], 20105⟩
attribute [local go_sem] Tryz.St_towncrierref15_with_w_9
def Tryz.St_towncrierref15_with_w_11 (a0 : List TWait) (a1 : TWait) (n2 : Int) (l6 : List TWait) : St := ⟨[(0, .ref 20000 7 0 a0.length (some uC)), (3, .ptr 20100 0), (5, .ref 20105 7 0 l6.length (some uC)), (7, .int .i64 n2)], [(20000, .arr 78 7 true (a0.map TWait.n)), (20100, .box [.int .i64 a1.Message.Id, .imm 1 (a1.Message.Groups.map (D.int .i64)) 12, .int .i64 a1.Message.Topic, .str a1.Message.Key, .str a1.Message.Body, .int .i64 a1.Time, .bool a1.Final]), (20105, .arr 78 7 true (l6.map TWait.n))], 20106⟩
attribute [local go_sem] Tryz.St_towncrierref15_with_w_11
def Tryz.Re_towncrierref15_with_w (r : (List TWait)) : St := ⟨[(4, .ref 20100 7 0 r.length (some uC))], [(20100, .arr 78 7 true (r.map TWait.n))], 20101⟩
attribute [local go_sem] Tryz.Re_towncrierref15_with_w
theorem ziu (a0 : List TWait) (a1 : TWait) (r : (List TWait)) (h : zde a0 a1 = some r) : CallH Tryz.prog 95 [.ref 20000 7 0 a0.length (some uC), .agg [.int .i64 a1.Message.Id, .imm 1 (a1.Message.Groups.map (D.int .i64)) 12, .int .i64 a1.Message.Topic, .str a1.Message.Key, .str a1.Message.Body, .int .i64 a1.Time, .bool a1.Final]] [(20000, .arr 78 7 true (a0.map TWait.n))] (.ref 20100 7 0 r.length (some uC)) [(20000, none), (20100, some (.arr 78 7 true (r.map TWait.n)))] (20100, 20109) := by
 refine za4 Tryz.tmOk Tryz.func95 rfl (by decide) (Nat.le_of_ble_eq_true rfl) (by simp) ?_
 intro hwf
 unfold zde at h
 refine .ends 20100 (Nat.le_refl _) ?_
 refine .seq ?_
 refine .pl zS [0, 1] ?_
 refine .seq ?_
 refine .pl zS [0, 3] ?_
 obtain ⟨x1, hx1, h⟩ := bind_some h
 refine .seqM 20101 (fun (j : (List TWait)) => Tryz.St_towncrierref15_with_w_1 a0 a1 j) (fun j => x1 = j) (Nat.le_of_ble_eq_true rfl) ?_ ?_
 ·refine .seq ?_
  refine .pl zS [0, 3, 5] ?_
  refine .block ?_
  refine .loopG 20101 (fun (j : Nat × (List TWait) × Int) => Tryz.St_towncrierref15_with_w_3 a0 a1 j.2.1 j.2.2) (fun j => zbc a0 a1 j.1 j.2.1 j.2.2 = some x1) (fun j => j.1) (a0.length + 1, [], 0) (Nat.le_of_ble_eq_true rfl) ?_ hx1 ?_
  ·refine Goes.new0 7 78 (Nat.le_of_ble_eq_true rfl) ?_
   refine Goes.wk 5 _ (.ref 20101 7 0 0 (some uC)) rfl (.own0 20101 _ _ _ (by decide)) ?_
   exact .m [0, 3, 5, 6] [20000, 20100, 20101] []
  rintro ⟨fu1, l2, n1⟩ hx1
  simp only [Tryz.St_towncrierref15_with_w_3]
  try simp only at hx1
  obtain ⟨fu1, rfl⟩ : ∃ k, fu1 = k + 1 := by cases fu1 with | zero => (rw [zbc] at hx1; cases hx1) | succ k => exact ⟨k, rfl⟩
  rw [zbc] at hx1
  refine .seq ?_
  refine .seq ?_
  refine .pl zS [0, 3, 5, 6] ?_
  refine .cond rfl rfl (fun hc1 => ?_) (fun hc1 => ?_)
  ·replace hx1 := za0 hx1 hc1
   refine .skip ?_
   obtain ⟨x2, hx2, hx1⟩ := bind_some hx1
   refine .seqM 20102 (fun (j : (List TWait)) => Tryz.St_towncrierref15_with_w_5 a0 a1 n1 j) (fun j => x2 = j) (Nat.le_of_ble_eq_true rfl) ?_ ?_
   ·refine .block ?_
    refine .seq ?_
    obtain ⟨k1, hx2⟩ := zai hx2
    have e1 := zc8 TWait.n a0 n1
    replace e1 := e1 k1
    refine .rg zS [0, 3, 5, 6] ?_
    refine .rdx 6 e1 ?_
    refine .rdx 4 e1 ?_
    refine .nil ⟨fun _ => zab (by kernel_rfl), ?_⟩
    refine .cond rfl rfl (fun hc2 => ?_) (fun hc2 => ?_)
    ·replace hx2 := za0 hx2 hc2
     obtain ⟨k2, hx2⟩ := zai hx2
     obtain ⟨k3, hx2⟩ := zai hx2
     have e2 := zc8 TWait.n a0 n1
     replace e2 := e2 k2
     refine .plx zS e2 [0, 3, 5, 6] ?_
     refine ⟨_, ?_, (Option.some.inj hx2).symm⟩
     exact .m [0, 3, 5, 6] [20000, 20100, 20103] [(20103, 20102)]
    ·replace hx2 := za1 hx2 hc2
     refine .skip ?_
     refine ⟨_, ?_, (Option.some.inj hx2).symm⟩
     exact .m [0, 3, 5, 6] [20000, 20100, 20101] [(20101, 20102)]
   ·rintro l3 hj1
    subst x2
    try dsimp only at hx1
    simp only [Tryz.St_towncrierref15_with_w_5]
    refine .pl zS [0, 3, 5, 6] ?_
    refine ⟨(fu1, _, _), ?_, hx1, by dsimp only; omega⟩
    exact .m [0, 3, 5, 6] [20000, 20100, 20102] [(20102, 20101)]
  ·replace hx1 := za1 hx1 hc1
   refine .exit ?_
   refine ⟨_, ?_, (Option.some.inj hx1).symm⟩
   exact .m [0, 3, 5] [20000, 20100, 20101] []
 ·rintro l1 hj2
  subst x1
  try dsimp only at h
  simp only [Tryz.St_towncrierref15_with_w_1]
  refine .seq ?_
  obtain ⟨k4, h⟩ := zai h
  refine .pl zS [0, 3, 5] ?_
  obtain ⟨x3, hx3, h⟩ := bind_some h
  refine .seqM 20104 (fun (j : (List TWait)) => Tryz.St_towncrierref15_with_w_7 j) (fun j => x3 = j) (Nat.le_of_ble_eq_true rfl) ?_ ?_
  ·refine .seq ?_
   refine .pl zS [0, 3, 5] ?_
   refine .block ?_
   refine .loopG 20104 (fun (j : Nat × (List TWait) × Int) => Tryz.St_towncrierref15_with_w_9 a0 a1 j.2.1 j.2.2) (fun j => zbb a0 a1 j.1 j.2.1 j.2.2 = some x3) (fun j => j.1) (a0.length + 1, (l1 ++ [a1]), 0) (Nat.le_of_ble_eq_true rfl) ?_ hx3 ?_
   ·exact .m [0, 3, 5, 7] [20000, 20100, 20103] [(20103, 20104)]
   rintro ⟨fu2, l5, n2⟩ hx3
   simp only [Tryz.St_towncrierref15_with_w_9]
   try simp only at hx3
   obtain ⟨fu2, rfl⟩ : ∃ k, fu2 = k + 1 := by cases fu2 with | zero => (rw [zbb] at hx3; cases hx3) | succ k => exact ⟨k, rfl⟩
   rw [zbb] at hx3
   refine .seq ?_
   refine .seq ?_
   refine .pl zS [0, 3, 5, 7] ?_
   refine .cond rfl rfl (fun hc3 => ?_) (fun hc3 => ?_)
   ·replace hx3 := za0 hx3 hc3
    refine .skip ?_
    obtain ⟨x4, hx4, hx3⟩ := bind_some hx3
    refine .seqM 20105 (fun (j : (List TWait)) => Tryz.St_towncrierref15_with_w_11 a0 a1 n2 j) (fun j => x4 = j) (Nat.le_of_ble_eq_true rfl) ?_ ?_
    ·refine .block ?_
     refine .seq ?_
     obtain ⟨k5, hx4⟩ := zai hx4
     have e3 := zc8 TWait.n a0 n2
     replace e3 := e3 k5
     refine .rg zS [0, 3, 5, 7] ?_
     refine .rdx 6 e3 ?_
     refine .rdx 4 e3 ?_
     refine .nil ⟨fun _ => zab (by kernel_rfl), ?_⟩
     refine .cond rfl rfl (fun hc4 => ?_) (fun hc4 => ?_)
     ·replace hx4 := za0 hx4 hc4
      obtain ⟨k6, hx4⟩ := zai hx4
      obtain ⟨k7, hx4⟩ := zai hx4
      have e4 := zc8 TWait.n a0 n2
      replace e4 := e4 k6
      refine .plx zS e4 [0, 3, 5, 7] ?_
      refine ⟨_, ?_, (Option.some.inj hx4).symm⟩
      exact .m [0, 3, 5, 7] [20000, 20100, 20106] [(20106, 20105)]
     ·replace hx4 := za1 hx4 hc4
      refine .skip ?_
      refine ⟨_, ?_, (Option.some.inj hx4).symm⟩
      exact .m [0, 3, 5, 7] [20000, 20100, 20104] [(20104, 20105)]
    ·rintro l6 hj3
     subst x4
     try dsimp only at hx3
     simp only [Tryz.St_towncrierref15_with_w_11]
     refine .pl zS [0, 3, 5, 7] ?_
     refine ⟨(fu2, _, _), ?_, hx3, by dsimp only; omega⟩
     exact .m [0, 3, 5, 7] [20000, 20100, 20105] [(20105, 20104)]
   ·replace hx3 := za1 hx3 hc3
    refine .exit ?_
    refine ⟨_, ?_, (Option.some.inj hx3).symm⟩
    exact .m [5] [20104] []
  ·rintro l4 hj4
   subst x3
   try dsimp only at h
   simp only [Tryz.St_towncrierref15_with_w_7]
   refine .seq ?_
   refine .pl zS [5] ?_
   have hq := Option.some.inj h
   subst r
   refine .ret ⟨Tryz.Re_towncrierref15_with_w l4, ?_, .inr rfl, retH [20100] ?_ ?_⟩
   ·exact .m [4] [20104] [(20104, 20100)]
   ·exact rsi0
   ·rfl
def Tryz.St_towncrierref15_without_w_1 (l1 : List TWait) : St := ⟨[(5, .ref 20100 7 0 l1.length (some uC))], [(20100, .arr 78 7 true (l1.map TWait.n))], 20101⟩
attribute [local go_sem] Tryz.St_towncrierref15_without_w_1
def Tryz.St_towncrierref15_without_w_3 (a0 : List TWait) (a1 : Int) (l2 : List TWait) (n1 : Int) : St := ⟨[(0, .ref 20000 7 0 a0.length (some uC)), (1, .int .i64 a1), (5, .ref 20100 7 0 l2.length (some uC)), (6, .int .i64 n1)], [(20000, .arr 78 7 true (a0.map TWait.n)), (20100, .arr 78 7 true (l2.map TWait.n))], 20101⟩
attribute [local go_sem] Tryz.St_towncrierref15_without_w_3
def Tryz.St_towncrierref15_without_w_5 (a0 : List TWait) (a1 : Int) (n1 : Int) (l3 : List TWait) : St := ⟨[(0, .ref 20000 7 0 a0.length (some uC)), (1, .int .i64 a1), (5, .ref 20101 7 0 l3.length (some uC)), (6, .int .i64 n1)], [(20000, .arr 78 7 true (a0.map TWait.n)), (20101, .arr 78 7 true (l3.map TWait.n))], 20102⟩
attribute [local go_sem] Tryz.St_towncrierref15_without_w_5
def Tryz.Re_towncrierref15_without_w (r : (List TWait)) : St := ⟨[(4, .ref 20100 7 0 r.length (some uC))], [(20100, .arr 78 7 true (r.map TWait.n))], 20101⟩
attribute [local go_sem] Tryz.Re_towncrierref15_without_w
theorem zhu (a0 : List TWait) (a1 : Int) (r : (List TWait)) (h : zct a0 a1 = some r) : CallH Tryz.prog 99 [.ref 20000 7 0 a0.length (some uC), .int .i64 a1] [(20000, .arr 78 7 true (a0.map TWait.n))] (.ref 20100 7 0 r.length (some uC)) [(20000, none), (20100, some (.arr 78 7 true (r.map TWait.n)))] (20100, 20105) := by
 refine za4 Tryz.tmOk Tryz.func99 rfl (by decide) (Nat.le_of_ble_eq_true rfl) (by simp) ?_
 intro hwf
 unfold zct at h
 refine .ends 20100 (Nat.le_refl _) ?_
 refine .seq ?_
 refine .pl zS [0, 1] ?_
 refine .seq ?_
 refine .pl zS [0, 1] ?_
 obtain ⟨x1, hx1, h⟩ := bind_some h
 refine .seqM 20100 (fun (j : (List TWait)) => Tryz.St_towncrierref15_without_w_1 j) (fun j => x1 = j) (Nat.le_of_ble_eq_true rfl) ?_ ?_
 ·refine .seq ?_
  refine .pl zS [0, 1, 5] ?_
  refine .block ?_
  refine .loopG 20100 (fun (j : Nat × (List TWait) × Int) => Tryz.St_towncrierref15_without_w_3 a0 a1 j.2.1 j.2.2) (fun j => zaw a0 a1 j.1 j.2.1 j.2.2 = some x1) (fun j => j.1) (a0.length + 1, [], 0) (Nat.le_of_ble_eq_true rfl) ?_ hx1 ?_
  ·refine Goes.new0 7 78 (Nat.le_of_ble_eq_true rfl) ?_
   refine Goes.wk 5 _ (.ref 20100 7 0 0 (some uC)) rfl (.own0 20100 _ _ _ (by decide)) ?_
   exact .m [0, 1, 5, 6] [20000, 20100] []
  rintro ⟨fu1, l2, n1⟩ hx1
  simp only [Tryz.St_towncrierref15_without_w_3]
  try simp only at hx1
  obtain ⟨fu1, rfl⟩ : ∃ k, fu1 = k + 1 := by cases fu1 with | zero => (rw [zaw] at hx1; cases hx1) | succ k => exact ⟨k, rfl⟩
  rw [zaw] at hx1
  refine .seq ?_
  refine .seq ?_
  refine .pl zS [0, 1, 5, 6] ?_
  refine .cond rfl rfl (fun hc1 => ?_) (fun hc1 => ?_)
  ·replace hx1 := za0 hx1 hc1
   refine .skip ?_
   obtain ⟨x2, hx2, hx1⟩ := bind_some hx1
   refine .seqM 20101 (fun (j : (List TWait)) => Tryz.St_towncrierref15_without_w_5 a0 a1 n1 j) (fun j => x2 = j) (Nat.le_of_ble_eq_true rfl) ?_ ?_
   ·refine .block ?_
    refine .seq ?_
    refine .pl zS [0, 1, 5, 6] ?_
    refine .cond rfl rfl (fun hc2 => ?_) (fun hc2 => ?_)
    ·replace hx2 := za0 hx2 hc2
     obtain ⟨k1, hx2⟩ := zai hx2
     obtain ⟨k2, hx2⟩ := zai hx2
     have e1 := zc8 TWait.n a0 n1
     replace e1 := e1 k1
     refine .plx zS e1 [0, 1, 5, 6] ?_
     refine ⟨_, ?_, (Option.some.inj hx2).symm⟩
     exact .m [0, 1, 5, 6] [20000, 20102] [(20102, 20101)]
    ·replace hx2 := za1 hx2 hc2
     refine .skip ?_
     refine ⟨_, ?_, (Option.some.inj hx2).symm⟩
     exact .m [0, 1, 5, 6] [20000, 20100] [(20100, 20101)]
   ·rintro l3 hj1
    subst x2
    try dsimp only at hx1
    simp only [Tryz.St_towncrierref15_without_w_5]
    refine .pl zS [0, 1, 5, 6] ?_
    refine ⟨(fu1, _, _), ?_, hx1, by dsimp only; omega⟩
    exact .m [0, 1, 5, 6] [20000, 20101] [(20101, 20100)]
  ·replace hx1 := za1 hx1 hc1
   refine .exit ?_
   refine ⟨_, ?_, (Option.some.inj hx1).symm⟩
   exact .m [5] [20100] []
 ·rintro l1 hj2
  subst x1
  try dsimp only at h
  simp only [Tryz.St_towncrierref15_without_w_1]
  refine .seq ?_
  refine .pl zS [5] ?_
  have hq := Option.some.inj h
  subst r
  refine .ret ⟨Tryz.Re_towncrierref15_without_w l1, ?_, .inr rfl, retH [20100] ?_ ?_⟩
  ·exact .m [4] [20100] []
  ·exact rsi0
  ·rfl
def Tryz.St_towncrierref15_Put_1 (a0 : TSkeen) (a2 : TCommand) (n1 : Int) (l1 : List TWait) : St := ⟨[(3, .ptr 20100 0), (5, .ptr 20101 0), (6, .ptr 20102 0)], [(20001, .arr 72 2 true (a0.Done.map TStamp.d)), (20100, .box [.int .i64 n1, .ref 20103 7 0 l1.length (some uC), .ref 20001 2 0 a0.Done.length (some uC)]), (20101, .box [.int .u8 a2.Kind, .int .i64 a2.Message.Id, .imm 1 (a2.Message.Groups.map (D.int .i64)) 4, .int .i64 a2.Message.Topic, .str a2.Message.Key, .str a2.Message.Body, .int .i64 a2.Id, .int .i64 a2.Time, .imm 1 (a2.Members.map (D.int .i64)) 4, .int .i64 a2.Topic, .int .i64 a2.Who, .int .i64 a2.N]), (20102, .box [.int .i64 0, .imm 0 [] 0, .imm 0 [] 0]), (20103, .arr 78 7 true (l1.map TWait.n))], 20104⟩
attribute [local go_sem] Tryz.St_towncrierref15_Put_1
def Tryz.St_towncrierref15_Put_3 (a0 : TSkeen) (n2 : Int) (l2 : List TWait) : St := ⟨[(3, .ptr 20100 0), (6, .ptr 20102 0)], [(20001, .arr 72 2 true (a0.Done.map TStamp.d)), (20100, .box [.int .i64 n2, .ref 20104 7 0 l2.length (some uC), .ref 20001 2 0 a0.Done.length (some uC)]), (20102, .box [.int .i64 0, .imm 0 [] 0, .imm 0 [] 0]), (20104, .arr 78 7 true (l2.map TWait.n))], 20105⟩
attribute [local go_sem] Tryz.St_towncrierref15_Put_3
def Tryz.St_towncrierref15_Put_5 (n2 : Int) (l3 : List TWait) (l4 : List TStamp) (l5 : List TMessage) : St := ⟨[(3, .ptr 20100 0), (6, .ptr 20102 0), (10, .ref 20107 5 0 l5.length (some uC))], [(20100, .box [.int .i64 n2, .ref 20105 7 0 l3.length (some uC), .ref 20106 2 0 l4.length (some uC)]), (20102, .box [.int .i64 0, .imm 0 [] 0, .imm 0 [] 0]), (20105, .arr 78 7 true (l3.map TWait.n)), (20106, .arr 72 2 true (l4.map TStamp.d)), (20107, .arr 46 5 true (l5.map TMessage.n))], 20108⟩
attribute [local go_sem] Tryz.St_towncrierref15_Put_5
def Tryz.St_towncrierref15_Put_7 (n2 : Int) (l6 : List TWait) (l7 : List TStamp) (l8 : List TMessage) : St := ⟨[(3, .ptr 20100 0), (6, .ptr 20102 0), (10, .ref 20107 5 0 l8.length (some uC))], [(20100, .box [.int .i64 n2, .ref 20105 7 0 l6.length (some uC), .ref 20106 2 0 l7.length (some uC)]), (20102, .box [.int .i64 0, .imm 0 [] 0, .imm 0 [] 0]), (20105, .arr 78 7 true (l6.map TWait.n)), (20106, .arr 72 2 true (l7.map TStamp.d)), (20107, .arr 46 5 true (l8.map TMessage.n))], 20108⟩
attribute [local go_sem] Tryz.St_towncrierref15_Put_7
def Tryz.Re_towncrierref15_Put (r : TSkeen × (List TMessage) × Bool) : St := ⟨[(6, .ptr 20103 0), (7, .ref 20102 5 0 r.2.1.length (some uC)), (8, .bool r.2.2)], [(20100, .arr 78 7 true (r.1.Waits.map TWait.n)), (20101, .arr 72 2 true (r.1.Done.map TStamp.d)), (20102, .arr 46 5 true (r.2.1.map TMessage.n)), (20103, .box [.int .i64 r.1.Clock, .ref 20100 7 0 r.1.Waits.length (some uC), .ref 20101 2 0 r.1.Done.length (some uC)])], 20104⟩
attribute [local go_sem] Tryz.Re_towncrierref15_Put
theorem zkd (a0 : TSkeen) (a1 : Int) (a2 : TCommand) (r : TSkeen × (List TMessage) × Bool) (h : zdj a0 a1 a2 = some r) : CallH Tryz.prog 73 [.agg [.int .i64 a0.Clock, .ref 20000 7 0 a0.Waits.length (some uC), .ref 20001 2 0 a0.Done.length (some uC)], .int .i64 a1, .agg [.int .u8 a2.Kind, .int .i64 a2.Message.Id, .imm 1 (a2.Message.Groups.map (D.int .i64)) 4, .int .i64 a2.Message.Topic, .str a2.Message.Key, .str a2.Message.Body, .int .i64 a2.Id, .int .i64 a2.Time, .imm 1 (a2.Members.map (D.int .i64)) 4, .int .i64 a2.Topic, .int .i64 a2.Who, .int .i64 a2.N]] [(20000, .arr 78 7 true (a0.Waits.map TWait.n)), (20001, .arr 72 2 true (a0.Done.map TStamp.d))] (.tuple [.agg [.int .i64 r.1.Clock, .ref 20100 7 0 r.1.Waits.length (some uC), .ref 20101 2 0 r.1.Done.length (some uC)], .ref 20102 5 0 r.2.1.length (some uC), .bool r.2.2]) [(20000, none), (20001, none), (20100, some (.arr 78 7 true (r.1.Waits.map TWait.n))), (20101, some (.arr 72 2 true (r.1.Done.map TStamp.d))), (20102, some (.arr 46 5 true (r.2.1.map TMessage.n)))] (20100, 20120) := by
 refine za4 Tryz.tmOk Tryz.func73 rfl (by decide) (Nat.le_of_ble_eq_true rfl) (by simp) ?_
 intro hwf
 unfold zdj at h
 refine .ends 20100 (Nat.le_refl _) ?_
 refine .seq ?_
 refine .pl zS [0, 1, 2] ?_
 obtain ⟨x1, hx1, h⟩ := bind_some h
 refine .seqM 20103 (fun (j : Int × (List TWait)) => Tryz.St_towncrierref15_Put_1 a0 a2 j.1 j.2) (fun j => x1 = (.inr j)) (Nat.le_of_ble_eq_true rfl) ?_ ?_
 ·refine .seq ?_
  obtain ⟨v1, hv1, hx1⟩ := bind_some hx1
  obtain ⟨v2, hv2, hx1⟩ := bind_some hx1
  obtain ⟨v3, hv3, hx1⟩ := bind_some hx1
  refine .rg zS [1, 3, 5, 6] ?_
  refine .rn 8 ?_
  refine .glcall (r := .int .i64 v1) [] rfl rfl rfl rfl rfl (fun hg => ⟨[], [.agg [.int .i64 a0.Clock, .ref 20000 7 0 a0.Waits.length (some uC), .ref 20001 2 0 a0.Done.length (some uC)], .int .i64 a2.Message.Id], _, rfl, gd hg, (za6 (zfd (zlm (za3 rfl (za3 (zgh ze7 (by first | rfl | (simp only [go_sem, Nat.reduceBEq]; rfl)) (by first | rfl | (simp; done) | (simp <;> omega))) (za3 (zef zfy (by first | rfl | (simp only [go_sem, Nat.reduceBEq]; rfl)) (by first | rfl | (simp; done) | (simp <;> omega))) zg1)))) trivial) (za6 rfl zas)), rfl, (zg8 a0 a2.Message.Id v1 (za0 hv1 hg))⟩) ?_
  refine .rn 7 ?_
  refine .glcall (r := .bool v2) [] rfl rfl rfl rfl rfl (fun hg => ⟨[], [.agg [.int .i64 a0.Clock, .ref 20000 7 0 a0.Waits.length (some uC), .ref 20001 2 0 a0.Done.length (some uC)], .int .i64 a2.Message.Id], _, rfl, gd hg, (za6 (zfd (zlm (za3 rfl (za3 (zgh ze7 (by first | rfl | (simp only [go_sem, Nat.reduceBEq]; rfl)) (by first | rfl | (simp; done) | (simp <;> omega))) (za3 (zef zfy (by first | rfl | (simp only [go_sem, Nat.reduceBEq]; rfl)) (by first | rfl | (simp; done) | (simp <;> omega))) zg1)))) trivial) (za6 rfl zas)), rfl, (zjj a0 a2.Message.Id v2 (za0 hv2 hg))⟩) ?_
  refine .rn 7 ?_
  refine .gcall (r := .bool v3) rfl rfl rfl rfl rfl (fun hg => ⟨[], [.imm 1 (a2.Message.Groups.map (D.int .i64)) 4, .int .i64 a1], _, rfl, gd hg, rfl, (zk8 a2.Message.Groups a1 v3 (za0 hv3 hg))⟩) ?_
  refine .rn 1 ?_
  refine .nil ⟨nofun, ?_⟩
  refine .cond rfl rfl (fun hc1 => ?_) (fun hc1 => ?_)
  ·replace hx1 := za0 hx1 hc1
   refine .seq ?_
   refine .seq ?_
   refine .rg zS [3, 5, 6] ?_
   refine .rn 6 ?_
   refine .rn 3 ?_
   refine .nil ⟨nofun, ?_⟩
   refine .cond rfl rfl (fun hc2 => ?_) (fun hc2 => ?_)
   ·replace hx1 := za0 hx1 hc2
    refine .seq ?_
    refine .pl zS [3, 6] ?_
    have hq := Option.some.inj hx1
    subst x1
    try dsimp only at h
    have hq := Option.some.inj h
    subst r
    refine .ret ⟨Tryz.Re_towncrierref15_Put (a0, [], false), ?_, .inr rfl, retH [20102, 20101, 20100] ?_ ?_⟩
    ·refine Goes.new0 5 46 (Nat.le_of_ble_eq_true rfl) ?_
     refine Goes.wk 7 _ (.ref 20103 5 0 0 (some uC)) rfl (.own0 20103 _ _ _ (by decide)) ?_
     exact .m [6, 7, 8] [20000, 20001, 20103, 20102] [(20000, 20100), (20001, 20101), (20103, 20102), (20102, 20103)]
    ·exact rsi0
    ·rfl
   ·replace hx1 := za1 hx1 hc2
    refine .skip ?_
    refine .seq ?_
    refine .pl zS [3, 5, 6] ?_
    obtain ⟨v4, hv4, hx1⟩ := bind_some hx1
    obtain ⟨v5, hv5, hx1⟩ := bind_some hx1
    refine .rg zS [3, 5, 6] ?_
    refine .rd 4 ?_
    refine .call (r := .agg [.int .i64 v4.Id, .imm 1 (v4.Groups.map (D.int .i64)) 12, .int .i64 v4.Topic, .str v4.Key, .str v4.Body]) rfl rfl rfl rfl rfl rfl (zex a2.Message v4 hv4) ?_
    refine .rd 3 ?_
    refine .hcall (H := [(20000, .arr 78 7 true (a0.Waits.map TWait.n))]) (eff := [(20000, none), (20109, some (.arr 78 7 true (v5.map TWait.n)))]) (nw := (20109, 20118)) (r := .ref 20109 7 0 v5.length (some uC)) rfl rfl rfl rfl rfl (zbm 20000 20000 (zcd 20109 (ziu a0.Waits (⟨v4, (wr .i64 (a0.Clock + 1)), false⟩ : TWait) v5 hv5))) (fun id b h => zae [20000] _ id b h) (by simp) (.inr ⟨Nat.le_of_ble_eq_true rfl, Nat.le_of_ble_eq_true rfl⟩) ?_
    refine .rd 2 ?_
    refine .nil ⟨fun _ => zab (by kernel_rfl), ?_⟩
    refine ⟨_, ?_, (Option.some.inj hx1).symm⟩
    exact .m [3, 5, 6] [20001, 20100, 20101, 20102, 20109] [(20109, 20103)]
  ·replace hx1 := za1 hx1 hc1
   refine .skip ?_
   refine ⟨_, ?_, (Option.some.inj hx1).symm⟩
   exact .m [3, 5, 6] [20001, 20100, 20101, 20102, 20000] [(20000, 20103)]
 ·rintro ⟨n1, l1⟩ hj1
  subst x1
  try dsimp only at h
  simp only [Tryz.St_towncrierref15_Put_1]
  refine .seq ?_
  obtain ⟨v6, hv6, h⟩ := bind_some h
  refine .rg zS [3, 5, 6] ?_
  refine .rn 3 ?_
  refine .lcall (r := .int .i64 v6) [] rfl rfl rfl rfl rfl (za6 (zfd (zlm (za3 rfl (za3 (zgh ze7 (by first | rfl | (simp only [go_sem, Nat.reduceBEq]; rfl)) (by first | rfl | (simp; done) | (simp <;> omega))) (za3 (zef zfy (by first | rfl | (simp only [go_sem, Nat.reduceBEq]; rfl)) (by first | rfl | (simp; done) | (simp <;> omega))) zg1)))) trivial) (za6 rfl zas)) rfl (zg8 (⟨n1, l1, a0.Done⟩ : TSkeen) a2.Id v6 hv6) ?_
  refine .rn 1 ?_
  refine .nil ⟨nofun, ?_⟩
  obtain ⟨x2, hx2, h⟩ := bind_some h
  refine .seqM 20104 (fun (j : Int × (List TWait)) => Tryz.St_towncrierref15_Put_3 a0 j.1 j.2) (fun j => x2 = j) (Nat.le_of_ble_eq_true rfl) ?_ ?_
  ·obtain ⟨k1, hx2⟩ := zai hx2
   obtain ⟨k2, hx2⟩ := zai hx2
   refine .seqM 20104 (fun (_ : Unit) => ⟨[(3, .ptr 20100 0), (5, .ptr 20101 0), (6, .ptr 20102 0), (9, .int .i64 v6), (92, .bool ((((a2.Kind == 2) && (decide (v6 >= 0))) && (!(l1.getD v6.toNat default).Final)) && (decide (a2.Time >= (l1.getD v6.toNat default).Time))))], [(20001, .arr 72 2 true (a0.Done.map TStamp.d)), (20100, .box [.int .i64 n1, .ref 20103 7 0 l1.length (some uC), .ref 20001 2 0 a0.Done.length (some uC)]), (20101, .box [.int .u8 a2.Kind, .int .i64 a2.Message.Id, .imm 1 (a2.Message.Groups.map (D.int .i64)) 4, .int .i64 a2.Message.Topic, .str a2.Message.Key, .str a2.Message.Body, .int .i64 a2.Id, .int .i64 a2.Time, .imm 1 (a2.Members.map (D.int .i64)) 4, .int .i64 a2.Topic, .int .i64 a2.Who, .int .i64 a2.N]), (20102, .box [.int .i64 0, .imm 0 [] 0, .imm 0 [] 0]), (20103, .arr 78 7 true (l1.map TWait.n))], 20104⟩) (fun _ => True) (Nat.le_of_ble_eq_true rfl) ?_ (fun _ _ => ?_)
   ·by_cases hgd : (a2.Kind = 2) /\ (v6 >= 0)
    ·have eg10 := zc8 TWait.n l1 v6 (k1 hgd)
     by_cases hgd : ((a2.Kind = 2) /\ (v6 >= 0)) /\ (¬ ((l1.getD v6.toNat default).Final = true))
     ·have eg20 := zc8 TWait.n l1 v6 (k2 hgd)
      refine .rg zS [3, 5, 6, 9] ?_
      refine .rdx 6 (And.intro eg10 eg20) ?_
      refine .rdx 6 (And.intro eg10 eg20) ?_
      refine .rdx 6 (And.intro eg10 eg20) ?_
      refine .rdx 6 (And.intro eg10 eg20) ?_
      refine .rdx 3 (And.intro eg10 eg20) ?_
      refine .nil ⟨fun _ => zab (by kernel_rfl), ?_⟩
      refine ⟨(), ?_, trivial⟩
      exact .m [3, 5, 6, 9, 92] [20001, 20100, 20101, 20102, 20103] []
     ·have hgf2 : (((a2.Kind == 2) && (decide (v6 >= 0))) && (!(l1.getD v6.toNat default).Final)) = false := by first | simpa using hgd | (simp at hgd ⊢; omega) | grind
      rcases zlx TWait.n l1 v6.toNat with eg20 | eg20
      ·refine .rg zS [3, 5, 6, 9] ?_
       refine .rdx 6 (And.intro eg10 (And.intro eg20 hgf2)) ?_
       refine .rdx 6 (And.intro eg10 (And.intro eg20 hgf2)) ?_
       refine .rdx 6 (And.intro eg10 (And.intro eg20 hgf2)) ?_
       refine .rdx 6 (And.intro eg10 (And.intro eg20 hgf2)) ?_
       refine .rdx 3 (And.intro eg10 (And.intro eg20 hgf2)) ?_
       refine .nil ⟨fun _ => zab (by kernel_rfl), ?_⟩
       refine ⟨(), ?_, trivial⟩
       exact .mx hgf2 [3, 5, 6, 9, 92] [20001, 20100, 20101, 20102, 20103] []
      ·refine .rg zS [3, 5, 6, 9] ?_
       refine .rdx 6 (And.intro eg10 (And.intro eg20 hgf2)) ?_
       refine .rdx 6 (And.intro eg10 (And.intro eg20 hgf2)) ?_
       refine .rdx 6 (And.intro eg10 (And.intro eg20 hgf2)) ?_
       refine .rdx 6 (And.intro eg10 (And.intro eg20 hgf2)) ?_
       refine .rdx 3 (And.intro eg10 (And.intro eg20 hgf2)) ?_
       refine .nil ⟨fun _ => zab (by kernel_rfl), ?_⟩
       refine ⟨(), ?_, trivial⟩
       exact .mx hgf2 [3, 5, 6, 9, 92] [20001, 20100, 20101, 20102, 20103] []
    ·have hgf1 : ((a2.Kind == 2) && (decide (v6 >= 0))) = false := by first | simpa using hgd | (simp at hgd ⊢; omega) | grind
     rcases zlx TWait.n l1 v6.toNat with eg10 | eg10
     ·by_cases hgd : ((a2.Kind = 2) /\ (v6 >= 0)) /\ (¬ ((l1.getD v6.toNat default).Final = true))
      ·have eg30 := zc8 TWait.n l1 v6 (k2 hgd)
       refine .rg zS [3, 5, 6, 9] ?_
       refine .rdx 6 (And.intro eg10 (And.intro hgf1 eg30)) ?_
       refine .rdx 6 (And.intro eg10 (And.intro hgf1 eg30)) ?_
       refine .rdx 6 (And.intro eg10 (And.intro hgf1 eg30)) ?_
       refine .rdx 6 (And.intro eg10 (And.intro hgf1 eg30)) ?_
       refine .rdx 3 (And.intro eg10 (And.intro hgf1 eg30)) ?_
       refine .nil ⟨fun _ => zab (by kernel_rfl), ?_⟩
       refine ⟨(), ?_, trivial⟩
       exact .mx hgf1 [3, 5, 6, 9, 92] [20001, 20100, 20101, 20102, 20103] []
      ·have hgf3 : (((a2.Kind == 2) && (decide (v6 >= 0))) && (!(l1.getD v6.toNat default).Final)) = false := by first | simpa using hgd | (simp at hgd ⊢; omega) | grind
       rcases zlx TWait.n l1 v6.toNat with eg30 | eg30
       ·refine .rg zS [3, 5, 6, 9] ?_
        refine .rdx 6 (And.intro eg10 (And.intro hgf1 (And.intro eg30 hgf3))) ?_
        refine .rdx 6 (And.intro eg10 (And.intro hgf1 (And.intro eg30 hgf3))) ?_
        refine .rdx 6 (And.intro eg10 (And.intro hgf1 (And.intro eg30 hgf3))) ?_
        refine .rdx 6 (And.intro eg10 (And.intro hgf1 (And.intro eg30 hgf3))) ?_
        refine .rdx 3 (And.intro eg10 (And.intro hgf1 (And.intro eg30 hgf3))) ?_
        refine .nil ⟨fun _ => zab (by kernel_rfl), ?_⟩
        refine ⟨(), ?_, trivial⟩
        exact .mx (And.intro hgf1 hgf3) [3, 5, 6, 9, 92] [20001, 20100, 20101, 20102, 20103] []
       ·refine .rg zS [3, 5, 6, 9] ?_
        refine .rdx 6 (And.intro eg10 (And.intro hgf1 (And.intro eg30 hgf3))) ?_
        refine .rdx 6 (And.intro eg10 (And.intro hgf1 (And.intro eg30 hgf3))) ?_
        refine .rdx 6 (And.intro eg10 (And.intro hgf1 (And.intro eg30 hgf3))) ?_
        refine .rdx 6 (And.intro eg10 (And.intro hgf1 (And.intro eg30 hgf3))) ?_
        refine .rdx 3 (And.intro eg10 (And.intro hgf1 (And.intro eg30 hgf3))) ?_
        refine .nil ⟨fun _ => zab (by kernel_rfl), ?_⟩
        refine ⟨(), ?_, trivial⟩
        exact .mx (And.intro hgf1 hgf3) [3, 5, 6, 9, 92] [20001, 20100, 20101, 20102, 20103] []
     ·by_cases hgd : ((a2.Kind = 2) /\ (v6 >= 0)) /\ (¬ ((l1.getD v6.toNat default).Final = true))
      ·have eg40 := zc8 TWait.n l1 v6 (k2 hgd)
       refine .rg zS [3, 5, 6, 9] ?_
       refine .rdx 6 (And.intro eg10 (And.intro hgf1 eg40)) ?_
       refine .rdx 6 (And.intro eg10 (And.intro hgf1 eg40)) ?_
       refine .rdx 6 (And.intro eg10 (And.intro hgf1 eg40)) ?_
       refine .rdx 6 (And.intro eg10 (And.intro hgf1 eg40)) ?_
       refine .rdx 3 (And.intro eg10 (And.intro hgf1 eg40)) ?_
       refine .nil ⟨fun _ => zab (by kernel_rfl), ?_⟩
       refine ⟨(), ?_, trivial⟩
       exact .mx hgf1 [3, 5, 6, 9, 92] [20001, 20100, 20101, 20102, 20103] []
      ·have hgf4 : (((a2.Kind == 2) && (decide (v6 >= 0))) && (!(l1.getD v6.toNat default).Final)) = false := by first | simpa using hgd | (simp at hgd ⊢; omega) | grind
       rcases zlx TWait.n l1 v6.toNat with eg40 | eg40
       ·refine .rg zS [3, 5, 6, 9] ?_
        refine .rdx 6 (And.intro eg10 (And.intro hgf1 (And.intro eg40 hgf4))) ?_
        refine .rdx 6 (And.intro eg10 (And.intro hgf1 (And.intro eg40 hgf4))) ?_
        refine .rdx 6 (And.intro eg10 (And.intro hgf1 (And.intro eg40 hgf4))) ?_
        refine .rdx 6 (And.intro eg10 (And.intro hgf1 (And.intro eg40 hgf4))) ?_
        refine .rdx 3 (And.intro eg10 (And.intro hgf1 (And.intro eg40 hgf4))) ?_
        refine .nil ⟨fun _ => zab (by kernel_rfl), ?_⟩
        refine ⟨(), ?_, trivial⟩
        exact .mx (And.intro hgf1 hgf4) [3, 5, 6, 9, 92] [20001, 20100, 20101, 20102, 20103] []
       ·refine .rg zS [3, 5, 6, 9] ?_
        refine .rdx 6 (And.intro eg10 (And.intro hgf1 (And.intro eg40 hgf4))) ?_
        refine .rdx 6 (And.intro eg10 (And.intro hgf1 (And.intro eg40 hgf4))) ?_
        refine .rdx 6 (And.intro eg10 (And.intro hgf1 (And.intro eg40 hgf4))) ?_
        refine .rdx 6 (And.intro eg10 (And.intro hgf1 (And.intro eg40 hgf4))) ?_
        refine .rdx 3 (And.intro eg10 (And.intro hgf1 (And.intro eg40 hgf4))) ?_
        refine .nil ⟨fun _ => zab (by kernel_rfl), ?_⟩
        refine ⟨(), ?_, trivial⟩
        exact .mx (And.intro hgf1 hgf4) [3, 5, 6, 9, 92] [20001, 20100, 20101, 20102, 20103] []
   refine .cond rfl rfl (fun hc3 => ?_) (fun hc3 => ?_)
   ·replace hx2 := za0 hx2 hc3
    refine .seq ?_
    obtain ⟨k3, hx2⟩ := zai hx2
    have e1 := zc8 TWait.n l1 v6
    have es1 := setN_map TWait.n l1 v6.toNat (⟨(l1.getD v6.toNat default).Message, a2.Time, (l1.getD v6.toNat default).Final⟩ : TWait)
    replace e1 := e1 k3
    replace es1 : setN (l1.map TWait.n) v6.toNat (.agg [.int .i64 ((l1.getD v6.toNat default).Message.Id), .imm 1 (((l1.getD v6.toNat default).Message.Groups).map (D.int .i64)) 12, .int .i64 ((l1.getD v6.toNat default).Message.Topic), .str ((l1.getD v6.toNat default).Message.Key), .str ((l1.getD v6.toNat default).Message.Body), .int .i64 a2.Time, .bool ((l1.getD v6.toNat default).Final)]) = (l1.set v6.toNat (⟨(l1.getD v6.toNat default).Message, a2.Time, (l1.getD v6.toNat default).Final⟩ : TWait)).map TWait.n := es1
    refine .plx zS (And.intro e1 es1) [3, 5, 6, 9] ?_
    refine .seq ?_
    obtain ⟨k4, hx2⟩ := zai hx2
    have e2 := zc8 TWait.n (l1.set v6.toNat (⟨(l1.getD v6.toNat default).Message, a2.Time, (l1.getD v6.toNat default).Final⟩ : TWait)) v6
    have es2 := setN_map TWait.n (l1.set v6.toNat (⟨(l1.getD v6.toNat default).Message, a2.Time, (l1.getD v6.toNat default).Final⟩ : TWait)) v6.toNat (⟨((l1.set v6.toNat (⟨(l1.getD v6.toNat default).Message, a2.Time, (l1.getD v6.toNat default).Final⟩ : TWait)).getD v6.toNat default).Message, ((l1.set v6.toNat (⟨(l1.getD v6.toNat default).Message, a2.Time, (l1.getD v6.toNat default).Final⟩ : TWait)).getD v6.toNat default).Time, true⟩ : TWait)
    replace e2 := e2 k4
    replace es2 : setN ((l1.set v6.toNat (⟨(l1.getD v6.toNat default).Message, a2.Time, (l1.getD v6.toNat default).Final⟩ : TWait)).map TWait.n) v6.toNat (.agg [.int .i64 (((l1.set v6.toNat (⟨(l1.getD v6.toNat default).Message, a2.Time, (l1.getD v6.toNat default).Final⟩ : TWait)).getD v6.toNat default).Message.Id), .imm 1 ((((l1.set v6.toNat (⟨(l1.getD v6.toNat default).Message, a2.Time, (l1.getD v6.toNat default).Final⟩ : TWait)).getD v6.toNat default).Message.Groups).map (D.int .i64)) 12, .int .i64 (((l1.set v6.toNat (⟨(l1.getD v6.toNat default).Message, a2.Time, (l1.getD v6.toNat default).Final⟩ : TWait)).getD v6.toNat default).Message.Topic), .str (((l1.set v6.toNat (⟨(l1.getD v6.toNat default).Message, a2.Time, (l1.getD v6.toNat default).Final⟩ : TWait)).getD v6.toNat default).Message.Key), .str (((l1.set v6.toNat (⟨(l1.getD v6.toNat default).Message, a2.Time, (l1.getD v6.toNat default).Final⟩ : TWait)).getD v6.toNat default).Message.Body), .int .i64 (((l1.set v6.toNat (⟨(l1.getD v6.toNat default).Message, a2.Time, (l1.getD v6.toNat default).Final⟩ : TWait)).getD v6.toNat default).Time), .bool true]) = ((l1.set v6.toNat (⟨(l1.getD v6.toNat default).Message, a2.Time, (l1.getD v6.toNat default).Final⟩ : TWait)).set v6.toNat (⟨((l1.set v6.toNat (⟨(l1.getD v6.toNat default).Message, a2.Time, (l1.getD v6.toNat default).Final⟩ : TWait)).getD v6.toNat default).Message, ((l1.set v6.toNat (⟨(l1.getD v6.toNat default).Message, a2.Time, (l1.getD v6.toNat default).Final⟩ : TWait)).getD v6.toNat default).Time, true⟩ : TWait)).map TWait.n := es2
    refine .plx zS (And.intro e2 es2) [3, 5, 6, 9] ?_
    refine .pl zS [3, 5, 6] ?_
    refine ⟨_, ?_, (Option.some.inj hx2).symm⟩
    exact .m [3, 6] [20001, 20100, 20102, 20103] [(20103, 20104)]
   ·replace hx2 := za1 hx2 hc3
    refine .skip ?_
    refine ⟨_, ?_, (Option.some.inj hx2).symm⟩
    exact .m [3, 6] [20001, 20100, 20102, 20103] [(20103, 20104)]
  ·rintro ⟨n2, l2⟩ hj2
   subst x2
   try dsimp only at h
   simp only [Tryz.St_towncrierref15_Put_3]
   refine .seq ?_
   refine .pl zS [3, 6] ?_
   obtain ⟨x3, hx3, h⟩ := bind_some h
   refine .seqM 20105 (fun (j : (List TWait) × (List TStamp) × (List TMessage)) => Tryz.St_towncrierref15_Put_5 n2 j.1 j.2.1 j.2.2) (fun j => x3 = j) (Nat.le_of_ble_eq_true rfl) ?_ ?_
   ·refine .block ?_
    refine .loopG 20105 (fun (j : Nat × (List TWait) × (List TStamp) × (List TMessage)) => Tryz.St_towncrierref15_Put_7 n2 j.2.1 j.2.2.1 j.2.2.2) (fun j => zay j.1 j.2.1 j.2.2.1 j.2.2.2 = some x3) (fun j => j.1) (a0.Waits.length + 2, l2, a0.Done, []) (Nat.le_of_ble_eq_true rfl) ?_ hx3 ?_
    ·refine Goes.new0 5 46 (Nat.le_of_ble_eq_true rfl) ?_
     refine Goes.wk 10 _ (.ref 20105 5 0 0 (some uC)) rfl (.own0 20105 _ _ _ (by decide)) ?_
     exact .m [3, 6, 10] [20100, 20102, 20104, 20001, 20105] [(20104, 20105), (20001, 20106), (20105, 20107)]
    rintro ⟨fu1, l6, l7, l8⟩ hx3
    simp only [Tryz.St_towncrierref15_Put_7]
    try simp only at hx3
    obtain ⟨fu1, rfl⟩ : ∃ k, fu1 = k + 1 := by cases fu1 with | zero => (rw [zay] at hx3; cases hx3) | succ k => exact ⟨k, rfl⟩
    rw [zay] at hx3
    refine .seq ?_
    refine .seq ?_
    refine .pl zS [3, 6, 10] ?_
    refine .cond rfl rfl (fun hc4 => ?_) (fun hc4 => ?_)
    ·replace hx3 := za0 hx3 hc4
     refine .skip ?_
     refine .block ?_
     refine .seq ?_
     obtain ⟨v7, hv7, hx3⟩ := bind_some hx3
     refine .rg zS [3, 6, 10] ?_
     refine .rn 2 ?_
     refine .lcall (r := .int .i64 v7) [] rfl rfl rfl rfl rfl (za6 (zfd (zgh ze7 (by first | rfl | (simp only [go_sem, Nat.reduceBEq]; rfl)) (by first | rfl | (simp; done) | (simp <;> omega))) trivial) zas) rfl (ziy l6 v7 hv7) ?_
     refine .rn 1 ?_
     refine .nil ⟨nofun, ?_⟩
     refine .seq ?_
     refine .seq ?_
     obtain ⟨k5, hx3⟩ := zai hx3
     have e3 := zc8 TWait.n l6 v7
     replace e3 := e3 k5
     refine .plx zS e3 [3, 6, 10, 11] ?_
     refine .cond rfl rfl (fun hc5 => ?_) (fun hc5 => ?_)
     ·replace hx3 := za0 hx3 hc5
      refine .exit ?_
      refine ⟨_, ?_, (Option.some.inj hx3).symm⟩
      exact .m [3, 6, 10] [20100, 20102, 20105, 20106, 20107] []
     ·replace hx3 := za1 hx3 hc5
      refine .skip ?_
      refine .seq ?_
      obtain ⟨k6, hx3⟩ := zai hx3
      obtain ⟨v8, hv8, hx3⟩ := bind_some hx3
      obtain ⟨k7, hx3⟩ := zai hx3
      have e4 := zc8 TWait.n l6 v7
      replace e4 := e4 k6
      refine .rg zS [3, 6, 10, 11] ?_
      refine .rdx 7 e4 ?_
      refine .call (r := .agg [.int .i64 v8.Time, .int .i64 v8.Id]) rfl rfl rfl rfl rfl rfl (zen (l6.getD v7.toNat default) v8 hv8) ?_
      refine .rdx 4 e4 ?_
      refine .nil ⟨fun _ => zab (by kernel_rfl), ?_⟩
      refine .seq ?_
      obtain ⟨k8, hx3⟩ := zai hx3
      obtain ⟨k9, hx3⟩ := zai hx3
      have e5 := zc8 TWait.n l6 v7
      replace e5 := e5 k8
      refine .rg zS [3, 6, 10, 11] ?_
      refine .rnx 6 e5 ?_
      refine .rnx 4 e5 ?_
      refine .nil ⟨nofun, ?_⟩
      obtain ⟨v9, hv9, hx3⟩ := bind_some hx3
      refine .rg zS [3, 6, 10, 11] ?_
      refine .rn 3 ?_
      refine .hcall (H := [(20105, .arr 78 7 true (l6.map TWait.n))]) (eff := [(20105, none), (20112, some (.arr 78 7 true (v9.map TWait.n)))]) (nw := (20112, 20117)) (r := .ref 20112 7 0 v9.length (some uC)) rfl rfl rfl rfl rfl (zbm 20000 20105 (zcd 20112 (zhu l6 v7 v9 hv9))) (fun id b h => zae [20105] _ id b h) (by simp) (.inr ⟨Nat.le_of_ble_eq_true rfl, Nat.le_of_ble_eq_true rfl⟩) ?_
      refine .rn 2 ?_
      refine .nil ⟨nofun, ?_⟩
      refine ⟨(fu1, _, _, _), ?_, hx3, by dsimp only; omega⟩
      exact .m [3, 6, 10] [20100, 20102, 20112, 20109, 20111] [(20112, 20105), (20109, 20106), (20111, 20107)]
    ·replace hx3 := za1 hx3 hc4
     refine .exit ?_
     refine ⟨_, ?_, (Option.some.inj hx3).symm⟩
     exact .m [3, 6, 10] [20100, 20102, 20105, 20106, 20107] []
   ·rintro ⟨l3, l4, l5⟩ hj3
    subst x3
    try dsimp only at h
    simp only [Tryz.St_towncrierref15_Put_5]
    refine .seq ?_
    refine .rg zS [3, 6, 10] ?_
    refine .rd 6 ?_
    refine .rd 3 ?_
    refine .nil ⟨fun _ => zab (by kernel_rfl), ?_⟩
    have hq := Option.some.inj h
    subst r
    refine .ret ⟨Tryz.Re_towncrierref15_Put ((⟨n2, l3, l4⟩ : TSkeen), l5, (decide ((l4.length : Int) <= 200))), ?_, .inr rfl, retH [20102, 20101, 20100] ?_ ?_⟩
    ·exact .m [6, 7, 8] [20105, 20106, 20107, 20102] [(20105, 20100), (20106, 20101), (20107, 20102), (20102, 20103)]
    ·exact rsi0
    ·rfl
def Tryz.St_towncrierref16_Steps_1 (l1 : List Ttowncrierref16_Step) : St := ⟨[(5, .ref 1 19 0 l1.length (some uC))], [(1, .arr 105 19 true (l1.map Ttowncrierref16_Step.n))], 2⟩
attribute [local go_sem] Tryz.St_towncrierref16_Steps_1
def Tryz.St_towncrierref16_Steps_3 (a0 : Int) (v1 : List TCommand) (n2 : Nat) (l2 : List Ttowncrierref16_Step) (n1 : Int) (l3 : List TWait) (l4 : List TStamp) : St := ⟨[(0, .int .i64 a0), (5, .ref 1 19 0 l2.length (some uC)), (6, .ptr 0 0), (7, .imm 12 (v1.map TCommand.d) 12), (8, .int .i64 (n2 : Int))], [(0, .box [.int .i64 n1, .imm 7 (l3.map TWait.d) 12, .imm 2 (l4.map TStamp.d) 12]), (1, .arr 105 19 true (l2.map Ttowncrierref16_Step.n))], 2⟩
attribute [local go_sem] Tryz.St_towncrierref16_Steps_3
def Tryz.St_towncrierref16_Steps_5 (a0 : Int) (v1 : List TCommand) (n2 : Nat) (l2 : List Ttowncrierref16_Step) (n1 : Int) (l3 : List TWait) (l4 : List TStamp) (n3 : Int) (l5 : List TWait) (l6 : List TStamp) (l7 : List TMessage) : St := ⟨[(0, .int .i64 a0), (5, .ref 1 19 0 l2.length (some uC)), (6, .ptr 0 0), (7, .imm 12 (v1.map TCommand.d) 12), (8, .int .i64 (n2 : Int)), (9, .ptr 40 0), (10, .imm 5 (l7.map TMessage.d) 12)], [(0, .box [.int .i64 n1, .imm 7 (l3.map TWait.d) 12, .imm 2 (l4.map TStamp.d) 12]), (1, .arr 105 19 true (l2.map Ttowncrierref16_Step.n)), (40, .box [.int .i64 n3, .imm 7 (l5.map TWait.d) 12, .imm 2 (l6.map TStamp.d) 12])], 41⟩
attribute [local go_sem] Tryz.St_towncrierref16_Steps_5
def Tryz.Re_towncrierref16_Steps (r : (List Ttowncrierref16_Step)) : St := ⟨[(4, .ref 0 19 0 r.length (some uC))], [(0, .arr 105 19 true (r.map Ttowncrierref16_Step.n))], 1⟩
attribute [local go_sem] Tryz.Re_towncrierref16_Steps
theorem zj3 (a0 : Int) (a1 : List (List UInt8)) (r : (List Ttowncrierref16_Step)) (h : zch a0 a1 = some r) : CallH Tryz.prog 47 [.int .i64 a0, .imm 1 (a1.map D.str) 4] [] (.ref 0 19 0 r.length (some uC)) [(0, some (.arr 105 19 true (r.map Ttowncrierref16_Step.n)))] (0, 45) := by
 refine za4 Tryz.tmOk Tryz.func47 rfl (by decide) (Nat.le_of_ble_eq_true rfl) (by simp) ?_
 intro hwf
 unfold zch at h
 refine .ends 0 (Nat.le_refl _) ?_
 refine .seq ?_
 refine .pl zS [0, 1] ?_
 refine .seq ?_
 refine .pl zS [0, 1] ?_
 refine .seq ?_
 refine .pl zS [0, 1, 5] ?_
 refine .seq ?_
 obtain ⟨v1, hv1, h⟩ := bind_some h
 refine .rg zS [0, 1, 5, 6] ?_
 refine .rn 1 ?_
 refine .call (r := .imm 12 (v1.map TCommand.d) 12) rfl rfl rfl rfl rfl rfl (zk5 a1 v1 hv1) ?_
 refine .rn 1 ?_
 refine .nil ⟨nofun, ?_⟩
 obtain ⟨x1, hx1, h⟩ := bind_some h
 refine .seqM 1 (fun (j : (List Ttowncrierref16_Step)) => Tryz.St_towncrierref16_Steps_1 j) (fun j => x1 = j) (Nat.le_of_ble_eq_true rfl) ?_ ?_
 ·refine .seq ?_
  refine .pl zS [0, 5, 6, 7] ?_
  refine .block ?_
  refine .loopG 1 (fun (j : Nat × (List Ttowncrierref16_Step) × Int × (List TWait) × (List TStamp)) => Tryz.St_towncrierref16_Steps_3 a0 v1 j.1 j.2.1 j.2.2.1 j.2.2.2.1 j.2.2.2.2) (fun j => j.1 <= v1.length /\ zb0 a0 (v1.drop j.1) j.2.1 j.2.2.1 j.2.2.2.1 j.2.2.2.2 = some x1) (fun j => v1.length - j.1) (0, [], 0, [], []) (Nat.le_of_ble_eq_true rfl) ?_ ⟨Nat.zero_le _, hx1⟩ ?_
  ·refine Goes.new0 19 105 (Nat.le_of_ble_eq_true rfl) ?_
   refine Goes.boxs 0 _ [.int .i64 0, .imm 7 [] 12, .imm 2 [] 12] rfl (.keep (.cons (.nil12 _ _ 0 (by decide)) (.cons (.nil12 _ _ 0 (by decide)) (.refl _)))) ?_
   refine Goes.wk 5 _ (.ref 1 19 0 0 (some uC)) rfl (.own0 1 _ _ _ (by decide)) ?_
   exact .m [0, 5, 6, 7, 8] [0, 1] []
  rintro ⟨n2, l2, n1, l3, l4⟩ ⟨hi1, hx1⟩
  simp only [Tryz.St_towncrierref16_Steps_3]
  simp only at hi1 hx1
  refine .wf 7 (.imm 12 (v1.map TCommand.d) 12) rfl ?_
  intro hln2
  replace hln2 : (v1.length : Int) <= 9223372036854775807 := by simp only [wf, wfL, IntKind.max, IntKind.min, IntKind.signed, IntKind.bits, List.length_map] at hln2; first | exact hln2.2 | exact hln2.1 | (simp at hln2; omega)
  refine .seq ?_
  refine .seq ?_
  refine .pl zS [0, 5, 6, 7, 8] ?_
  refine .cond rfl rfl (fun hc1 => ?_) (fun hc1 => ?_)
  ·have h1 : n2 < v1.length := by simpa using hc1
   have hwn2 : wr .i64 ((n2 : Int) + 1) = ((n2 + 1 : Nat) : Int) := zd5 h1 hln2
   have hpn2 : wr .i64 ((n2 : Int) - 1) = (n2 : Int) - 1 := zd6 h1 hln2
   rw [List.drop_eq_getElem_cons h1, zf5] at hx1
   refine .skip ?_
   refine .seq ?_
   refine .block ?_
   refine .seq ?_
   obtain ⟨v2, hv2, hx1⟩ := bind_some hx1
   obtain ⟨v3, hv3, hx1⟩ := bind_some hx1
   have e1 := zby TCommand.d v1 n2 h1
   refine .rg zS [0, 5, 6, 7, 8] ?_
   refine .rdx 1 (And.intro e1 hwn2) ?_
   refine .ncall (r := .agg [.int .i64 v2.Clock, .ref 10 7 0 v2.Waits.length (some uC), .ref 11 2 0 v2.Done.length (some uC)]) (eff := [(10, some (.arr 78 7 true (v2.Waits.map TWait.n))), (11, some (.arr 72 2 true (v2.Done.map TStamp.d)))]) (nw := (10, 20)) [] rfl rfl rfl rfl rfl (za6 rfl zas) rfl (zdi 10 (Nat.le_of_ble_eq_true rfl) (zjr (⟨n1, l3, l4⟩ : TSkeen) v2 hv2)) (zdo rfl rfl (zjx ze7 _ _ _) (zdo rfl rfl (zgm zfp _ _ _) zh0)) (by intro i hi; simp [D.ids, D.idsL] at hi <;> omega) rfl ⟨Nat.le_of_ble_eq_true rfl, Nat.le_of_ble_eq_true rfl⟩ ?_
   refine .rdx 5 (And.intro e1 hwn2) ?_
   refine .hcall (H := [(10, .arr 78 7 true (v2.Waits.map TWait.n)), (11, .arr 72 2 true (v2.Done.map TStamp.d))]) (eff := [(10, none), (11, none), (20, some (.arr 78 7 true (v3.1.Waits.map TWait.n))), (21, some (.arr 72 2 true (v3.1.Done.map TStamp.d))), (22, some (.arr 46 5 true (v3.2.1.map TMessage.n)))]) (nw := (20, 40)) (r := .tuple [.agg [.int .i64 v3.1.Clock, .ref 20 7 0 v3.1.Waits.length (some uC), .ref 21 2 0 v3.1.Done.length (some uC)], .ref 22 5 0 v3.2.1.length (some uC), .bool v3.2.2]) rfl rfl rfl rfl rfl (ziv 20 (zbm 20001 11 (zbm 20000 10 (callH_wkG (.keep (.keep (.cons (.aggs (.keep (.keep (.cons (.new4 _ _ rfl) (.keep (.keep (.keep (.keep (.keep (.cons (.new4 _ _ rfl) (.refl _))))))))))) (.refl _)))) (zkd v2 a0 (v1[n2]) v3 hv3))))) (fun id b h => zae [10, 11] _ id b h) (by simp) (.inr ⟨Nat.le_of_ble_eq_true rfl, Nat.le_of_ble_eq_true rfl⟩) ?_
   refine .rdx 8 (And.intro e1 hwn2) ?_
   refine .nil ⟨fun _ => zab (by kernel_rfl), ?_⟩
   obtain ⟨x2, hx2, hx1⟩ := bind_some hx1
   refine .seqM 41 (fun (j : Int × (List TWait) × (List TStamp) × (List TMessage)) => Tryz.St_towncrierref16_Steps_5 a0 v1 n2 l2 n1 l3 l4 j.1 j.2.1 j.2.2.1 j.2.2.2) (fun j => x2 = j) (Nat.le_of_ble_eq_true rfl) ?_ ?_
   ·refine .seq ?_
    refine .plx zS hwn2 [0, 5, 6, 7, 8, 9, 10, 11] ?_
    refine .cond rfl rfl (fun hc2 => ?_) (fun hc2 => ?_)
    ·replace hx2 := za0 hx2 hc2
     refine .seq ?_
     refine .plx zS hwn2 [0, 5, 6, 7, 8, 9] ?_
     refine .plx zS hwn2 [0, 5, 6, 7, 8, 9] ?_
     refine ⟨_, ?_, (Option.some.inj hx2).symm⟩
     refine Goes.wk 10 _ (.imm 5 [] 12) rfl (.nil12 _ _ 0 (by decide)) ?_
     exact .m [0, 5, 6, 7, 8, 9, 10] [0, 1, 40] []
    ·replace hx2 := za1 hx2 hc2
     refine .skip ?_
     refine ⟨_, ?_, (Option.some.inj hx2).symm⟩
     refine Goes.giveb 40 [.int .i64 v3.1.Clock, .ref 20 7 0 v3.1.Waits.length (some uC), .ref 21 2 0 v3.1.Done.length (some uC)] [.int .i64 v3.1.Clock, .imm 7 (v3.1.Waits.map TWait.d) 12, .imm 2 (v3.1.Done.map TStamp.d) 12] [0, 1, 22, 40] rfl rfl (za8 rfl (za8 (zhi ze7 rfl rfl) (za8 (zja zfp rfl rfl) zfe))) (by simp only [go_sem, D.ids, D.idsL, List.append_nil, List.nil_append, List.cons_append, List.mem_cons, List.not_mem_nil, or_false, forall_eq_or_imp, forall_eq, Nat.reduceBEq] <;> simp) ?_
     refine Goes.give 10 (.ref 22 5 0 v3.2.1.length (some uC)) (.imm 5 (v3.2.1.map TMessage.d) 12) [0, 1, 40] rfl (zhi zhl rfl rfl) (by simp only [go_sem, D.ids, D.idsL, List.append_nil, List.nil_append, List.cons_append, List.mem_cons, List.not_mem_nil, or_false, forall_eq_or_imp, forall_eq, Nat.reduceBEq] <;> simp) ?_
     exact .m [0, 5, 6, 7, 8, 9, 10] [0, 1, 40] []
   ·rintro ⟨n3, l5, l6, l7⟩ hj1
    subst x2
    try dsimp only at hx1
    simp only [Tryz.St_towncrierref16_Steps_5]
    refine .seq ?_
    obtain ⟨k1, hx1⟩ := zai hx1
    have e2 := zby TCommand.d v1 n2 h1
    refine .rg zS [0, 5, 6, 7, 8, 9, 10] ?_
    refine .rdx 6 (And.intro e2 hwn2) ?_
    refine .rdx 6 (And.intro e2 hwn2) ?_
    refine .nil ⟨fun _ => zab (by kernel_rfl), ?_⟩
    refine .plx zS hwn2 [0, 5, 6, 7, 8, 9] ?_
    refine .plx zS hwn2 [0, 5, 6, 7, 8] ?_
    refine ⟨(n2 + 1, _, _, _, _), ?_, ⟨by omega, hx1⟩, by dsimp only; omega⟩
    exact .m [0, 5, 6, 7, 8] [0, 42] [(42, 1)]
  ·have h2 : n2 = v1.length := by have h2b := of_decide_eq_false hc1; omega
   rw [List.drop_of_length_le (by omega), zf4] at hx1
   refine .exit ?_
   refine ⟨_, ?_, (Option.some.inj hx1).symm⟩
   exact .m [5] [1] []
 ·rintro l1 hj2
  subst x1
  try dsimp only at h
  simp only [Tryz.St_towncrierref16_Steps_1]
  refine .seq ?_
  refine .pl zS [5] ?_
  have hq := Option.some.inj h
  subst r
  refine .ret ⟨Tryz.Re_towncrierref16_Steps l1, ?_, .inr rfl, retH [0] ?_ ?_⟩
  ·exact .m [4] [1] [(1, 0)]
  ·exact rsi0
  ·rfl
theorem zg7 (a0 : Int) (a1 : List (List UInt8)) (r : (List Ttowncrierref16_Step)) (h : zch a0 a1 = some r) : CallP Tryz.prog 47 [.int .i64 a0, .imm 1 (a1.map D.str) 4] (.imm 19 (r.map Ttowncrierref16_Step.d) 12) :=
 zf1 (zhi zjv rfl rfl) (zj3 a0 a1 r h)
def Tryz.St_towncrierref16_Made_1 (n1 : Int) (l1 : List TWait) (l2 : List TStamp) (l3 : List TMessage) : St := ⟨[(4, .ptr 0 0), (6, .ptr 1 0), (7, .ref 2 5 0 l3.length (some uC))], [(0, .box [.int .i64 0, .imm 0 [] 0, .imm 0 [] 0]), (1, .box [.int .i64 n1, .imm 7 (l1.map TWait.d) 12, .imm 2 (l2.map TStamp.d) 12]), (2, .arr 46 5 true (l3.map TMessage.n))], 3⟩
attribute [local go_sem] Tryz.St_towncrierref16_Made_1
def Tryz.St_towncrierref16_Made_3 (v1 : List Ttowncrierref16_Step) (n3 : Nat) (n2 : Int) (l4 : List TWait) (l5 : List TStamp) (l6 : List TMessage) : St := ⟨[(4, .ptr 0 0), (6, .ptr 1 0), (7, .ref 2 5 0 l6.length (some uC)), (8, .imm 19 (v1.map Ttowncrierref16_Step.d) 12), (9, .int .i64 (n3 : Int))], [(0, .box [.int .i64 0, .imm 0 [] 0, .imm 0 [] 0]), (1, .box [.int .i64 n2, .imm 7 (l4.map TWait.d) 12, .imm 2 (l5.map TStamp.d) 12]), (2, .arr 46 5 true (l6.map TMessage.n))], 3⟩
attribute [local go_sem] Tryz.St_towncrierref16_Made_3
def Tryz.Re_towncrierref16_Made (r : TSkeen × (List TMessage)) : St := ⟨[(4, .ptr 1 0), (5, .ref 0 5 0 r.2.length (some uC))], [(0, .arr 46 5 true (r.2.map TMessage.n)), (1, .box [.int .i64 r.1.Clock, .imm 7 (r.1.Waits.map TWait.d) 12, .imm 2 (r.1.Done.map TStamp.d) 12])], 2⟩
attribute [local go_sem] Tryz.Re_towncrierref16_Made
theorem zjq (a0 : Int) (a1 : List (List UInt8)) (r : TSkeen × (List TMessage)) (h : zdx a0 a1 = some r) : CallH Tryz.prog 23 [.int .i64 a0, .imm 1 (a1.map D.str) 4] [] (.tuple [.agg [.int .i64 r.1.Clock, .imm 7 (r.1.Waits.map TWait.d) 12, .imm 2 (r.1.Done.map TStamp.d) 12], .ref 0 5 0 r.2.length (some uC)]) [(0, some (.arr 46 5 true (r.2.map TMessage.n)))] (0, 6) := by
 refine za4 Tryz.tmOk Tryz.func23 rfl (by decide) (Nat.le_of_ble_eq_true rfl) (by simp) ?_
 intro hwf
 unfold zdx at h
 refine .ends 0 (Nat.le_refl _) ?_
 refine .seq ?_
 refine .pl zS [0, 1] ?_
 refine .seq ?_
 refine .pl zS [0, 1, 4] ?_
 refine .seq ?_
 refine .pl zS [0, 1, 4, 6] ?_
 refine .seq ?_
 obtain ⟨v1, hv1, h⟩ := bind_some h
 refine .rg zS [0, 1, 4, 6, 7] ?_
 refine .rn 2 ?_
 refine .call (r := .imm 19 (v1.map Ttowncrierref16_Step.d) 12) rfl rfl rfl rfl rfl rfl (zg7 a0 a1 v1 hv1) ?_
 refine .rn 1 ?_
 refine .nil ⟨nofun, ?_⟩
 obtain ⟨x1, hx1, h⟩ := bind_some h
 refine .seqM 2 (fun (j : Int × (List TWait) × (List TStamp) × (List TMessage)) => Tryz.St_towncrierref16_Made_1 j.1 j.2.1 j.2.2.1 j.2.2.2) (fun j => x1 = j) (Nat.le_of_ble_eq_true rfl) ?_ ?_
 ·refine .seq ?_
  refine .pl zS [4, 6, 7, 8] ?_
  refine .block ?_
  refine .loopG 2 (fun (j : Nat × Int × (List TWait) × (List TStamp) × (List TMessage)) => Tryz.St_towncrierref16_Made_3 v1 j.1 j.2.1 j.2.2.1 j.2.2.2.1 j.2.2.2.2) (fun j => j.1 <= v1.length /\ zb8 (v1.drop j.1) j.2.1 j.2.2.1 j.2.2.2.1 j.2.2.2.2 = some x1) (fun j => v1.length - j.1) (0, 0, [], [], []) (Nat.le_of_ble_eq_true rfl) ?_ ⟨Nat.zero_le _, hx1⟩ ?_
  ·refine Goes.new0 5 46 (Nat.le_of_ble_eq_true rfl) ?_
   refine Goes.boxs 1 _ [.int .i64 0, .imm 7 [] 12, .imm 2 [] 12] rfl (.keep (.cons (.nil12 _ _ 0 (by decide)) (.cons (.nil12 _ _ 0 (by decide)) (.refl _)))) ?_
   refine Goes.wk 7 _ (.ref 2 5 0 0 (some uC)) rfl (.own0 2 _ _ _ (by decide)) ?_
   exact .m [4, 6, 7, 8, 9] [0, 1, 2] []
  rintro ⟨n3, n2, l4, l5, l6⟩ ⟨hi1, hx1⟩
  simp only [Tryz.St_towncrierref16_Made_3]
  simp only at hi1 hx1
  refine .wf 8 (.imm 19 (v1.map Ttowncrierref16_Step.d) 12) rfl ?_
  intro hln3
  replace hln3 : (v1.length : Int) <= 9223372036854775807 := by simp only [wf, wfL, IntKind.max, IntKind.min, IntKind.signed, IntKind.bits, List.length_map] at hln3; first | exact hln3.2 | exact hln3.1 | (simp at hln3; omega)
  refine .seq ?_
  refine .seq ?_
  refine .pl zS [4, 6, 7, 8, 9] ?_
  refine .cond rfl rfl (fun hc1 => ?_) (fun hc1 => ?_)
  ·have h1 : n3 < v1.length := by simpa using hc1
   have hwn3 : wr .i64 ((n3 : Int) + 1) = ((n3 + 1 : Nat) : Int) := zd5 h1 hln3
   have hpn3 : wr .i64 ((n3 : Int) - 1) = (n3 : Int) - 1 := zd6 h1 hln3
   rw [List.drop_eq_getElem_cons h1, zfl] at hx1
   refine .skip ?_
   refine .seq ?_
   refine .block ?_
   refine .seq ?_
   have e1 := zby Ttowncrierref16_Step.d v1 n3 h1
   refine .plx zS (And.intro e1 hwn3) [4, 6, 7, 8, 9] ?_
   obtain ⟨k1, hx1⟩ := zai hx1
   have e2 := zby Ttowncrierref16_Step.d v1 n3 h1
   refine .plx zS (And.intro e2 hwn3) [4, 6, 7, 8, 9] ?_
   refine .plx zS hwn3 [4, 6, 7, 8, 9] ?_
   refine ⟨(n3 + 1, _, _, _, _), ?_, ⟨by omega, hx1⟩, by dsimp only; omega⟩
   exact .m [4, 6, 7, 8, 9] [0, 1, 3] [(3, 2)]
  ·have h2 : n3 = v1.length := by have h2b := of_decide_eq_false hc1; omega
   rw [List.drop_of_length_le (by omega), zfk] at hx1
   refine .exit ?_
   refine ⟨_, ?_, (Option.some.inj hx1).symm⟩
   exact .m [4, 6, 7] [0, 1, 2] []
 ·rintro ⟨n1, l1, l2, l3⟩ hj1
  subst x1
  try dsimp only at h
  simp only [Tryz.St_towncrierref16_Made_1]
  refine .seq ?_
  refine .pl zS [4, 6, 7] ?_
  have hq := Option.some.inj h
  subst r
  refine .ret ⟨Tryz.Re_towncrierref16_Made ((⟨n1, l1, l2⟩ : TSkeen), l3), ?_, .inr rfl, retH [0] ?_ ?_⟩
  ·exact .m [4, 5] [2, 0] [(2, 0), (0, 1)]
  ·exact rsi0
  ·rfl
theorem zji (a0 : Int) (a1 : List (List UInt8)) (r : TSkeen × (List TMessage)) (h : zdx a0 a1 = some r) : CallP Tryz.prog 23 [.int .i64 a0, .imm 1 (a1.map D.str) 4] (.tuple [.agg [.int .i64 r.1.Clock, .imm 7 (r.1.Waits.map TWait.d) 12, .imm 2 (r.1.Done.map TStamp.d) 12], .imm 5 (r.2.map TMessage.d) 12]) :=
 zf1 (zm5 (za8 (zm6 (za8 rfl (za8 rfl (za8 rfl zfe)))) (za8 (zhi zhl rfl rfl) zfe))) (zjq a0 a1 r h)
theorem zg6 (a0 : Int) (a1 : List (List UInt8)) (r : Int) (h : zd1 a0 a1 = some r) : CallP Tryz.prog 22 [.int .i64 a0, .imm 1 (a1.map D.str) 4] (.int .i64 r) := by
 refine za5 Tryz.tmOk 2 Tryz.func22 rfl (by decide) rfl rfl (Nat.le_of_ble_eq_true rfl) ?_
 intro hwf
 unfold zd1 at h
 refine .seq ?_
 refine .pl zS [0, 1] ?_
 refine .seq ?_
 refine .seq ?_
 refine .pl zS [0, 1] ?_
 refine .cond rfl rfl (fun hc1 => ?_) (fun hc1 => ?_)
 ·replace h := za0 h hc1
  refine .seq ?_
  refine .pl zS [] ?_
  have hq := Option.some.inj h
  subst r
  exact .ret ⟨.inr rfl, rsi⟩
 ·replace h := za1 h hc1
  refine .skip ?_
  refine .seq ?_
  obtain ⟨v1, hv1, h⟩ := bind_some h
  refine .rg zS [1] ?_
  refine .rn 1 ?_
  refine .call (r := .int .i64 v1) rfl rfl rfl rfl rfl rfl (ziz a1 v1 hv1) ?_
  refine .rn 1 ?_
  refine .nil ⟨nofun, ?_⟩
  have hq := Option.some.inj h
  subst r
  exact .ret ⟨.inr rfl, rsi⟩
def Tryz.Re_towncrierref16_Play (r : TSkeen × (List TMessage) × Int) : St := ⟨[(4, .ptr 0 0), (5, .imm 5 (r.2.1.map TMessage.d) 12), (6, .int .i64 r.2.2)], [(0, .box [.int .i64 r.1.Clock, .imm 7 (r.1.Waits.map TWait.d) 12, .imm 2 (r.1.Done.map TStamp.d) 12])], 1⟩
attribute [local go_sem] Tryz.Re_towncrierref16_Play
theorem zjp (a0 : Int) (a1 : List (List UInt8)) (r : TSkeen × (List TMessage) × Int) (h : zd9 a0 a1 = some r) : CallH Tryz.prog 7 [.int .i64 a0, .imm 1 (a1.map D.str) 4] [] (.tuple [.agg [.int .i64 r.1.Clock, .imm 7 (r.1.Waits.map TWait.d) 12, .imm 2 (r.1.Done.map TStamp.d) 12], .imm 5 (r.2.1.map TMessage.d) 12, .int .i64 r.2.2]) [] (0, 4) := by
 refine za4 Tryz.tmOk Tryz.func7 rfl (by decide) (Nat.le_of_ble_eq_true rfl) (by simp) ?_
 intro hwf
 unfold zd9 at h
 refine .ends 0 (Nat.le_refl _) ?_
 refine .seq ?_
 refine .pl zS [0, 1] ?_
 refine .seq ?_
 obtain ⟨v1, hv1, h⟩ := bind_some h
 refine .rg zS [0, 1, 4] ?_
 refine .rn 2 ?_
 refine .call (r := .int .i64 v1) rfl rfl rfl rfl rfl rfl (zg6 a0 a1 v1 hv1) ?_
 refine .rn 1 ?_
 refine .nil ⟨nofun, ?_⟩
 refine .seq ?_
 refine .seq ?_
 refine .pl zS [0, 1, 4, 7] ?_
 refine .cond rfl rfl (fun hc1 => ?_) (fun hc1 => ?_)
 ·replace h := za0 h hc1
  refine .seq ?_
  refine .pl zS [4, 7] ?_
  have hq := Option.some.inj h
  subst r
  refine .ret ⟨Tryz.Re_towncrierref16_Play ((⟨0, [], []⟩ : TSkeen), [], v1), ?_, .inr rfl, retH [] ?_ ?_⟩
  ·refine Goes.boxs 0 _ [.int .i64 0, .imm 7 [] 12, .imm 2 [] 12] rfl (.keep (.cons (.nil12 _ _ 0 (by decide)) (.cons (.nil12 _ _ 0 (by decide)) (.refl _)))) ?_
   refine Goes.wk 5 _ (.imm 5 [] 12) rfl (.nil12 _ _ 0 (by decide)) ?_
   exact .m [4, 5, 6] [0] []
  ·exact rsi0
  ·rfl
 ·replace h := za1 h hc1
  refine .skip ?_
  refine .seq ?_
  obtain ⟨v2, hv2, h⟩ := bind_some h
  refine .rg zS [0, 1, 4] ?_
  refine .rn 2 ?_
  refine .call (r := .tuple [.agg [.int .i64 v2.1.Clock, .imm 7 (v2.1.Waits.map TWait.d) 12, .imm 2 (v2.1.Done.map TStamp.d) 12], .imm 5 (v2.2.map TMessage.d) 12]) rfl rfl rfl rfl rfl rfl (zji a0 a1 v2 hv2) ?_
  refine .rn 6 ?_
  refine .nil ⟨nofun, ?_⟩
  refine .seq ?_
  refine .pl zS [4, 8, 9] ?_
  have hq := Option.some.inj h
  subst r
  refine .ret ⟨Tryz.Re_towncrierref16_Play (v2.1, v2.2, 0), ?_, .inr rfl, retH [] ?_ ?_⟩
  ·exact .m [4, 5, 6] [0] []
  ·exact rsi0
  ·rfl
theorem zjh (a0 : Int) (a1 : List (List UInt8)) (r : TSkeen × (List TMessage) × Int) (h : zd9 a0 a1 = some r) : CallP Tryz.prog 7 [.int .i64 a0, .imm 1 (a1.map D.str) 4] (.tuple [.agg [.int .i64 r.1.Clock, .imm 7 (r.1.Waits.map TWait.d) 12, .imm 2 (r.1.Done.map TStamp.d) 12], .imm 5 (r.2.1.map TMessage.d) 12, .int .i64 r.2.2]) :=
 zf1 (zm5 (za8 (zm6 (za8 rfl (za8 rfl (za8 rfl zfe)))) (za8 rfl (za8 rfl zfe)))) (zjp a0 a1 r h)
def Tryz.St_towncrierref16_Times_1 (l1 : List Ttowncrierref16_Given) : St := ⟨[(5, .ref 0 6 0 l1.length (some uC))], [(0, .arr 76 6 true (l1.map Ttowncrierref16_Given.n))], 1⟩
attribute [local go_sem] Tryz.St_towncrierref16_Times_1
def Tryz.St_towncrierref16_Times_3 (v1 : List Ttowncrierref16_Step) (n1 : Nat) (l2 : List Ttowncrierref16_Given) : St := ⟨[(5, .ref 0 6 0 l2.length (some uC)), (6, .imm 19 (v1.map Ttowncrierref16_Step.d) 12), (7, .int .i64 (n1 : Int))], [(0, .arr 76 6 true (l2.map Ttowncrierref16_Given.n))], 1⟩
attribute [local go_sem] Tryz.St_towncrierref16_Times_3
def Tryz.St_towncrierref16_Times_5 (v1 : List Ttowncrierref16_Step) (n1 : Nat) (l3 : List Ttowncrierref16_Given) : St := ⟨[(5, .ref 1 6 0 l3.length (some uC)), (6, .imm 19 (v1.map Ttowncrierref16_Step.d) 12), (7, .int .i64 (n1 : Int))], [(1, .arr 76 6 true (l3.map Ttowncrierref16_Given.n))], 2⟩
attribute [local go_sem] Tryz.St_towncrierref16_Times_5
def Tryz.Re_towncrierref16_Times (r : (List Ttowncrierref16_Given)) : St := ⟨[(4, .ref 0 6 0 r.length (some uC))], [(0, .arr 76 6 true (r.map Ttowncrierref16_Given.n))], 1⟩
attribute [local go_sem] Tryz.Re_towncrierref16_Times
theorem zj2 (a0 : Int) (a1 : List (List UInt8)) (r : (List Ttowncrierref16_Given)) (h : zdp a0 a1 = some r) : CallH Tryz.prog 25 [.int .i64 a0, .imm 1 (a1.map D.str) 4] [] (.ref 0 6 0 r.length (some uC)) [(0, some (.arr 76 6 true (r.map Ttowncrierref16_Given.n)))] (0, 5) := by
 refine za4 Tryz.tmOk Tryz.func25 rfl (by decide) (Nat.le_of_ble_eq_true rfl) (by simp) ?_
 intro hwf
 unfold zdp at h
 refine .ends 0 (Nat.le_refl _) ?_
 refine .seq ?_
 refine .pl zS [0, 1] ?_
 refine .seq ?_
 refine .pl zS [0, 1] ?_
 refine .seq ?_
 obtain ⟨v1, hv1, h⟩ := bind_some h
 refine .rg zS [0, 1, 5] ?_
 refine .rn 2 ?_
 refine .call (r := .imm 19 (v1.map Ttowncrierref16_Step.d) 12) rfl rfl rfl rfl rfl rfl (zg7 a0 a1 v1 hv1) ?_
 refine .rn 1 ?_
 refine .nil ⟨nofun, ?_⟩
 obtain ⟨x1, hx1, h⟩ := bind_some h
 refine .seqM 0 (fun (j : (List Ttowncrierref16_Given)) => Tryz.St_towncrierref16_Times_1 j) (fun j => x1 = j) (Nat.le_of_ble_eq_true rfl) ?_ ?_
 ·refine .seq ?_
  refine .pl zS [5, 6] ?_
  refine .block ?_
  refine .loopG 0 (fun (j : Nat × (List Ttowncrierref16_Given)) => Tryz.St_towncrierref16_Times_3 v1 j.1 j.2) (fun j => j.1 <= v1.length /\ zbh (v1.drop j.1) j.2 = some x1) (fun j => v1.length - j.1) (0, []) (Nat.le_of_ble_eq_true rfl) ?_ ⟨Nat.zero_le _, hx1⟩ ?_
  ·refine Goes.new0 6 76 (Nat.le_of_ble_eq_true rfl) ?_
   refine Goes.wk 5 _ (.ref 0 6 0 0 (some uC)) rfl (.own0 0 _ _ _ (by decide)) ?_
   exact .m [5, 6, 7] [0] []
  rintro ⟨n1, l2⟩ ⟨hi1, hx1⟩
  simp only [Tryz.St_towncrierref16_Times_3]
  simp only at hi1 hx1
  refine .wf 6 (.imm 19 (v1.map Ttowncrierref16_Step.d) 12) rfl ?_
  intro hln1
  replace hln1 : (v1.length : Int) <= 9223372036854775807 := by simp only [wf, wfL, IntKind.max, IntKind.min, IntKind.signed, IntKind.bits, List.length_map] at hln1; first | exact hln1.2 | exact hln1.1 | (simp at hln1; omega)
  refine .seq ?_
  refine .seq ?_
  refine .pl zS [5, 6, 7] ?_
  refine .cond rfl rfl (fun hc1 => ?_) (fun hc1 => ?_)
  ·have h1 : n1 < v1.length := by simpa using hc1
   have hwn1 : wr .i64 ((n1 : Int) + 1) = ((n1 + 1 : Nat) : Int) := zd5 h1 hln1
   have hpn1 : wr .i64 ((n1 : Int) - 1) = (n1 : Int) - 1 := zd6 h1 hln1
   rw [List.drop_eq_getElem_cons h1, zf3] at hx1
   refine .skip ?_
   obtain ⟨x2, hx2, hx1⟩ := bind_some hx1
   refine .seqM 1 (fun (j : (List Ttowncrierref16_Given)) => Tryz.St_towncrierref16_Times_5 v1 n1 j) (fun j => x2 = j) (Nat.le_of_ble_eq_true rfl) ?_ ?_
   ·refine .block ?_
    refine .seq ?_
    have e1 := zby Ttowncrierref16_Step.d v1 n1 h1
    have e2 := zby Ttowncrierref16_Step.d v1 n1 h1
    refine .rg zS [5, 6, 7] ?_
    refine .rdx 6 (And.intro e1 (And.intro e2 hwn1)) ?_
    refine .rdx 6 (And.intro e1 (And.intro e2 hwn1)) ?_
    refine .rdx 3 (And.intro e1 (And.intro e2 hwn1)) ?_
    refine .nil ⟨fun _ => zab (by kernel_rfl), ?_⟩
    refine .cond rfl rfl (fun hc2 => ?_) (fun hc2 => ?_)
    ·replace hx2 := za0 hx2 hc2
     obtain ⟨k1, hx2⟩ := zai hx2
     have e3 := zby Ttowncrierref16_Step.d v1 n1 h1
     have e4 := zby Ttowncrierref16_Step.d v1 n1 h1
     refine .rg zS [5, 6, 7] ?_
     refine .rdx 6 (And.intro e3 (And.intro e4 hwn1)) ?_
     refine .rdx 6 (And.intro e3 (And.intro e4 hwn1)) ?_
     refine .rdx 5 (And.intro e3 (And.intro e4 hwn1)) ?_
     refine .nil ⟨fun _ => zab (by kernel_rfl), ?_⟩
     refine ⟨_, ?_, (Option.some.inj hx2).symm⟩
     exact .m [5, 6, 7] [2] [(2, 1)]
    ·replace hx2 := za1 hx2 hc2
     refine .skip ?_
     refine ⟨_, ?_, (Option.some.inj hx2).symm⟩
     exact .m [5, 6, 7] [0] [(0, 1)]
   ·rintro l3 hj1
    subst x2
    try dsimp only at hx1
    simp only [Tryz.St_towncrierref16_Times_5]
    refine .plx zS hwn1 [5, 6, 7] ?_
    refine ⟨(n1 + 1, _), ?_, ⟨by omega, hx1⟩, by dsimp only; omega⟩
    exact .m [5, 6, 7] [1] [(1, 0)]
  ·have h2 : n1 = v1.length := by have h2b := of_decide_eq_false hc1; omega
   rw [List.drop_of_length_le (by omega), zf2] at hx1
   refine .exit ?_
   refine ⟨_, ?_, (Option.some.inj hx1).symm⟩
   exact .m [5] [0] []
 ·rintro l1 hj2
  subst x1
  try dsimp only at h
  simp only [Tryz.St_towncrierref16_Times_1]
  refine .seq ?_
  refine .pl zS [5] ?_
  have hq := Option.some.inj h
  subst r
  refine .ret ⟨Tryz.Re_towncrierref16_Times l1, ?_, .inr rfl, retH [0] ?_ ?_⟩
  ·exact .m [4] [0] []
  ·exact rsi0
  ·rfl
theorem ziw (a0 : Int) (a1 : List (List UInt8)) (r : (List Ttowncrierref16_Given)) (h : zdp a0 a1 = some r) : CallP Tryz.prog 25 [.int .i64 a0, .imm 1 (a1.map D.str) 4] (.imm 6 (r.map Ttowncrierref16_Given.d) 12) :=
 zf1 (zhi zje rfl rfl) (zj2 a0 a1 r h)
def Tryz.St_towncrierref16_Local_1 (l1 : List TStamp) : St := ⟨[(7, .ref 0 2 0 l1.length (some uC))], [(0, .arr 72 2 true (l1.map TStamp.d))], 1⟩
attribute [local go_sem] Tryz.St_towncrierref16_Local_1
def Tryz.St_towncrierref16_Local_3 (v2 : List Ttowncrierref16_Given) (n1 : Nat) (l2 : List TStamp) : St := ⟨[(7, .ref 0 2 0 l2.length (some uC)), (8, .imm 6 (v2.map Ttowncrierref16_Given.d) 12), (9, .int .i64 (n1 : Int))], [(0, .arr 72 2 true (l2.map TStamp.d))], 1⟩
attribute [local go_sem] Tryz.St_towncrierref16_Local_3
def Tryz.Re_towncrierref16_Local (r : (List TStamp) × Int) : St := ⟨[(4, .ref 0 2 0 r.1.length (some uC)), (5, .int .i64 r.2)], [(0, .arr 72 2 true (r.1.map TStamp.d))], 1⟩
attribute [local go_sem] Tryz.Re_towncrierref16_Local
theorem zj4 (a0 : Int) (a1 : List (List UInt8)) (r : (List TStamp) × Int) (h : zdq a0 a1 = some r) : CallH Tryz.prog 9 [.int .i64 a0, .imm 1 (a1.map D.str) 4] [] (.tuple [.ref 0 2 0 r.1.length (some uC), .int .i64 r.2]) [(0, some (.arr 72 2 true (r.1.map TStamp.d)))] (0, 5) := by
 refine za4 Tryz.tmOk Tryz.func9 rfl (by decide) (Nat.le_of_ble_eq_true rfl) (by simp) ?_
 intro hwf
 unfold zdq at h
 refine .ends 0 (Nat.le_refl _) ?_
 refine .seq ?_
 refine .pl zS [0, 1] ?_
 refine .seq ?_
 obtain ⟨v1, hv1, h⟩ := bind_some h
 refine .rg zS [0, 1] ?_
 refine .rn 2 ?_
 refine .call (r := .int .i64 v1) rfl rfl rfl rfl rfl rfl (zg6 a0 a1 v1 hv1) ?_
 refine .rn 1 ?_
 refine .nil ⟨nofun, ?_⟩
 refine .seq ?_
 refine .seq ?_
 refine .pl zS [0, 1, 6] ?_
 refine .cond rfl rfl (fun hc1 => ?_) (fun hc1 => ?_)
 ·replace h := za0 h hc1
  refine .seq ?_
  refine .pl zS [6] ?_
  have hq := Option.some.inj h
  subst r
  refine .ret ⟨Tryz.Re_towncrierref16_Local ([], v1), ?_, .inr rfl, retH [0] ?_ ?_⟩
  ·refine Goes.new0 2 72 (Nat.le_of_ble_eq_true rfl) ?_
   refine Goes.wk 4 _ (.ref 0 2 0 0 (some uC)) rfl (.own0 0 _ _ _ (by decide)) ?_
   exact .m [4, 5] [0] []
  ·exact rsi0
  ·rfl
 ·replace h := za1 h hc1
  refine .skip ?_
  refine .seq ?_
  refine .pl zS [0, 1] ?_
  refine .seq ?_
  obtain ⟨v2, hv2, h⟩ := bind_some h
  refine .rg zS [0, 1, 7] ?_
  refine .rn 2 ?_
  refine .call (r := .imm 6 (v2.map Ttowncrierref16_Given.d) 12) rfl rfl rfl rfl rfl rfl (ziw a0 a1 v2 hv2) ?_
  refine .rn 1 ?_
  refine .nil ⟨nofun, ?_⟩
  obtain ⟨x1, hx1, h⟩ := bind_some h
  refine .seqM 0 (fun (j : (List TStamp)) => Tryz.St_towncrierref16_Local_1 j) (fun j => x1 = j) (Nat.le_of_ble_eq_true rfl) ?_ ?_
  ·refine .seq ?_
   refine .pl zS [7, 8] ?_
   refine .block ?_
   refine .loopG 0 (fun (j : Nat × (List TStamp)) => Tryz.St_towncrierref16_Local_3 v2 j.1 j.2) (fun j => j.1 <= v2.length /\ zbi (v2.drop j.1) j.2 = some x1) (fun j => v2.length - j.1) (0, []) (Nat.le_of_ble_eq_true rfl) ?_ ⟨Nat.zero_le _, hx1⟩ ?_
   ·refine Goes.new0 2 72 (Nat.le_of_ble_eq_true rfl) ?_
    refine Goes.wk 7 _ (.ref 0 2 0 0 (some uC)) rfl (.own0 0 _ _ _ (by decide)) ?_
    exact .m [7, 8, 9] [0] []
   rintro ⟨n1, l2⟩ ⟨hi1, hx1⟩
   simp only [Tryz.St_towncrierref16_Local_3]
   simp only at hi1 hx1
   refine .wf 8 (.imm 6 (v2.map Ttowncrierref16_Given.d) 12) rfl ?_
   intro hln1
   replace hln1 : (v2.length : Int) <= 9223372036854775807 := by simp only [wf, wfL, IntKind.max, IntKind.min, IntKind.signed, IntKind.bits, List.length_map] at hln1; first | exact hln1.2 | exact hln1.1 | (simp at hln1; omega)
   refine .seq ?_
   refine .seq ?_
   refine .pl zS [7, 8, 9] ?_
   refine .cond rfl rfl (fun hc2 => ?_) (fun hc2 => ?_)
   ·have h1 : n1 < v2.length := by simpa using hc2
    have hwn1 : wr .i64 ((n1 : Int) + 1) = ((n1 + 1 : Nat) : Int) := zd5 h1 hln1
    have hpn1 : wr .i64 ((n1 : Int) - 1) = (n1 : Int) - 1 := zd6 h1 hln1
    rw [List.drop_eq_getElem_cons h1, zf7] at hx1
    refine .skip ?_
    refine .seq ?_
    refine .block ?_
    obtain ⟨k1, hx1⟩ := zai hx1
    have e1 := zby Ttowncrierref16_Given.d v2 n1 h1
    have e2 := zby Ttowncrierref16_Given.d v2 n1 h1
    refine .rg zS [7, 8, 9] ?_
    refine .rdx 6 (And.intro e1 (And.intro e2 hwn1)) ?_
    refine .rdx 6 (And.intro e1 (And.intro e2 hwn1)) ?_
    refine .rdx 4 (And.intro e1 (And.intro e2 hwn1)) ?_
    refine .nil ⟨fun _ => zab (by kernel_rfl), ?_⟩
    refine .plx zS hwn1 [7, 8, 9] ?_
    refine ⟨(n1 + 1, _), ?_, ⟨by omega, hx1⟩, by dsimp only; omega⟩
    exact .m [7, 8, 9] [2] [(2, 0)]
   ·have h2 : n1 = v2.length := by have h2b := of_decide_eq_false hc2; omega
    rw [List.drop_of_length_le (by omega), zf6] at hx1
    refine .exit ?_
    refine ⟨_, ?_, (Option.some.inj hx1).symm⟩
    exact .m [7] [0] []
  ·rintro l1 hj1
   subst x1
   try dsimp only at h
   simp only [Tryz.St_towncrierref16_Local_1]
   refine .seq ?_
   refine .pl zS [7] ?_
   have hq := Option.some.inj h
   subst r
   refine .ret ⟨Tryz.Re_towncrierref16_Local (l1, 0), ?_, .inr rfl, retH [0] ?_ ?_⟩
   ·exact .m [4, 5] [0] []
   ·exact rsi0
   ·rfl
theorem zhf (a0 : Int) (a1 : List (List UInt8)) (r : Bool) (h : zdf a0 a1 = some r) : CallP Tryz.prog 3 [.int .i64 a0, .imm 1 (a1.map D.str) 4] (.bool r) := by
 refine za5 Tryz.tmOk 59 Tryz.func3 rfl (by decide) rfl rfl (Nat.le_of_ble_eq_true rfl) ?_
 intro hwf
 unfold zdf at h
 refine .seq ?_
 refine .pl zS [0, 1] ?_
 refine .seq ?_
 refine .seq ?_
 obtain ⟨v1, hv1, h⟩ := bind_some h
 refine .rg zS [0, 1] ?_
 refine .rn 2 ?_
 refine .lcall (r := .bool v1) [] rfl rfl rfl rfl rfl (za6 (zfd (zef pl_dL_str (by first | rfl | (simp only [go_sem, Nat.reduceBEq]; rfl)) (by first | rfl | (simp; done) | (simp <;> omega))) trivial) zas) rfl (zix [a1] v1 hv1) ?_
 refine .nil ⟨nofun, ?_⟩
 refine .cond rfl rfl (fun hc1 => ?_) (fun hc1 => ?_)
 ·replace h := za0 h hc1
  refine .seq ?_
  refine .pl zS [] ?_
  have hq := Option.some.inj h
  subst r
  exact .ret ⟨.inr rfl, rsi⟩
 ·replace h := za1 h hc1
  refine .skip ?_
  obtain ⟨k1, h⟩ := zai h
  refine .seqM 1 (fun (_ : Unit) => ⟨[(0, .int .i64 a0), (1, .imm 1 (a1.map D.str) 4), (5, .ref 1 1 0 a1.length (some uC))], [(1, .arr 9 1 true (a1.map D.str))], 2⟩) (fun _ => True) (Nat.le_of_ble_eq_true rfl) ?_ (fun _ _ => ?_)
  ·rcases zif a1 with hE1 | ⟨y, ys, hE1⟩
   ·have hM1 : a1.map D.str = [] := by rw [hE1]; simp
    refine .plain Tryz.tmOk Tryz.tmMixed [0, 1] (by decide +kernel) (by intro q hq; simp only [go_sem, Nat.reduceSub, Int.reduceEq, Nat.reduceLT, Nat.reduceDiv, Nat.reduceAdd, Nat.reduceBEq, Nat.reduceLeDiff, reduceCtorEq, Nat.reduceEqDiff, Nat.reduceMod, Nat.reduceMul, Tryz.tm_22, zhg hM1]; exact hq) (by first | rfl | (simp only [go_sem, Nat.reduceLeDiff]; done) | (simp only [go_sem, Nat.reduceLeDiff]; rfl) | (simp; done) | (simp [oneD] <;> omega) | (simp_all; done) | (simp_all [oneD] <;> omega)) (by first | exact Nat.le_refl _ | exact Nat.le_of_ble_eq_true rfl | (dsimp only; omega) | (simp <;> omega)) ?_
    refine ⟨(), ?_, trivial⟩
    refine Goes.new0 1 9 (Nat.le_of_ble_eq_true rfl) ?_
    refine Goes.wk 5 _ (.ref 1 1 0 0 (some uC)) rfl (.own0 1 _ _ _ (by decide)) ?_
    exact .mx hE1 [0, 1, 5] [1] []
   ·have hM1 : a1.map D.str ≠ [] := by rw [hE1]; simp
    refine .plain Tryz.tmOk Tryz.tmMixed [0, 1] (by decide +kernel) (by intro q hq; simp only [go_sem, Nat.reduceSub, Int.reduceEq, Nat.reduceLT, Nat.reduceDiv, Nat.reduceAdd, Nat.reduceBEq, Nat.reduceLeDiff, reduceCtorEq, Nat.reduceEqDiff, Nat.reduceMod, Nat.reduceMul, Tryz.tm_22, zgx hM1]; exact hq) (by first | rfl | (simp only [go_sem, Nat.reduceLeDiff]; done) | (simp only [go_sem, Nat.reduceLeDiff]; rfl) | (simp; done) | (simp [oneD] <;> omega) | (simp_all; done) | (simp_all [oneD] <;> omega)) (by first | exact Nat.le_refl _ | exact Nat.le_of_ble_eq_true rfl | (dsimp only; omega) | (simp <;> omega)) ?_
    refine ⟨(), ?_, trivial⟩
    refine Goes.wk 5 _ (.ref 1 1 0 a1.length (some uC)) rfl (.unk _ _ _ _ _) ?_
    exact .mx hE1 [0, 1, 5] [1] []
  refine .seq ?_
  obtain ⟨v2, hv2, h⟩ := bind_some h
  refine .rg zS [0, 1, 5] ?_
  refine .rn 2 ?_
  refine .ncall (r := .tuple [.agg [.int .i64 v2.1.Clock, .ref 22 7 0 v2.1.Waits.length (some uC), .ref 23 2 0 v2.1.Done.length (some uC)], .ref 24 5 0 v2.2.1.length (some uC), .int .i64 v2.2.2]) (eff := [(22, some (.arr 78 7 true (v2.1.Waits.map TWait.n))), (23, some (.arr 72 2 true (v2.1.Done.map TStamp.d))), (24, some (.arr 46 5 true (v2.2.1.map TMessage.n)))]) (nw := (22, 44)) [] rfl rfl rfl rfl rfl (za6 rfl (za6 (zfd (zef pl_str (by first | rfl | (simp only [go_sem, Nat.reduceBEq]; rfl)) (by first | rfl | (simp; done) | (simp <;> omega))) trivial) zas)) rfl (zdi 22 (Nat.le_of_ble_eq_true rfl) (callH_order_Play a0 a1 v2 hv2)) (zdo rfl rfl (zjx ze7 _ _ _) (zdo rfl rfl (zgm zfp _ _ _) (zdo rfl rfl (zjx zhl _ _ _) zh0))) (by intro i hi; simp [D.ids, D.idsL] at hi <;> omega) rfl ⟨Nat.le_of_ble_eq_true rfl, Nat.le_of_ble_eq_true rfl⟩ ?_
  refine .rn 8 ?_
  refine .nil ⟨nofun, ?_⟩
  refine .seq ?_
  obtain ⟨v3, hv3, h⟩ := bind_some h
  refine .rg zS [0, 1, 5, 6, 7, 8] ?_
  refine .rn 2 ?_
  refine .call (r := .tuple [.agg [.int .i64 v3.1.Clock, .imm 7 (v3.1.Waits.map TWait.d) 12, .imm 2 (v3.1.Done.map TStamp.d) 12], .imm 5 (v3.2.1.map TMessage.d) 12, .int .i64 v3.2.2]) rfl rfl rfl rfl rfl rfl (zjh a0 a1 v3 hv3) ?_
  refine .rn 8 ?_
  refine .nil ⟨nofun, ?_⟩
  refine .seq ?_
  obtain ⟨v4, hv4, h⟩ := bind_some h
  refine .rg zS [0, 1, 5, 6, 7, 8, 9, 10, 11] ?_
  refine .rn 2 ?_
  refine .ncall (r := .tuple [.ref 46 2 0 v4.1.length (some uC), .int .i64 v4.2]) (eff := [(46, some (.arr 72 2 true (v4.1.map TStamp.d)))]) (nw := (46, 52)) [] rfl rfl rfl rfl rfl (za6 rfl (za6 (zfd (zef pl_str (by first | rfl | (simp only [go_sem, Nat.reduceBEq]; rfl)) (by first | rfl | (simp; done) | (simp <;> omega))) trivial) zas)) rfl (zdi 46 (Nat.le_of_ble_eq_true rfl) (zno a0 a1 v4 hv4)) (zdo rfl rfl (zgm zfp _ _ _) zh0) (by intro i hi; simp [D.ids, D.idsL] at hi <;> omega) rfl ⟨Nat.le_of_ble_eq_true rfl, Nat.le_of_ble_eq_true rfl⟩ ?_
  refine .rn 5 ?_
  refine .nil ⟨nofun, ?_⟩
  refine .seq ?_
  obtain ⟨v5, hv5, h⟩ := bind_some h
  refine .rg zS [0, 1, 5, 6, 7, 8, 9, 10, 11, 12, 13] ?_
  refine .rn 2 ?_
  refine .ncall (r := .tuple [.ref 52 2 0 v5.1.length (some uC), .int .i64 v5.2]) (eff := [(52, some (.arr 72 2 true (v5.1.map TStamp.d)))]) (nw := (52, 57)) [] rfl rfl rfl rfl rfl (za6 rfl (za6 rfl zas)) rfl (zdi 52 (Nat.le_of_ble_eq_true rfl) (zj4 a0 a1 v5 hv5)) (zdo rfl rfl (zgm zfp _ _ _) zh0) (by intro i hi; simp [D.ids, D.idsL] at hi <;> omega) rfl ⟨Nat.le_of_ble_eq_true rfl, Nat.le_of_ble_eq_true rfl⟩ ?_
  refine .rn 5 ?_
  refine .nil ⟨nofun, ?_⟩
  refine .seq ?_
  obtain ⟨v6, hv6, h⟩ := bind_some h
  obtain ⟨v7, hv7, h⟩ := bind_some h
  obtain ⟨v8, hv8, h⟩ := bind_some h
  obtain ⟨v9, hv9, h⟩ := bind_some h
  refine .rg zS [1, 5, 6, 7, 8, 9, 10, 11, 12, 13, 14, 15] ?_
  refine .rn 2 ?_
  refine .lcall (r := .bool v6) [] rfl rfl rfl rfl rfl (za6 (zfd (zlm (za3 rfl (za3 (zgh ze7 (by first | rfl | (simp only [go_sem, Nat.reduceBEq]; rfl)) (by first | rfl | (simp; done) | (simp <;> omega))) (za3 (zef zfy (by first | rfl | (simp only [go_sem, Nat.reduceBEq]; rfl)) (by first | rfl | (simp; done) | (simp <;> omega))) zg1)))) trivial) (za6 rfl zas)) rfl (zjk v2.1 v3.1 v6 hv6) ?_
  refine .rn 3 ?_
  refine .glcall (r := .bool v7) [] rfl rfl rfl rfl rfl (fun hg => ⟨[], [.ref 24 5 0 v2.2.1.length (some uC), .imm 5 (v3.2.1.map TMessage.d) 12], _, rfl, gd hg, (za6 (zfd (zgh zhl (by first | rfl | (simp only [go_sem, Nat.reduceBEq]; rfl)) (by first | rfl | (simp; done) | (simp <;> omega))) trivial) (za6 rfl zas)), rfl, (zh5 v2.2.1 v3.2.1 v7 (za0 hv7 hg))⟩) ?_
  refine .rn 6 ?_
  refine .rn 3 ?_
  refine .glcall (r := .bool v8) [] rfl rfl rfl rfl rfl (fun hg => ⟨[], [.ref 46 2 0 v4.1.length (some uC), .ref 52 2 0 v5.1.length (some uC)], _, rfl, gd hg, (za6 (zfd (zef zfy (by first | rfl | (simp only [go_sem, Nat.reduceBEq]; rfl)) (by first | rfl | (simp; done) | (simp <;> omega))) trivial) (za6 (zfd (zef zfy (by first | rfl | (simp only [go_sem, Nat.reduceBEq]; rfl)) (by first | rfl | (simp; done) | (simp <;> omega))) trivial) zas)), rfl, (zf0 v4.1 v5.1 v8 (za0 hv8 hg))⟩) ?_
  refine .rn 6 ?_
  refine .rn 3 ?_
  refine .glcall (r := .bool v9) [] rfl rfl rfl rfl rfl (fun hg => ⟨[], [.ref 1 1 0 a1.length (some uC), .imm 1 (a1.map D.str) 4], _, rfl, gd hg, (za6 (zfd (zef pl_str (by first | rfl | (simp only [go_sem, Nat.reduceBEq]; rfl)) (by first | rfl | (simp; done) | (simp <;> omega))) trivial) (za6 rfl zas)), rfl, (zhr a1 a1 v9 (za0 hv9 hg))⟩) ?_
  refine .rn 2 ?_
  refine .nil ⟨nofun, ?_⟩
  have hq := Option.some.inj h
  subst r
  exact .ret ⟨.inr rfl, rsi⟩
end Go.Proofs
