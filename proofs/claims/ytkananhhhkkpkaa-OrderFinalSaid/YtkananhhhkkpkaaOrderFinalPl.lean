/- Texts of the proof. -/
import Derived.Test.YtkananhhhkkpkaaOrderFinalPg
import Derived.Test.YtkananhhhkkpkaaOrderFinalPh
import Derived.Test.YtkananhhhkkpkaaOrderFinalPi
import Derived.Test.YtkananhhhkkpkaaOrderFinalPj
import Derived.Test.YtkananhhhkkpkaaOrderFinalPk
section
namespace Go.Proofs
open Go.Tm Go.RowKit Go.WideShapes
set_option maxRecDepth 100000
set_option maxHeartbeats 4000000
set_option linter.unusedSimpArgs false
set_option linter.unusedVariables false
attribute [local go_sem] zcw runE runK zex stepE aop opd opdsL opds opdO ev ofVal keep List.any zcf Bool.false_or Bool.true_or aggEq cond_true cond_false Bool.cond_false_right Bool.cond_true_left beq_true beq_false imp_self implies_true getR getL put St.app effL del nwB zid Nat.lt_irrefl Nat.lt_add_one zie Nat.le_refl Nat.beq_refl zez zdi capS capK zg9 zf0 zbx D.ids D.idsL bin arith zhy binT dpick Tm.part zh4 fillD oneD loadD zh3 srcD zdj idxOk decide_true gval dstAt D.cells List.map_cons List.map_nil List.take List.drop List.length_map List.append Int.toNat_natCast and_true true_and decide_false List.length_cons List.length_nil List.append_nil List.nil_append Bool.and_true Bool.true_and Bool.not_false Bool.not_true ne_eq not_false_eq_true BEq.rfl List.getElem?_cons_zero List.getElem?_cons_succ List.getElem?_nil Nat.zero_add List.all_cons List.all_nil List.isEmpty_cons List.isEmpty_nil Option.getD_some Option.getD_none List.any_cons List.any_nil List.drop_succ_cons List.drop_zero unfL unf okM okML low3 List.cons_append true_or or_true Nat.zero_mul Nat.zero_le zgo zgn  zi5 zi4 zgm Option.isSome_map keyD List.length_replicate List.map_replicate setEl List.length_set zfj zn4 zn2 zjp zhz mkM mkML zjr zjq zi0 zgd zfl ze4 List.take_length Int.toNat_zero zfe fpOf zfp opIds mvV mvH mvF pickL D.ren D.renL Blk.ren List.map_append List.length_append Bool.not_not Bool.or_not_self Bool.not_or_self Bool.or_true
attribute [local go_sem] Try.tm_1 Try.tm_2 Try.tm_3 Try.tm_4 Try.tm_5 Try.tm_6 Try.tm_7 Try.tm_8 Try.tm_9 Try.tm_10 Try.tm_11 Try.tm_12 Try.tm_13 Try.tm_14 Try.tm_15 Try.tm_16 Try.tm_17 Try.tm_18 Try.tm_19 Try.tm_20 Try.tm_21 Try.tm_22 Try.tm_23 Try.tm_24 Try.tm_25 Try.tm_26 Try.tm_27 Try.tm_28 Try.tm_30 Try.tm_32 Try.tm_33 Try.tm_35 Try.tm_36 Try.tm_37 Try.tm_38 Try.tm_39 Try.tm_40 Try.tm_41 Try.tm_42 Try.tm_43 Try.tm_44 Try.tm_45 Try.tm_46 Try.tm_48 Try.tm_49 Try.tm_50 Try.tm_51 Try.tm_52 Try.tm_53 Try.tm_54 Try.tm_56 Try.tm_57 Try.tm_59 Try.tm_61 Try.tm_62 Try.tm_63 Try.tm_64 Try.tm_65 Try.tm_66 Try.tm_67 Try.tm_68 Try.tm_69 Try.tm_70 Try.tm_71 Try.tm_72 Try.tm_74 Try.tm_75 Try.tm_76 Try.tm_78 Try.tm_79 Try.tm_80 Try.tm_81 Try.tm_82 Try.tm_83 Try.tm_84 Try.tm_85 Try.tm_86 Try.tm_87 Try.tm_88 Try.tm_89 Try.tm_90 Try.tm_92 Try.tm_94 Try.tm_95 Try.tm_96 Try.tm_97 Try.tm_98 Try.tm_99 Try.tm_100 Try.tm_101 Try.tm_102 Try.tm_103 Try.tm_104 Try.tm_105 Try.tm_107 Try.tm_108 Try.tm_109 Try.tm_110 Try.tm_111 Try.tm_112 Try.tm_113 Try.tm_114 Try.tm_115 Try.tm_116 Try.tm_117 Try.tm_119 Try.tm_120 Try.tm_121 Try.tm_123 Try.tm_124 Try.tm_125 Try.tm_126 Try.tm_127 Try.tm_128 Try.tm_129 Try.tm_130 Try.tm_131 Try.tm_132 Try.tm_133 Try.tm_134 Try.tm_135 Try.tm_136 Try.tm_137 Try.tm_138 Try.tm_139 Try.tm_140 Try.tm_141 Try.tm_142 Try.tm_143 Try.tm_144 Try.tm_145 Try.tm_146 Try.tm_147 Try.tm_148 Try.tm_149 Try.tm_150 Try.tm_151 Try.tm_152 Try.tm_153 Try.tm_155 Try.tm_156 Try.tm_158 Try.tm_160 Try.tm_161 Try.tm_162 Try.tm_163 Try.tm_164 Try.tm_165 Try.tm_168 Try.tm_169 Try.tm_170 Try.tm_171 Try.tm_172 Try.tm_173 Try.tm_174 Try.tm_175 Try.tm_176 TMessage.d TMessage.n TWait.d TWait.n TStamp.d TSkeen.d TSkeen.n TCommand.d TCommand.n Tskeen_clock.d Tskeen_clock.n ze5 zgg zfg zfh ze6 zcp Torder_step.d Torder_step.n Torder_given.d Torder_given.n Tcommand_reader.d Tcommand_reader.n dL_str nL_str dL_Torder_givend nL_Torder_givend zij nL_TStampd zgp nL_TMessaged zfo zf8 ze9 zk3 zdw zga zf7 Try.f93 Try.f96 Try.f95 Try.f94 Try.f83 Try.f85 Try.f84 Try.f70 Try.f53 Try.f40 Try.f27 Try.f20 Try.f11 Try.f46 Try.f20 Try.f25 Try.f9 Try.f6
def Try.St_num_Get_1 : St := ⟨[], [], 0⟩
attribute [local go_sem] Try.St_num_Get_1
def Try.St_num_Get_3 (a0 : List Int) (n2 : Nat) (n1 : Int) : St := ⟨[(2, .int .i64 n1), (7, .imm 1 (a0.map (D.int .u8)) 4), (8, .int .i64 (a0.length : Int)), (9, .int .i64 (n2 : Int))], [], 0⟩
attribute [local go_sem] Try.St_num_Get_3
theorem zhd (a0 : List Int) (r : Int × Int × Int) (h : zf2 a0 = some r) : CallP Try.prog 93 [.imm 1 (a0.map (D.int .u8)) 4] (.tuple [.int .i64 r.1, .int .i64 r.2.1, .int .i64 r.2.2]) := by
 refine za9 Try.tmOk 2 Try.func93 rfl (by decide) rfl rfl (Nat.le_of_ble_eq_true rfl) ?_
 intro hwf
 unfold zf2 at h
 refine .seq ?_
 refine .pl Try.S [0] ?_
 obtain ⟨x1, hx1, h⟩ := bind_some h
 refine .seqM 0 (fun (j : Unit) => Try.St_num_Get_1) (fun j => x1 = (.inr j)) (Nat.le_of_ble_eq_true rfl) ?_ ?_
 ·refine .seq ?_
  refine .pl Try.S [0, 2] ?_
  refine .block ?_
  refine .loopG 0 (fun (j : Nat × Int) => Try.St_num_Get_3 a0 j.1 j.2) (fun j => j.1 <= a0.length /\ zbu (a0.drop j.1) j.1 j.2 = some x1) (fun j => a0.length - j.1) (0, 0) (Nat.le_of_ble_eq_true rfl) ?_ ⟨Nat.zero_le _, hx1⟩ ?_
  ·exact .m [2, 7, 8, 9] [] []
  rintro ⟨n2, n1⟩ ⟨hi1, hx1⟩
  simp only [Try.St_num_Get_3]
  simp only at hi1 hx1
  refine .wf 8 (.int .i64 (a0.length : Int)) rfl ?_
  intro hln2
  replace hln2 : (a0.length : Int) <= 9223372036854775807 := by simp only [wf, wfL, IntKind.max, IntKind.min, IntKind.signed, IntKind.bits, List.length_map] at hln2; first | exact hln2.2 | exact hln2.1 | (simp at hln2; omega)
  refine .seq ?_
  refine .pl Try.S [2, 7, 8, 9] ?_
  refine .seq ?_
  refine .cond rfl rfl (fun hc1 => ?_) (fun hc1 => ?_)
  ·have h1 : n2 < a0.length := by simpa using hc1
   have hwn2 : wr .i64 ((n2 : Int) + 1) = ((n2 + 1 : Nat) : Int) := zd4 h1 hln2
   have hpn2 : wr .i64 ((n2 : Int) - 1) = (n2 : Int) - 1 := zd5 h1 hln2
   rw [List.drop_eq_getElem_cons h1, zbu] at hx1
   refine .skip ?_
   refine .seq ?_
   refine .block ?_
   refine .seq ?_
   have e1 := zcc (D.int .u8) a0 n2 h1
   refine .plx Try.S (And.intro e1 hwn2) [2, 7, 8, 9] ?_
   refine .seq ?_
   refine .seq ?_
   refine .plx Try.S hwn2 [2, 5, 6, 7, 8, 9] ?_
   refine .cond rfl rfl (fun hc2 => ?_) (fun hc2 => ?_)
   ·replace hx1 := za2 hx1 hc2
    refine .exit ?_
    refine ⟨_, ?_, (Option.some.inj hx1).symm⟩
    exact .m [] [] []
   ·replace hx1 := zaa hx1 hc2
    refine .skip ?_
    refine .seq ?_
    obtain ⟨k1, hx1⟩ := zba hx1
    refine .rg Try.S [2, 5, 6, 7, 8, 9] ?_
    refine .rnx 6 hwn2 ?_
    refine .rnx 3 hwn2 ?_
    refine .nil ⟨nofun, ?_⟩
    refine .seq ?_
    refine .seq ?_
    refine .plx Try.S hwn2 [2, 5, 6, 7, 8, 9] ?_
    refine .cond rfl rfl (fun hc3 => ?_) (fun hc3 => ?_)
    ·replace hx1 := za2 hx1 hc3
     refine .exit ?_
     refine .plx Try.S hwn2 [2, 7, 8, 9] ?_
     refine ⟨(n2 + 1, _), ?_, ⟨by omega, hx1⟩, by dsimp only; omega⟩
     exact .m [2, 7, 8, 9] [] []
    ·replace hx1 := zaa hx1 hc3
     refine .skip ?_
     refine .seq ?_
     refine .seq ?_
     obtain ⟨v1, hv1, hx1⟩ := bind_some hx1
     refine .rg Try.S [2, 5, 6] ?_
     refine .rnx 8 hwn2 ?_
     refine .gcall (r := .bool v1) rfl rfl rfl rfl rfl (fun hg => ⟨[], [.int .i64 (bitw .or .i64 n1 (shw true .i64 (wr .i64 (bitw .and .u8 (a0[n2]) 127)) (wr .i64 (7 * (n2 : Int)))))], _, rfl, gd hg, rfl, (zjz (bitw .or .i64 n1 (shw true .i64 (wr .i64 (bitw .and .u8 (a0[n2]) 127)) (wr .i64 (7 * (n2 : Int))))) v1 (za2 hv1 hg))⟩) ?_
     refine .rnx 2 hwn2 ?_
     refine .nil ⟨nofun, ?_⟩
     refine .cond rfl rfl (fun hc4 => ?_) (fun hc4 => ?_)
     ·replace hx1 := za2 hx1 hc4
      refine .exit ?_
      refine ⟨_, ?_, (Option.some.inj hx1).symm⟩
      exact .m [] [] []
     ·replace hx1 := zaa hx1 hc4
      refine .skip ?_
      refine .seq ?_
      refine .plx Try.S hwn2 [2, 5] ?_
      have hq := Option.some.inj hx1
      subst x1
      try dsimp only at h
      have hq := Option.some.inj h
      subst r
      rw [hwn2]
      exact .ret ⟨.inr rfl, rsi⟩
  ·have h2 : n2 = a0.length := by have h2b := of_decide_eq_false hc1; omega
   rw [List.drop_of_length_le (by omega), zbu] at hx1
   refine .exit ?_
   refine ⟨_, ?_, (Option.some.inj hx1).symm⟩
   exact .m [] [] []
 ·rintro ⟨⟩ hj1
  subst x1
  try dsimp only at h
  simp only [Try.St_num_Get_1]
  refine .seq ?_
  refine .pl Try.S [] ?_
  have hq := Option.some.inj h
  subst r
  exact .ret ⟨.inr rfl, rsi⟩
theorem zmp (a0 : List Int) (r : (List UInt8) × Int × Int) (h : zfr a0 = some r) : CallP Try.prog 96 [.imm 1 (a0.map (D.int .u8)) 4] (.tuple [.str r.1, .int .i64 r.2.1, .int .i64 r.2.2]) := by
 refine za9 Try.tmOk 2 Try.func96 rfl (by decide) rfl rfl (Nat.le_of_ble_eq_true rfl) ?_
 intro hwf
 unfold zfr at h
 refine .seq ?_
 refine .pl Try.S [0] ?_
 refine .seq ?_
 obtain ⟨v1, hv1, h⟩ := bind_some h
 refine .rg Try.S [0] ?_
 refine .rn 1 ?_
 refine .call (r := .tuple [.int .i64 v1.1, .int .i64 v1.2.1, .int .i64 v1.2.2]) rfl rfl rfl rfl rfl rfl (zhd a0 v1 hv1) ?_
 refine .rn 7 ?_
 refine .nil ⟨nofun, ?_⟩
 refine .seq ?_
 refine .seq ?_
 refine .rg Try.S [0, 4, 5, 6] ?_
 refine .rn 6 ?_
 refine .rn 8 ?_
 refine .nil ⟨nofun, ?_⟩
 refine .cond rfl rfl (fun hc1 => ?_) (fun hc1 => ?_)
 ·replace h := za2 h hc1
  refine .seq ?_
  refine .pl Try.S [] ?_
  have hq := Option.some.inj h
  subst r
  exact .ret ⟨.inr rfl, rsi⟩
 ·replace h := zaa h hc1
  refine .skip ?_
  refine .seq ?_
  obtain ⟨k1, h⟩ := zba h
  refine .rg Try.S [0, 5, 6] ?_
  refine .rn 6 ?_
  refine .rn 7 ?_
  refine .nil ⟨nofun, ?_⟩
  have hq := Option.some.inj h
  subst r
  exact .ret ⟨.inr rfl, rsi⟩
def Try.St_num_GetInts_1 (l1 : List Int) (n1 : Int) : St := ⟨[(4, .ref 0 1 0 l1.length (some uC)), (5, .int .i64 n1)], [(0, .arr 3 1 true (l1.map (D.int .i64)))], 1⟩
attribute [local go_sem] Try.St_num_GetInts_1
def Try.St_num_GetInts_3 (a0 : List Int) (v1 : Int × Int × Int) (l2 : List Int) (n2 : Int) (n3 : Int) : St := ⟨[(0, .imm 1 (a0.map (D.int .u8)) 4), (4, .ref 0 1 0 l2.length (some uC)), (5, .int .i64 n2), (30, .int .i64 v1.1), (31, .int .i64 n3)], [(0, .arr 3 1 true (l2.map (D.int .i64)))], 1⟩
attribute [local go_sem] Try.St_num_GetInts_3
def Try.Re_num_GetInts (r : (List Int) × Int × Int) : St := ⟨[(4, .ref 0 1 0 r.1.length (some uC)), (5, .int .i64 r.2.1), (6, .int .i64 r.2.2)], [(0, .arr 3 1 true (r.1.map (D.int .i64)))], 1⟩
attribute [local go_sem] Try.Re_num_GetInts
theorem zmt (a0 : List Int) (a1 : Int) (r : (List Int) × Int × Int) (h : zfs a0 a1 = some r) : CallH Try.prog 95 [.imm 1 (a0.map (D.int .u8)) 4, .int .i64 a1] [] (.tuple [.ref 0 1 0 r.1.length (some uC), .int .i64 r.2.1, .int .i64 r.2.2]) [(0, some (.arr 3 1 true (r.1.map (D.int .i64))))] (0, 5) := by
 refine za4 Try.tmOk Try.func95 rfl (by decide) (Nat.le_of_ble_eq_true rfl) (by simp) ?_
 intro hwf
 unfold zfs at h
 refine .ends 0 (Nat.le_refl _) ?_
 refine .seq ?_
 refine .pl Try.S [0, 1] ?_
 refine .seq ?_
 refine .seq ?_
 refine .pl Try.S [0, 1, 4] ?_
 refine .cond rfl rfl (fun hc1 => ?_) (fun hc1 => ?_)
 ·replace h := za2 h hc1
  refine .seq ?_
  refine .pl Try.S [] ?_
  have hq := Option.some.inj h
  subst r
  refine .ret ⟨Try.Re_num_GetInts ([], 0, 2), ?_, .inr rfl, retH [0] ?_ ?_⟩
  ·refine Goes.new0 1 3 (Nat.le_of_ble_eq_true rfl) ?_
   refine Goes.wk 4 _ (.ref 0 1 0 0 (some uC)) rfl (.own0 0 _ _ _ (by decide)) ?_
   exact .m [4, 5, 6] [0] []
  ·exact rsi0
  ·rfl
 ·replace h := zaa h hc1
  refine .skip ?_
  refine .seq ?_
  obtain ⟨v1, hv1, h⟩ := bind_some h
  refine .rg Try.S [0, 1, 4] ?_
  refine .rn 1 ?_
  refine .call (r := .tuple [.int .i64 v1.1, .int .i64 v1.2.1, .int .i64 v1.2.2]) rfl rfl rfl rfl rfl rfl (zhd a0 v1 hv1) ?_
  refine .rn 7 ?_
  refine .nil ⟨nofun, ?_⟩
  refine .seq ?_
  refine .seq ?_
  refine .pl Try.S [0, 1, 4, 5, 6, 7] ?_
  refine .cond rfl rfl (fun hc2 => ?_) (fun hc2 => ?_)
  ·replace h := za2 h hc2
   refine .seq ?_
   refine .pl Try.S [] ?_
   have hq := Option.some.inj h
   subst r
   refine .ret ⟨Try.Re_num_GetInts ([], 0, 8), ?_, .inr rfl, retH [0] ?_ ?_⟩
   ·refine Goes.new0 1 3 (Nat.le_of_ble_eq_true rfl) ?_
    refine Goes.wk 4 _ (.ref 0 1 0 0 (some uC)) rfl (.own0 0 _ _ _ (by decide)) ?_
    exact .m [4, 5, 6] [0] []
   ·exact rsi0
   ·rfl
  ·replace h := zaa h hc2
   refine .skip ?_
   obtain ⟨x1, hx1, h⟩ := bind_some h
   refine .seqM 0 (fun (j : (List Int) × Int) => Try.St_num_GetInts_1 j.1 j.2) (fun j => x1 = (.inr j)) (Nat.le_of_ble_eq_true rfl) ?_ ?_
   ·refine .seq ?_
    refine .pl Try.S [0, 4, 5, 7] ?_
    refine .block ?_
    refine .loopG 0 (fun (j : Nat × (List Int) × Int × Int) => Try.St_num_GetInts_3 a0 v1 j.2.1 j.2.2.1 j.2.2.2) (fun j => zbv a0 v1 j.1 j.2.1 j.2.2.1 j.2.2.2 = some x1) (fun j => j.1) (v1.1.toNat + 1, [], v1.2.1, 0) (Nat.le_of_ble_eq_true rfl) ?_ hx1 ?_
    ·refine Goes.new0 1 3 (Nat.le_of_ble_eq_true rfl) ?_
     refine Goes.wk 4 _ (.ref 0 1 0 0 (some uC)) rfl (.own0 0 _ _ _ (by decide)) ?_
     exact .m [0, 4, 5, 30, 31] [0] []
    rintro ⟨fu1, l2, n2, n3⟩ hx1
    simp only [Try.St_num_GetInts_3]
    try simp only at hx1
    obtain ⟨fu1, rfl⟩ : ∃ k, fu1 = k + 1 := by cases fu1 with | zero => (rw [zbv] at hx1; cases hx1) | succ k => exact ⟨k, rfl⟩
    rw [zbv] at hx1
    refine .seq ?_
    refine .pl Try.S [0, 4, 5, 30, 31] ?_
    refine .seq ?_
    refine .cond rfl rfl (fun hc3 => ?_) (fun hc3 => ?_)
    ·replace hx1 := za2 hx1 hc3
     refine .skip ?_
     refine .seq ?_
     refine .block ?_
     refine .seq ?_
     obtain ⟨k1, hx1⟩ := zba hx1
     obtain ⟨v2, hv2, hx1⟩ := bind_some hx1
     refine .rg Try.S [0, 4, 5, 30, 31] ?_
     refine .rn 3 ?_
     refine .call (r := .tuple [.int .i64 v2.1, .int .i64 v2.2.1, .int .i64 v2.2.2]) rfl rfl rfl rfl rfl rfl (zhd (a0.drop n2.toNat) v2 hv2) ?_
     refine .rn 7 ?_
     refine .nil ⟨nofun, ?_⟩
     refine .seq ?_
     refine .seq ?_
     refine .pl Try.S [0, 4, 5, 8, 9, 10, 30, 31] ?_
     refine .cond rfl rfl (fun hc4 => ?_) (fun hc4 => ?_)
     ·replace hx1 := za2 hx1 hc4
      refine .seq ?_
      refine .pl Try.S [10] ?_
      have hq := Option.some.inj hx1
      subst x1
      try dsimp only at h
      have hq := Option.some.inj h
      subst r
      refine .ret ⟨Try.Re_num_GetInts ([], 0, v2.2.2), ?_, .inr rfl, retH [0] ?_ ?_⟩
      ·refine Goes.new0 1 3 (Nat.le_of_ble_eq_true rfl) ?_
       refine Goes.wk 4 _ (.ref 1 1 0 0 (some uC)) rfl (.own0 1 _ _ _ (by decide)) ?_
       exact .m [4, 5, 6] [1] [(1, 0)]
      ·exact rsi0
      ·rfl
     ·replace hx1 := zaa hx1 hc4
      refine .skip ?_
      refine .seq ?_
      obtain ⟨k2, hx1⟩ := zba hx1
      refine .pl Try.S [0, 4, 5, 8, 9, 30, 31] ?_
      refine .pl Try.S [0, 4, 5, 9, 30, 31] ?_
      refine .pl Try.S [0, 4, 5, 30, 31] ?_
      refine ⟨(fu1, _, _, _), ?_, hx1, by dsimp only; omega⟩
      exact .m [0, 4, 5, 30, 31] [2] [(2, 0)]
    ·replace hx1 := zaa hx1 hc3
     refine .exit ?_
     refine ⟨_, ?_, (Option.some.inj hx1).symm⟩
     exact .m [4, 5] [0] []
   ·rintro ⟨l1, n1⟩ hj1
    subst x1
    try dsimp only at h
    simp only [Try.St_num_GetInts_1]
    refine .seq ?_
    refine .pl Try.S [4, 5] ?_
    have hq := Option.some.inj h
    subst r
    refine .ret ⟨Try.Re_num_GetInts (l1, n1, 0), ?_, .inr rfl, retH [0] ?_ ?_⟩
    ·exact .m [4, 5, 6] [0] []
    ·exact rsi0
    ·rfl
def Try.Re_command_reader_take (r : Tcommand_reader) : St := ⟨[(0, .ptr 20000 0)], [(20000, .box [.imm 1 (r.fB.map (D.int .u8)) 12, .bool r.fOk])], 20100⟩
attribute [local go_sem] Try.Re_command_reader_take
theorem zdt (a0 : Tcommand_reader) (a1 : Int) (a2 : Int) (r : Tcommand_reader) (h : zbh a0 a1 a2 = some r) : CallH Try.prog 94 [.ptr 20000 0, .int .i64 a1, .int .i64 a2] [(20000, .box [.imm 1 (a0.fB.map (D.int .u8)) 12, .bool a0.fOk])] (.tuple []) [(20000, some (.box [.imm 1 (r.fB.map (D.int .u8)) 12, .bool r.fOk]))] (20100, 20102) := by
 refine za4 Try.tmOk Try.func94 rfl (by decide) (Nat.le_of_ble_eq_true rfl) (by simp) ?_
 intro hwf
 unfold zbh at h
 refine .ends 20100 (Nat.le_refl _) ?_
 refine .seq ?_
 refine .rg Try.S [0, 1, 2] ?_
 refine .rn 6 ?_
 refine .rn 6 ?_
 refine .nil ⟨nofun, ?_⟩
 obtain ⟨k1, h⟩ := zba h
 refine .rg Try.S [0, 1] ?_
 refine .rd 6 ?_
 refine .rd 6 ?_
 refine .rd 4 ?_
 refine .nil ⟨fun _ => zbd (by kernel_rfl), ?_⟩
 have hq := Option.some.inj h
 subst r
 refine ⟨Try.Re_command_reader_take (⟨(a0.fB.drop (min a1 (a0.fB.length : Int)).toNat), (a0.fOk && (a2 == 0))⟩ : Tcommand_reader), ?_, .inl rfl, retH [20000] ?_ ?_⟩
 ·exact .m [0] [20000] []
 ·exact rsi0
 ·rfl
def Try.Re_command_reader_number (r : Int × Tcommand_reader) : St := ⟨[(0, .ptr 20000 0), (2, .int .i64 r.1)], [(20000, .box [.imm 1 (r.2.fB.map (D.int .u8)) 12, .bool r.2.fOk])], 20100⟩
attribute [local go_sem] Try.Re_command_reader_number
theorem zas (a0 : Tcommand_reader) (r : Int × Tcommand_reader) (h : zae a0 = some r) : CallH Try.prog 83 [.ptr 20000 0] [(20000, .box [.imm 1 (a0.fB.map (D.int .u8)) 12, .bool a0.fOk])] (.int .i64 r.1) [(20000, some (.box [.imm 1 (r.2.fB.map (D.int .u8)) 12, .bool r.2.fOk]))] (20100, 20106) := by
 refine za4 Try.tmOk Try.func83 rfl (by decide) (Nat.le_of_ble_eq_true rfl) (by simp) ?_
 intro hwf
 unfold zae at h
 refine .ends 20100 (Nat.le_refl _) ?_
 refine .seq ?_
 refine .pl Try.S [0] ?_
 refine .seq ?_
 obtain ⟨v1, hv1, h⟩ := bind_some h
 refine .rg Try.S [0] ?_
 refine .rn 4 ?_
 refine .call (r := .tuple [.int .i64 v1.1, .int .i64 v1.2.1, .int .i64 v1.2.2]) rfl rfl rfl rfl rfl rfl (zhd a0.fB v1 hv1) ?_
 refine .rn 7 ?_
 refine .nil ⟨nofun, ?_⟩
 refine .seq ?_
 obtain ⟨v2, hv2, h⟩ := bind_some h
 refine .rg Try.S [0, 3, 4, 5] ?_
 refine .rn 3 ?_
 refine .hcall (H := [(20000, .box [.imm 1 (a0.fB.map (D.int .u8)) 12, .bool a0.fOk])]) (eff := [(20000, some (.box [.imm 1 (v2.fB.map (D.int .u8)) 12, .bool v2.fOk]))]) (nw := (20102, 20104)) (r := .tuple []) rfl rfl rfl rfl rfl (zag 20000 20000 (zby 20102 (zdt a0 v1.2.1 v1.2.2 v2 hv2))) (fun id b h => zak [20000] _ id b h) (by simp) (.inr ⟨Nat.le_of_ble_eq_true rfl, Nat.le_of_ble_eq_true rfl⟩) ?_
 refine .nil ⟨nofun, ?_⟩
 refine .seq ?_
 refine .pl Try.S [0, 3] ?_
 have hq := Option.some.inj h
 subst r
 refine .ret ⟨Try.Re_command_reader_number (v1.1, v2), ?_, .inr rfl, retH [20000] ?_ ?_⟩
 ·exact .m [0, 2] [20000] []
 ·exact rsi0
 ·rfl
def Try.Re_command_reader_text (r : (List UInt8) × Tcommand_reader) : St := ⟨[(0, .ptr 20000 0), (2, .str r.1)], [(20000, .box [.imm 1 (r.2.fB.map (D.int .u8)) 12, .bool r.2.fOk])], 20100⟩
attribute [local go_sem] Try.Re_command_reader_text
theorem zf4 (a0 : Tcommand_reader) (r : (List UInt8) × Tcommand_reader) (h : zch a0 = some r) : CallH Try.prog 85 [.ptr 20000 0] [(20000, .box [.imm 1 (a0.fB.map (D.int .u8)) 12, .bool a0.fOk])] (.str r.1) [(20000, some (.box [.imm 1 (r.2.fB.map (D.int .u8)) 12, .bool r.2.fOk]))] (20100, 20106) := by
 refine za4 Try.tmOk Try.func85 rfl (by decide) (Nat.le_of_ble_eq_true rfl) (by simp) ?_
 intro hwf
 unfold zch at h
 refine .ends 20100 (Nat.le_refl _) ?_
 refine .seq ?_
 refine .pl Try.S [0] ?_
 refine .seq ?_
 obtain ⟨v1, hv1, h⟩ := bind_some h
 refine .rg Try.S [0] ?_
 refine .rn 4 ?_
 refine .call (r := .tuple [.str v1.1, .int .i64 v1.2.1, .int .i64 v1.2.2]) rfl rfl rfl rfl rfl rfl (zmp a0.fB v1 hv1) ?_
 refine .rn 7 ?_
 refine .nil ⟨nofun, ?_⟩
 refine .seq ?_
 obtain ⟨v2, hv2, h⟩ := bind_some h
 refine .rg Try.S [0, 3, 4, 5] ?_
 refine .rn 3 ?_
 refine .hcall (H := [(20000, .box [.imm 1 (a0.fB.map (D.int .u8)) 12, .bool a0.fOk])]) (eff := [(20000, some (.box [.imm 1 (v2.fB.map (D.int .u8)) 12, .bool v2.fOk]))]) (nw := (20102, 20104)) (r := .tuple []) rfl rfl rfl rfl rfl (zag 20000 20000 (zby 20102 (zdt a0 v1.2.1 v1.2.2 v2 hv2))) (fun id b h => zak [20000] _ id b h) (by simp) (.inr ⟨Nat.le_of_ble_eq_true rfl, Nat.le_of_ble_eq_true rfl⟩) ?_
 refine .nil ⟨nofun, ?_⟩
 refine .seq ?_
 refine .pl Try.S [0, 3] ?_
 have hq := Option.some.inj h
 subst r
 refine .ret ⟨Try.Re_command_reader_text (v1.1, v2), ?_, .inr rfl, retH [20000] ?_ ?_⟩
 ·exact .m [0, 2] [20000] []
 ·exact rsi0
 ·rfl
def Try.Re_command_reader_ints (r : (List Int) × Tcommand_reader) : St := ⟨[(0, .ptr 20000 0), (4, .ref 20100 1 0 r.1.length (some uC))], [(20000, .box [.imm 1 (r.2.fB.map (D.int .u8)) 12, .bool r.2.fOk]), (20100, .arr 3 1 true (r.1.map (D.int .i64)))], 20101⟩
attribute [local go_sem] Try.Re_command_reader_ints
theorem zf5 (a0 : Tcommand_reader) (a1 : Int) (r : (List Int) × Tcommand_reader) (h : zci a0 a1 = some r) : CallH Try.prog 84 [.ptr 20000 0, .int .i64 a1] [(20000, .box [.imm 1 (a0.fB.map (D.int .u8)) 12, .bool a0.fOk])] (.ref 20100 1 0 r.1.length (some uC)) [(20000, some (.box [.imm 1 (r.2.fB.map (D.int .u8)) 12, .bool r.2.fOk])), (20100, some (.arr 3 1 true (r.1.map (D.int .i64))))] (20100, 20109) := by
 refine za4 Try.tmOk Try.func84 rfl (by decide) (Nat.le_of_ble_eq_true rfl) (by simp) ?_
 intro hwf
 unfold zci at h
 refine .ends 20100 (Nat.le_refl _) ?_
 refine .seq ?_
 refine .pl Try.S [0, 1] ?_
 refine .seq ?_
 obtain ⟨v1, hv1, h⟩ := bind_some h
 refine .rg Try.S [0, 1] ?_
 refine .rn 5 ?_
 refine .ncall (r := .tuple [.ref 20100 1 0 v1.1.length (some uC), .int .i64 v1.2.1, .int .i64 v1.2.2]) (eff := [(20100, some (.arr 3 1 true (v1.1.map (D.int .i64))))]) (nw := (20100, 20105)) [] rfl rfl rfl rfl rfl (za5 rfl (za5 rfl zau)) rfl (zee 20100 (Nat.le_of_ble_eq_true rfl) (zmt a0.fB a1 v1 hv1)) (zdf rfl rfl (zfn pl0_i64 _ _ _) zf6) (by intro i hi; simp [D.ids, D.idsL] at hi <;> omega) rfl ⟨Nat.le_of_ble_eq_true rfl, Nat.le_of_ble_eq_true rfl⟩ ?_
 refine .rn 7 ?_
 refine .nil ⟨nofun, ?_⟩
 refine .seq ?_
 obtain ⟨v2, hv2, h⟩ := bind_some h
 refine .rg Try.S [0, 5, 6, 7] ?_
 refine .rn 3 ?_
 refine .hcall (H := [(20000, .box [.imm 1 (a0.fB.map (D.int .u8)) 12, .bool a0.fOk])]) (eff := [(20000, some (.box [.imm 1 (v2.fB.map (D.int .u8)) 12, .bool v2.fOk]))]) (nw := (20105, 20107)) (r := .tuple []) rfl rfl rfl rfl rfl (zag 20000 20000 (zby 20105 (zdt a0 v1.2.1 v1.2.2 v2 hv2))) (fun id b h => zak [20000] _ id b h) (by simp) (.inr ⟨Nat.le_of_ble_eq_true rfl, Nat.le_of_ble_eq_true rfl⟩) ?_
 refine .nil ⟨nofun, ?_⟩
 refine .seq ?_
 refine .pl Try.S [0, 5] ?_
 have hq := Option.some.inj h
 subst r
 refine .ret ⟨Try.Re_command_reader_ints (v1.1, v2), ?_, .inr rfl, retH [20000, 20100] ?_ ?_⟩
 ·exact .m [0, 4] [20000, 20100] []
 ·exact rsi0
 ·rfl
def Try.St_command_reader_command_1 (v1 : Int × Tcommand_reader) (l1 : List Int) (b1 : Bool) (n1 : Int) (l2 : List Int) (n2 : Int) (s1 : List UInt8) (s2 : List UInt8) (n3 : Int) (n4 : Int) (l3 : List Int) (n5 : Int) (n6 : Int) (n7 : Int) : St := ⟨[(0, .ptr 20000 0), (2, .ptr 20100 0), (4, .ptr 20112 0)], [(20000, .box [.imm 1 (l1.map (D.int .u8)) 12, .bool b1]), (20100, .box [.int .u8 0, .int .i64 0, .imm 0 [] 0, .int .i64 0, .str [], .str [], .int .i64 0, .int .i64 0, .imm 0 [] 0, .int .i64 0, .int .i64 0, .int .i64 0]), (20112, .box [.int .u8 (wr .u8 (min v1.1 255)), .int .i64 n1, .ref 20113 1 0 l2.length (some uC), .int .i64 n2, .str s1, .str s2, .int .i64 n3, .int .i64 n4, .ref 20114 1 0 l3.length (some uC), .int .i64 n5, .int .i64 n6, .int .i64 n7]), (20113, .arr 3 1 true (l2.map (D.int .i64))), (20114, .arr 3 1 true (l3.map (D.int .i64)))], 20115⟩
attribute [local go_sem] Try.St_command_reader_command_1
def Try.St_command_reader_command_3 (v1 : Int × Tcommand_reader) (b2 : Bool) : St := ⟨[(0, .ptr 20000 0), (2, .ptr 20100 0), (4, .ptr 20112 0), (48, .bool b2)], [(20000, .box [.imm 1 (v1.2.fB.map (D.int .u8)) 12, .bool v1.2.fOk]), (20100, .box [.int .u8 0, .int .i64 0, .imm 0 [] 0, .int .i64 0, .str [], .str [], .int .i64 0, .int .i64 0, .imm 0 [] 0, .int .i64 0, .int .i64 0, .int .i64 0]), (20112, .box [.int .u8 (wr .u8 (min v1.1 255)), .int .i64 0, .imm 0 [] 0, .int .i64 0, .str [], .str [], .int .i64 0, .int .i64 0, .imm 0 [] 0, .int .i64 0, .int .i64 0, .int .i64 0])], 20113⟩
attribute [local go_sem] Try.St_command_reader_command_3
def Try.St_command_reader_command_5 (v1 : Int × Tcommand_reader) (v10 : Int × Tcommand_reader) (v11 : Int × Tcommand_reader) (l4 : List Int) (b3 : Bool) (n8 : Int) : St := ⟨[(0, .ptr 20000 0), (2, .ptr 20100 0), (4, .ptr 20112 0)], [(20000, .box [.imm 1 (l4.map (D.int .u8)) 12, .bool b3]), (20100, .box [.int .u8 0, .int .i64 0, .imm 0 [] 0, .int .i64 0, .str [], .str [], .int .i64 0, .int .i64 0, .imm 0 [] 0, .int .i64 0, .int .i64 0, .int .i64 0]), (20112, .box [.int .u8 (wr .u8 (min v1.1 255)), .int .i64 0, .imm 0 [] 0, .int .i64 0, .str [], .str [], .int .i64 v10.1, .int .i64 0, .imm 0 [] 0, .int .i64 v11.1, .int .i64 n8, .int .i64 0])], 20125⟩
attribute [local go_sem] Try.St_command_reader_command_5
def Try.Re_command_reader_command (r : TCommand × Tcommand_reader) : St := ⟨[(0, .ptr 20000 0), (2, .ptr 20102 0)], [(20000, .box [.imm 1 (r.2.fB.map (D.int .u8)) 12, .bool r.2.fOk]), (20100, .arr 3 1 true (r.1.Message.Groups.map (D.int .i64))), (20101, .arr 3 1 true (r.1.Members.map (D.int .i64))), (20102, .box [.int .u8 r.1.Kind, .int .i64 r.1.Message.Id, .ref 20100 1 0 r.1.Message.Groups.length (some uC), .int .i64 r.1.Message.Topic, .str r.1.Message.Key, .str r.1.Message.Body, .int .i64 r.1.Id, .int .i64 r.1.Time, .ref 20101 1 0 r.1.Members.length (some uC), .int .i64 r.1.Topic, .int .i64 r.1.Who, .int .i64 r.1.N])], 20103⟩
attribute [local go_sem] Try.Re_command_reader_command
theorem zhf (a0 : Tcommand_reader) (r : TCommand × Tcommand_reader) (h : zbf a0 = some r) : CallH Try.prog 70 [.ptr 20000 0] [(20000, .box [.imm 1 (a0.fB.map (D.int .u8)) 12, .bool a0.fOk])] (.agg [.int .u8 r.1.Kind, .int .i64 r.1.Message.Id, .ref 20100 1 0 r.1.Message.Groups.length (some uC), .int .i64 r.1.Message.Topic, .str r.1.Message.Key, .str r.1.Message.Body, .int .i64 r.1.Id, .int .i64 r.1.Time, .ref 20101 1 0 r.1.Members.length (some uC), .int .i64 r.1.Topic, .int .i64 r.1.Who, .int .i64 r.1.N]) [(20000, some (.box [.imm 1 (r.2.fB.map (D.int .u8)) 12, .bool r.2.fOk])), (20100, some (.arr 3 1 true (r.1.Message.Groups.map (D.int .i64)))), (20101, some (.arr 3 1 true (r.1.Members.map (D.int .i64))))] (20100, 20149) := by
 refine za4 Try.tmOk Try.func70 rfl (by decide) (Nat.le_of_ble_eq_true rfl) (by simp) ?_
 intro hwf
 unfold zbf at h
 refine .ends 20100 (Nat.le_refl _) ?_
 refine .seq ?_
 refine .pl Try.S [0] ?_
 refine .seq ?_
 obtain ⟨v1, hv1, h⟩ := bind_some h
 refine .rg Try.S [0, 2] ?_
 refine .rn 1 ?_
 refine .hcall (H := [(20000, .box [.imm 1 (a0.fB.map (D.int .u8)) 12, .bool a0.fOk])]) (eff := [(20000, some (.box [.imm 1 (v1.2.fB.map (D.int .u8)) 12, .bool v1.2.fOk]))]) (nw := (20106, 20112)) (r := .int .i64 v1.1) rfl rfl rfl rfl rfl (zag 20000 20000 (zby 20106 (zas a0 v1 hv1))) (fun id b h => zak [20000] _ id b h) (by simp) (.inr ⟨Nat.le_of_ble_eq_true rfl, Nat.le_of_ble_eq_true rfl⟩) ?_
 refine .rn 1 ?_
 refine .nil ⟨nofun, ?_⟩
 refine .seq ?_
 refine .pl Try.S [0, 2, 3] ?_
 obtain ⟨x1, hx1, h⟩ := bind_some h
 refine .seqM 20113 (fun (j : (List Int) × Bool × Int × (List Int) × Int × (List UInt8) × (List UInt8) × Int × Int × (List Int) × Int × Int × Int) => Try.St_command_reader_command_1 v1 j.1 j.2.1 j.2.2.1 j.2.2.2.1 j.2.2.2.2.1 j.2.2.2.2.2.1 j.2.2.2.2.2.2.1 j.2.2.2.2.2.2.2.1 j.2.2.2.2.2.2.2.2.1 j.2.2.2.2.2.2.2.2.2.1 j.2.2.2.2.2.2.2.2.2.2.1 j.2.2.2.2.2.2.2.2.2.2.2.1 j.2.2.2.2.2.2.2.2.2.2.2.2) (fun j => x1 = j) (Nat.le_of_ble_eq_true rfl) ?_ ?_
 ·refine .seq ?_
  refine .pl Try.S [0, 2, 4] ?_
  refine .block ?_
  refine .seq ?_
  refine .pl Try.S [0, 2, 4, 12] ?_
  refine .cond rfl rfl (fun hc1 => ?_) (fun hc1 => ?_)
  ·replace hx1 := za2 hx1 hc1
   refine .seq ?_
   obtain ⟨v2, hv2, hx1⟩ := bind_some hx1
   refine .rg Try.S [0, 2, 4] ?_
   refine .rn 1 ?_
   refine .hcall (H := [(20000, .box [.imm 1 (v1.2.fB.map (D.int .u8)) 12, .bool v1.2.fOk])]) (eff := [(20000, some (.box [.imm 1 (v2.2.fB.map (D.int .u8)) 12, .bool v2.2.fOk]))]) (nw := (20113, 20119)) (r := .int .i64 v2.1) rfl rfl rfl rfl rfl (zag 20000 20000 (zby 20113 (zas v1.2 v2 hv2))) (fun id b h => zak [20000] _ id b h) (by simp) (.inr ⟨Nat.le_of_ble_eq_true rfl, Nat.le_of_ble_eq_true rfl⟩) ?_
   refine .rn 3 ?_
   refine .nil ⟨nofun, ?_⟩
   refine .seq ?_
   obtain ⟨v3, hv3, hx1⟩ := bind_some hx1
   refine .rg Try.S [0, 2, 4] ?_
   refine .rn 1 ?_
   refine .hcall (H := [(20000, .box [.imm 1 (v2.2.fB.map (D.int .u8)) 12, .bool v2.2.fOk])]) (eff := [(20000, some (.box [.imm 1 (v3.2.fB.map (D.int .u8)) 12, .bool v3.2.fOk])), (20119, some (.arr 3 1 true (v3.1.map (D.int .i64))))]) (nw := (20119, 20128)) (r := .ref 20119 1 0 v3.1.length (some uC)) rfl rfl rfl rfl rfl (zag 20000 20000 (zby 20119 (zf5 v2.2 4 v3 hv3))) (fun id b h => zak [20000] _ id b h) (by simp) (.inr ⟨Nat.le_of_ble_eq_true rfl, Nat.le_of_ble_eq_true rfl⟩) ?_
   refine .rn 3 ?_
   refine .nil ⟨nofun, ?_⟩
   refine .seq ?_
   obtain ⟨v4, hv4, hx1⟩ := bind_some hx1
   refine .rg Try.S [0, 2, 4] ?_
   refine .rn 1 ?_
   refine .hcall (H := [(20000, .box [.imm 1 (v3.2.fB.map (D.int .u8)) 12, .bool v3.2.fOk])]) (eff := [(20000, some (.box [.imm 1 (v4.2.fB.map (D.int .u8)) 12, .bool v4.2.fOk]))]) (nw := (20128, 20134)) (r := .int .i64 v4.1) rfl rfl rfl rfl rfl (zag 20000 20000 (zby 20128 (zas v3.2 v4 hv4))) (fun id b h => zak [20000] _ id b h) (by simp) (.inr ⟨Nat.le_of_ble_eq_true rfl, Nat.le_of_ble_eq_true rfl⟩) ?_
   refine .rn 3 ?_
   refine .nil ⟨nofun, ?_⟩
   refine .seq ?_
   obtain ⟨v5, hv5, hx1⟩ := bind_some hx1
   refine .rg Try.S [0, 2, 4] ?_
   refine .rn 1 ?_
   refine .hcall (H := [(20000, .box [.imm 1 (v4.2.fB.map (D.int .u8)) 12, .bool v4.2.fOk])]) (eff := [(20000, some (.box [.imm 1 (v5.2.fB.map (D.int .u8)) 12, .bool v5.2.fOk]))]) (nw := (20134, 20140)) (r := .str v5.1) rfl rfl rfl rfl rfl (zag 20000 20000 (zby 20134 (zf4 v4.2 v5 hv5))) (fun id b h => zak [20000] _ id b h) (by simp) (.inr ⟨Nat.le_of_ble_eq_true rfl, Nat.le_of_ble_eq_true rfl⟩) ?_
   refine .rn 3 ?_
   refine .nil ⟨nofun, ?_⟩
   obtain ⟨v6, hv6, hx1⟩ := bind_some hx1
   refine .rg Try.S [0, 2, 4] ?_
   refine .rn 1 ?_
   refine .hcall (H := [(20000, .box [.imm 1 (v5.2.fB.map (D.int .u8)) 12, .bool v5.2.fOk])]) (eff := [(20000, some (.box [.imm 1 (v6.2.fB.map (D.int .u8)) 12, .bool v6.2.fOk]))]) (nw := (20140, 20146)) (r := .str v6.1) rfl rfl rfl rfl rfl (zag 20000 20000 (zby 20140 (zf4 v5.2 v6 hv6))) (fun id b h => zak [20000] _ id b h) (by simp) (.inr ⟨Nat.le_of_ble_eq_true rfl, Nat.le_of_ble_eq_true rfl⟩) ?_
   refine .rn 3 ?_
   refine .nil ⟨nofun, ?_⟩
   refine ⟨_, ?_, (Option.some.inj hx1).symm⟩
   refine Goes.new0 1 3 (Nat.le_of_ble_eq_true rfl) ?_
   refine Goes.boxs 20112 _ [.int .u8 (wr .u8 (min v1.1 255)), .int .i64 v2.1, .ref 20119 1 0 v3.1.length (some uC), .int .i64 v4.1, .str v5.1, .str v6.1, .int .i64 0, .int .i64 0, .ref 20146 1 0 0 (some uC), .int .i64 0, .int .i64 0, .int .i64 0] rfl (.keep (.keep (.keep (.keep (.keep (.keep (.keep (.keep (.cons (.own0 20146 _ _ _ (by decide)) (.refl _)))))))))) ?_
   exact .m [0, 2, 4] [20000, 20100, 20112, 20119, 20146] [(20119, 20113), (20146, 20114)]
  ·replace hx1 := zaa hx1 hc1
   refine .seq ?_
   refine .pl Try.S [0, 2, 4, 12] ?_
   refine .cond rfl rfl (fun hc2 => ?_) (fun hc2 => ?_)
   ·replace hx1 := za2 hx1 hc2
    refine .seq ?_
    obtain ⟨v7, hv7, hx1⟩ := bind_some hx1
    refine .rg Try.S [0, 2, 4] ?_
    refine .rn 1 ?_
    refine .hcall (H := [(20000, .box [.imm 1 (v1.2.fB.map (D.int .u8)) 12, .bool v1.2.fOk])]) (eff := [(20000, some (.box [.imm 1 (v7.2.fB.map (D.int .u8)) 12, .bool v7.2.fOk]))]) (nw := (20113, 20119)) (r := .int .i64 v7.1) rfl rfl rfl rfl rfl (zag 20000 20000 (zby 20113 (zas v1.2 v7 hv7))) (fun id b h => zak [20000] _ id b h) (by simp) (.inr ⟨Nat.le_of_ble_eq_true rfl, Nat.le_of_ble_eq_true rfl⟩) ?_
    refine .rn 2 ?_
    refine .nil ⟨nofun, ?_⟩
    obtain ⟨v8, hv8, hx1⟩ := bind_some hx1
    refine .rg Try.S [0, 2, 4] ?_
    refine .rn 1 ?_
    refine .hcall (H := [(20000, .box [.imm 1 (v7.2.fB.map (D.int .u8)) 12, .bool v7.2.fOk])]) (eff := [(20000, some (.box [.imm 1 (v8.2.fB.map (D.int .u8)) 12, .bool v8.2.fOk]))]) (nw := (20119, 20125)) (r := .int .i64 v8.1) rfl rfl rfl rfl rfl (zag 20000 20000 (zby 20119 (zas v7.2 v8 hv8))) (fun id b h => zak [20000] _ id b h) (by simp) (.inr ⟨Nat.le_of_ble_eq_true rfl, Nat.le_of_ble_eq_true rfl⟩) ?_
    refine .rn 2 ?_
    refine .nil ⟨nofun, ?_⟩
    refine ⟨_, ?_, (Option.some.inj hx1).symm⟩
    refine Goes.new0 1 3 (Nat.le_of_ble_eq_true rfl) ?_
    refine Goes.new0 1 3 (Nat.le_of_ble_eq_true rfl) ?_
    refine Goes.boxs 20112 _ [.int .u8 (wr .u8 (min v1.1 255)), .int .i64 0, .ref 20125 1 0 0 (some uC), .int .i64 0, .str [], .str [], .int .i64 v7.1, .int .i64 v8.1, .ref 20126 1 0 0 (some uC), .int .i64 0, .int .i64 0, .int .i64 0] rfl (.keep (.keep (.cons (.own0 20125 _ _ _ (by decide)) (.keep (.keep (.keep (.keep (.keep (.cons (.own0 20126 _ _ _ (by decide)) (.refl _)))))))))) ?_
    exact .m [0, 2, 4] [20000, 20100, 20112, 20125, 20126] [(20125, 20113), (20126, 20114)]
   ·replace hx1 := zaa hx1 hc2
    refine .seq ?_
    refine .pl Try.S [0, 2, 4, 12] ?_
    refine .cond rfl rfl (fun hc3 => ?_) (fun hc3 => ?_)
    ·replace hx1 := za2 hx1 hc3
     obtain ⟨v9, hv9, hx1⟩ := bind_some hx1
     refine .rg Try.S [0, 2, 4] ?_
     refine .rn 1 ?_
     refine .hcall (H := [(20000, .box [.imm 1 (v1.2.fB.map (D.int .u8)) 12, .bool v1.2.fOk])]) (eff := [(20000, some (.box [.imm 1 (v9.2.fB.map (D.int .u8)) 12, .bool v9.2.fOk])), (20113, some (.arr 3 1 true (v9.1.map (D.int .i64))))]) (nw := (20113, 20122)) (r := .ref 20113 1 0 v9.1.length (some uC)) rfl rfl rfl rfl rfl (zag 20000 20000 (zby 20113 (zf5 v1.2 6 v9 hv9))) (fun id b h => zak [20000] _ id b h) (by simp) (.inr ⟨Nat.le_of_ble_eq_true rfl, Nat.le_of_ble_eq_true rfl⟩) ?_
     refine .rn 2 ?_
     refine .nil ⟨nofun, ?_⟩
     refine ⟨_, ?_, (Option.some.inj hx1).symm⟩
     refine Goes.new0 1 3 (Nat.le_of_ble_eq_true rfl) ?_
     refine Goes.boxs 20112 _ [.int .u8 (wr .u8 (min v1.1 255)), .int .i64 0, .ref 20122 1 0 0 (some uC), .int .i64 0, .str [], .str [], .int .i64 0, .int .i64 0, .ref 20113 1 0 v9.1.length (some uC), .int .i64 0, .int .i64 0, .int .i64 0] rfl (.keep (.keep (.cons (.own0 20122 _ _ _ (by decide)) (.refl _)))) ?_
     exact .m [0, 2, 4] [20000, 20100, 20112, 20122, 20113] [(20122, 20113), (20113, 20114)]
    ·replace hx1 := zaa hx1 hc3
     obtain ⟨x2, hx2, hx1⟩ := bind_some hx1
     refine .seqM 20113 (fun (j : Bool) => Try.St_command_reader_command_3 v1 j) (fun j => x2 = j) (Nat.le_of_ble_eq_true rfl) ?_ ?_
     ·refine .seq ?_
      refine .pl Try.S [0, 2, 4, 12] ?_
      refine .cond rfl rfl (fun hc4 => ?_) (fun hc4 => ?_)
      ·replace hx2 := za2 hx2 hc4
       refine .skip ?_
       refine ⟨_, ?_, (Option.some.inj hx2).symm⟩
       exact .m [0, 2, 4, 48] [20000, 20100, 20112] []
      ·replace hx2 := zaa hx2 hc4
       refine .seq ?_
       refine .pl Try.S [0, 2, 4, 12] ?_
       refine .cond rfl rfl (fun hc5 => ?_) (fun hc5 => ?_)
       ·replace hx2 := za2 hx2 hc5
        refine .skip ?_
        refine ⟨_, ?_, (Option.some.inj hx2).symm⟩
        exact .m [0, 2, 4, 48] [20000, 20100, 20112] []
       ·replace hx2 := zaa hx2 hc5
        refine .pl Try.S [0, 2, 4, 12] ?_
        refine ⟨_, ?_, (Option.some.inj hx2).symm⟩
        exact .m [0, 2, 4, 48] [20000, 20100, 20112] []
     ·rintro b2 hj1
      subst x2
      try dsimp only at hx1
      simp only [Try.St_command_reader_command_3]
      refine .cond rfl rfl (fun hc6 => ?_) (fun hc6 => ?_)
      ·replace hx1 := za2 hx1 hc6
       refine .seq ?_
       obtain ⟨v10, hv10, hx1⟩ := bind_some hx1
       refine .rg Try.S [0, 2, 4] ?_
       refine .rn 1 ?_
       refine .hcall (H := [(20000, .box [.imm 1 (v1.2.fB.map (D.int .u8)) 12, .bool v1.2.fOk])]) (eff := [(20000, some (.box [.imm 1 (v10.2.fB.map (D.int .u8)) 12, .bool v10.2.fOk]))]) (nw := (20113, 20119)) (r := .int .i64 v10.1) rfl rfl rfl rfl rfl (zag 20000 20000 (zby 20113 (zas v1.2 v10 hv10))) (fun id b h => zak [20000] _ id b h) (by simp) (.inr ⟨Nat.le_of_ble_eq_true rfl, Nat.le_of_ble_eq_true rfl⟩) ?_
       refine .rn 2 ?_
       refine .nil ⟨nofun, ?_⟩
       refine .seq ?_
       obtain ⟨v11, hv11, hx1⟩ := bind_some hx1
       refine .rg Try.S [0, 2, 4] ?_
       refine .rn 1 ?_
       refine .hcall (H := [(20000, .box [.imm 1 (v10.2.fB.map (D.int .u8)) 12, .bool v10.2.fOk])]) (eff := [(20000, some (.box [.imm 1 (v11.2.fB.map (D.int .u8)) 12, .bool v11.2.fOk]))]) (nw := (20119, 20125)) (r := .int .i64 v11.1) rfl rfl rfl rfl rfl (zag 20000 20000 (zby 20119 (zas v10.2 v11 hv11))) (fun id b h => zak [20000] _ id b h) (by simp) (.inr ⟨Nat.le_of_ble_eq_true rfl, Nat.le_of_ble_eq_true rfl⟩) ?_
       refine .rn 2 ?_
       refine .nil ⟨nofun, ?_⟩
       obtain ⟨x3, hx3, hx1⟩ := bind_some hx1
       refine .seqM 20125 (fun (j : (List Int) × Bool × Int) => Try.St_command_reader_command_5 v1 v10 v11 j.1 j.2.1 j.2.2) (fun j => x3 = j) (Nat.le_of_ble_eq_true rfl) ?_ ?_
       ·refine .seq ?_
        refine .pl Try.S [0, 2, 4] ?_
        refine .cond rfl rfl (fun hc7 => ?_) (fun hc7 => ?_)
        ·replace hx3 := za2 hx3 hc7
         obtain ⟨v12, hv12, hx3⟩ := bind_some hx3
         refine .rg Try.S [0, 2, 4] ?_
         refine .rn 1 ?_
         refine .hcall (H := [(20000, .box [.imm 1 (v11.2.fB.map (D.int .u8)) 12, .bool v11.2.fOk])]) (eff := [(20000, some (.box [.imm 1 (v12.2.fB.map (D.int .u8)) 12, .bool v12.2.fOk]))]) (nw := (20125, 20131)) (r := .int .i64 v12.1) rfl rfl rfl rfl rfl (zag 20000 20000 (zby 20125 (zas v11.2 v12 hv12))) (fun id b h => zak [20000] _ id b h) (by simp) (.inr ⟨Nat.le_of_ble_eq_true rfl, Nat.le_of_ble_eq_true rfl⟩) ?_
         refine .rn 2 ?_
         refine .nil ⟨nofun, ?_⟩
         refine ⟨_, ?_, (Option.some.inj hx3).symm⟩
         exact .m [0, 2, 4] [20000, 20100, 20112] []
        ·replace hx3 := zaa hx3 hc7
         refine .skip ?_
         refine ⟨_, ?_, (Option.some.inj hx3).symm⟩
         exact .m [0, 2, 4] [20000, 20100, 20112] []
       ·rintro ⟨l4, b3, n8⟩ hj2
        subst x3
        try dsimp only at hx1
        simp only [Try.St_command_reader_command_5]
        obtain ⟨v13, hv13, hx1⟩ := bind_some hx1
        refine .rg Try.S [0, 2, 4] ?_
        refine .rn 1 ?_
        refine .hcall (H := [(20000, .box [.imm 1 (l4.map (D.int .u8)) 12, .bool b3])]) (eff := [(20000, some (.box [.imm 1 (v13.2.fB.map (D.int .u8)) 12, .bool v13.2.fOk]))]) (nw := (20125, 20131)) (r := .int .i64 v13.1) rfl rfl rfl rfl rfl (zag 20000 20000 (zby 20125 (zas (⟨l4, b3⟩ : Tcommand_reader) v13 hv13))) (fun id b h => zak [20000] _ id b h) (by simp) (.inr ⟨Nat.le_of_ble_eq_true rfl, Nat.le_of_ble_eq_true rfl⟩) ?_
        refine .rn 2 ?_
        refine .nil ⟨nofun, ?_⟩
        refine ⟨_, ?_, (Option.some.inj hx1).symm⟩
        refine Goes.new0 1 3 (Nat.le_of_ble_eq_true rfl) ?_
        refine Goes.new0 1 3 (Nat.le_of_ble_eq_true rfl) ?_
        refine Goes.boxs 20112 _ [.int .u8 (wr .u8 (min v1.1 255)), .int .i64 0, .ref 20131 1 0 0 (some uC), .int .i64 0, .str [], .str [], .int .i64 v10.1, .int .i64 0, .ref 20132 1 0 0 (some uC), .int .i64 v11.1, .int .i64 n8, .int .i64 v13.1] rfl (.keep (.keep (.cons (.own0 20131 _ _ _ (by decide)) (.keep (.keep (.keep (.keep (.keep (.cons (.own0 20132 _ _ _ (by decide)) (.refl _)))))))))) ?_
        exact .m [0, 2, 4] [20000, 20100, 20112, 20131, 20132] [(20131, 20113), (20132, 20114)]
      ·replace hx1 := zaa hx1 hc6
       refine .skip ?_
       refine ⟨_, ?_, (Option.some.inj hx1).symm⟩
       refine Goes.new0 1 3 (Nat.le_of_ble_eq_true rfl) ?_
       refine Goes.new0 1 3 (Nat.le_of_ble_eq_true rfl) ?_
       refine Goes.boxs 20112 _ [.int .u8 (wr .u8 (min v1.1 255)), .int .i64 0, .ref 20113 1 0 0 (some uC), .int .i64 0, .str [], .str [], .int .i64 0, .int .i64 0, .ref 20114 1 0 0 (some uC), .int .i64 0, .int .i64 0, .int .i64 0] rfl (.keep (.keep (.cons (.own0 20113 _ _ _ (by decide)) (.keep (.keep (.keep (.keep (.keep (.cons (.own0 20114 _ _ _ (by decide)) (.refl _)))))))))) ?_
       exact .m [0, 2, 4] [20000, 20100, 20112, 20113, 20114] []
 ·rintro ⟨l1, b1, n1, l2, n2, s1, s2, n3, n4, l3, n5, n6, n7⟩ hj3
  subst x1
  try dsimp only at h
  simp only [Try.St_command_reader_command_1]
  refine .seq ?_
  refine .pl Try.S [0, 2, 4] ?_
  have hq := Option.some.inj h
  subst r
  refine .ret ⟨Try.Re_command_reader_command ((⟨(wr .u8 (min v1.1 255)), (⟨n1, l2, n2, s1, s2⟩ : TMessage), n3, n4, l3, n5, n6, n7⟩ : TCommand), (⟨l1, b1⟩ : Tcommand_reader)), ?_, .inr rfl, retH [20000, 20101, 20100] ?_ ?_⟩
  ·exact .m [0, 2] [20000, 20113, 20114, 20100] [(20113, 20100), (20114, 20101), (20100, 20102)]
  ·exact rsi0
  ·rfl
def Try.Re_command_Read (r : TCommand × Int) : St := ⟨[(2, .ptr 2 0), (3, .int .i64 r.2)], [(0, .arr 3 1 true (r.1.Message.Groups.map (D.int .i64))), (1, .arr 3 1 true (r.1.Members.map (D.int .i64))), (2, .box [.int .u8 r.1.Kind, .int .i64 r.1.Message.Id, .ref 0 1 0 r.1.Message.Groups.length (some uC), .int .i64 r.1.Message.Topic, .str r.1.Message.Key, .str r.1.Message.Body, .int .i64 r.1.Id, .int .i64 r.1.Time, .ref 1 1 0 r.1.Members.length (some uC), .int .i64 r.1.Topic, .int .i64 r.1.Who, .int .i64 r.1.N])], 3⟩
attribute [local go_sem] Try.Re_command_Read
theorem zm0 (a0 : List UInt8) (r : TCommand × Int) (h : zcb a0 = some r) : CallH Try.prog 53 [.str a0] [] (.tuple [.agg [.int .u8 r.1.Kind, .int .i64 r.1.Message.Id, .ref 0 1 0 r.1.Message.Groups.length (some uC), .int .i64 r.1.Message.Topic, .str r.1.Message.Key, .str r.1.Message.Body, .int .i64 r.1.Id, .int .i64 r.1.Time, .ref 1 1 0 r.1.Members.length (some uC), .int .i64 r.1.Topic, .int .i64 r.1.Who, .int .i64 r.1.N], .int .i64 r.2]) [(0, some (.arr 3 1 true (r.1.Message.Groups.map (D.int .i64)))), (1, some (.arr 3 1 true (r.1.Members.map (D.int .i64))))] (0, 56) := by
 refine za4 Try.tmOk Try.func53 rfl (by decide) (Nat.le_of_ble_eq_true rfl) (by simp) ?_
 intro hwf
 unfold zcb at h
 refine .ends 0 (Nat.le_refl _) ?_
 refine .seq ?_
 refine .pl Try.S [0] ?_
 refine .seq ?_
 refine .seq ?_
 refine .pl Try.S [0, 2] ?_
 refine .cond rfl rfl (fun hc1 => ?_) (fun hc1 => ?_)
 ·replace h := za2 h hc1
  refine .seq ?_
  refine .pl Try.S [2] ?_
  have hq := Option.some.inj h
  subst r
  refine .ret ⟨Try.Re_command_Read ((⟨0, (⟨0, [], 0, [], []⟩ : TMessage), 0, 0, [], 0, 0, 0⟩ : TCommand), 3), ?_, .inr rfl, retH [1, 0] ?_ ?_⟩
  ·refine Goes.new0 1 3 (Nat.le_of_ble_eq_true rfl) ?_
   refine Goes.new0 1 3 (Nat.le_of_ble_eq_true rfl) ?_
   refine Goes.boxs 0 _ [.int .u8 0, .int .i64 0, .ref 1 1 0 0 (some uC), .int .i64 0, .str [], .str [], .int .i64 0, .int .i64 0, .ref 2 1 0 0 (some uC), .int .i64 0, .int .i64 0, .int .i64 0] rfl (.keep (.keep (.cons (.own0 1 _ _ _ (by decide)) (.keep (.keep (.keep (.keep (.keep (.cons (.own0 2 _ _ _ (by decide)) (.refl _)))))))))) ?_
   exact .m [2, 3] [1, 2, 0] [(1, 0), (2, 1), (0, 2)]
  ·exact rsi0
  ·rfl
 ·replace h := zaa h hc1
  refine .skip ?_
  refine .seq ?_
  refine .pl Try.S [0, 2] ?_
  refine .goes (.boxs 1 _ [.imm 1 ((zg2 a0).map (D.int .u8)) 12, .bool true] rfl (.cons (.of_new12 _ _ rfl) (.refl _)) .refl) ?_
  refine .seq ?_
  obtain ⟨v1, hv1, h⟩ := bind_some h
  refine .rg Try.S [2, 4] ?_
  refine .rn 1 ?_
  refine .hcall (H := [(1, .box [.imm 1 ((zg2 a0).map (D.int .u8)) 12, .bool true])]) (eff := [(1, some (.box [.imm 1 (v1.2.fB.map (D.int .u8)) 12, .bool v1.2.fOk])), (2, some (.arr 3 1 true (v1.1.Message.Groups.map (D.int .i64)))), (3, some (.arr 3 1 true (v1.1.Members.map (D.int .i64))))]) (nw := (2, 51)) (r := .agg [.int .u8 v1.1.Kind, .int .i64 v1.1.Message.Id, .ref 2 1 0 v1.1.Message.Groups.length (some uC), .int .i64 v1.1.Message.Topic, .str v1.1.Message.Key, .str v1.1.Message.Body, .int .i64 v1.1.Id, .int .i64 v1.1.Time, .ref 3 1 0 v1.1.Members.length (some uC), .int .i64 v1.1.Topic, .int .i64 v1.1.Who, .int .i64 v1.1.N]) rfl rfl rfl rfl rfl (zda 2 (zag 20000 1 (zhf (⟨(zg2 a0), true⟩ : Tcommand_reader) v1 hv1))) (fun id b h => zak [1] _ id b h) (by simp) (.inr ⟨Nat.le_of_ble_eq_true rfl, Nat.le_of_ble_eq_true rfl⟩) ?_
  refine .rn 2 ?_
  refine .nil ⟨nofun, ?_⟩
  refine .seq ?_
  refine .seq ?_
  obtain ⟨v2, hv2, h⟩ := bind_some h
  refine .rg Try.S [2, 4, 5] ?_
  refine .rn 6 ?_
  refine .rn 6 ?_
  refine .rn 3 ?_
  refine .glcall (r := .int .i64 v2) [] rfl rfl rfl rfl rfl (fun hg => ⟨[], [.agg [.int .u8 v1.1.Kind, .int .i64 v1.1.Message.Id, .ref 2 1 0 v1.1.Message.Groups.length (some uC), .int .i64 v1.1.Message.Topic, .str v1.1.Message.Key, .str v1.1.Message.Body, .int .i64 v1.1.Id, .int .i64 v1.1.Time, .ref 3 1 0 v1.1.Members.length (some uC), .int .i64 v1.1.Topic, .int .i64 v1.1.Who, .int .i64 v1.1.N]], _, rfl, gd hg, (za5 (lend2_of (lend_agg (za0 rfl (za0 rfl (za0 (zi3 (pl_int .i64) (by first | rfl | (simp only [go_sem, Nat.reduceBEq]; rfl)) (by first | rfl | (simp; done) | (simp <;> omega))) (za0 rfl (za0 rfl (za0 rfl (za0 rfl (za0 rfl (za0 (zi3 (pl_int .i64) (by first | rfl | (simp only [go_sem, Nat.reduceBEq]; rfl)) (by first | rfl | (simp; done) | (simp <;> omega))) (za0 rfl (za0 rfl (za0 rfl zgl))))))))))))) trivial) zau), rfl, (zfd v1.1 v2 (za2 hv2 hg))⟩) ?_
  refine .rn 2 ?_
  refine .nil ⟨nofun, ?_⟩
  refine .cond rfl rfl (fun hc2 => ?_) (fun hc2 => ?_)
  ·replace h := za2 h hc2
   refine .seq ?_
   refine .pl Try.S [2] ?_
   have hq := Option.some.inj h
   subst r
   refine .ret ⟨Try.Re_command_Read ((⟨0, (⟨0, [], 0, [], []⟩ : TMessage), 0, 0, [], 0, 0, 0⟩ : TCommand), 8), ?_, .inr rfl, retH [1, 0] ?_ ?_⟩
   ·refine Goes.new0 1 3 (Nat.le_of_ble_eq_true rfl) ?_
    refine Goes.new0 1 3 (Nat.le_of_ble_eq_true rfl) ?_
    refine Goes.boxs 0 _ [.int .u8 0, .int .i64 0, .ref 52 1 0 0 (some uC), .int .i64 0, .str [], .str [], .int .i64 0, .int .i64 0, .ref 53 1 0 0 (some uC), .int .i64 0, .int .i64 0, .int .i64 0] rfl (.keep (.keep (.cons (.own0 52 _ _ _ (by decide)) (.keep (.keep (.keep (.keep (.keep (.cons (.own0 53 _ _ _ (by decide)) (.refl _)))))))))) ?_
    exact .m [2, 3] [52, 53, 0] [(52, 0), (53, 1), (0, 2)]
   ·exact rsi0
   ·rfl
  ·replace h := zaa h hc2
   refine .skip ?_
   refine .seq ?_
   refine .pl Try.S [2, 5] ?_
   have hq := Option.some.inj h
   subst r
   refine .ret ⟨Try.Re_command_Read (v1.1, 0), ?_, .inr rfl, retH [1, 0] ?_ ?_⟩
   ·exact .m [2, 3] [2, 3, 0] [(2, 0), (3, 1), (0, 2)]
   ·exact rsi0
   ·rfl
theorem zlx (a0 : List UInt8) (r : TCommand × Int) (h : zcb a0 = some r) : CallP Try.prog 53 [.str a0] (.tuple [.agg [.int .u8 r.1.Kind, .int .i64 r.1.Message.Id, .imm 1 (r.1.Message.Groups.map (D.int .i64)) 12, .int .i64 r.1.Message.Topic, .str r.1.Message.Key, .str r.1.Message.Body, .int .i64 r.1.Id, .int .i64 r.1.Time, .imm 1 (r.1.Members.map (D.int .i64)) 12, .int .i64 r.1.Topic, .int .i64 r.1.Who, .int .i64 r.1.N], .int .i64 r.2]) :=
 zgs (zmh (zbb (frz_agg (zbb rfl (zbb rfl (zbb (zlm pl0_i64 rfl rfl) (zbb rfl (zbb rfl (zbb rfl (zbb rfl (zbb rfl (zbb (zlm pl0_i64 rfl rfl) (zbb rfl (zbb rfl (zbb rfl zhb))))))))))))) (zbb rfl zhb))) (zm0 a0 r h)
def Try.St_log_Commands_1 (l1 : List TCommand) : St := ⟨[(2, .ref 0 12 0 l1.length (some uC))], [(0, .arr 63 12 true (l1.map TCommand.n))], 1⟩
attribute [local go_sem] Try.St_log_Commands_1
def Try.St_log_Commands_3 (a0 : List (List UInt8)) (n1 : Nat) (l2 : List TCommand) : St := ⟨[(2, .ref 0 12 0 l2.length (some uC)), (11, .imm 1 (a0.map D.str) 4), (12, .int .i64 (a0.length : Int)), (13, .int .i64 (n1 : Int))], [(0, .arr 63 12 true (l2.map TCommand.n))], 1⟩
attribute [local go_sem] Try.St_log_Commands_3
def Try.Re_log_Commands (r : (List TCommand) × Int) : St := ⟨[(2, .ref 0 12 0 r.1.length (some uC)), (3, .int .i64 r.2)], [(0, .arr 63 12 true (r.1.map TCommand.n))], 1⟩
attribute [local go_sem] Try.Re_log_Commands
theorem zlz (a0 : List (List UInt8)) (r : (List TCommand) × Int) (h : zds a0 = some r) : CallH Try.prog 40 [.imm 1 (a0.map D.str) 4] [] (.tuple [.ref 0 12 0 r.1.length (some uC), .int .i64 r.2]) [(0, some (.arr 63 12 true (r.1.map TCommand.n)))] (0, 6) := by
 refine za4 Try.tmOk Try.func40 rfl (by decide) (Nat.le_of_ble_eq_true rfl) (by simp) ?_
 intro hwf
 unfold zds at h
 refine .ends 0 (Nat.le_refl _) ?_
 refine .seq ?_
 refine .pl Try.S [0] ?_
 refine .seq ?_
 refine .seq ?_
 refine .pl Try.S [0, 2] ?_
 refine .cond rfl rfl (fun hc1 => ?_) (fun hc1 => ?_)
 ·replace h := za2 h hc1
  refine .seq ?_
  refine .pl Try.S [] ?_
  have hq := Option.some.inj h
  subst r
  refine .ret ⟨Try.Re_log_Commands ([], 4), ?_, .inr rfl, retH [0] ?_ ?_⟩
  ·refine Goes.new0 12 63 (Nat.le_of_ble_eq_true rfl) ?_
   refine Goes.wk 2 _ (.ref 0 12 0 0 (some uC)) rfl (.own0 0 _ _ _ (by decide)) ?_
   exact .m [2, 3] [0] []
  ·exact rsi0
  ·rfl
 ·replace h := zaa h hc1
  refine .skip ?_
  obtain ⟨x1, hx1, h⟩ := bind_some h
  refine .seqM 0 (fun (j : (List TCommand)) => Try.St_log_Commands_1 j) (fun j => x1 = (.inr j)) (Nat.le_of_ble_eq_true rfl) ?_ ?_
  ·refine .seq ?_
   refine .pl Try.S [0, 2] ?_
   refine .block ?_
   refine .loopG 0 (fun (j : Nat × (List TCommand)) => Try.St_log_Commands_3 a0 j.1 j.2) (fun j => j.1 <= a0.length /\ zc2 (a0.drop j.1) j.2 = some x1) (fun j => a0.length - j.1) (0, []) (Nat.le_of_ble_eq_true rfl) ?_ ⟨Nat.zero_le _, hx1⟩ ?_
   ·refine Goes.new0 12 63 (Nat.le_of_ble_eq_true rfl) ?_
    refine Goes.wk 2 _ (.ref 0 12 0 0 (some uC)) rfl (.own0 0 _ _ _ (by decide)) ?_
    exact .m [2, 11, 12, 13] [0] []
   rintro ⟨n1, l2⟩ ⟨hi1, hx1⟩
   simp only [Try.St_log_Commands_3]
   simp only at hi1 hx1
   refine .wf 12 (.int .i64 (a0.length : Int)) rfl ?_
   intro hln1
   replace hln1 : (a0.length : Int) <= 9223372036854775807 := by simp only [wf, wfL, IntKind.max, IntKind.min, IntKind.signed, IntKind.bits, List.length_map] at hln1; first | exact hln1.2 | exact hln1.1 | (simp at hln1; omega)
   refine .seq ?_
   refine .pl Try.S [2, 11, 12, 13] ?_
   refine .seq ?_
   refine .cond rfl rfl (fun hc2 => ?_) (fun hc2 => ?_)
   ·have h1 : n1 < a0.length := by simpa using hc2
    have hwn1 : wr .i64 ((n1 : Int) + 1) = ((n1 + 1 : Nat) : Int) := zd4 h1 hln1
    have hpn1 : wr .i64 ((n1 : Int) - 1) = (n1 : Int) - 1 := zd5 h1 hln1
    rw [List.drop_eq_getElem_cons h1, zfz] at hx1
    refine .skip ?_
    refine .seq ?_
    refine .block ?_
    refine .seq ?_
    have e1 := zcc D.str a0 n1 h1
    refine .plx Try.S (And.intro e1 hwn1) [2, 11, 12, 13] ?_
    refine .seq ?_
    obtain ⟨v1, hv1, hx1⟩ := bind_some hx1
    refine .rg Try.S [2, 5, 11, 12, 13] ?_
    refine .rnx 1 hwn1 ?_
    refine .call (r := .tuple [.agg [.int .u8 v1.1.Kind, .int .i64 v1.1.Message.Id, .imm 1 (v1.1.Message.Groups.map (D.int .i64)) 12, .int .i64 v1.1.Message.Topic, .str v1.1.Message.Key, .str v1.1.Message.Body, .int .i64 v1.1.Id, .int .i64 v1.1.Time, .imm 1 (v1.1.Members.map (D.int .i64)) 12, .int .i64 v1.1.Topic, .int .i64 v1.1.Who, .int .i64 v1.1.N], .int .i64 v1.2]) rfl rfl rfl rfl rfl rfl (zlx (a0[n1]) v1 hv1) ?_
    refine .rnx 6 hwn1 ?_
    refine .nil ⟨nofun, ?_⟩
    refine .seq ?_
    refine .seq ?_
    refine .plx Try.S hwn1 [2, 6, 7, 11, 12, 13] ?_
    refine .cond rfl rfl (fun hc3 => ?_) (fun hc3 => ?_)
    ·replace hx1 := za2 hx1 hc3
     refine .seq ?_
     refine .plx Try.S hwn1 [] ?_
     have hq := Option.some.inj hx1
     subst x1
     try dsimp only at h
     have hq := Option.some.inj h
     subst r
     refine .ret ⟨Try.Re_log_Commands ([], 8), ?_, .inr rfl, retH [0] ?_ ?_⟩
     ·refine Goes.new0 12 63 (Nat.le_of_ble_eq_true rfl) ?_
      refine Goes.wk 2 _ (.ref 2 12 0 0 (some uC)) rfl (.own0 2 _ _ _ (by decide)) ?_
      exact .m [2, 3] [2] [(2, 0)]
     ·exact rsi0
     ·rfl
    ·replace hx1 := zaa hx1 hc3
     refine .skip ?_
     obtain ⟨k1, hx1⟩ := zba hx1
     refine .plx Try.S hwn1 [2, 6, 11, 12, 13] ?_
     refine .plx Try.S hwn1 [2, 11, 12, 13] ?_
     refine ⟨(n1 + 1, _), ?_, ⟨by omega, hx1⟩, by dsimp only; omega⟩
     exact .m [2, 11, 12, 13] [3] [(3, 0)]
   ·have h2 : n1 = a0.length := by have h2b := of_decide_eq_false hc2; omega
    rw [List.drop_of_length_le (by omega), zfy] at hx1
    refine .exit ?_
    refine ⟨_, ?_, (Option.some.inj hx1).symm⟩
    exact .m [2] [0] []
  ·rintro l1 hj1
   subst x1
   try dsimp only at h
   simp only [Try.St_log_Commands_1]
   refine .seq ?_
   refine .pl Try.S [2] ?_
   have hq := Option.some.inj h
   subst r
   refine .ret ⟨Try.Re_log_Commands (l1, 0), ?_, .inr rfl, retH [0] ?_ ?_⟩
   ·exact .m [2, 3] [0] []
   ·exact rsi0
   ·rfl
theorem zi8 (a0 : List (List UInt8)) (r : (List TCommand) × Int) (h : zds a0 = some r) : CallP Try.prog 40 [.imm 1 (a0.map D.str) 4] (.tuple [.imm 12 (r.1.map TCommand.d) 12, .int .i64 r.2]) :=
 zgs (zmh (zbb (zll pln_TCommand rfl rfl) (zbb rfl zhb))) (zlz a0 r h)
def Try.Re_order_times_1 (r : (List Torder_given)) : St := ⟨[(1, .ptr 20000 0)], [(20000, .box [.ref 20100 6 0 r.length (some uC)]), (20100, .arr 76 6 true (r.map Torder_given.n))], 20101⟩
attribute [local go_sem] Try.Re_order_times_1
theorem zkx (a0 : Torder_step) (c0 : List Torder_given) (r : (List Torder_given)) (h : zeo a0 c0 = some r) : CallH Try.prog 46 [.agg [.int .u8 a0.fC.Kind, .int .i64 a0.fC.Message.Id, .imm 1 (a0.fC.Message.Groups.map (D.int .i64)) 12, .int .i64 a0.fC.Message.Topic, .str a0.fC.Message.Key, .str a0.fC.Message.Body, .int .i64 a0.fC.Id, .int .i64 a0.fC.Time, .imm 1 (a0.fC.Members.map (D.int .i64)) 12, .int .i64 a0.fC.Topic, .int .i64 a0.fC.Who, .int .i64 a0.fC.N, .int .i64 a0.fBefore.Clock, .imm 7 (a0.fBefore.Waits.map TWait.d) 12, .imm 2 (a0.fBefore.Done.map TStamp.d) 12, .int .i64 a0.fAfter.Clock, .imm 7 (a0.fAfter.Waits.map TWait.d) 12, .imm 2 (a0.fAfter.Done.map TStamp.d) 12, .imm 5 (a0.fOut.map TMessage.d) 12], .ptr 20000 0] [(20000, .box [.ref 20001 6 0 c0.length (some uC)]), (20001, .arr 76 6 true (c0.map Torder_given.n))] (.tuple []) [(20000, some (.box [.ref 20100 6 0 r.length (some uC)])), (20001, none), (20100, some (.arr 76 6 true (r.map Torder_given.n)))] (20100, 20105) := by
 refine za4 Try.tmOk Try.func46 rfl (by decide) (Nat.le_of_ble_eq_true rfl) (by simp) ?_
 intro hwf
 unfold zeo at h
 refine .ends 20100 (Nat.le_refl _) ?_
 refine .seq ?_
 refine .pl Try.S [0, 1] ?_
 refine .seq ?_
 refine .rg Try.S [1, 2] ?_
 refine .rn 6 ?_
 refine .rn 3 ?_
 refine .nil ⟨nofun, ?_⟩
 refine .cond rfl rfl (fun hc1 => ?_) (fun hc1 => ?_)
 ·replace h := za2 h hc1
  obtain ⟨k1, h⟩ := zba h
  refine .rg Try.S [1, 2] ?_
  refine .rn 6 ?_
  refine .rn 5 ?_
  refine .nil ⟨nofun, ?_⟩
  have hq := Option.some.inj h
  subst r
  refine ⟨Try.Re_order_times_1 (c0 ++ [(⟨a0.fAfter.Clock, a0.fC.Message⟩ : Torder_given)]), ?_, .inl rfl, retH [20000, 20100] ?_ ?_⟩
  ·exact .m [1] [20000, 20102] [(20102, 20100)]
  ·exact rsi0
  ·rfl
 ·replace h := zaa h hc1
  refine .skip ?_
  have hq := Option.some.inj h
  subst r
  refine ⟨Try.Re_order_times_1 c0, ?_, .inl rfl, retH [20000, 20100] ?_ ?_⟩
  ·exact .m [1] [20000, 20001] [(20001, 20100)]
  ·exact rsi0
  ·rfl
def Try.St_order_play_times_1 (l1 : List Torder_given) (n1 : Int) (l2 : List TWait) (l3 : List TStamp) : St := ⟨[(2, .fn (.func 46) [.ptr 20000 0]), (6, .ptr 20100 0), (10, .ptr 20101 0)], [(20000, .box [.ref 20102 6 0 l1.length (some uC)]), (20100, .box [.int .i64 0, .imm 0 [] 0, .imm 0 [] 0]), (20101, .box [.int .i64 n1, .imm 7 (l2.map TWait.d) 12, .imm 2 (l3.map TStamp.d) 12]), (20102, .arr 76 6 true (l1.map Torder_given.n))], 20103⟩
attribute [local go_sem] Try.St_order_play_times_1
def Try.St_order_play_times_3 (a0 : Int) (v1 : (List TCommand) × Int) (n3 : Nat) (l4 : List Torder_given) (n2 : Int) (l5 : List TWait) (l6 : List TStamp) : St := ⟨[(0, .int .i64 a0), (2, .fn (.func 46) [.ptr 20000 0]), (6, .ptr 20100 0), (10, .ptr 20101 0), (33, .imm 12 (v1.1.map TCommand.d) 12), (34, .int .i64 (v1.1.length : Int)), (35, .int .i64 (n3 : Int))], [(20000, .box [.ref 20102 6 0 l4.length (some uC)]), (20100, .box [.int .i64 0, .imm 0 [] 0, .imm 0 [] 0]), (20101, .box [.int .i64 n2, .imm 7 (l5.map TWait.d) 12, .imm 2 (l6.map TStamp.d) 12]), (20102, .arr 76 6 true (l4.map Torder_given.n))], 20103⟩
attribute [local go_sem] Try.St_order_play_times_3
def Try.St_order_play_times_5 (a0 : Int) (v1 : (List TCommand) × Int) (n3 : Nat) (l4 : List Torder_given) (n2 : Int) (l5 : List TWait) (l6 : List TStamp) (yq0 : TCommand) (n4 : Int) (l7 : List TWait) (l8 : List TStamp) (l9 : List TMessage) : St := ⟨[(0, .int .i64 a0), (2, .fn (.func 46) [.ptr 20000 0]), (6, .ptr 20100 0), (10, .ptr 20101 0), (12, .ptr 20103 0), (13, .ptr 20104 0), (14, .imm 5 (l9.map TMessage.d) 12), (33, .imm 12 (v1.1.map TCommand.d) 12), (34, .int .i64 (v1.1.length : Int)), (35, .int .i64 (n3 : Int))], [(20000, .box [.ref 20102 6 0 l4.length (some uC)]), (20100, .box [.int .i64 0, .imm 0 [] 0, .imm 0 [] 0]), (20101, .box [.int .i64 n2, .imm 7 (l5.map TWait.d) 12, .imm 2 (l6.map TStamp.d) 12]), (20102, .arr 76 6 true (l4.map Torder_given.n)), (20103, .box [.int .u8 (yq0.Kind), .int .i64 (yq0.Message.Id), .imm 1 ((yq0.Message.Groups).map (D.int .i64)) 12, .int .i64 (yq0.Message.Topic), .str (yq0.Message.Key), .str (yq0.Message.Body), .int .i64 (yq0.Id), .int .i64 (yq0.Time), .imm 1 ((yq0.Members).map (D.int .i64)) 12, .int .i64 (yq0.Topic), .int .i64 (yq0.Who), .int .i64 (yq0.N)]), (20104, .box [.int .i64 n4, .imm 7 (l7.map TWait.d) 12, .imm 2 (l8.map TStamp.d) 12])], 20105⟩
attribute [local go_sem] Try.St_order_play_times_5
def Try.Re_order_play_times (r : TSkeen × Int × (List Torder_given)) : St := ⟨[(2, .fn (.func 46) [.ptr 20000 0]), (6, .ptr 20103 0), (7, .int .i64 r.2.1)], [(20000, .box [.ref 20102 6 0 r.2.2.length (some uC)]), (20100, .arr 69 7 true (r.1.Waits.map TWait.n)), (20101, .arr 38 2 true (r.1.Done.map TStamp.d)), (20102, .arr 76 6 true (r.2.2.map Torder_given.n)), (20103, .box [.int .i64 r.1.Clock, .ref 20100 7 0 r.1.Waits.length (some uC), .ref 20101 2 0 r.1.Done.length (some uC)])], 20104⟩
attribute [local go_sem] Try.Re_order_play_times
theorem zjf (a0 : Int) (a1 : List (List UInt8)) (a2_0 : List Torder_given) (r : TSkeen × Int × (List Torder_given)) (h : zdo a0 a1 a2_0 = some r) : CallH Try.prog 20 [.int .i64 a0, .imm 1 (a1.map D.str) 4, .fn (.func 46) [.ptr 20000 0]] [(20000, .box [.ref 20001 6 0 a2_0.length (some uC)]), (20001, .arr 76 6 true (a2_0.map Torder_given.n))] (.tuple [.agg [.int .i64 r.1.Clock, .ref 20100 7 0 r.1.Waits.length (some uC), .ref 20101 2 0 r.1.Done.length (some uC)], .int .i64 r.2.1]) [(20000, some (.box [.ref 20102 6 0 r.2.2.length (some uC)])), (20001, none), (20100, some (.arr 69 7 true (r.1.Waits.map TWait.n))), (20101, some (.arr 38 2 true (r.1.Done.map TStamp.d))), (20102, some (.arr 76 6 true (r.2.2.map Torder_given.n)))] (20100, 20117) := by
 refine za4 Try.tmOk Try.func20 rfl (by decide) (Nat.le_of_ble_eq_true rfl) (by simp) ?_
 intro hwf
 unfold zdo at h
 refine .ends 20100 (Nat.le_refl _) ?_
 refine .seq ?_
 refine .pl Try.S [0, 1, 2] ?_
 refine .seq ?_
 refine .seq ?_
 refine .pl Try.S [0, 1, 2, 6] ?_
 refine .cond rfl rfl (fun hc1 => ?_) (fun hc1 => ?_)
 ·replace h := za2 h hc1
  refine .seq ?_
  refine .pl Try.S [2, 6] ?_
  have hq := Option.some.inj h
  subst r
  refine .ret ⟨Try.Re_order_play_times ((⟨0, [], []⟩ : TSkeen), 2, a2_0), ?_, .inr rfl, retH [20000, 20102, 20101, 20100] ?_ ?_⟩
  ·refine Goes.new0 7 69 (Nat.le_of_ble_eq_true rfl) ?_
   refine Goes.new0 2 38 (Nat.le_of_ble_eq_true rfl) ?_
   refine Goes.boxs 20100 _ [.int .i64 0, .ref 20101 7 0 0 (some uC), .ref 20102 2 0 0 (some uC)] rfl (.keep (.cons (.own0 20101 _ _ _ (by decide)) (.cons (.own0 20102 _ _ _ (by decide)) (.refl _)))) ?_
   exact .m [2, 6, 7] [20000, 20101, 20102, 20001, 20100] [(20101, 20100), (20102, 20101), (20001, 20102), (20100, 20103)]
  ·exact rsi0
  ·rfl
 ·replace h := zaa h hc1
  refine .skip ?_
  refine .seq ?_
  obtain ⟨v1, hv1, h⟩ := bind_some h
  refine .rg Try.S [0, 1, 2, 6] ?_
  refine .rn 1 ?_
  refine .call (r := .tuple [.imm 12 (v1.1.map TCommand.d) 12, .int .i64 v1.2]) rfl rfl rfl rfl rfl rfl (zi8 a1 v1 hv1) ?_
  refine .rn 5 ?_
  refine .nil ⟨nofun, ?_⟩
  refine .seq ?_
  refine .seq ?_
  refine .pl Try.S [0, 2, 6, 8, 9] ?_
  refine .cond rfl rfl (fun hc2 => ?_) (fun hc2 => ?_)
  ·replace h := za2 h hc2
   refine .seq ?_
   refine .pl Try.S [2, 6, 9] ?_
   have hq := Option.some.inj h
   subst r
   refine .ret ⟨Try.Re_order_play_times ((⟨0, [], []⟩ : TSkeen), v1.2, a2_0), ?_, .inr rfl, retH [20000, 20102, 20101, 20100] ?_ ?_⟩
   ·refine Goes.new0 7 69 (Nat.le_of_ble_eq_true rfl) ?_
    refine Goes.new0 2 38 (Nat.le_of_ble_eq_true rfl) ?_
    refine Goes.boxs 20100 _ [.int .i64 0, .ref 20101 7 0 0 (some uC), .ref 20102 2 0 0 (some uC)] rfl (.keep (.cons (.own0 20101 _ _ _ (by decide)) (.cons (.own0 20102 _ _ _ (by decide)) (.refl _)))) ?_
    exact .m [2, 6, 7] [20000, 20101, 20102, 20001, 20100] [(20101, 20100), (20102, 20101), (20001, 20102), (20100, 20103)]
   ·exact rsi0
   ·rfl
  ·replace h := zaa h hc2
   refine .skip ?_
   refine .seq ?_
   obtain ⟨v2, hv2, h⟩ := bind_some h
   refine .rg Try.S [0, 2, 6, 8] ?_
   refine .call (r := .agg [.int .i64 v2.Clock, .imm 7 (v2.Waits.map TWait.d) 12, .imm 2 (v2.Done.map TStamp.d) 12]) rfl rfl rfl rfl rfl rfl (zjx  v2 hv2) ?_
   refine .rn 2 ?_
   refine .nil ⟨nofun, ?_⟩
   obtain ⟨x1, hx1, h⟩ := bind_some h
   refine .seqM 20102 (fun (j : (List Torder_given) × Int × (List TWait) × (List TStamp)) => Try.St_order_play_times_1 j.1 j.2.1 j.2.2.1 j.2.2.2) (fun j => x1 = j) (Nat.le_of_ble_eq_true rfl) ?_ ?_
   ·refine .seq ?_
    refine .pl Try.S [0, 2, 6, 8, 10] ?_
    refine .block ?_
    refine .loopG 20102 (fun (j : Nat × (List Torder_given) × Int × (List TWait) × (List TStamp)) => Try.St_order_play_times_3 a0 v1 j.1 j.2.1 j.2.2.1 j.2.2.2.1 j.2.2.2.2) (fun j => j.1 <= v1.1.length /\ zat a0 (v1.1.drop j.1) j.2.1 j.2.2.1 j.2.2.2.1 j.2.2.2.2 = some x1) (fun j => v1.1.length - j.1) (0, a2_0, v2.Clock, v2.Waits, v2.Done) (Nat.le_of_ble_eq_true rfl) ?_ ⟨Nat.zero_le _, hx1⟩ ?_
    ·exact .m [0, 2, 6, 10, 33, 34, 35] [20000, 20100, 20101, 20001] [(20001, 20102)]
    rintro ⟨n3, l4, n2, l5, l6⟩ ⟨hi1, hx1⟩
    simp only [Try.St_order_play_times_3]
    simp only at hi1 hx1
    refine .wf 34 (.int .i64 (v1.1.length : Int)) rfl ?_
    intro hln3
    replace hln3 : (v1.1.length : Int) <= 9223372036854775807 := by simp only [wf, wfL, IntKind.max, IntKind.min, IntKind.signed, IntKind.bits, List.length_map] at hln3; first | exact hln3.2 | exact hln3.1 | (simp at hln3; omega)
    refine .seq ?_
    refine .pl Try.S [0, 2, 6, 10, 33, 34, 35] ?_
    refine .seq ?_
    refine .cond rfl rfl (fun hc3 => ?_) (fun hc3 => ?_)
    ·have h1 : n3 < v1.1.length := by simpa using hc3
     have hwn3 : wr .i64 ((n3 : Int) + 1) = ((n3 + 1 : Nat) : Int) := zd4 h1 hln3
     have hpn3 : wr .i64 ((n3 : Int) - 1) = (n3 : Int) - 1 := zd5 h1 hln3
     rw [List.drop_eq_getElem_cons h1, zat] at hx1
     refine .skip ?_
     refine .seq ?_
     refine .block ?_
     refine .seq ?_
     have e1 := zcc TCommand.d v1.1 n3 h1
     refine .plx Try.S (And.intro e1 hwn3) [0, 2, 6, 10, 33, 34, 35] ?_
     refine .seq ?_
     obtain ⟨v3, hv3, hx1⟩ := bind_some hx1
     refine .rg Try.S [0, 2, 6, 10, 12, 33, 34, 35] ?_
     refine .rnx 3 hwn3 ?_
     refine .call (r := .tuple [.agg [.int .i64 v3.1.Clock, .imm 7 (v3.1.Waits.map TWait.d) 12, .imm 2 (v3.1.Done.map TStamp.d) 12], .imm 5 (v3.2.1.map TMessage.d) 12, .int .i64 v3.2.2]) rfl rfl rfl rfl rfl rfl (zio (⟨n2, l5, l6⟩ : TSkeen) a0 (v1.1[n3]) v3 hv3) ?_
     refine .rnx 8 hwn3 ?_
     refine .nil ⟨nofun, ?_⟩
     obtain ⟨x2, hx2, hx1⟩ := bind_some hx1
     refine .seqM 20105 (fun (j : Int × (List TWait) × (List TStamp) × (List TMessage)) => Try.St_order_play_times_5 a0 v1 n3 l4 n2 l5 l6 (v1.1[n3]) j.1 j.2.1 j.2.2.1 j.2.2.2) (fun j => x2 = j) (Nat.le_of_ble_eq_true rfl) ?_ ?_
     ·refine .seq ?_
      refine .plx Try.S hwn3 [0, 2, 6, 10, 12, 13, 14, 15, 33, 34, 35] ?_
      refine .cond rfl rfl (fun hc4 => ?_) (fun hc4 => ?_)
      ·replace hx2 := za2 hx2 hc4
       refine .plx Try.S hwn3 [0, 2, 6, 10, 12, 13, 33, 34, 35] ?_
       refine ⟨_, ?_, (Option.some.inj hx2).symm⟩
       refine Goes.wk 14 _ (.imm 5 [] 12) rfl (.nil12 _ _ 0 (by decide)) ?_
       exact .m [0, 2, 6, 10, 12, 13, 14, 33, 34, 35] [20000, 20100, 20101, 20102, 20103, 20104] []
      ·replace hx2 := zaa hx2 hc4
       refine .skip ?_
       refine ⟨_, ?_, (Option.some.inj hx2).symm⟩
       exact .m [0, 2, 6, 10, 12, 13, 14, 33, 34, 35] [20000, 20100, 20101, 20102, 20103, 20104] []
     ·rintro ⟨n4, l7, l8, l9⟩ hj1
      subst x2
      try dsimp only at hx1
      simp only [Try.St_order_play_times_5]
      refine .seq ?_
      obtain ⟨v4, hv4, hx1⟩ := bind_some hx1
      refine .rg Try.S [0, 2, 6, 10, 12, 13, 14, 33, 34, 35] ?_
      refine .rnx 6 hwn3 ?_
      refine .hcall (H := [(20000, .box [.ref 20102 6 0 l4.length (some uC)]), (20102, .arr 76 6 true (l4.map Torder_given.n))]) (eff := [(20000, some (.box [.ref 20105 6 0 v4.length (some uC)])), (20102, none), (20105, some (.arr 76 6 true (v4.map Torder_given.n)))]) (nw := (20105, 20110)) (r := .tuple []) rfl rfl rfl rfl rfl (zag 20001 20102 (zag 20000 20000 (zby 20105 (zkx (⟨v1.1[n3], (⟨n2, l5, l6⟩ : TSkeen), (⟨n4, l7, l8⟩ : TSkeen), l9⟩ : Torder_step) l4 v4 hv4)))) (fun id b h => zak [20000, 20102] _ id b h) (by simp) (.inr ⟨Nat.le_of_ble_eq_true rfl, Nat.le_of_ble_eq_true rfl⟩) ?_
      refine .nil ⟨nofun, ?_⟩
      refine .plx Try.S hwn3 [0, 2, 6, 10, 13, 33, 34, 35] ?_
      refine .plx Try.S hwn3 [0, 2, 6, 10, 33, 34, 35] ?_
      refine ⟨(n3 + 1, _, _, _, _), ?_, ⟨by omega, hx1⟩, by dsimp only; omega⟩
      exact .m [0, 2, 6, 10, 33, 34, 35] [20000, 20100, 20101, 20105] [(20105, 20102)]
    ·have h2 : n3 = v1.1.length := by have h2b := of_decide_eq_false hc3; omega
     rw [List.drop_of_length_le (by omega), zat] at hx1
     refine .exit ?_
     refine ⟨_, ?_, (Option.some.inj hx1).symm⟩
     exact .m [2, 6, 10] [20000, 20100, 20101, 20102] []
   ·rintro ⟨l1, n1, l2, l3⟩ hj2
    subst x1
    try dsimp only at h
    simp only [Try.St_order_play_times_1]
    refine .seq ?_
    obtain ⟨v5, hv5, h⟩ := bind_some h
    refine .rg Try.S [2, 6, 10] ?_
    refine .rn 1 ?_
    refine .ncall (r := .agg [.int .i64 v5.Clock, .ref 20103 7 0 v5.Waits.length (some uC), .ref 20104 2 0 v5.Done.length (some uC)]) (eff := [(20103, some (.arr 69 7 true (v5.Waits.map TWait.n))), (20104, some (.arr 38 2 true (v5.Done.map TStamp.d)))]) (nw := (20103, 20115)) [] rfl rfl rfl rfl rfl (za5 rfl zau) rfl (zee 20103 (Nat.le_of_ble_eq_true rfl) (zh1 (⟨n1, l2, l3⟩ : TSkeen) v5 hv5)) (zdf rfl rfl (zlc zgf _ _ _) (zdf rfl rfl (zfn zhh _ _ _) zf6)) (by intro i hi; simp [D.ids, D.idsL] at hi <;> omega) rfl ⟨Nat.le_of_ble_eq_true rfl, Nat.le_of_ble_eq_true rfl⟩ ?_
    refine .rn 2 ?_
    refine .nil ⟨nofun, ?_⟩
    have hq := Option.some.inj h
    subst r
    refine .ret ⟨Try.Re_order_play_times (v5, 0, l1), ?_, .inr rfl, retH [20000, 20102, 20101, 20100] ?_ ?_⟩
    ·exact .m [2, 6, 7] [20000, 20103, 20104, 20102, 20100] [(20103, 20100), (20104, 20101), (20100, 20103)]
    ·exact rsi0
    ·rfl
def Try.Re_order_times (r : (List Torder_given) × Int) : St := ⟨[(4, .ptr 1 0), (5, .int .i64 r.2)], [(0, .arr 76 6 true (r.1.map Torder_given.n)), (1, .box [.ref 0 6 0 r.1.length (some uC)])], 2⟩
attribute [local go_sem] Try.Re_order_times
theorem zmr (a0 : Int) (a1 : List (List UInt8)) (r : (List Torder_given) × Int) (h : zcy a0 a1 = some r) : CallH Try.prog 25 [.int .i64 a0, .imm 1 (a1.map D.str) 4] [] (.tuple [.ref 0 6 0 r.1.length (some uC), .int .i64 r.2]) [(0, some (.arr 76 6 true (r.1.map Torder_given.n)))] (0, 21) := by
 refine za4 Try.tmOk Try.func25 rfl (by decide) (Nat.le_of_ble_eq_true rfl) (by simp) ?_
 intro hwf
 unfold zcy at h
 refine .ends 0 (Nat.le_refl _) ?_
 refine .seq ?_
 refine .pl Try.S [0, 1] ?_
 refine .goes (.new0 6 76 (Nat.le_of_ble_eq_true rfl) .refl) ?_
 refine .goes (.boxs 0 _ [.ref 1 6 0 0 (some uC)] rfl (.cons (.own0 1 _ _ _ (by decide)) (.refl _)) .refl) ?_
 refine .seq ?_
 obtain ⟨v1, hv1, h⟩ := bind_some h
 refine .rg Try.S [0, 1, 4] ?_
 refine .rn 3 ?_
 refine .hcall (H := [(0, .box [.ref 1 6 0 0 (some uC)]), (1, .arr 76 6 true [])]) (eff := [(0, some (.box [.ref 4 6 0 v1.2.2.length (some uC)])), (1, none), (2, some (.arr 69 7 true (v1.1.Waits.map TWait.n))), (3, some (.arr 38 2 true (v1.1.Done.map TStamp.d))), (4, some (.arr 76 6 true (v1.2.2.map Torder_given.n)))]) (nw := (2, 19)) (r := .tuple [.agg [.int .i64 v1.1.Clock, .ref 2 7 0 v1.1.Waits.length (some uC), .ref 3 2 0 v1.1.Done.length (some uC)], .int .i64 v1.2.1]) rfl rfl rfl rfl rfl (zda 2 (zag 20001 1 (zag 20000 0 (zjf a0 a1 [] v1 hv1)))) (fun id b h => zak [0, 1] _ id b h) (by simp) (.inr ⟨Nat.le_of_ble_eq_true rfl, Nat.le_of_ble_eq_true rfl⟩) ?_
 refine .rn 4 ?_
 refine .nil ⟨nofun, ?_⟩
 refine .seq ?_
 refine .pl Try.S [4, 5] ?_
 have hq := Option.some.inj h
 subst r
 refine .ret ⟨Try.Re_order_times (v1.2.2, v1.2.1), ?_, .inr rfl, retH [0] ?_ ?_⟩
 ·exact .m [4, 5] [4, 0] [(4, 0), (0, 1)]
 ·exact rsi0
 ·rfl
theorem ziq (a0 : Int) (a1 : List (List UInt8)) (r : (List Torder_given) × Int) (h : zcy a0 a1 = some r) : CallP Try.prog 25 [.int .i64 a0, .imm 1 (a1.map D.str) 4] (.tuple [.imm 6 (r.1.map Torder_given.d) 12, .int .i64 r.2]) :=
 zgs (zmh (zbb (zll zjb rfl rfl) (zbb rfl zhb))) (zmr a0 a1 r h)
def Try.St_order_Local_1 (v1 : (List Torder_given) × Int) (l1 : List TStamp) : St := ⟨[(4, .ref 0 2 0 l1.length (some uC)), (5, .int .i64 v1.2)], [(0, .arr 38 2 true (l1.map TStamp.d))], 1⟩
attribute [local go_sem] Try.St_order_Local_1
def Try.St_order_Local_3 (v1 : (List Torder_given) × Int) (n1 : Nat) (l2 : List TStamp) : St := ⟨[(4, .ref 0 2 0 l2.length (some uC)), (5, .int .i64 v1.2), (15, .imm 6 (v1.1.map Torder_given.d) 12), (16, .int .i64 (v1.1.length : Int)), (17, .int .i64 (n1 : Int))], [(0, .arr 38 2 true (l2.map TStamp.d))], 1⟩
attribute [local go_sem] Try.St_order_Local_3
def Try.Re_order_Local (r : (List TStamp) × Int) : St := ⟨[(4, .ref 0 2 0 r.1.length (some uC)), (5, .int .i64 r.2)], [(0, .arr 38 2 true (r.1.map TStamp.d))], 1⟩
attribute [local go_sem] Try.Re_order_Local
theorem zms (a0 : Int) (a1 : List (List UInt8)) (r : (List TStamp) × Int) (h : zea a0 a1 = some r) : CallH Try.prog 9 [.int .i64 a0, .imm 1 (a1.map D.str) 4] [] (.tuple [.ref 0 2 0 r.1.length (some uC), .int .i64 r.2]) [(0, some (.arr 38 2 true (r.1.map TStamp.d)))] (0, 6) := by
 refine za4 Try.tmOk Try.func9 rfl (by decide) (Nat.le_of_ble_eq_true rfl) (by simp) ?_
 intro hwf
 unfold zea at h
 refine .ends 0 (Nat.le_refl _) ?_
 refine .seq ?_
 refine .pl Try.S [0, 1] ?_
 refine .seq ?_
 obtain ⟨v1, hv1, h⟩ := bind_some h
 refine .rg Try.S [0, 1, 4] ?_
 refine .rn 2 ?_
 refine .call (r := .tuple [.imm 6 (v1.1.map Torder_given.d) 12, .int .i64 v1.2]) rfl rfl rfl rfl rfl rfl (ziq a0 a1 v1 hv1) ?_
 refine .rn 5 ?_
 refine .nil ⟨nofun, ?_⟩
 obtain ⟨x1, hx1, h⟩ := bind_some h
 refine .seqM 0 (fun (j : (List TStamp)) => Try.St_order_Local_1 v1 j) (fun j => x1 = j) (Nat.le_of_ble_eq_true rfl) ?_ ?_
 ·refine .seq ?_
  refine .pl Try.S [4, 5, 6] ?_
  refine .block ?_
  refine .loopG 0 (fun (j : Nat × (List TStamp)) => Try.St_order_Local_3 v1 j.1 j.2) (fun j => j.1 <= v1.1.length /\ zce (v1.1.drop j.1) j.2 = some x1) (fun j => v1.1.length - j.1) (0, []) (Nat.le_of_ble_eq_true rfl) ?_ ⟨Nat.zero_le _, hx1⟩ ?_
  ·refine Goes.new0 2 38 (Nat.le_of_ble_eq_true rfl) ?_
   refine Goes.wk 4 _ (.ref 0 2 0 0 (some uC)) rfl (.own0 0 _ _ _ (by decide)) ?_
   exact .m [4, 5, 15, 16, 17] [0] []
  rintro ⟨n1, l2⟩ ⟨hi1, hx1⟩
  simp only [Try.St_order_Local_3]
  simp only at hi1 hx1
  refine .wf 16 (.int .i64 (v1.1.length : Int)) rfl ?_
  intro hln1
  replace hln1 : (v1.1.length : Int) <= 9223372036854775807 := by simp only [wf, wfL, IntKind.max, IntKind.min, IntKind.signed, IntKind.bits, List.length_map] at hln1; first | exact hln1.2 | exact hln1.1 | (simp at hln1; omega)
  refine .seq ?_
  refine .pl Try.S [4, 5, 15, 16, 17] ?_
  refine .seq ?_
  refine .cond rfl rfl (fun hc1 => ?_) (fun hc1 => ?_)
  ·have h1 : n1 < v1.1.length := by simpa using hc1
   have hwn1 : wr .i64 ((n1 : Int) + 1) = ((n1 + 1 : Nat) : Int) := zd4 h1 hln1
   have hpn1 : wr .i64 ((n1 : Int) - 1) = (n1 : Int) - 1 := zd5 h1 hln1
   rw [List.drop_eq_getElem_cons h1, zgj] at hx1
   refine .skip ?_
   refine .seq ?_
   refine .block ?_
   refine .seq ?_
   have e1 := zcc Torder_given.d v1.1 n1 h1
   refine .plx Try.S (And.intro e1 hwn1) [4, 5, 15, 16, 17] ?_
   obtain ⟨k1, hx1⟩ := zba hx1
   refine .rg Try.S [4, 5, 8, 15, 16, 17] ?_
   refine .rnx 6 hwn1 ?_
   refine .rnx 4 hwn1 ?_
   refine .nil ⟨nofun, ?_⟩
   refine .plx Try.S hwn1 [4, 5, 15, 16, 17] ?_
   refine ⟨(n1 + 1, _), ?_, ⟨by omega, hx1⟩, by dsimp only; omega⟩
   exact .m [4, 5, 15, 16, 17] [3] [(3, 0)]
  ·have h2 : n1 = v1.1.length := by have h2b := of_decide_eq_false hc1; omega
   rw [List.drop_of_length_le (by omega), zgi] at hx1
   refine .exit ?_
   refine ⟨_, ?_, (Option.some.inj hx1).symm⟩
   exact .m [4, 5] [0] []
 ·rintro l1 hj1
  subst x1
  try dsimp only at h
  simp only [Try.St_order_Local_1]
  refine .seq ?_
  refine .pl Try.S [4, 5] ?_
  have hq := Option.some.inj h
  subst r
  refine .ret ⟨Try.Re_order_Local (l1, v1.2), ?_, .inr rfl, retH [0] ?_ ?_⟩
  ·exact .m [4, 5] [0] []
  ·exact rsi0
  ·rfl
theorem zmn (a0 : Int) (a1 : List (List UInt8)) (r : (List TStamp) × Int) (h : zea a0 a1 = some r) : CallP Try.prog 9 [.int .i64 a0, .imm 1 (a1.map D.str) 4] (.tuple [.imm 2 (r.1.map TStamp.d) 12, .int .i64 r.2]) :=
 zgs (zmh (zbb (zlm zhh rfl rfl) (zbb rfl zhb))) (zms a0 a1 r h)
def Try.St_towncrierref16_Great_1 (a0 : List (List (List UInt8))) (n1 : Int) : St := ⟨[(0, .imm 1 (a0.map dL_str) 4), (3, .int .i64 n1)], [], 0⟩
attribute [local go_sem] Try.St_towncrierref16_Great_1
def Try.St_towncrierref16_Great_3 (a0 : List (List (List UInt8))) (n2 : Int) (n3 : Int) : St := ⟨[(0, .imm 1 (a0.map dL_str) 4), (3, .int .i64 n2), (4, .int .i64 n3)], [], 0⟩
attribute [local go_sem] Try.St_towncrierref16_Great_3
def Try.St_towncrierref16_Great_5 (a0 : List (List (List UInt8))) (n3 : Int) (n4 : Int) : St := ⟨[(0, .imm 1 (a0.map dL_str) 4), (3, .int .i64 n4), (4, .int .i64 n3)], [], 0⟩
attribute [local go_sem] Try.St_towncrierref16_Great_5
def Try.St_towncrierref16_Great_7 (a0 : List (List (List UInt8))) (n3 : Int) (n5 : Int) (n6 : Int) : St := ⟨[(0, .imm 1 (a0.map dL_str) 4), (3, .int .i64 n5), (4, .int .i64 n3), (5, .int .i64 n6)], [], 0⟩
attribute [local go_sem] Try.St_towncrierref16_Great_7
theorem zhv (a0 : List (List (List UInt8))) (r : Bool) (h : zct a0 = some r) : CallP Try.prog 6 [.imm 1 (a0.map dL_str) 4] (.bool r) := by
 refine za9 Try.tmOk 2 Try.func6 rfl (by decide) rfl rfl (Nat.le_of_ble_eq_true rfl) ?_
 intro hwf
 unfold zct at h
 refine .seq ?_
 refine .pl Try.S [0] ?_
 refine .seq ?_
 refine .pl Try.S [0] ?_
 obtain ⟨x1, hx1, h⟩ := bind_some h
 refine .seqM 0 (fun (j : Int) => Try.St_towncrierref16_Great_1 a0 j) (fun j => x1 = j) (Nat.le_of_ble_eq_true rfl) ?_ ?_
 ·refine .seq ?_
  refine .pl Try.S [0, 3] ?_
  refine .block ?_
  refine .loopG 0 (fun (j : Nat × Int × Int) => Try.St_towncrierref16_Great_3 a0 j.2.1 j.2.2) (fun j => zaw a0 j.1 j.2.1 j.2.2 = some x1) (fun j => j.1) (12, 0, 0) (Nat.le_of_ble_eq_true rfl) ?_ hx1 ?_
  ·exact .m [0, 3, 4] [] []
  rintro ⟨fu1, n2, n3⟩ hx1
  simp only [Try.St_towncrierref16_Great_3]
  try simp only at hx1
  obtain ⟨fu1, rfl⟩ : ∃ k, fu1 = k + 1 := by cases fu1 with | zero => (rw [zaw] at hx1; cases hx1) | succ k => exact ⟨k, rfl⟩
  rw [zaw] at hx1
  refine .seq ?_
  refine .seq ?_
  refine .pl Try.S [0, 3, 4] ?_
  refine .cond rfl rfl (fun hc1 => ?_) (fun hc1 => ?_)
  ·replace hx1 := za2 hx1 hc1
   refine .skip ?_
   obtain ⟨x2, hx2, hx1⟩ := bind_some hx1
   refine .seqM 0 (fun (j : Int) => Try.St_towncrierref16_Great_5 a0 n3 j) (fun j => x2 = j) (Nat.le_of_ble_eq_true rfl) ?_ ?_
   ·refine .block ?_
    refine .seq ?_
    refine .pl Try.S [0, 3, 4] ?_
    refine .block ?_
    refine .loopG 0 (fun (j : Nat × Int × Int) => Try.St_towncrierref16_Great_7 a0 n3 j.2.1 j.2.2) (fun j => zav a0 n3 j.1 j.2.1 j.2.2 = some x2) (fun j => j.1) (1002, n2, 0) (Nat.le_of_ble_eq_true rfl) ?_ hx2 ?_
    ·exact .m [0, 3, 4, 5] [] []
    rintro ⟨fu2, n5, n6⟩ hx2
    simp only [Try.St_towncrierref16_Great_7]
    try simp only at hx2
    obtain ⟨fu2, rfl⟩ : ∃ k, fu2 = k + 1 := by cases fu2 with | zero => (rw [zav] at hx2; cases hx2) | succ k => exact ⟨k, rfl⟩
    rw [zav] at hx2
    refine .seq ?_
    refine .seq ?_
    obtain ⟨k2, hx2⟩ := zba hx2
    have e2 := zcj dL_str a0 n3
    replace e2 := e2 k2
    refine .rg Try.S [0, 3, 4, 5] ?_
    refine .rnx 6 e2 ?_
    refine .rnx 5 e2 ?_
    refine .nil ⟨nofun, ?_⟩
    refine .cond rfl rfl (fun hc2 => ?_) (fun hc2 => ?_)
    ·replace hx2 := za2 hx2 hc2
     refine .skip ?_
     refine .seq ?_
     refine .block ?_
     obtain ⟨k3, hx2⟩ := zba hx2
     obtain ⟨k4, hx2⟩ := zba hx2
     have e3 := zcj dL_str a0 n3
     have e4 := zcj D.str (a0.getD n3.toNat default) n6
     replace e3 := e3 k3
     replace e4 := e4 k4
     refine .rg Try.S [0, 3, 4, 5] ?_
     refine .rnx 6 (And.intro e3 e4) ?_
     refine .rnx 7 (And.intro e3 e4) ?_
     refine .nil ⟨nofun, ?_⟩
     refine .pl Try.S [0, 3, 4, 5] ?_
     refine ⟨(fu2, _, _), ?_, hx2, by dsimp only; omega⟩
     exact .m [0, 3, 4, 5] [] []
    ·replace hx2 := zaa hx2 hc2
     refine .exit ?_
     refine ⟨_, ?_, (Option.some.inj hx2).symm⟩
     exact .m [0, 3, 4] [] []
   ·rintro n4 hj1
    subst x2
    try dsimp only at hx1
    simp only [Try.St_towncrierref16_Great_5]
    refine .pl Try.S [0, 3, 4] ?_
    refine ⟨(fu1, _, _), ?_, hx1, by dsimp only; omega⟩
    exact .m [0, 3, 4] [] []
  ·replace hx1 := zaa hx1 hc1
   refine .exit ?_
   refine ⟨_, ?_, (Option.some.inj hx1).symm⟩
   exact .m [0, 3] [] []
 ·rintro n1 hj2
  subst x1
  try dsimp only at h
  simp only [Try.St_towncrierref16_Great_1]
  refine .seq ?_
  refine .pl Try.S [0, 3] ?_
  have hq := Option.some.inj h
  subst r
  exact .ret ⟨.inr rfl, rsi⟩
end Go.Proofs
end
section
namespace Go.Proofs
open Go.Tm Go.RowKit Go.WideShapes
set_option maxRecDepth 100000
set_option maxHeartbeats 4000000
set_option linter.unusedSimpArgs false
set_option linter.unusedVariables false
attribute [local go_sem] zcw runE runK zex stepE aop opd opdsL opds opdO ev ofVal keep List.any zcf Bool.false_or Bool.true_or aggEq cond_true cond_false Bool.cond_false_right Bool.cond_true_left beq_true beq_false imp_self implies_true getR getL put St.app effL del nwB zid Nat.lt_irrefl Nat.lt_add_one zie Nat.le_refl Nat.beq_refl zez zdi capS capK zg9 zf0 zbx D.ids D.idsL bin arith zhy binT dpick Tm.part zh4 fillD oneD loadD zh3 srcD zdj idxOk decide_true gval dstAt D.cells List.map_cons List.map_nil List.take List.drop List.length_map List.append Int.toNat_natCast and_true true_and decide_false List.length_cons List.length_nil List.append_nil List.nil_append Bool.and_true Bool.true_and Bool.not_false Bool.not_true ne_eq not_false_eq_true BEq.rfl List.getElem?_cons_zero List.getElem?_cons_succ List.getElem?_nil Nat.zero_add List.all_cons List.all_nil List.isEmpty_cons List.isEmpty_nil Option.getD_some Option.getD_none List.any_cons List.any_nil List.drop_succ_cons List.drop_zero unfL unf okM okML low3 List.cons_append true_or or_true Nat.zero_mul Nat.zero_le zgo zgn  zi5 zi4 zgm Option.isSome_map keyD List.length_replicate List.map_replicate setEl List.length_set zfj zn4 zn2 zjp zhz mkM mkML zjr zjq zi0 zgd zfl ze4 List.take_length Int.toNat_zero zfe fpOf zfp opIds mvV mvH mvF pickL D.ren D.renL Blk.ren List.map_append List.length_append Bool.not_not Bool.or_not_self Bool.not_or_self Bool.or_true
attribute [local go_sem] Try.tm_1 Try.tm_2 Try.tm_3 Try.tm_4 Try.tm_5 Try.tm_6 Try.tm_7 Try.tm_8 Try.tm_9 Try.tm_10 Try.tm_11 Try.tm_12 Try.tm_13 Try.tm_14 Try.tm_15 Try.tm_16 Try.tm_17 Try.tm_18 Try.tm_19 Try.tm_20 Try.tm_21 Try.tm_22 Try.tm_23 Try.tm_24 Try.tm_25 Try.tm_26 Try.tm_27 Try.tm_28 Try.tm_30 Try.tm_32 Try.tm_33 Try.tm_35 Try.tm_36 Try.tm_37 Try.tm_38 Try.tm_39 Try.tm_40 Try.tm_41 Try.tm_42 Try.tm_43 Try.tm_44 Try.tm_45 Try.tm_46 Try.tm_48 Try.tm_49 Try.tm_50 Try.tm_51 Try.tm_52 Try.tm_53 Try.tm_54 Try.tm_56 Try.tm_57 Try.tm_59 Try.tm_61 Try.tm_62 Try.tm_63 Try.tm_64 Try.tm_65 Try.tm_66 Try.tm_67 Try.tm_68 Try.tm_69 Try.tm_70 Try.tm_71 Try.tm_72 Try.tm_74 Try.tm_75 Try.tm_76 Try.tm_78 Try.tm_79 Try.tm_80 Try.tm_81 Try.tm_82 Try.tm_83 Try.tm_84 Try.tm_85 Try.tm_86 Try.tm_87 Try.tm_88 Try.tm_89 Try.tm_90 Try.tm_92 Try.tm_94 Try.tm_95 Try.tm_96 Try.tm_97 Try.tm_98 Try.tm_99 Try.tm_100 Try.tm_101 Try.tm_102 Try.tm_103 Try.tm_104 Try.tm_105 Try.tm_107 Try.tm_108 Try.tm_109 Try.tm_110 Try.tm_111 Try.tm_112 Try.tm_113 Try.tm_114 Try.tm_115 Try.tm_116 Try.tm_117 Try.tm_119 Try.tm_120 Try.tm_121 Try.tm_123 Try.tm_124 Try.tm_125 Try.tm_126 Try.tm_127 Try.tm_128 Try.tm_129 Try.tm_130 Try.tm_131 Try.tm_132 Try.tm_133 Try.tm_134 Try.tm_135 Try.tm_136 Try.tm_137 Try.tm_138 Try.tm_139 Try.tm_140 Try.tm_141 Try.tm_142 Try.tm_143 Try.tm_144 Try.tm_145 Try.tm_146 Try.tm_147 Try.tm_148 Try.tm_149 Try.tm_150 Try.tm_151 Try.tm_152 Try.tm_153 Try.tm_155 Try.tm_156 Try.tm_158 Try.tm_160 Try.tm_161 Try.tm_162 Try.tm_163 Try.tm_164 Try.tm_165 Try.tm_168 Try.tm_169 Try.tm_170 Try.tm_171 Try.tm_172 Try.tm_173 Try.tm_174 Try.tm_175 Try.tm_176 TMessage.d TMessage.n TWait.d TWait.n TStamp.d TSkeen.d TSkeen.n TCommand.d TCommand.n Tskeen_clock.d Tskeen_clock.n ze5 zgg zfg zfh ze6 zcp Torder_step.d Torder_step.n Torder_given.d Torder_given.n Tcommand_reader.d Tcommand_reader.n dL_str nL_str dL_Torder_givend nL_Torder_givend zij nL_TStampd zgp nL_TMessaged zfo zf8 ze9 zk3 zdw zga zf7 Try.f36 Try.f23 Try.f16 Try.f37 Try.f18 Try.f39 Try.f19 Try.f7 Try.f24 Try.f21 Try.f20 Try.f8 Try.f29 Try.f13 Try.f14 Try.f4
attribute [local go_sem] Try.f52 Int.sub_zero
theorem growT52 (n : Int) (hn : 0 <= n /\ n.toNat * 80 <= 140737488355328) : CallH Try.prog 52 [.imm 0 [] 0, .int .i64 n] [] (.ref 0 6 0 0 (some uC)) [(0, some (.arr 76 6 true []))] (0, 3) := by
 refine za4 Try.tmOk Try.func52 rfl (by decide) (Nat.le_of_ble_eq_true rfl) (by simp) ?_
 intro hwf
 have hw0 : wr .i64 0 = 0 := wr_eq _ _ (by show (-9223372036854775808 : Int) <= _; omega) (by show _ <= (9223372036854775807 : Int); omega)
 have hwn : wr .i64 n = n := wr_eq _ _ (by show (-9223372036854775808 : Int) <= _; omega) (by show _ <= (9223372036854775807 : Int); omega)
 refine .ends 0 (Nat.le_refl _) ?_
 refine .seq ?_
 refine .pl Try.S [0, 1] ?_
 refine .seq ?_
 refine .seq ?_
 refine .pl Try.S [0, 1] ?_
 refine .cond rfl rfl (fun hc => ?_) (fun hc => ?_)
 ·exact absurd hn.1 (by have := of_decide_eq_true hc; omega)
 refine .skip ?_
 refine .seqM 0 (fun (_ : Unit) => ⟨[(0, .ref 0 6 0 0 (some uC))], [(0, .arr 76 6 true [])], 1⟩) (fun _ => True) (Nat.le_of_ble_eq_true rfl) ?_ (fun _ _ => ?_)
 ·refine .seq ?_
  refine .plx Try.S (And.intro hw0 hwn) [0, 1] ?_
  refine .seq ?_
  refine .pl Try.S [0, 1] ?_
  refine .cond rfl rfl (fun hc => ?_) (fun hc => ?_)
  ·have hE : wr .i64 (n - wr .i64 (((0 : Nat) : Int) - ((0 : Nat) : Int))) = n := by simp [hw0, hwn]
   rw [hE] at hc
   have hp : 0 < n := of_decide_eq_true hc
   have hm : (0 : Int) <= max n 0 := Int.le_max_right _ _
   refine .pl Try.S [0, 1] (hv := by simp [hw0, hwn, hp, hn.2, hm]) ?_
   refine ⟨(), ?_, trivial⟩
   refine Goes.pre 0 0 _ rfl ?_
   refine Goes.wk 0 _ (.ref 0 6 0 0 (some uC)) rfl (.unk _ _ _ _ _) ?_
   exact .m [0] [0] []
  ·refine .skip ?_
   refine ⟨(), ?_, trivial⟩
   refine Goes.new0 6 76 (Nat.le_of_ble_eq_true rfl) ?_
   refine Goes.wk 0 _ (.ref 0 6 0 0 (some uC)) rfl (.own0 0 _ _ _ (by decide)) ?_
   exact .m [0] [0] []
 refine .seq ?_
 refine .pl Try.S [0] ?_
 refine .ret ⟨⟨[(4, .ref 0 6 0 0 (some uC))], [(0, .arr 76 6 true [])], 1⟩, ?_, .inr rfl, retH [0] ?_ ?_⟩
 ·exact .m [4] [0] []
 ·exact rsi0
 ·rfl
end Go.Proofs
end
section
namespace Go.Proofs
open Go.Tm
set_option linter.unusedVariables false
def za3 (f : Torder_given -> Option Bool) : List Torder_given -> Nat -> Option (Int ⊕ Unit)
 | [], n1 =>
  some (.inr ())
 | y1 :: rest1, n1 =>
  Option.bind (f (y1)) fun v1 =>
  if v1 = true then
  some (.inl (n1 : Int))
  else
  za3 f rest1 (n1 + 1) 
def zb9 (s : List Torder_given) (f : Torder_given -> Option Bool) : Option Int :=
 Option.bind (α := Int ⊕ Unit) (za3 f s 0 ) fun z => match z with
 | (.inl r) => some r
 | (.inr _) =>
 some (-1)
def zaq (f : TWait -> Option Bool) : List TWait -> Nat -> Option (Int ⊕ Unit)
 | [], n1 =>
  some (.inr ())
 | y1 :: rest1, n1 =>
  Option.bind (f (y1)) fun v1 =>
  if v1 = true then
  some (.inl (n1 : Int))
  else
  zaq f rest1 (n1 + 1) 
def zck (s : List TWait) (f : TWait -> Option Bool) : Option Int :=
 Option.bind (α := Int ⊕ Unit) (zaq f s 0 ) fun z => match z with
 | (.inl r) => some r
 | (.inr _) =>
 some (-1)
def zcq : List (List (List UInt8)) -> Nat -> (List (List Torder_given)) -> Option (((List (List Torder_given)) × Int) ⊕ ((List (List Torder_given))))
 | [], n1, l2 =>
  some (.inr l2)
 | y1 :: rest1, n1, l2 =>
  Option.bind (zcy (n1 : Int) (y1)) fun v1 =>
  if ¬ (v1.2 = 0) then
  some (.inl ([], v1.2))
  else
  if l2.length + [v1.1].length < 1000000 then
  zcq rest1 (n1 + 1) (l2 ++ [v1.1])
  else none
theorem zi1 (n1 : Nat) (l2 : List (List Torder_given)) : zcq [] n1 l2 =
  (some (.inr l2) : Option (((List (List Torder_given)) × Int) ⊕ ((List (List Torder_given))))) := rfl
theorem zi2 (y1 : (List (List UInt8))) (rest1 : List (List (List UInt8))) (n1 : Nat) (l2 : List (List Torder_given)) : zcq (y1 :: rest1) n1 l2 =
  (Option.bind (zcy (n1 : Int) (y1)) fun v1 =>
  if ¬ (v1.2 = 0) then
  some (.inl ([], v1.2))
  else
  if l2.length + [v1.1].length < 1000000 then
  zcq rest1 (n1 + 1) (l2 ++ [v1.1])
  else none : Option (((List (List Torder_given)) × Int) ⊕ ((List (List Torder_given))))) := rfl
def zei (a0 : List (List (List UInt8))) : Option ((List (List Torder_given)) × Int) :=
 if (a0.length : Int) > 4 then
 some ([], 4)
 else
 Option.bind (α := ((List (List Torder_given)) × Int) ⊕ ((List (List Torder_given)))) (zcq a0 0 []) fun z => match z with
 | (.inl r) => some r
 | (.inr l1) =>
 some (l1, 0)
def zbg (a0 : Torder_given) (c0 : TMessage) : Option Bool :=
 Option.bind (zbi a0.fM c0) fun v1 =>
 some v1
def zb6 (a0 : List (List Torder_given)) (a1 : TMessage) : List Int -> Int -> Option ((Int × Bool) ⊕ Int)
 | [], n2 =>
  some (.inr n2)
 | y1 :: rest1, n2 =>
  if y1 >= (a0.length : Int) then
  some (.inl (0, false))
  else
  if (0 <= y1 /\ y1 < (a0.length : Int)) then
  Option.bind (zb9 (a0.getD (y1).toNat default) (fun x0 => zbg x0 a1)) fun v1 =>
  if v1 < 0 then
  some (.inl (0, false))
  else
  if (0 <= y1 /\ y1 < (a0.length : Int)) then
  if (0 <= v1 /\ v1 < ((a0.getD (y1).toNat default).length : Int)) then
  zb6 a0 a1 rest1 (max n2 (((a0.getD (y1).toNat default).getD v1.toNat default).fTime))
  else none
  else none
  else none
def zcd (a0 : List (List Torder_given)) (a1 : TMessage) : Option (Int × Bool) :=
 Option.bind (α := (Int × Bool) ⊕ Int) (zb6 a0 a1 a1.Groups 0) fun z => match z with
 | (.inl r) => some r
 | (.inr n1) =>
 some (n1, true)
def zac : List (List Torder_given) -> Int -> Option (Int)
 | [], n2 =>
  some n2
 | y1 :: rest1, n2 =>
  if (wr .i64 (n2 + ((y1).length : Int))) < 0 then
  none
  else
  zac rest1 (wr .i64 (n2 + ((y1).length : Int)))
def zab : List (List Torder_given) -> (List Torder_given) -> Option ((List Torder_given))
 | [], l2 =>
  some l2
 | y2 :: rest2, l2 =>
  if l2.length + (y2).length < 1000000 then
  zab rest2 (l2 ++ y2)
  else none
theorem zc9 (l2 : List Torder_given) : zab [] l2 =
  (some l2 : Option ((List Torder_given))) := rfl
theorem zca (y2 : (List Torder_given)) (rest2 : List (List Torder_given)) (l2 : List Torder_given) : zab (y2 :: rest2) l2 =
  (if l2.length + (y2).length < 1000000 then
  zab rest2 (l2 ++ y2)
  else none : Option ((List Torder_given))) := rfl
def zb1 (a0 : List (List Torder_given)) : Option ((List Torder_given)) :=
 Option.bind (α := Int) (zac a0 0) fun n1 =>
 if 0 <= n1 /\ (n1).toNat * 80 <= 140737488355328 then
 Option.bind (α := (List Torder_given)) (zab a0 []) fun l1 =>
 some l1
 else none
def zb0 (v1 : (List Torder_given)) : Nat -> (List (Int × TMessage)) -> Int -> Option (Bool ⊕ Unit)
 | 0, _, _ => none
 | fu1 + 1, m1, n1 =>
  if n1 < (v1.length : Int) then
  if (0 <= n1 /\ n1 < (v1.length : Int)) then
  Option.bind (if (mget ((v1.getD n1.toNat default).fM.Id) m1).isSome = true then zbi ((mget ((v1.getD n1.toNat default).fM.Id) m1).getD (⟨0, [], 0, [], []⟩ : TMessage)) ((v1.getD n1.toNat default).fM) else some default) fun v2 =>
  if ((mget ((v1.getD n1.toNat default).fM.Id) m1).isSome = true) /\ (¬ (v2 = true)) then
  some (.inl false)
  else
  zb0 v1 fu1 (mput ((v1.getD n1.toNat default).fM.Id) ((v1.getD n1.toNat default).fM) m1) (wr .i64 (n1 + 1))
  else none
  else
  some (.inr ())
def zdz (a0 : List (List Torder_given)) : Option Bool :=
 Option.bind (α := Bool ⊕ Unit) (Option.bind (zb1 a0) fun v1 =>
 zb0 v1 (v1.length + 1) [] 0) fun z => match z with
 | (.inl r) => some r
 | (.inr _) =>
 some true
def zh9 (a0 : List (List (List UInt8))) (a1 : TMessage) : Option (Int × Bool × Int) :=
 Option.bind (zei a0) fun v1 =>
 if ¬ (v1.2 = 0) then
 some (0, false, v1.2)
 else
 Option.bind (zam a1) fun v2 =>
 if ¬ (v2 = 0) then
 some (0, false, 8)
 else
 Option.bind (zcd v1.1 a1) fun v3 =>
 some (v3.1, v3.2, 0)
def zco (a0 : TWait) (c0 : Torder_step) : Option Bool :=
 some (a0.Message.Id == c0.fC.Id)
def zdm (a0 : Torder_step) (c0 : List (List Torder_given)) (c1 : Bool) : Option ((List (List Torder_given)) × Bool) :=
 Option.bind (if ¬ (¬ (a0.fC.Kind = 2)) then zgh a0.fBefore a0.fAfter else some default) fun v1 =>
 if (¬ (a0.fC.Kind = 2)) \/ (v1 = true) then
 some (c0, c1)
 else
 Option.bind (zck a0.fBefore.Waits (fun x0 => zco x0 a0)) fun v2 =>
 if (0 <= v2 /\ v2 < (a0.fBefore.Waits.length : Int)) then
 Option.bind (zcd c0 ((a0.fBefore.Waits.getD v2.toNat default).Message)) fun v3 =>
 some (c0, ((c1 && v3.2) && (v3.1 == a0.fC.Time)))
 else none
def zb7 (a0 : Int) : List TCommand -> (List (List Torder_given)) -> Bool -> Int -> (List TWait) -> (List TStamp) -> Option ((List (List Torder_given)) × Bool × Int × (List TWait) × (List TStamp))
 | [], l4, b2, n2, l5, l6 =>
  some (l4, b2, n2, l5, l6)
 | y1 :: rest1, l4, b2, n2, l5, l6 =>
  Option.bind (zbr (⟨n2, l5, l6⟩ : TSkeen) a0 (y1)) fun v3 =>
  Option.bind (α := Int × (List TWait) × (List TStamp) × (List TMessage)) (if ¬ (v3.2.2 = 0) then
  some (n2, l5, l6, [])
  else
  some (v3.1.Clock, v3.1.Waits, v3.1.Done, v3.2.1)) fun (n4, l7, l8, l9) =>
  Option.bind (zdm (⟨y1, (⟨n2, l5, l6⟩ : TSkeen), (⟨n4, l7, l8⟩ : TSkeen), l9⟩ : Torder_step) l4 b2) fun v4 =>
  zb7 a0 rest1 v4.1 v4.2 n4 l7 l8
def zdg (a0 : Int) (a1 : List (List UInt8)) (a2_0 : List (List Torder_given)) (a2_1 : Bool) : Option (TSkeen × Int × (List (List Torder_given)) × Bool) :=
 if (a0 < 0) \/ (a0 >= 4) then
 some ((⟨0, [], []⟩ : TSkeen), 2, a2_0, a2_1)
 else
 Option.bind (zds a1) fun v1 =>
 if ¬ (v1.2 = 0) then
 some ((⟨0, [], []⟩ : TSkeen), v1.2, a2_0, a2_1)
 else
 Option.bind (zen ) fun v2 =>
 Option.bind (α := (List (List Torder_given)) × Bool × Int × (List TWait) × (List TStamp)) (zb7 a0 v1.1 a2_0 a2_1 v2.Clock v2.Waits v2.Done) fun (l1, b1, n1, l2, l3) =>
 Option.bind (zcg (⟨n1, l2, l3⟩ : TSkeen)) fun v5 =>
 some (v5, 0, l1, b1)
def zc1 : List (List (List UInt8)) -> Nat -> (List (List Torder_given)) -> Bool -> Option (Bool)
 | [], n1, l1, b2 =>
  some b2
 | y1 :: rest1, n1, l1, b2 =>
  Option.bind (zdg (n1 : Int) (y1) l1 b2) fun v3 =>
  zc1 rest1 (n1 + 1) v3.2.2.1 v3.2.2.2
def zdr (a0 : List (List (List UInt8))) : Option (Bool × Int) :=
 Option.bind (zei a0) fun v1 =>
 if ¬ (v1.2 = 0) then
 some (false, v1.2)
 else
 Option.bind (zdz v1.1) fun v2 =>
 Option.bind (α := Bool) (zc1 a0 0 v1.1 v2) fun b1 =>
 some (b1, 0)
end Go.Proofs
end
