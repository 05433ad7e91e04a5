/- Texts of the proof. -/
import Derived.Test.YtkananhhhkkpkaaOrderFinalPg
import Derived.Test.YtkananhhhkkpkaaOrderFinalPh
import Derived.Test.YtkananhhhkkpkaaOrderFinalPi
import Derived.Test.YtkananhhhkkpkaaOrderFinalPj
import Derived.Test.YtkananhhhkkpkaaOrderFinalPl
import Derived.Test.YtkananhhhkkpkaaOrderFinalPm
import Derived.Test.YtkananhhhkkpkaaOrderFinalPf
section
namespace Go.Proofs
open Go.Tm Go.RowKit Go.WideShapes
set_option maxRecDepth 100000
set_option maxHeartbeats 4000000
set_option linter.unusedSimpArgs false
set_option linter.unusedVariables false
attribute [local go_sem] zcw runE runK zex stepE aop opd opdsL opds opdO ev ofVal keep List.any zcf Bool.false_or Bool.true_or aggEq cond_true cond_false Bool.cond_false_right Bool.cond_true_left beq_true beq_false imp_self implies_true getR getL put St.app effL del nwB zid Nat.lt_irrefl Nat.lt_add_one zie Nat.le_refl Nat.beq_refl zez zdi capS capK zg9 zf0 zbx D.ids D.idsL bin arith zhy binT dpick Tm.part zh4 fillD oneD loadD zh3 srcD zdj idxOk decide_true gval dstAt D.cells List.map_cons List.map_nil List.take List.drop List.length_map List.append Int.toNat_natCast and_true true_and decide_false List.length_cons List.length_nil List.append_nil List.nil_append Bool.and_true Bool.true_and Bool.not_false Bool.not_true ne_eq not_false_eq_true BEq.rfl List.getElem?_cons_zero List.getElem?_cons_succ List.getElem?_nil Nat.zero_add List.all_cons List.all_nil List.isEmpty_cons List.isEmpty_nil Option.getD_some Option.getD_none List.any_cons List.any_nil List.drop_succ_cons List.drop_zero unfL unf okM okML low3 List.cons_append true_or or_true Nat.zero_mul Nat.zero_le zgo zgn  zi5 zi4 zgm Option.isSome_map keyD List.length_replicate List.map_replicate setEl List.length_set zfj zn4 zn2 zjp zhz mkM mkML zjr zjq zi0 zgd zfl ze4 List.take_length Int.toNat_zero zfe fpOf zfp opIds mvV mvH mvF pickL D.ren D.renL Blk.ren List.map_append List.length_append Bool.not_not Bool.or_not_self Bool.not_or_self Bool.or_true
attribute [local go_sem] Try.tm_1 Try.tm_2 Try.tm_3 Try.tm_4 Try.tm_5 Try.tm_6 Try.tm_7 Try.tm_8 Try.tm_9 Try.tm_10 Try.tm_11 Try.tm_12 Try.tm_13 Try.tm_14 Try.tm_15 Try.tm_16 Try.tm_17 Try.tm_18 Try.tm_19 Try.tm_20 Try.tm_21 Try.tm_22 Try.tm_23 Try.tm_24 Try.tm_25 Try.tm_26 Try.tm_27 Try.tm_28 Try.tm_30 Try.tm_32 Try.tm_33 Try.tm_35 Try.tm_36 Try.tm_37 Try.tm_38 Try.tm_39 Try.tm_40 Try.tm_41 Try.tm_42 Try.tm_43 Try.tm_44 Try.tm_45 Try.tm_46 Try.tm_48 Try.tm_49 Try.tm_50 Try.tm_51 Try.tm_52 Try.tm_53 Try.tm_54 Try.tm_56 Try.tm_57 Try.tm_59 Try.tm_61 Try.tm_62 Try.tm_63 Try.tm_64 Try.tm_65 Try.tm_66 Try.tm_67 Try.tm_68 Try.tm_69 Try.tm_70 Try.tm_71 Try.tm_72 Try.tm_74 Try.tm_75 Try.tm_76 Try.tm_78 Try.tm_79 Try.tm_80 Try.tm_81 Try.tm_82 Try.tm_83 Try.tm_84 Try.tm_85 Try.tm_86 Try.tm_87 Try.tm_88 Try.tm_89 Try.tm_90 Try.tm_92 Try.tm_94 Try.tm_95 Try.tm_96 Try.tm_97 Try.tm_98 Try.tm_99 Try.tm_100 Try.tm_101 Try.tm_102 Try.tm_103 Try.tm_104 Try.tm_105 Try.tm_107 Try.tm_108 Try.tm_109 Try.tm_110 Try.tm_111 Try.tm_112 Try.tm_113 Try.tm_114 Try.tm_115 Try.tm_116 Try.tm_117 Try.tm_119 Try.tm_120 Try.tm_121 Try.tm_123 Try.tm_124 Try.tm_125 Try.tm_126 Try.tm_127 Try.tm_128 Try.tm_129 Try.tm_130 Try.tm_131 Try.tm_132 Try.tm_133 Try.tm_134 Try.tm_135 Try.tm_136 Try.tm_137 Try.tm_138 Try.tm_139 Try.tm_140 Try.tm_141 Try.tm_142 Try.tm_143 Try.tm_144 Try.tm_145 Try.tm_146 Try.tm_147 Try.tm_148 Try.tm_149 Try.tm_150 Try.tm_151 Try.tm_152 Try.tm_153 Try.tm_155 Try.tm_156 Try.tm_158 Try.tm_160 Try.tm_161 Try.tm_162 Try.tm_163 Try.tm_164 Try.tm_165 Try.tm_168 Try.tm_169 Try.tm_170 Try.tm_171 Try.tm_172 Try.tm_173 Try.tm_174 Try.tm_175 Try.tm_176 TMessage.d TMessage.n TWait.d TWait.n TStamp.d TSkeen.d TSkeen.n TCommand.d TCommand.n Tskeen_clock.d Tskeen_clock.n ze5 zgg zfg zfh ze6 zcp Torder_step.d Torder_step.n Torder_given.d Torder_given.n Tcommand_reader.d Tcommand_reader.n dL_str nL_str dL_Torder_givend nL_Torder_givend zij nL_TStampd zgp nL_TMessaged zfo zf8 ze9 zk3 zdw zga zf7 Try.f82 Try.f82 Try.f64 Try.f68 Try.f66 Try.f63 Try.f65 Try.f67 Try.f48 Try.f26 Try.f10 Try.f3
def Try.St_num_put_1 (l1 : List Int) (n1 : Int) : St := ⟨[(0, .ref 0 1 0 l1.length (some uC)), (1, .int .i64 n1)], [(0, .arr 5 1 true (l1.map (D.int .u8)))], 1⟩
attribute [local go_sem] Try.St_num_put_1
def Try.St_num_put_3 (l2 : List Int) (n2 : Int) : St := ⟨[(0, .ref 0 1 0 l2.length (some uC)), (1, .int .i64 n2)], [(0, .arr 5 1 true (l2.map (D.int .u8)))], 1⟩
attribute [local go_sem] Try.St_num_put_3
def Try.Re_num_put (r : (List Int)) : St := ⟨[(4, .ref 0 1 0 r.length (some uC))], [(0, .arr 5 1 true (r.map (D.int .u8)))], 1⟩
attribute [local go_sem] Try.Re_num_put
theorem zj9 (a1 : Int) (r : (List Int)) (h : zhq a1 = some r) : CallH Try.prog 82 [.imm 0 [] 0, .int .i64 a1] [] (.ref 0 1 0 r.length (some uC)) [(0, some (.arr 5 1 true (r.map (D.int .u8))))] (0, 5) := by
 refine za4 Try.tmOk Try.func82 rfl (by decide) (Nat.le_of_ble_eq_true rfl) (by simp) ?_
 intro hwf
 unfold zhq at h
 refine .ends 0 (Nat.le_refl _) ?_
 refine .seq ?_
 refine .pl Try.S [0, 1] ?_
 obtain ⟨x1, hx1, h⟩ := bind_some h
 refine .seqM 0 (fun (j : (List Int) × Int) => Try.St_num_put_1 j.1 j.2) (fun j => x1 = j) (Nat.le_of_ble_eq_true rfl) ?_ ?_
 ·refine .block ?_
  refine .loopG 0 (fun (j : Nat × (List Int) × Int) => Try.St_num_put_3 j.2.1 j.2.2) (fun j => zd0 j.1 j.2.1 j.2.2 = some x1) (fun j => j.1) (11, [], a1) (Nat.le_of_ble_eq_true rfl) ?_ hx1 ?_
  ·refine Goes.new0 1 5 (Nat.le_of_ble_eq_true rfl) ?_
   refine Goes.wk 0 _ (.ref 0 1 0 0 (some uC)) rfl (.own0 0 _ _ _ (by decide)) ?_
   exact .m [0, 1] [0] []
  rintro ⟨fu1, l2, n2⟩ hx1
  simp only [Try.St_num_put_3]
  try simp only at hx1
  obtain ⟨fu1, rfl⟩ : ∃ k, fu1 = k + 1 := by cases fu1 with | zero => (rw [zd0] at hx1; cases hx1) | succ k => exact ⟨k, rfl⟩
  rw [zd0] at hx1
  refine .seq ?_
  refine .seq ?_
  refine .pl Try.S [0, 1] ?_
  refine .cond rfl rfl (fun hc1 => ?_) (fun hc1 => ?_)
  ·replace hx1 := za2 hx1 hc1
   refine .skip ?_
   refine .seq ?_
   refine .block ?_
   obtain ⟨k1, hx1⟩ := zba hx1
   refine .pl Try.S [0, 1] ?_
   refine .pl Try.S [0, 1] ?_
   refine ⟨(fu1, _, _), ?_, hx1, by dsimp only; omega⟩
   exact .m [0, 1] [2] [(2, 0)]
  ·replace hx1 := zaa hx1 hc1
   refine .exit ?_
   refine ⟨_, ?_, (Option.some.inj hx1).symm⟩
   exact .m [0, 1] [0] []
 ·rintro ⟨l1, n1⟩ hj1
  subst x1
  try dsimp only at h
  simp only [Try.St_num_put_1]
  refine .seq ?_
  obtain ⟨k2, h⟩ := zba h
  refine .pl Try.S [0, 1] ?_
  have hq := Option.some.inj h
  subst r
  refine .ret ⟨Try.Re_num_put (l1 ++ [(wr .u8 n1)]), ?_, .inr rfl, retH [0] ?_ ?_⟩
  ·exact .m [4] [2] [(2, 0)]
  ·exact rsi0
  ·rfl
def Try.St_num_put_w_1 (l1 : List Int) (n1 : Int) : St := ⟨[(0, .ref 20100 1 0 l1.length (some uC)), (1, .int .i64 n1)], [(20100, .arr 5 1 true (l1.map (D.int .u8)))], 20101⟩
attribute [local go_sem] Try.St_num_put_w_1
def Try.St_num_put_w_3 (l2 : List Int) (n2 : Int) : St := ⟨[(0, .ref 20100 1 0 l2.length (some uC)), (1, .int .i64 n2)], [(20100, .arr 5 1 true (l2.map (D.int .u8)))], 20101⟩
attribute [local go_sem] Try.St_num_put_w_3
def Try.Re_num_put_w (r : (List Int)) : St := ⟨[(4, .ref 20100 1 0 r.length (some uC))], [(20100, .arr 5 1 true (r.map (D.int .u8)))], 20101⟩
attribute [local go_sem] Try.Re_num_put_w
theorem callH_num_put_w (a0 : List Int) (a1 : Int) (r : (List Int)) (h : zkr a0 a1 = some r) : CallH Try.prog 82 [.ref 20000 1 0 a0.length (some uC), .int .i64 a1] [(20000, .arr 5 1 true (a0.map (D.int .u8)))] (.ref 20100 1 0 r.length (some uC)) [(20000, none), (20100, some (.arr 5 1 true (r.map (D.int .u8))))] (20100, 20105) := by
 refine za4 Try.tmOk Try.func82 rfl (by decide) (Nat.le_of_ble_eq_true rfl) (by simp) ?_
 intro hwf
 unfold zkr at h
 refine .ends 20100 (Nat.le_refl _) ?_
 refine .seq ?_
 refine .pl Try.S [0, 1] ?_
 obtain ⟨x1, hx1, h⟩ := bind_some h
 refine .seqM 20100 (fun (j : (List Int) × Int) => Try.St_num_put_w_1 j.1 j.2) (fun j => x1 = j) (Nat.le_of_ble_eq_true rfl) ?_ ?_
 ·refine .block ?_
  refine .loopG 20100 (fun (j : Nat × (List Int) × Int) => Try.St_num_put_w_3 j.2.1 j.2.2) (fun j => ze0 j.1 j.2.1 j.2.2 = some x1) (fun j => j.1) (11, a0, a1) (Nat.le_of_ble_eq_true rfl) ?_ hx1 ?_
  ·exact .m [0, 1] [20000] [(20000, 20100)]
  rintro ⟨fu1, l2, n2⟩ hx1
  simp only [Try.St_num_put_w_3]
  try simp only at hx1
  obtain ⟨fu1, rfl⟩ : ∃ k, fu1 = k + 1 := by cases fu1 with | zero => (rw [ze0] at hx1; cases hx1) | succ k => exact ⟨k, rfl⟩
  rw [ze0] at hx1
  refine .seq ?_
  refine .seq ?_
  refine .pl Try.S [0, 1] ?_
  refine .cond rfl rfl (fun hc1 => ?_) (fun hc1 => ?_)
  ·replace hx1 := za2 hx1 hc1
   refine .skip ?_
   refine .seq ?_
   refine .block ?_
   obtain ⟨k1, hx1⟩ := zba hx1
   refine .pl Try.S [0, 1] ?_
   refine .pl Try.S [0, 1] ?_
   refine ⟨(fu1, _, _), ?_, hx1, by dsimp only; omega⟩
   exact .m [0, 1] [20102] [(20102, 20100)]
  ·replace hx1 := zaa hx1 hc1
   refine .exit ?_
   refine ⟨_, ?_, (Option.some.inj hx1).symm⟩
   exact .m [0, 1] [20100] []
 ·rintro ⟨l1, n1⟩ hj1
  subst x1
  try dsimp only at h
  simp only [Try.St_num_put_w_1]
  refine .seq ?_
  obtain ⟨k2, h⟩ := zba h
  refine .pl Try.S [0, 1] ?_
  have hq := Option.some.inj h
  subst r
  refine .ret ⟨Try.Re_num_put_w (l1 ++ [(wr .u8 n1)]), ?_, .inr rfl, retH [20100] ?_ ?_⟩
  ·exact .m [4] [20102] [(20102, 20100)]
  ·exact rsi0
  ·rfl
def Try.Re_num_Put (r : (List Int) × Int) : St := ⟨[(2, .ref 0 1 0 r.1.length (some uC)), (3, .int .i64 r.2)], [(0, .arr 5 1 true (r.1.map (D.int .u8)))], 1⟩
attribute [local go_sem] Try.Re_num_Put
theorem callH_num_Put (a0 : Int) (r : (List Int) × Int) (h : zhr a0 = some r) : CallH Try.prog 64 [.int .i64 a0] [] (.tuple [.ref 0 1 0 r.1.length (some uC), .int .i64 r.2]) [(0, some (.arr 5 1 true (r.1.map (D.int .u8))))] (0, 12) := by
 refine za4 Try.tmOk Try.func64 rfl (by decide) (Nat.le_of_ble_eq_true rfl) (by simp) ?_
 intro hwf
 unfold zhr at h
 refine .ends 0 (Nat.le_refl _) ?_
 refine .seq ?_
 refine .pl Try.S [0] ?_
 refine .seq ?_
 refine .seq ?_
 obtain ⟨v1, hv1, h⟩ := bind_some h
 refine .rg Try.S [0] ?_
 refine .rn 1 ?_
 refine .call (r := .bool v1) rfl rfl rfl rfl rfl rfl (zjz a0 v1 hv1) ?_
 refine .rn 1 ?_
 refine .nil ⟨nofun, ?_⟩
 refine .cond rfl rfl (fun hc1 => ?_) (fun hc1 => ?_)
 ·replace h := za2 h hc1
  refine .seq ?_
  refine .pl Try.S [] ?_
  have hq := Option.some.inj h
  subst r
  refine .ret ⟨Try.Re_num_Put ([], 2), ?_, .inr rfl, retH [0] ?_ ?_⟩
  ·refine Goes.new0 1 5 (Nat.le_of_ble_eq_true rfl) ?_
   refine Goes.wk 2 _ (.ref 0 1 0 0 (some uC)) rfl (.own0 0 _ _ _ (by decide)) ?_
   exact .m [2, 3] [0] []
  ·exact rsi0
  ·rfl
 ·replace h := zaa h hc1
  refine .skip ?_
  refine .seq ?_
  obtain ⟨v2, hv2, h⟩ := bind_some h
  refine .rg Try.S [0] ?_
  refine .rn 1 ?_
  refine .ncall (r := .ref 5 1 0 v2.length (some uC)) (eff := [(5, some (.arr 5 1 true (v2.map (D.int .u8))))]) (nw := (5, 10)) [] rfl rfl rfl rfl rfl (za5 rfl (za5 rfl zau)) rfl (zee 5 (Nat.le_of_ble_eq_true rfl) (zj9 a0 v2 hv2)) (zdf rfl rfl (zfn (zmb .u8) _ _ _) zf6) (by intro i hi; simp [D.ids, D.idsL] at hi <;> omega) rfl ⟨Nat.le_of_ble_eq_true rfl, Nat.le_of_ble_eq_true rfl⟩ ?_
  refine .rn 2 ?_
  refine .nil ⟨nofun, ?_⟩
  have hq := Option.some.inj h
  subst r
  refine .ret ⟨Try.Re_num_Put (v2, 0), ?_, .inr rfl, retH [0] ?_ ?_⟩
  ·exact .m [2, 3] [5] [(5, 0)]
  ·exact rsi0
  ·rfl
def Try.Re_num_Text (r : (List Int) × Int) : St := ⟨[(2, .ref 0 1 0 r.1.length (some uC)), (3, .int .i64 r.2)], [(0, .arr 5 1 true (r.1.map (D.int .u8)))], 1⟩
attribute [local go_sem] Try.Re_num_Text
theorem callH_num_Text (a0 : List UInt8) (r : (List Int) × Int) (h : zme a0 = some r) : CallH Try.prog 68 [.str a0] [] (.tuple [.ref 0 1 0 r.1.length (some uC), .int .i64 r.2]) [(0, some (.arr 5 1 true (r.1.map (D.int .u8))))] (0, 13) := by
 refine za4 Try.tmOk Try.func68 rfl (by decide) (Nat.le_of_ble_eq_true rfl) (by simp) ?_
 intro hwf
 unfold zme at h
 refine .ends 0 (Nat.le_refl _) ?_
 refine .seq ?_
 refine .pl Try.S [0] ?_
 refine .seq ?_
 refine .seq ?_
 refine .pl Try.S [0] ?_
 refine .cond rfl rfl (fun hc1 => ?_) (fun hc1 => ?_)
 ·replace h := za2 h hc1
  refine .seq ?_
  refine .pl Try.S [] ?_
  have hq := Option.some.inj h
  subst r
  refine .ret ⟨Try.Re_num_Text ([], 3), ?_, .inr rfl, retH [0] ?_ ?_⟩
  ·refine Goes.new0 1 5 (Nat.le_of_ble_eq_true rfl) ?_
   refine Goes.wk 2 _ (.ref 0 1 0 0 (some uC)) rfl (.own0 0 _ _ _ (by decide)) ?_
   exact .m [2, 3] [0] []
  ·exact rsi0
  ·rfl
 ·replace h := zaa h hc1
  refine .skip ?_
  refine .seq ?_
  obtain ⟨v1, hv1, h⟩ := bind_some h
  obtain ⟨k1, h⟩ := zba h
  refine .rg Try.S [0] ?_
  refine .rn 2 ?_
  refine .ncall (r := .ref 5 1 0 v1.length (some uC)) (eff := [(5, some (.arr 5 1 true (v1.map (D.int .u8))))]) (nw := (5, 10)) [] rfl rfl rfl rfl rfl (za5 rfl (za5 rfl zau)) rfl (zee 5 (Nat.le_of_ble_eq_true rfl) (zj9 (a0.length : Int) v1 hv1)) (zdf rfl rfl (zfn (zmb .u8) _ _ _) zf6) (by intro i hi; simp [D.ids, D.idsL] at hi <;> omega) rfl ⟨Nat.le_of_ble_eq_true rfl, Nat.le_of_ble_eq_true rfl⟩ ?_
  refine .rn 4 ?_
  refine .nil ⟨nofun, ?_⟩
  have hq := Option.some.inj h
  subst r
  refine .ret ⟨Try.Re_num_Text ((v1 ++ (zg2 a0)), 0), ?_, .inr rfl, retH [0] ?_ ?_⟩
  ·exact .m [2, 3] [10] [(10, 0)]
  ·exact rsi0
  ·rfl
def Try.St_num_Ints_1 (l1 : List Int) : St := ⟨[(4, .ref 10 1 0 l1.length (some uC))], [(10, .arr 5 1 true (l1.map (D.int .u8)))], 11⟩
attribute [local go_sem] Try.St_num_Ints_1
def Try.St_num_Ints_3 (a0 : List Int) (n1 : Nat) (l2 : List Int) : St := ⟨[(4, .ref 10 1 0 l2.length (some uC)), (13, .imm 1 (a0.map (D.int .i64)) 4), (14, .int .i64 (a0.length : Int)), (15, .int .i64 (n1 : Int))], [(10, .arr 5 1 true (l2.map (D.int .u8)))], 11⟩
attribute [local go_sem] Try.St_num_Ints_3
def Try.Re_num_Ints (r : (List Int) × Int) : St := ⟨[(2, .ref 0 1 0 r.1.length (some uC)), (3, .int .i64 r.2)], [(0, .arr 5 1 true (r.1.map (D.int .u8)))], 1⟩
attribute [local go_sem] Try.Re_num_Ints
theorem callH_num_Ints (a0 : List Int) (r : (List Int) × Int) (h : zmf a0 = some r) : CallH Try.prog 66 [.imm 1 (a0.map (D.int .i64)) 4] [] (.tuple [.ref 0 1 0 r.1.length (some uC), .int .i64 r.2]) [(0, some (.arr 5 1 true (r.1.map (D.int .u8))))] (0, 18) := by
 refine za4 Try.tmOk Try.func66 rfl (by decide) (Nat.le_of_ble_eq_true rfl) (by simp) ?_
 intro hwf
 unfold zmf at h
 refine .ends 0 (Nat.le_refl _) ?_
 refine .seq ?_
 refine .pl Try.S [0] ?_
 refine .seq ?_
 refine .seq ?_
 refine .pl Try.S [0] ?_
 refine .cond rfl rfl (fun hc1 => ?_) (fun hc1 => ?_)
 ·replace h := za2 h hc1
  refine .seq ?_
  refine .pl Try.S [] ?_
  have hq := Option.some.inj h
  subst r
  refine .ret ⟨Try.Re_num_Ints ([], 4), ?_, .inr rfl, retH [0] ?_ ?_⟩
  ·refine Goes.new0 1 5 (Nat.le_of_ble_eq_true rfl) ?_
   refine Goes.wk 2 _ (.ref 0 1 0 0 (some uC)) rfl (.own0 0 _ _ _ (by decide)) ?_
   exact .m [2, 3] [0] []
  ·exact rsi0
  ·rfl
 ·replace h := zaa h hc1
  refine .skip ?_
  refine .seq ?_
  obtain ⟨v1, hv1, h⟩ := bind_some h
  refine .rg Try.S [0] ?_
  refine .rn 2 ?_
  refine .ncall (r := .ref 5 1 0 v1.length (some uC)) (eff := [(5, some (.arr 5 1 true (v1.map (D.int .u8))))]) (nw := (5, 10)) [] rfl rfl rfl rfl rfl (za5 rfl (za5 rfl zau)) rfl (zee 5 (Nat.le_of_ble_eq_true rfl) (zj9 (a0.length : Int) v1 hv1)) (zdf rfl rfl (zfn (zmb .u8) _ _ _) zf6) (by intro i hi; simp [D.ids, D.idsL] at hi <;> omega) rfl ⟨Nat.le_of_ble_eq_true rfl, Nat.le_of_ble_eq_true rfl⟩ ?_
  refine .rn 1 ?_
  refine .nil ⟨nofun, ?_⟩
  obtain ⟨x1, hx1, h⟩ := bind_some h
  refine .seqM 10 (fun (j : (List Int)) => Try.St_num_Ints_1 j) (fun j => x1 = (.inr j)) (Nat.le_of_ble_eq_true rfl) ?_ ?_
  ·refine .seq ?_
   refine .pl Try.S [0, 4] ?_
   refine .block ?_
   refine .loopG 10 (fun (j : Nat × (List Int)) => Try.St_num_Ints_3 a0 j.1 j.2) (fun j => j.1 <= a0.length /\ zef (a0.drop j.1) j.2 = some x1) (fun j => a0.length - j.1) (0, v1) (Nat.le_of_ble_eq_true rfl) ?_ ⟨Nat.zero_le _, hx1⟩ ?_
   ·exact .m [4, 13, 14, 15] [5] [(5, 10)]
   rintro ⟨n1, l2⟩ ⟨hi1, hx1⟩
   simp only [Try.St_num_Ints_3]
   simp only at hi1 hx1
   refine .wf 14 (.int .i64 (a0.length : Int)) rfl ?_
   intro hln1
   replace hln1 : (a0.length : Int) <= 9223372036854775807 := by simp only [wf, wfL, IntKind.max, IntKind.min, IntKind.signed, IntKind.bits, List.length_map] at hln1; first | exact hln1.2 | exact hln1.1 | (simp at hln1; omega)
   refine .seq ?_
   refine .pl Try.S [4, 13, 14, 15] ?_
   refine .seq ?_
   refine .cond rfl rfl (fun hc2 => ?_) (fun hc2 => ?_)
   ·have h1 : n1 < a0.length := by simpa using hc2
    have hwn1 : wr .i64 ((n1 : Int) + 1) = ((n1 + 1 : Nat) : Int) := zd4 h1 hln1
    have hpn1 : wr .i64 ((n1 : Int) - 1) = (n1 : Int) - 1 := zd5 h1 hln1
    rw [List.drop_eq_getElem_cons h1, zef] at hx1
    refine .skip ?_
    refine .seq ?_
    refine .block ?_
    refine .seq ?_
    have e1 := zcc (D.int .i64) a0 n1 h1
    refine .plx Try.S (And.intro e1 hwn1) [4, 13, 14, 15] ?_
    refine .seq ?_
    refine .seq ?_
    obtain ⟨v2, hv2, hx1⟩ := bind_some hx1
    refine .rg Try.S [4, 6, 13, 14, 15] ?_
    refine .rnx 1 hwn1 ?_
    refine .call (r := .bool v2) rfl rfl rfl rfl rfl rfl (zjz (a0[n1]) v2 hv2) ?_
    refine .rnx 1 hwn1 ?_
    refine .nil ⟨nofun, ?_⟩
    refine .cond rfl rfl (fun hc3 => ?_) (fun hc3 => ?_)
    ·replace hx1 := za2 hx1 hc3
     refine .seq ?_
     refine .plx Try.S hwn1 [] ?_
     have hq := Option.some.inj hx1
     subst x1
     try dsimp only at h
     have hq := Option.some.inj h
     subst r
     refine .ret ⟨Try.Re_num_Ints ([], 2), ?_, .inr rfl, retH [0] ?_ ?_⟩
     ·refine Goes.new0 1 5 (Nat.le_of_ble_eq_true rfl) ?_
      refine Goes.wk 2 _ (.ref 11 1 0 0 (some uC)) rfl (.own0 11 _ _ _ (by decide)) ?_
      exact .m [2, 3] [11] [(11, 0)]
     ·exact rsi0
     ·rfl
    ·replace hx1 := zaa hx1 hc3
     refine .skip ?_
     obtain ⟨v3, hv3, hx1⟩ := bind_some hx1
     refine .rg Try.S [4, 6, 13, 14, 15] ?_
     refine .rnx 2 hwn1 ?_
     refine .hcall (H := [(10, .arr 5 1 true (l2.map (D.int .u8)))]) (eff := [(10, none), (11, some (.arr 5 1 true (v3.map (D.int .u8))))]) (nw := (11, 16)) (r := .ref 11 1 0 v3.length (some uC)) rfl rfl rfl rfl rfl (zda 11 (zag 20000 10 (callH_num_put_w l2 (a0[n1]) v3 hv3))) (fun id b h => zak [10] _ id b h) (by simp) (.inr ⟨Nat.le_of_ble_eq_true rfl, Nat.le_of_ble_eq_true rfl⟩) ?_
     refine .rnx 1 hwn1 ?_
     refine .nil ⟨nofun, ?_⟩
     refine .plx Try.S hwn1 [4, 13, 14, 15] ?_
     refine ⟨(n1 + 1, _), ?_, ⟨by omega, hx1⟩, by dsimp only; omega⟩
     exact .m [4, 13, 14, 15] [11] [(11, 10)]
   ·have h2 : n1 = a0.length := by have h2b := of_decide_eq_false hc2; omega
    rw [List.drop_of_length_le (by omega), zef] at hx1
    refine .exit ?_
    refine ⟨_, ?_, (Option.some.inj hx1).symm⟩
    exact .m [4] [10] []
  ·rintro l1 hj1
   subst x1
   try dsimp only at h
   simp only [Try.St_num_Ints_1]
   refine .seq ?_
   refine .pl Try.S [4] ?_
   have hq := Option.some.inj h
   subst r
   refine .ret ⟨Try.Re_num_Ints (l1, 0), ?_, .inr rfl, retH [0] ?_ ?_⟩
   ·exact .m [2, 3] [10] [(10, 0)]
   ·exact rsi0
   ·rfl
def Try.St_command_text_1_1 (a0 : List Int) (l1 : List Int) (n1 : Int) : St := ⟨[(1, .ptr 20001 0), (7, .ref 20000 1 0 a0.length (some uC)), (8, .int .i64 (a0.length : Int)), (9, .int .i64 n1)], [(20000, .arr 3 1 true (a0.map (D.int .i64))), (20001, .box [.ref 20100 1 0 l1.length (some uC)]), (20100, .arr 5 1 true (l1.map (D.int .u8)))], 20101⟩
attribute [local go_sem] Try.St_command_text_1_1
def Try.Re_command_text_1 (r : (List Int)) : St := ⟨[(1, .ptr 20001 0)], [(20001, .box [.ref 20100 1 0 r.length (some uC)]), (20100, .arr 5 1 true (r.map (D.int .u8)))], 20101⟩
attribute [local go_sem] Try.Re_command_text_1
theorem zd9 (a0 : List Int) (c0 : List Int) (r : (List Int)) (h : zcr a0 c0 = some r) : CallH Try.prog 63 [.ref 20000 1 0 a0.length (some uC), .ptr 20001 0] [(20000, .arr 3 1 true (a0.map (D.int .i64))), (20001, .box [.ref 20002 1 0 c0.length (some uC)]), (20002, .arr 5 1 true (c0.map (D.int .u8)))] (.tuple []) [(20000, none), (20001, some (.box [.ref 20100 1 0 r.length (some uC)])), (20002, none), (20100, some (.arr 5 1 true (r.map (D.int .u8))))] (20100, 20116) := by
 refine za4 Try.tmOk Try.func63 rfl (by decide) (Nat.le_of_ble_eq_true rfl) (by simp) ?_
 intro hwf
 unfold zcr at h
 refine .ends 20100 (Nat.le_refl _) ?_
 refine .seq ?_
 refine .pl Try.S [0, 1] ?_
 refine .block ?_
 refine .loopG 20100 (fun (j : Nat × (List Int) × Int) => Try.St_command_text_1_1 a0 j.2.1 j.2.2) (fun j => zb3 a0 j.1 j.2.1 j.2.2 = some r) (fun j => j.1) (a0.length + 1, c0, 0) (Nat.le_of_ble_eq_true rfl) ?_ h ?_
 ·exact .m [1, 7, 8, 9] [20000, 20001, 20002] [(20002, 20100)]
 rintro ⟨fu1, l1, n1⟩ h
 simp only [Try.St_command_text_1_1]
 try simp only at h
 obtain ⟨fu1, rfl⟩ : ∃ k, fu1 = k + 1 := by cases fu1 with | zero => (rw [zb3] at h; cases h) | succ k => exact ⟨k, rfl⟩
 rw [zb3] at h
 refine .seq ?_
 refine .pl Try.S [1, 7, 8, 9] ?_
 refine .seq ?_
 refine .cond rfl rfl (fun hc1 => ?_) (fun hc1 => ?_)
 ·replace h := za2 h hc1
  refine .skip ?_
  refine .seq ?_
  refine .block ?_
  refine .seq ?_
  obtain ⟨k1, h⟩ := zba h
  have e1 := zcj (D.int .i64) a0 n1
  replace e1 := e1 k1
  refine .plx Try.S e1 [1, 7, 8, 9] ?_
  refine .seq ?_
  obtain ⟨v1, hv1, h⟩ := bind_some h
  refine .rg Try.S [1, 4, 7, 8, 9] ?_
  refine .rn 1 ?_
  refine .ncall (r := .tuple [.ref 20101 1 0 v1.1.length (some uC), .int .i64 v1.2]) (eff := [(20101, some (.arr 5 1 true (v1.1.map (D.int .u8))))]) (nw := (20101, 20113)) [] rfl rfl rfl rfl rfl (za5 rfl zau) rfl (zee 20101 (Nat.le_of_ble_eq_true rfl) (callH_num_Put (a0.getD n1.toNat default) v1 hv1)) (zdf rfl rfl (zfn (zmb .u8) _ _ _) zf6) (by intro i hi; simp [D.ids, D.idsL] at hi <;> omega) rfl ⟨Nat.le_of_ble_eq_true rfl, Nat.le_of_ble_eq_true rfl⟩ ?_
  refine .rn 5 ?_
  refine .nil ⟨nofun, ?_⟩
  obtain ⟨k2, h⟩ := zba h
  refine .pl Try.S [1, 5, 7, 8, 9] ?_
  refine .pl Try.S [1, 7, 8, 9] ?_
  refine ⟨(fu1, _, _), ?_, h, by dsimp only; omega⟩
  exact .m [1, 7, 8, 9] [20000, 20001, 20113] [(20113, 20100)]
 ·replace h := zaa h hc1
  refine .exit ?_
  have hq := Option.some.inj h
  subst r
  refine ⟨Try.Re_command_text_1 l1, ?_, .inl rfl, retH [20001, 20100] ?_ ?_⟩
  ·exact .m [1] [20001, 20100] []
  ·exact rsi0
  ·rfl
def Try.Re_command_text_2 (r : (List Int)) : St := ⟨[(1, .ptr 20000 0)], [(20000, .box [.ref 20100 1 0 r.length (some uC)]), (20100, .arr 5 1 true (r.map (D.int .u8)))], 20101⟩
attribute [local go_sem] Try.Re_command_text_2
theorem zh6 (a0 : List Int) (c0 : List Int) (r : (List Int)) (h : zfa a0 c0 = some r) : CallH Try.prog 65 [.imm 1 (a0.map (D.int .i64)) 4, .ptr 20000 0] [(20000, .box [.ref 20001 1 0 c0.length (some uC)]), (20001, .arr 5 1 true (c0.map (D.int .u8)))] (.tuple []) [(20000, some (.box [.ref 20100 1 0 r.length (some uC)])), (20001, none), (20100, some (.arr 5 1 true (r.map (D.int .u8))))] (20100, 20121) := by
 refine za4 Try.tmOk Try.func65 rfl (by decide) (Nat.le_of_ble_eq_true rfl) (by simp) ?_
 intro hwf
 unfold zfa at h
 refine .ends 20100 (Nat.le_refl _) ?_
 refine .seq ?_
 obtain ⟨v1, hv1, h⟩ := bind_some h
 refine .rg Try.S [0, 1] ?_
 refine .rn 1 ?_
 refine .ncall (r := .tuple [.ref 20100 1 0 v1.1.length (some uC), .int .i64 v1.2]) (eff := [(20100, some (.arr 5 1 true (v1.1.map (D.int .u8))))]) (nw := (20100, 20118)) [] rfl rfl rfl rfl rfl (za5 rfl zau) rfl (zee 20100 (Nat.le_of_ble_eq_true rfl) (callH_num_Ints a0 v1 hv1)) (zdf rfl rfl (zfn (zmb .u8) _ _ _) zf6) (by intro i hi; simp [D.ids, D.idsL] at hi <;> omega) rfl ⟨Nat.le_of_ble_eq_true rfl, Nat.le_of_ble_eq_true rfl⟩ ?_
 refine .rn 5 ?_
 refine .nil ⟨nofun, ?_⟩
 obtain ⟨k1, h⟩ := zba h
 refine .pl Try.S [1, 3] ?_
 have hq := Option.some.inj h
 subst r
 refine ⟨Try.Re_command_text_2 (c0 ++ v1.1), ?_, .inl rfl, retH [20000, 20100] ?_ ?_⟩
 ·exact .m [1] [20000, 20118] [(20118, 20100)]
 ·exact rsi0
 ·rfl
def Try.Re_command_text_3 (r : (List Int)) : St := ⟨[(1, .ptr 20000 0)], [(20000, .box [.ref 20100 1 0 r.length (some uC)]), (20100, .arr 5 1 true (r.map (D.int .u8)))], 20101⟩
attribute [local go_sem] Try.Re_command_text_3
theorem zh5 (a0 : List UInt8) (c0 : List Int) (r : (List Int)) (h : zf9 a0 c0 = some r) : CallH Try.prog 67 [.str a0, .ptr 20000 0] [(20000, .box [.ref 20001 1 0 c0.length (some uC)]), (20001, .arr 5 1 true (c0.map (D.int .u8)))] (.tuple []) [(20000, some (.box [.ref 20100 1 0 r.length (some uC)])), (20001, none), (20100, some (.arr 5 1 true (r.map (D.int .u8))))] (20100, 20116) := by
 refine za4 Try.tmOk Try.func67 rfl (by decide) (Nat.le_of_ble_eq_true rfl) (by simp) ?_
 intro hwf
 unfold zf9 at h
 refine .ends 20100 (Nat.le_refl _) ?_
 refine .seq ?_
 obtain ⟨v1, hv1, h⟩ := bind_some h
 refine .rg Try.S [0, 1] ?_
 refine .rn 1 ?_
 refine .ncall (r := .tuple [.ref 20100 1 0 v1.1.length (some uC), .int .i64 v1.2]) (eff := [(20100, some (.arr 5 1 true (v1.1.map (D.int .u8))))]) (nw := (20100, 20113)) [] rfl rfl rfl rfl rfl (za5 rfl zau) rfl (zee 20100 (Nat.le_of_ble_eq_true rfl) (callH_num_Text a0 v1 hv1)) (zdf rfl rfl (zfn (zmb .u8) _ _ _) zf6) (by intro i hi; simp [D.ids, D.idsL] at hi <;> omega) rfl ⟨Nat.le_of_ble_eq_true rfl, Nat.le_of_ble_eq_true rfl⟩ ?_
 refine .rn 5 ?_
 refine .nil ⟨nofun, ?_⟩
 obtain ⟨k1, h⟩ := zba h
 refine .pl Try.S [1, 3] ?_
 have hq := Option.some.inj h
 subst r
 refine ⟨Try.Re_command_text_3 (c0 ++ v1.1), ?_, .inl rfl, retH [20000, 20100] ?_ ?_⟩
 ·exact .m [1] [20000, 20113] [(20113, 20100)]
 ·exact rsi0
 ·rfl
def Try.St_command_text_1 (l1 : List Int) : St := ⟨[(3, .ptr 2 0)], [(2, .box [.ref 3 1 0 l1.length (some uC)]), (3, .arr 5 1 true (l1.map (D.int .u8)))], 4⟩
attribute [local go_sem] Try.St_command_text_1
def Try.St_command_text_3 (a0 : TCommand) (b1 : Bool) : St := ⟨[(1, .ptr 0 0), (3, .ptr 2 0), (4, .fn (.func 63) [.ptr 2 0]), (72, .bool b1)], [(0, .box [.int .u8 a0.Kind, .int .i64 a0.Message.Id, .imm 1 (a0.Message.Groups.map (D.int .i64)) 4, .int .i64 a0.Message.Topic, .str a0.Message.Key, .str a0.Message.Body, .int .i64 a0.Id, .int .i64 a0.Time, .imm 1 (a0.Members.map (D.int .i64)) 4, .int .i64 a0.Topic, .int .i64 a0.Who, .int .i64 a0.N]), (2, .box [.ref 3 1 0 ([a0.Kind].length) (some uC)]), (3, .arr 5 1 true ([a0.Kind].map (D.int .u8)))], 4⟩
attribute [local go_sem] Try.St_command_text_3
theorem zlv (a0 : TCommand) (r : (List UInt8)) (h : zgb a0 = some r) : CallP Try.prog 48 [.agg [.int .u8 a0.Kind, .int .i64 a0.Message.Id, .imm 1 (a0.Message.Groups.map (D.int .i64)) 4, .int .i64 a0.Message.Topic, .str a0.Message.Key, .str a0.Message.Body, .int .i64 a0.Id, .int .i64 a0.Time, .imm 1 (a0.Members.map (D.int .i64)) 4, .int .i64 a0.Topic, .int .i64 a0.Who, .int .i64 a0.N]] (.str r) := by
 refine za9 Try.tmOk 92 Try.func48 rfl (by decide) rfl rfl (Nat.le_of_ble_eq_true rfl) ?_
 intro hwf
 unfold zgb at h
 refine .seq ?_
 refine .pl Try.S [0] ?_
 refine .seq ?_
 refine .pl Try.S [1] ?_
 refine .seq ?_
 refine .pl Try.S [1, 3] ?_
 refine .seq ?_
 refine .pl Try.S [1, 3, 4] ?_
 refine .seq ?_
 refine .pl Try.S [1, 3, 4, 5] ?_
 obtain ⟨x1, hx1, h⟩ := bind_some h
 refine .seqM 3 (fun (j : (List Int)) => Try.St_command_text_1 j) (fun j => x1 = j) (Nat.le_of_ble_eq_true rfl) ?_ ?_
 ·refine .seq ?_
  refine .pl Try.S [1, 3, 4, 5, 6] ?_
  refine .block ?_
  refine .seq ?_
  refine .pl Try.S [1, 3, 4, 5, 6, 14] ?_
  refine .cond rfl rfl (fun hc1 => ?_) (fun hc1 => ?_)
  ·replace hx1 := za2 hx1 hc1
   refine .goes (.boxs 2 _ [.ref 1 1 0 1 (some uC)] rfl (.cons (.unk _ _ _ _ _) (.refl _)) .refl) ?_
   refine .seq ?_
   obtain ⟨v1, hv1, hx1⟩ := bind_some hx1
   refine .rg Try.S [1, 3, 4, 5, 6] ?_
   refine .rn 5 ?_
   refine .hcall (H := [(3, .arr 3 1 true ([a0.Message.Id].map (D.int .i64))), (2, .box [.ref 1 1 0 1 (some uC)]), (1, .arr 5 1 true ([a0.Kind].map (D.int .u8)))]) (eff := [(3, none), (2, some (.box [.ref 4 1 0 v1.length (some uC)])), (1, none), (4, some (.arr 5 1 true (v1.map (D.int .u8))))]) (nw := (4, 20)) (r := .tuple []) rfl rfl rfl rfl rfl (zda 4 (zag 20002 1 (zag 20001 2 (zag 20000 3 (zir (.cons (.unk 20000 1 0 1 (some 1)) (.refl _)) (zd9 [a0.Message.Id] [a0.Kind] v1 hv1)))))) (fun id b h => zak [3, 2, 1] _ id b h) (by simp) (.inr ⟨Nat.le_of_ble_eq_true rfl, Nat.le_of_ble_eq_true rfl⟩) ?_
   refine .nil ⟨nofun, ?_⟩
   refine .seq ?_
   obtain ⟨v2, hv2, hx1⟩ := bind_some hx1
   refine .rg Try.S [1, 3, 4, 5, 6] ?_
   refine .rn 4 ?_
   refine .hcall (H := [(2, .box [.ref 4 1 0 v1.length (some uC)]), (4, .arr 5 1 true (v1.map (D.int .u8)))]) (eff := [(2, some (.box [.ref 20 1 0 v2.length (some uC)])), (4, none), (20, some (.arr 5 1 true (v2.map (D.int .u8))))]) (nw := (20, 41)) (r := .tuple []) rfl rfl rfl rfl rfl (zda 20 (zag 20001 4 (zag 20000 2 (zh6 a0.Message.Groups v1 v2 hv2)))) (fun id b h => zak [2, 4] _ id b h) (by simp) (.inr ⟨Nat.le_of_ble_eq_true rfl, Nat.le_of_ble_eq_true rfl⟩) ?_
   refine .nil ⟨nofun, ?_⟩
   refine .seq ?_
   obtain ⟨v3, hv3, hx1⟩ := bind_some hx1
   refine .rg Try.S [1, 3, 4, 6] ?_
   refine .rn 5 ?_
   refine .hcall (H := [(41, .arr 3 1 true ([a0.Message.Topic].map (D.int .i64))), (2, .box [.ref 20 1 0 v2.length (some uC)]), (20, .arr 5 1 true (v2.map (D.int .u8)))]) (eff := [(41, none), (2, some (.box [.ref 42 1 0 v3.length (some uC)])), (20, none), (42, some (.arr 5 1 true (v3.map (D.int .u8))))]) (nw := (42, 58)) (r := .tuple []) rfl rfl rfl rfl rfl (zda 42 (zag 20002 20 (zag 20001 2 (zag 20000 41 (zir (.cons (.unk 20000 1 0 1 (some 1)) (.refl _)) (zd9 [a0.Message.Topic] v2 v3 hv3)))))) (fun id b h => zak [41, 2, 20] _ id b h) (by simp) (.inr ⟨Nat.le_of_ble_eq_true rfl, Nat.le_of_ble_eq_true rfl⟩) ?_
   refine .nil ⟨nofun, ?_⟩
   refine .seq ?_
   obtain ⟨v4, hv4, hx1⟩ := bind_some hx1
   refine .rg Try.S [1, 3, 6] ?_
   refine .rn 4 ?_
   refine .hcall (H := [(2, .box [.ref 42 1 0 v3.length (some uC)]), (42, .arr 5 1 true (v3.map (D.int .u8)))]) (eff := [(2, some (.box [.ref 58 1 0 v4.length (some uC)])), (42, none), (58, some (.arr 5 1 true (v4.map (D.int .u8))))]) (nw := (58, 74)) (r := .tuple []) rfl rfl rfl rfl rfl (zda 58 (zag 20001 42 (zag 20000 2 (zh5 a0.Message.Key v3 v4 hv4)))) (fun id b h => zak [2, 42] _ id b h) (by simp) (.inr ⟨Nat.le_of_ble_eq_true rfl, Nat.le_of_ble_eq_true rfl⟩) ?_
   refine .nil ⟨nofun, ?_⟩
   obtain ⟨v5, hv5, hx1⟩ := bind_some hx1
   refine .rg Try.S [1, 3, 6] ?_
   refine .rn 4 ?_
   refine .hcall (H := [(2, .box [.ref 58 1 0 v4.length (some uC)]), (58, .arr 5 1 true (v4.map (D.int .u8)))]) (eff := [(2, some (.box [.ref 74 1 0 v5.length (some uC)])), (58, none), (74, some (.arr 5 1 true (v5.map (D.int .u8))))]) (nw := (74, 90)) (r := .tuple []) rfl rfl rfl rfl rfl (zda 74 (zag 20001 58 (zag 20000 2 (zh5 a0.Message.Body v4 v5 hv5)))) (fun id b h => zak [2, 58] _ id b h) (by simp) (.inr ⟨Nat.le_of_ble_eq_true rfl, Nat.le_of_ble_eq_true rfl⟩) ?_
   refine .nil ⟨nofun, ?_⟩
   refine ⟨_, ?_, (Option.some.inj hx1).symm⟩
   exact .m [3] [2, 74] [(74, 3)]
  ·replace hx1 := zaa hx1 hc1
   refine .seq ?_
   refine .pl Try.S [1, 3, 4, 5, 14] ?_
   refine .cond rfl rfl (fun hc2 => ?_) (fun hc2 => ?_)
   ·replace hx1 := za2 hx1 hc2
    refine .goes (.boxs 2 _ [.ref 1 1 0 1 (some uC)] rfl (.cons (.unk _ _ _ _ _) (.refl _)) .refl) ?_
    obtain ⟨v6, hv6, hx1⟩ := bind_some hx1
    refine .rg Try.S [1, 3, 4] ?_
    refine .rn 6 ?_
    refine .hcall (H := [(3, .arr 3 1 true ([a0.Id, a0.Time].map (D.int .i64))), (2, .box [.ref 1 1 0 1 (some uC)]), (1, .arr 5 1 true ([a0.Kind].map (D.int .u8)))]) (eff := [(3, none), (2, some (.box [.ref 4 1 0 v6.length (some uC)])), (1, none), (4, some (.arr 5 1 true (v6.map (D.int .u8))))]) (nw := (4, 20)) (r := .tuple []) rfl rfl rfl rfl rfl (zda 4 (zag 20002 1 (zag 20001 2 (zag 20000 3 (zir (.cons (.unk 20000 1 0 2 (some 2)) (.refl _)) (zd9 [a0.Id, a0.Time] [a0.Kind] v6 hv6)))))) (fun id b h => zak [3, 2, 1] _ id b h) (by simp) (.inr ⟨Nat.le_of_ble_eq_true rfl, Nat.le_of_ble_eq_true rfl⟩) ?_
    refine .nil ⟨nofun, ?_⟩
    refine ⟨_, ?_, (Option.some.inj hx1).symm⟩
    exact .m [3] [2, 4] [(4, 3)]
   ·replace hx1 := zaa hx1 hc2
    refine .seq ?_
    refine .pl Try.S [1, 3, 4, 5, 14] ?_
    refine .cond rfl rfl (fun hc3 => ?_) (fun hc3 => ?_)
    ·replace hx1 := za2 hx1 hc3
     refine .goes (.boxs 2 _ [.ref 1 1 0 1 (some uC)] rfl (.cons (.unk _ _ _ _ _) (.refl _)) .refl) ?_
     obtain ⟨v7, hv7, hx1⟩ := bind_some hx1
     refine .rg Try.S [1, 3, 5] ?_
     refine .rn 3 ?_
     refine .hcall (H := [(2, .box [.ref 1 1 0 1 (some uC)]), (1, .arr 5 1 true ([a0.Kind].map (D.int .u8)))]) (eff := [(2, some (.box [.ref 3 1 0 v7.length (some uC)])), (1, none), (3, some (.arr 5 1 true (v7.map (D.int .u8))))]) (nw := (3, 24)) (r := .tuple []) rfl rfl rfl rfl rfl (zda 3 (zag 20001 1 (zag 20000 2 (zh6 a0.Members [a0.Kind] v7 hv7)))) (fun id b h => zak [2, 1] _ id b h) (by simp) (.inr ⟨Nat.le_of_ble_eq_true rfl, Nat.le_of_ble_eq_true rfl⟩) ?_
     refine .nil ⟨nofun, ?_⟩
     refine ⟨_, ?_, (Option.some.inj hx1).symm⟩
     exact .m [3] [2, 3] []
    ·replace hx1 := zaa hx1 hc3
     refine .seq ?_
     refine .pl Try.S [1, 3, 4, 14] ?_
     refine .cond rfl rfl (fun hc4 => ?_) (fun hc4 => ?_)
     ·replace hx1 := za2 hx1 hc4
      refine .goes (.boxs 2 _ [.ref 1 1 0 1 (some uC)] rfl (.cons (.unk _ _ _ _ _) (.refl _)) .refl) ?_
      obtain ⟨v8, hv8, hx1⟩ := bind_some hx1
      refine .rg Try.S [1, 3, 4] ?_
      refine .rn 6 ?_
      refine .rn 4 ?_
      refine .hcall (H := [(3, .arr 3 1 true ([a0.Id, a0.Topic, a0.Who, a0.N].map (D.int .i64))), (2, .box [.ref 1 1 0 1 (some uC)]), (1, .arr 5 1 true ([a0.Kind].map (D.int .u8)))]) (eff := [(3, none), (2, some (.box [.ref 4 1 0 v8.length (some uC)])), (1, none), (4, some (.arr 5 1 true (v8.map (D.int .u8))))]) (nw := (4, 20)) (r := .tuple []) rfl rfl rfl rfl rfl (zda 4 (zag 20002 1 (zag 20001 2 (zag 20000 3 (zir (.cons (.unk 20000 1 0 4 (some 4)) (.refl _)) (zd9 [a0.Id, a0.Topic, a0.Who, a0.N] [a0.Kind] v8 hv8)))))) (fun id b h => zak [3, 2, 1] _ id b h) (by simp) (.inr ⟨Nat.le_of_ble_eq_true rfl, Nat.le_of_ble_eq_true rfl⟩) ?_
      refine .nil ⟨nofun, ?_⟩
      refine ⟨_, ?_, (Option.some.inj hx1).symm⟩
      exact .m [3] [2, 4] [(4, 3)]
     ·replace hx1 := zaa hx1 hc4
      obtain ⟨x2, hx2, hx1⟩ := bind_some hx1
      refine .seqM 3 (fun (j : Bool) => Try.St_command_text_3 a0 j) (fun j => x2 = j) (Nat.le_of_ble_eq_true rfl) ?_ ?_
      ·refine .seq ?_
       refine .pl Try.S [1, 3, 4, 14] ?_
       refine .cond rfl rfl (fun hc5 => ?_) (fun hc5 => ?_)
       ·replace hx2 := za2 hx2 hc5
        refine .skip ?_
        refine ⟨_, ?_, (Option.some.inj hx2).symm⟩
        refine Goes.boxs 2 _ [.ref 1 1 0 1 (some uC)] rfl (.cons (.unk _ _ _ _ _) (.refl _)) ?_
        exact .m [1, 3, 4, 72] [0, 2, 1] [(1, 3)]
       ·replace hx2 := zaa hx2 hc5
        refine .pl Try.S [1, 3, 4, 14] ?_
        refine ⟨_, ?_, (Option.some.inj hx2).symm⟩
        refine Goes.boxs 2 _ [.ref 1 1 0 1 (some uC)] rfl (.cons (.unk _ _ _ _ _) (.refl _)) ?_
        exact .m [1, 3, 4, 72] [0, 2, 1] [(1, 3)]
      ·rintro b1 hj1
       subst x2
       try dsimp only at hx1
       simp only [Try.St_command_text_3]
       refine .cond rfl rfl (fun hc6 => ?_) (fun hc6 => ?_)
       ·replace hx1 := za2 hx1 hc6
        obtain ⟨v9, hv9, hx1⟩ := bind_some hx1
        refine .rg Try.S [1, 3, 4] ?_
        refine .rn 8 ?_
        refine .hcall (H := [(4, .arr 3 1 true ([a0.Id, a0.Topic, a0.N].map (D.int .i64))), (2, .box [.ref 3 1 0 ([a0.Kind].length) (some uC)]), (3, .arr 5 1 true ([a0.Kind].map (D.int .u8)))]) (eff := [(4, none), (2, some (.box [.ref 5 1 0 v9.length (some uC)])), (3, none), (5, some (.arr 5 1 true (v9.map (D.int .u8))))]) (nw := (5, 21)) (r := .tuple []) rfl rfl rfl rfl rfl (zda 5 (zag 20002 3 (zag 20001 2 (zag 20000 4 (zir (.cons (.unk 20000 1 0 3 (some 3)) (.refl _)) (zd9 [a0.Id, a0.Topic, a0.N] [a0.Kind] v9 hv9)))))) (fun id b h => zak [4, 2, 3] _ id b h) (by simp) (.inr ⟨Nat.le_of_ble_eq_true rfl, Nat.le_of_ble_eq_true rfl⟩) ?_
        refine .nil ⟨nofun, ?_⟩
        refine ⟨_, ?_, (Option.some.inj hx1).symm⟩
        exact .m [3] [2, 5] [(5, 3)]
       ·replace hx1 := zaa hx1 hc6
        refine .skip ?_
        refine ⟨_, ?_, (Option.some.inj hx1).symm⟩
        exact .m [3] [2, 3] []
 ·rintro l1 hj2
  subst x1
  try dsimp only at h
  simp only [Try.St_command_text_1]
  refine .seq ?_
  refine .pl Try.S [3] ?_
  have hq := Option.some.inj h
  subst r
  exact .ret ⟨.inr rfl, rsi⟩
theorem zkv (a0 : TCommand) (r : (List UInt8) × Int) (h : zft a0 = some r) : CallP Try.prog 26 [.agg [.int .u8 a0.Kind, .int .i64 a0.Message.Id, .imm 1 (a0.Message.Groups.map (D.int .i64)) 4, .int .i64 a0.Message.Topic, .str a0.Message.Key, .str a0.Message.Body, .int .i64 a0.Id, .int .i64 a0.Time, .imm 1 (a0.Members.map (D.int .i64)) 4, .int .i64 a0.Topic, .int .i64 a0.Who, .int .i64 a0.N]] (.tuple [.str r.1, .int .i64 r.2]) := by
 refine za9 Try.tmOk 3 Try.func26 rfl (by decide) rfl rfl (Nat.le_of_ble_eq_true rfl) ?_
 intro hwf
 unfold zft at h
 refine .seq ?_
 refine .pl Try.S [0] ?_
 refine .seq ?_
 refine .seq ?_
 obtain ⟨v1, hv1, h⟩ := bind_some h
 refine .rg Try.S [1] ?_
 refine .rn 1 ?_
 refine .call (r := .int .i64 v1) rfl rfl rfl rfl rfl rfl (zfd a0 v1 hv1) ?_
 refine .rn 1 ?_
 refine .nil ⟨nofun, ?_⟩
 refine .seq ?_
 refine .pl Try.S [1, 4] ?_
 refine .cond rfl rfl (fun hc1 => ?_) (fun hc1 => ?_)
 ·replace h := za2 h hc1
  refine .seq ?_
  refine .pl Try.S [4] ?_
  have hq := Option.some.inj h
  subst r
  exact .ret ⟨.inr rfl, rsi⟩
 ·replace h := zaa h hc1
  refine .skip ?_
  refine .seq ?_
  obtain ⟨v2, hv2, h⟩ := bind_some h
  refine .rg Try.S [1] ?_
  refine .rn 1 ?_
  refine .call (r := .str v2) rfl rfl rfl rfl rfl rfl (zlv a0 v2 hv2) ?_
  refine .rn 2 ?_
  refine .nil ⟨nofun, ?_⟩
  have hq := Option.some.inj h
  subst r
  exact .ret ⟨.inr rfl, rsi⟩
theorem zet (a0 : Int) (a1 : Int) (r : (List UInt8)) (h : zcu a0 a1 = some r) : CallP Try.prog 10 [.int .i64 a0, .int .i64 a1] (.str r) := by
 refine za9 Try.tmOk 2 Try.func10 rfl (by decide) rfl rfl (Nat.le_of_ble_eq_true rfl) ?_
 intro hwf
 unfold zcu at h
 refine .seq ?_
 refine .pl Try.S [0, 1] ?_
 refine .seq ?_
 obtain ⟨v1, hv1, h⟩ := bind_some h
 refine .rg Try.S [0, 1] ?_
 refine .rn 3 ?_
 refine .call (r := .tuple [.str v1.1, .int .i64 v1.2]) rfl rfl rfl rfl rfl rfl (callP_wk (WkL.cons (Wk.agg (WkL.cons (Wk.refl _) (WkL.cons (Wk.refl _) (WkL.cons (Wk.nil4 0 1 0 rfl) (WkL.cons (Wk.refl _) (WkL.cons (Wk.refl _) (WkL.cons (Wk.refl _) (WkL.cons (Wk.refl _) (WkL.cons (Wk.refl _) (WkL.cons (Wk.nil4 0 1 0 rfl) (WkL.cons (Wk.refl _) (WkL.cons (Wk.refl _) (WkL.cons (Wk.refl _) (WkL.refl _)))))))))))))) (WkL.refl _)) (zkv (⟨2, (⟨0, [], 0, [], []⟩ : TMessage), a0, a1, [], 0, 0, 0⟩ : TCommand) v1 hv1)) ?_
 refine .rn 5 ?_
 refine .nil ⟨nofun, ?_⟩
 refine .seq ?_
 refine .pl Try.S [5] ?_
 have hq := Option.some.inj h
 subst r
 exact .ret ⟨.inr rfl, rsi⟩
def Try.St_towncrierlaw16_OrderFinal_1 (a0 : List (List (List UInt8))) (a1 : TMessage) (a2 : Int) (v2 : Int × Bool × Int) (v3 : Bool × Int) (b1 : Bool) : St := ⟨[(0, .imm 1 (a0.map dL_str) 4), (2, .int .i64 a2), (4, .ptr 0 0), (7, .bool true), (8, .int .i64 v2.1), (11, .bool v3.1), (13, .bool b1)], [(0, .box [.int .i64 a1.Id, .imm 1 (a1.Groups.map (D.int .i64)) 4, .int .i64 a1.Topic, .str a1.Key, .str a1.Body])], 1⟩
attribute [local go_sem] Try.St_towncrierlaw16_OrderFinal_1
def Try.St_towncrierlaw16_OrderFinal_3 (a0 : List (List (List UInt8))) (a1 : TMessage) (a2 : Int) (v2 : Int × Bool × Int) (v3 : Bool × Int) (n1 : Nat) (b2 : Bool) : St := ⟨[(0, .imm 1 (a0.map dL_str) 4), (2, .int .i64 a2), (4, .ptr 0 0), (7, .bool true), (8, .int .i64 v2.1), (11, .bool v3.1), (13, .bool b2), (14, .int .i64 (n1 : Int))], [(0, .box [.int .i64 a1.Id, .imm 1 (a1.Groups.map (D.int .i64)) 4, .int .i64 a1.Topic, .str a1.Key, .str a1.Body])], 1⟩
attribute [local go_sem] Try.St_towncrierlaw16_OrderFinal_3
def Try.St_towncrierlaw16_OrderFinal_5 (a0 : List (List (List UInt8))) (a1 : TMessage) (a2 : Int) (v2 : Int × Bool × Int) (v3 : Bool × Int) (n1 : Nat) (b3 : Bool) : St := ⟨[(0, .imm 1 (a0.map dL_str) 4), (2, .int .i64 a2), (4, .ptr 0 0), (7, .bool true), (8, .int .i64 v2.1), (11, .bool v3.1), (13, .bool b3), (14, .int .i64 (n1 : Int))], [(0, .box [.int .i64 a1.Id, .imm 1 (a1.Groups.map (D.int .i64)) 4, .int .i64 a1.Topic, .str a1.Key, .str a1.Body])], 1⟩
attribute [local go_sem] Try.St_towncrierlaw16_OrderFinal_5
def Try.St_towncrierlaw16_OrderFinal_7 (a0 : List (List (List UInt8))) (a1 : TMessage) (a2 : Int) (v2 : Int × Bool × Int) (v3 : Bool × Int) (n1 : Nat) (v4 : (List TStamp) × Int) (n2 : Nat) (b4 : Bool) : St := ⟨[(0, .imm 1 (a0.map dL_str) 4), (2, .int .i64 a2), (4, .ptr 0 0), (7, .bool true), (8, .int .i64 v2.1), (11, .bool v3.1), (13, .bool b4), (14, .int .i64 (n1 : Int)), (15, .imm 2 (v4.1.map TStamp.d) 12), (17, .int .i64 (n2 : Int))], [(0, .box [.int .i64 a1.Id, .imm 1 (a1.Groups.map (D.int .i64)) 4, .int .i64 a1.Topic, .str a1.Key, .str a1.Body])], 1⟩
attribute [local go_sem] Try.St_towncrierlaw16_OrderFinal_7
theorem zg8 (a0 : List (List (List UInt8))) (a1 : TMessage) (a2 : Int) (r : Bool) (h : zcl a0 a1 a2 = some r) : CallP Try.prog 3 [.imm 1 (a0.map dL_str) 4, .agg [.int .i64 a1.Id, .imm 1 (a1.Groups.map (D.int .i64)) 4, .int .i64 a1.Topic, .str a1.Key, .str a1.Body], .int .i64 a2] (.bool r) := by
 refine za9 Try.tmOk 5 Try.func3 rfl (by decide) rfl rfl (Nat.le_of_ble_eq_true rfl) ?_
 intro hwf
 unfold zcl at h
 refine .seq ?_
 refine .pl Try.S [0, 1, 2] ?_
 refine .seq ?_
 refine .rg Try.S [0, 2, 4] ?_
 refine .call (r := .bool true) rfl rfl rfl rfl rfl rfl Try.namesOD ?_
 refine .rn 1 ?_
 refine .nil ⟨nofun, ?_⟩
 refine .seq ?_
 refine .seq ?_
 refine .pl Try.S [0, 2, 4, 7] ?_
 refine .cond rfl rfl (fun hc => by cases hc) (fun hc => ?_)
 refine .skip ?_
 refine .seq ?_
 refine .seq ?_
 obtain ⟨v1, hv1, h⟩ := bind_some h
 refine .rg Try.S [0, 2, 4, 7] ?_
 refine .rn 1 ?_
 refine .call (r := .bool v1) rfl rfl rfl rfl rfl rfl (zhv a0 v1 hv1) ?_
 refine .rn 6 ?_
 refine .rn 6 ?_
 refine .rn 4 ?_
 refine .nil ⟨nofun, ?_⟩
 refine .cond rfl rfl (fun hc1 => ?_) (fun hc1 => ?_)
 ·replace h := za2 h hc1
  refine .seq ?_
  refine .pl Try.S [7] ?_
  have hq := Option.some.inj h
  subst r
  exact .ret ⟨.inr rfl, rsi⟩
 ·replace h := zaa h hc1
  refine .skip ?_
  refine .seq ?_
  obtain ⟨v2, hv2, h⟩ := bind_some h
  refine .rg Try.S [0, 2, 4, 7] ?_
  refine .rn 2 ?_
  refine .call (r := .tuple [.int .i64 v2.1, .bool v2.2.1, .int .i64 v2.2.2]) rfl rfl rfl rfl rfl rfl (zmo a0 a1 v2 hv2) ?_
  refine .rn 7 ?_
  refine .nil ⟨nofun, ?_⟩
  refine .seq ?_
  obtain ⟨v3, hv3, h⟩ := bind_some h
  refine .rg Try.S [0, 2, 4, 7, 8, 9, 10] ?_
  refine .rn 1 ?_
  refine .call (r := .tuple [.bool v3.1, .int .i64 v3.2]) rfl rfl rfl rfl rfl rfl (zi7 a0 v3 hv3) ?_
  refine .rn 5 ?_
  refine .nil ⟨nofun, ?_⟩
  refine .seq ?_
  refine .seq ?_
  refine .rg Try.S [0, 2, 4, 7, 8, 9, 10, 11, 12] ?_
  refine .rn 6 ?_
  refine .rn 4 ?_
  refine .nil ⟨nofun, ?_⟩
  refine .cond rfl rfl (fun hc2 => ?_) (fun hc2 => ?_)
  ·replace h := za2 h hc2
   refine .seq ?_
   refine .rg Try.S [7, 8, 10] ?_
   refine .rn 6 ?_
   refine .rn 4 ?_
   refine .nil ⟨nofun, ?_⟩
   have hq := Option.some.inj h
   subst r
   exact .ret ⟨.inr rfl, rsi⟩
  ·replace h := zaa h hc2
   refine .skip ?_
   refine .seq ?_
   refine .pl Try.S [0, 2, 4, 7, 8, 11] ?_
   obtain ⟨x1, hx1, h⟩ := bind_some h
   refine .seqM 1 (fun (j : Bool) => Try.St_towncrierlaw16_OrderFinal_1 a0 a1 a2 v2 v3 j) (fun j => x1 = (.inr j)) (Nat.le_of_ble_eq_true rfl) ?_ ?_
   ·refine .seq ?_
    refine .pl Try.S [0, 2, 4, 7, 8, 11, 13] ?_
    refine .block ?_
    refine .loopG 1 (fun (j : Nat × Bool) => Try.St_towncrierlaw16_OrderFinal_3 a0 a1 a2 v2 v3 j.1 j.2) (fun j => j.1 <= a1.Groups.length /\ zar a0 a1 v2 (a1.Groups.drop j.1) j.2 = some x1) (fun j => a1.Groups.length - j.1) (0, false) (Nat.le_of_ble_eq_true rfl) ?_ ⟨Nat.zero_le _, hx1⟩ ?_
    ·exact .m [0, 2, 4, 7, 8, 11, 13, 14] [0] []
    rintro ⟨n1, b2⟩ ⟨hi1, hx1⟩
    simp only [Try.St_towncrierlaw16_OrderFinal_3]
    simp only at hi1 hx1
    refine .wfb 0 [.int .i64 a1.Id, .imm 1 (a1.Groups.map (D.int .i64)) 4, .int .i64 a1.Topic, .str a1.Key, .str a1.Body] rfl ?_
    intro hln1
    replace hln1 : (a1.Groups.length : Int) <= 9223372036854775807 := by simp only [wf, wfL, IntKind.max, IntKind.min, IntKind.signed, IntKind.bits, List.length_map] at hln1; first | exact hln1.2 | exact hln1.1 | (simp at hln1; omega)
    refine .seq ?_
    refine .seq ?_
    refine .pl Try.S [0, 2, 4, 7, 8, 11, 13, 14] ?_
    refine .cond rfl rfl (fun hc3 => ?_) (fun hc3 => ?_)
    ·have h1 : n1 < a1.Groups.length := by simpa using hc3
     have hwn1 : wr .i64 ((n1 : Int) + 1) = ((n1 + 1 : Nat) : Int) := zd4 h1 hln1
     have hpn1 : wr .i64 ((n1 : Int) - 1) = (n1 : Int) - 1 := zd5 h1 hln1
     rw [List.drop_eq_getElem_cons h1, zar] at hx1
     refine .skip ?_
     obtain ⟨x2, hx2, hx1⟩ := bind_some hx1
     refine .seqM 1 (fun (j : Bool) => Try.St_towncrierlaw16_OrderFinal_5 a0 a1 a2 v2 v3 n1 j) (fun j => x2 = (.inr j)) (Nat.le_of_ble_eq_true rfl) ?_ ?_
     ·refine .block ?_
      refine .seq ?_
      refine .seq ?_
      have e1 := zcc (D.int .i64) a1.Groups n1 h1
      have e2 := zcc (D.int .i64) a1.Groups n1 h1
      refine .rg Try.S [0, 2, 4, 7, 8, 11, 13, 14] ?_
      refine .rnx 6 (And.intro e1 (And.intro e2 hwn1)) ?_
      refine .rnx 6 (And.intro e1 (And.intro e2 hwn1)) ?_
      refine .rnx 4 (And.intro e1 (And.intro e2 hwn1)) ?_
      refine .nil ⟨nofun, ?_⟩
      refine .cond rfl rfl (fun hc4 => ?_) (fun hc4 => ?_)
      ·replace hx2 := za2 hx2 hc4
       refine .seq ?_
       refine .plx Try.S hwn1 [] ?_
       have hq := Option.some.inj hx2
       subst x2
       try dsimp only at hx1
       have hq := Option.some.inj hx1
       subst x1
       try dsimp only at h
       have hq := Option.some.inj h
       subst r
       exact .ret ⟨.inr rfl, rsi⟩
      ·replace hx2 := zaa hx2 hc4
       refine .skip ?_
       refine .seq ?_
       obtain ⟨k1, hx2⟩ := zba hx2
       obtain ⟨v4, hv4, hx2⟩ := bind_some hx2
       have e3 := zcc (D.int .i64) a1.Groups n1 h1
       have e4 := zcc (D.int .i64) a1.Groups n1 h1
       have e5 := zcj dL_str a0 (a1.Groups[n1])
       replace e5 := e5 k1
       refine .rg Try.S [0, 2, 4, 7, 8, 11, 13, 14] ?_
       refine .rdx 6 (And.intro e3 (And.intro e4 (And.intro e5 hwn1))) ?_
       refine .rdx 7 (And.intro e3 (And.intro e4 (And.intro e5 hwn1))) ?_
       refine .call (r := .tuple [.imm 2 (v4.1.map TStamp.d) 12, .int .i64 v4.2]) rfl rfl rfl rfl rfl rfl (zmn (a1.Groups[n1]) (a0.getD (a1.Groups[n1]).toNat default) v4 hv4) ?_
       refine .rdx 5 (And.intro e3 (And.intro e4 (And.intro e5 hwn1))) ?_
       refine .nil ⟨fun _ => zbd (by kernel_rfl), ?_⟩
       refine .seq ?_
       refine .seq ?_
       refine .plx Try.S hwn1 [0, 2, 4, 7, 8, 11, 13, 14, 15, 16] ?_
       refine .cond rfl rfl (fun hc5 => ?_) (fun hc5 => ?_)
       ·replace hx2 := za2 hx2 hc5
        refine .seq ?_
        refine .plx Try.S hwn1 [] ?_
        have hq := Option.some.inj hx2
        subst x2
        try dsimp only at hx1
        have hq := Option.some.inj hx1
        subst x1
        try dsimp only at h
        have hq := Option.some.inj h
        subst r
        exact .ret ⟨.inr rfl, rsi⟩
       ·replace hx2 := zaa hx2 hc5
        refine .skip ?_
        refine .seq ?_
        refine .plx Try.S hwn1 [0, 2, 4, 7, 8, 11, 13, 14, 15] ?_
        refine .block ?_
        refine .loopG 1 (fun (j : Nat × Bool) => Try.St_towncrierlaw16_OrderFinal_7 a0 a1 a2 v2 v3 n1 v4 j.1 j.2) (fun j => j.1 <= v4.1.length /\ zal a1 v2 (v4.1.drop j.1) j.2 = some x2) (fun j => v4.1.length - j.1) (0, b2) (Nat.le_of_ble_eq_true rfl) ?_ ⟨Nat.zero_le _, hx2⟩ ?_
        ·exact .m [0, 2, 4, 7, 8, 11, 13, 14, 15, 17] [0] []
        rintro ⟨n2, b4⟩ ⟨hi2, hx2⟩
        simp only [Try.St_towncrierlaw16_OrderFinal_7]
        simp only at hi2 hx2
        refine .wf 15 (.imm 2 (v4.1.map TStamp.d) 12) rfl ?_
        intro hln2
        replace hln2 : (v4.1.length : Int) <= 9223372036854775807 := by simp only [wf, wfL, IntKind.max, IntKind.min, IntKind.signed, IntKind.bits, List.length_map] at hln2; first | exact hln2.2 | exact hln2.1 | (simp at hln2; omega)
        refine .seq ?_
        refine .seq ?_
        refine .plx Try.S hwn1 [0, 2, 4, 7, 8, 11, 13, 14, 15, 17] ?_
        refine .cond rfl rfl (fun hc6 => ?_) (fun hc6 => ?_)
        ·have h2 : n2 < v4.1.length := by simpa using hc6
         have hwn2 : wr .i64 ((n2 : Int) + 1) = ((n2 + 1 : Nat) : Int) := zd4 h2 hln2
         have hpn2 : wr .i64 ((n2 : Int) - 1) = (n2 : Int) - 1 := zd5 h2 hln2
         rw [List.drop_eq_getElem_cons h2, zal] at hx2
         refine .skip ?_
         refine .seq ?_
         refine .block ?_
         refine .seq ?_
         refine .seq ?_
         have e6 := zcc TStamp.d v4.1 n2 h2
         have e7 := zcc TStamp.d v4.1 n2 h2
         refine .rg Try.S [0, 2, 4, 7, 8, 11, 13, 14, 15, 17] ?_
         refine .rdx 6 (And.intro e6 (And.intro e7 (And.intro hwn1 hwn2))) ?_
         refine .rdx 6 (And.intro e6 (And.intro e7 (And.intro hwn1 hwn2))) ?_
         refine .rdx 5 (And.intro e6 (And.intro e7 (And.intro hwn1 hwn2))) ?_
         refine .nil ⟨fun _ => zbd (by kernel_rfl), ?_⟩
         refine .cond rfl rfl (fun hc7 => ?_) (fun hc7 => ?_)
         ·replace hx2 := za2 hx2 hc7
          refine .seq ?_
          refine .plx Try.S (And.intro hwn1 hwn2) [] ?_
          have hq := Option.some.inj hx2
          subst x2
          try dsimp only at hx1
          have hq := Option.some.inj hx1
          subst x1
          try dsimp only at h
          have hq := Option.some.inj h
          subst r
          exact .ret ⟨.inr rfl, rsi⟩
         ·replace hx2 := zaa hx2 hc7
          refine .skip ?_
          have e8 := zcc TStamp.d v4.1 n2 h2
          refine .rg Try.S [0, 2, 4, 7, 8, 11, 13, 14, 15, 17] ?_
          refine .rdx 6 (And.intro e8 (And.intro hwn1 hwn2)) ?_
          refine .rdx 7 (And.intro e8 (And.intro hwn1 hwn2)) ?_
          refine .nil ⟨fun _ => zbd (by kernel_rfl), ?_⟩
          refine .plx Try.S (And.intro hwn1 hwn2) [0, 2, 4, 7, 8, 11, 13, 14, 15, 17] ?_
          refine ⟨(n2 + 1, _), ?_, ⟨by omega, hx2⟩, by dsimp only; omega⟩
          exact .m [0, 2, 4, 7, 8, 11, 13, 14, 15, 17] [0] []
        ·have h3 : n2 = v4.1.length := by have h3b := of_decide_eq_false hc6; omega
         rw [List.drop_of_length_le (by omega), zal] at hx2
         refine .exit ?_
         refine ⟨_, ?_, (Option.some.inj hx2).symm⟩
         exact .m [0, 2, 4, 7, 8, 11, 13, 14] [0] []
     ·rintro b3 hj1
      subst x2
      try dsimp only at hx1
      simp only [Try.St_towncrierlaw16_OrderFinal_5]
      refine .plx Try.S hwn1 [0, 2, 4, 7, 8, 11, 13, 14] ?_
      refine ⟨(n1 + 1, _), ?_, ⟨by omega, hx1⟩, by dsimp only; omega⟩
      exact .m [0, 2, 4, 7, 8, 11, 13, 14] [0] []
    ·have h4 : n1 = a1.Groups.length := by have h4b := of_decide_eq_false hc3; omega
     rw [List.drop_of_length_le (by omega), zar] at hx1
     refine .exit ?_
     refine ⟨_, ?_, (Option.some.inj hx1).symm⟩
     exact .m [0, 2, 4, 7, 8, 11, 13] [0] []
   ·rintro b1 hj2
    subst x1
    try dsimp only at h
    simp only [Try.St_towncrierlaw16_OrderFinal_1]
    refine .seq ?_
    obtain ⟨k2, h⟩ := zba h
    refine .seqM 1 (fun (_ : Unit) => ⟨[(0, .imm 1 (a0.map dL_str) 4), (2, .int .i64 a2), (4, .ptr 0 0), (7, .bool true), (8, .int .i64 v2.1), (13, .bool b1), (170, .bool ((((decide (a2 < 0)) || (decide (a2 >= (a0.length : Int)))) || (!v3.1)) || (decide (((a0.getD a2.toNat default).length : Int) >= 200))))], [(0, .box [.int .i64 a1.Id, .imm 1 (a1.Groups.map (D.int .i64)) 4, .int .i64 a1.Topic, .str a1.Key, .str a1.Body])], 1⟩) (fun _ => True) (Nat.le_of_ble_eq_true rfl) ?_ (fun _ _ => ?_)
    ·by_cases hgd : ¬ (((a2 < 0) \/ (a2 >= (a0.length : Int))) \/ (¬ (v3.1 = true)))
     ·have eg10 := zcj dL_str a0 a2 (k2 hgd)
      refine .rg Try.S [0, 2, 4, 7, 8, 11, 13] ?_
      refine .rnx 6 eg10 ?_
      refine .rnx 6 eg10 ?_
      refine .rnx 8 eg10 ?_
      refine .nil ⟨nofun, ?_⟩
      refine ⟨(), ?_, trivial⟩
      exact .m [0, 2, 4, 7, 8, 13, 170] [0] []
     ·have hgf1 : (!(((decide (a2 < 0)) || (decide (a2 >= (a0.length : Int)))) || (!v3.1))) = false := by first | simpa using hgd | (simp at hgd ⊢; omega) | grind
      have hgf1t : (((decide (a2 < 0)) || (decide (a2 >= (a0.length : Int)))) || (!v3.1)) = true := by first | simpa using hgf1 | grind
      rcases nth_or dL_str a0 a2.toNat with eg10 | eg10
      ·refine .rg Try.S [0, 2, 4, 7, 8, 11, 13] ?_
       refine .rnx 6 (And.intro eg10 (And.intro hgf1 hgf1t)) ?_
       refine .rnx 6 (And.intro eg10 (And.intro hgf1 hgf1t)) ?_
       refine .rnx 8 (And.intro eg10 (And.intro hgf1 hgf1t)) ?_
       refine .nil ⟨nofun, ?_⟩
       refine ⟨(), ?_, trivial⟩
       exact .mx (And.intro hgf1 hgf1t) [0, 2, 4, 7, 8, 13, 170] [0] []
      ·refine .rg Try.S [0, 2, 4, 7, 8, 11, 13] ?_
       refine .rnx 6 (And.intro eg10 (And.intro hgf1 hgf1t)) ?_
       refine .rnx 6 (And.intro eg10 (And.intro hgf1 hgf1t)) ?_
       refine .rnx 8 (And.intro eg10 (And.intro hgf1 hgf1t)) ?_
       refine .nil ⟨nofun, ?_⟩
       refine ⟨(), ?_, trivial⟩
       exact .mx (And.intro hgf1 hgf1t) [0, 2, 4, 7, 8, 13, 170] [0] []
    refine .cond rfl rfl (fun hc8 => ?_) (fun hc8 => ?_)
    ·replace h := za2 h hc8
     refine .seq ?_
     refine .pl Try.S [7, 13] ?_
     have hq := Option.some.inj h
     subst r
     exact .ret ⟨.inr rfl, rsi⟩
    ·replace h := zaa h hc8
     refine .skip ?_
     refine .seq ?_
     refine .pl Try.S [0, 2, 4, 7, 8, 13] ?_
     obtain ⟨k3, h⟩ := zba h
     refine .seqM 1 (fun (_ : Unit) => ⟨[(0, .imm 1 (a0.map dL_str) 4), (2, .int .i64 a2), (4, .ptr 0 0), (7, .bool true), (8, .int .i64 v2.1), (13, .bool b1), (18, .ref 1 1 0 a0.length (some uC))], [(0, .box [.int .i64 a1.Id, .imm 1 (a1.Groups.map (D.int .i64)) 4, .int .i64 a1.Topic, .str a1.Key, .str a1.Body]), (1, .arr 36 1 true (a0.map dL_str))], 2⟩) (fun _ => True) (Nat.le_of_ble_eq_true rfl) ?_ (fun _ _ => ?_)
     ·rcases zih a0 with hE1 | ⟨y, ys, hE1⟩
      ·have hM1 : a0.map dL_str = [] := by rw [hE1]; simp
       refine .plain Try.tmOk Try.tmMixed [0, 2, 4, 7, 8, 13, 18] (by decide +kernel) (by intro q hq; simp only [go_sem, Nat.reduceSub, Int.reduceEq, Nat.reduceLT, Nat.reduceDiv, Nat.reduceAdd, Nat.reduceBEq, Nat.reduceLeDiff, reduceCtorEq, Nat.reduceEqDiff, Nat.reduceMod, Nat.reduceMul, Try.tm_22, zhu hM1]; exact hq) (by first | rfl | (simp only [go_sem, Nat.reduceLeDiff]; done) | (simp only [go_sem, Nat.reduceLeDiff]; rfl) | (simp; done) | (simp [oneD] <;> omega) | (simp_all; done) | (simp_all [oneD] <;> omega)) (by first | exact Nat.le_refl _ | exact Nat.le_of_ble_eq_true rfl | (dsimp only; omega) | (simp <;> omega)) ?_
       refine ⟨(), ?_, trivial⟩
       refine Goes.new0 1 36 (Nat.le_of_ble_eq_true rfl) ?_
       refine Goes.wk 18 _ (.ref 1 1 0 0 (some uC)) rfl (.own0 1 _ _ _ (by decide)) ?_
       exact .mx hE1 [0, 2, 4, 7, 8, 13, 18] [0, 1] []
      ·have hM1 : a0.map dL_str ≠ [] := by rw [hE1]; simp
       refine .plain Try.tmOk Try.tmMixed [0, 2, 4, 7, 8, 13, 18] (by decide +kernel) (by intro q hq; simp only [go_sem, Nat.reduceSub, Int.reduceEq, Nat.reduceLT, Nat.reduceDiv, Nat.reduceAdd, Nat.reduceBEq, Nat.reduceLeDiff, reduceCtorEq, Nat.reduceEqDiff, Nat.reduceMod, Nat.reduceMul, Try.tm_22, zgw hM1]; exact hq) (by first | rfl | (simp only [go_sem, Nat.reduceLeDiff]; done) | (simp only [go_sem, Nat.reduceLeDiff]; rfl) | (simp; done) | (simp [oneD] <;> omega) | (simp_all; done) | (simp_all [oneD] <;> omega)) (by first | exact Nat.le_refl _ | exact Nat.le_of_ble_eq_true rfl | (dsimp only; omega) | (simp <;> omega)) ?_
       refine ⟨(), ?_, trivial⟩
       refine Goes.wk 18 _ (.ref 1 1 0 a0.length (some uC)) rfl (.unk _ _ _ _ _) ?_
       exact .mx hE1 [0, 2, 4, 7, 8, 13, 18] [0, 1] []
     obtain ⟨k4, h⟩ := zba h
     obtain ⟨k5, h⟩ := zba h
     obtain ⟨v5, hv5, h⟩ := bind_some h
     have eg := zcj dL_str a0 a2 k4
     refine .seqM 2 (fun (_ : Unit) => ⟨[(0, .imm 1 (a0.map dL_str) 4), (2, .int .i64 a2), (4, .ptr 0 0), (7, .bool true), (8, .int .i64 v2.1), (13, .bool b1), (18, .ref 1 1 0 a0.length (some uC))], [(0, .box [.int .i64 a1.Id, .imm 1 (a1.Groups.map (D.int .i64)) 4, .int .i64 a1.Topic, .str a1.Key, .str a1.Body]), (1, .arr 36 1 true (setN (a0.map dL_str) a2.toNat (.imm 1 (((a0.getD a2.toNat default) ++ [v5]).map D.str) 4)))], 3⟩) (fun _ => True) (Nat.le_of_ble_eq_true rfl) ?_ (fun _ _ => ?_)
     ·rcases zih (a0.getD a2.toNat default) with hE | ⟨y, ys, hE⟩
      ·have hM : (a0.getD a2.toNat default).map D.str = [] := by rw [hE]; simp
       refine .rg Try.S [0, 2, 4, 7, 8, 13, 18] ?_
       refine .rdx 6 (And.intro eg k4) ?_
       refine .rdx 4 eg (h := by intro x q hq; simp only [go_sem, zhu hM, Nat.reduceSub, Int.reduceEq, Nat.reduceLT, Nat.reduceDiv, Nat.reduceAdd, Nat.reduceBEq, Nat.reduceLeDiff, reduceCtorEq, Nat.reduceEqDiff, Nat.reduceMod, Nat.reduceMul, x]; exact hq) ?_
       refine .call (r := .str v5) rfl rfl rfl rfl rfl rfl (zet a1.Id v2.1 v5 hv5) ?_
       refine .rdx 2 eg ?_
       refine .rdx 2 (And.intro eg k4) ?_
       refine .nil ⟨fun _ => zbd (by kernel_rfl), ?_⟩
       have hI : (a0.getD a2.toNat default ++ [v5]).map D.str = [D.str v5] := by rw [hE]; rfl
       refine ⟨(), ?_, trivial⟩
       refine Goes.giva 1 (setN (a0.map dL_str) a2.toNat (.ref 3 1 0 1 none)) (setN (a0.map dL_str) a2.toNat (.imm 1 ((a0.getD a2.toNat default ++ [v5]).map D.str) 4)) [0, 1] rfl rfl (GvEs.setN dL_str (fun x => ⟨_, _, _, rfl⟩) (.inr ⟨3, 1, 1, none, 9, [D.str v5], rfl, rfl, rfl, ?_, by rw [hI]⟩) a0 a2.toNat) (by simp [setN]) ?_ ?_
       ·exact rfl
       ·intro i hi
        have := idsL_setN dL_str (fun _ => rfl) _ a0 a2.toNat i hi
        simp only [D.ids, List.mem_singleton] at this
        subst this
        rfl
       ·exact .m [0, 2, 4, 7, 8, 13, 18] [0, 1] []
      ·have hM : (a0.getD a2.toNat default).map D.str ≠ [] := by rw [hE]; simp
       refine .rg Try.S [0, 2, 4, 7, 8, 13, 18] ?_
       refine .rdx 6 (And.intro eg k4) ?_
       refine .rdx 4 eg (h := by intro x q hq; simp only [go_sem, zgw hM, Nat.reduceSub, Int.reduceEq, Nat.reduceLT, Nat.reduceDiv, Nat.reduceAdd, Nat.reduceBEq, Nat.reduceLeDiff, reduceCtorEq, Nat.reduceEqDiff, Nat.reduceMod, Nat.reduceMul, x]; exact hq) ?_
       refine .call (r := .str v5) rfl rfl rfl rfl rfl rfl (zet a1.Id v2.1 v5 hv5) ?_
       have hl : (a0.getD a2.toNat default).length < 200 := by
        simp only [Bool.or_eq_false_iff, decide_eq_false_iff_not] at hc8
        omega
       refine .rdx 2 eg ?_ (hv := by simp at hl ⊢; omega)
       refine .rdx 2 (And.intro eg k4) ?_
       refine .nil ⟨fun _ => zbd (by kernel_rfl), ?_⟩
       have hI : (a0.getD a2.toNat default ++ [v5]).map D.str = ((a0.getD a2.toNat default).map D.str ++ [D.str v5]) := by rw [List.map_append]; rfl
       refine ⟨(), ?_, trivial⟩
       refine Goes.giva 1 (setN (a0.map dL_str) a2.toNat (.ref 4 1 0 ((a0.getD a2.toNat default).length + 1) none)) (setN (a0.map dL_str) a2.toNat (.imm 1 ((a0.getD a2.toNat default ++ [v5]).map D.str) 4)) [0, 1] rfl rfl (GvEs.setN dL_str (fun x => ⟨_, _, _, rfl⟩) (.inr ⟨4, 1, ((a0.getD a2.toNat default).length + 1), none, 9, ((a0.getD a2.toNat default).map D.str ++ [D.str v5]), rfl, rfl, by simp, ?_, by rw [hI]⟩) a0 a2.toNat) (by simp [setN]) ?_ ?_
       ·exact plL_strs _ _
       ·intro i hi
        have := idsL_setN dL_str (fun _ => rfl) _ a0 a2.toNat i hi
        simp only [D.ids, List.mem_singleton] at this
        subst this
        rfl
       ·exact .m [0, 2, 4, 7, 8, 13, 18] [0, 1] []
     refine .arr 1 (setN (a0.map dL_str) a2.toNat (.imm 1 (((a0.getD a2.toNat default) ++ [v5]).map D.str) 4)) ((a0.set a2.toNat ((a0.getD a2.toNat default) ++ [v5])).map dL_str) rfl (.set _ _ _ (.refl _)) ?_
     refine .seq ?_
     obtain ⟨v6, hv6, h⟩ := bind_some h
     refine .rg Try.S [7, 13, 18] ?_
     refine .rn 1 ?_
     refine .lcall (r := .tuple [.bool v6.1, .int .i64 v6.2]) [] rfl rfl rfl rfl rfl (za5 (lend2_of (zi3 pl_dL_str (by first | rfl | (simp only [go_sem, Nat.reduceBEq]; rfl)) (by first | rfl | (simp; done) | (simp <;> omega))) trivial) zau) rfl (zi7 (a0.set a2.toNat ((a0.getD a2.toNat default) ++ [v5])) v6 hv6) ?_
     refine .rn 5 ?_
     refine .nil ⟨nofun, ?_⟩
     refine .seq ?_
     refine .rg Try.S [7, 13, 19, 20] ?_
     refine .rn 6 ?_
     refine .rn 6 ?_
     refine .nil ⟨nofun, ?_⟩
     have hq := Option.some.inj h
     subst r
     exact .ret ⟨.inr rfl, rsi⟩
end Go.Proofs
end
section
namespace Go.Proofs
open Go.Tm
def zji : Int -> List Int -> Bool
 | _, [] => true
 | last, n :: r => decide (last < n) && decide (n < 6) && zji n r
end Go.Proofs
end
section
namespace Go.Proofs
open Go.Tm
set_option linter.unusedSimpArgs false
set_option linter.unusedVariables false
theorem index_loop (v : Int) (l : List Int) : ∀ n : Nat, (v ∈ l -> ∃ k : Nat, zax v l n = some (.inl (k : Int))) /\ (v ∉ l -> zax v l n = some (.inr ())) := by
 induction l with
 | nil => intro n; exact ⟨(fun h => by cases h), fun _ => rfl⟩
 | cons y l ih =>
  intro n
  rw [zax]
  by_cases h : v = y
  ·rw [if_pos h]
   exact ⟨fun _ => ⟨n, rfl⟩, fun hn => absurd (h ▸ List.mem_cons_self) hn⟩
  ·rw [if_neg h]
   refine ⟨fun hv => (ih (n + 1)).1 ?_, fun hv => (ih (n + 1)).2 fun hh => hv (List.mem_cons_of_mem _ hh)⟩
   rcases List.mem_cons.1 hv with hv | hv
   ·exact absurd hv h
   ·exact hv
theorem contains_eq (l : List Int) (v : Int) : zc8 l v = some (decide (v ∈ l)) := by
 rw [zc8, zdh]
 by_cases h : v ∈ l
 ·obtain ⟨k, hk⟩ := (index_loop v l 0).1 h
  rw [hk]
  simp [h]
 ·rw [(index_loop v l 0).2 h]
  simp [h]
theorem rises_lt : ∀ (l : List Int) (k : Int), zji k l = true -> ∀ x ∈ l, k < x /\ x < 6 := by
 intro l
 induction l with
 | nil => intro _ _ x hx; cases hx
 | cons y l ih =>
  intro k h x hx
  simp only [zji, Bool.and_eq_true, decide_eq_true_eq] at h
  rcases List.mem_cons.1 hx with rfl | hx
  ·exact h.1
  ·have := ih y h.2 x hx
   omega
theorem qcheck_loop (l : List Int) : ∀ n, zbl l n = some (if zji n l = true then .inr (l.getLastD n) else .inl 60) := by
 induction l with
 | nil => intro n; simp [zbl, zji]
 | cons y l ih =>
  intro n
  rw [zbl]
  by_cases h : (y <= n) \/ (y >= 6)
  ·rw [if_pos h, if_neg (by simp only [zji, Bool.and_eq_true, decide_eq_true_eq]; omega)]
  ·rw [if_neg h, ih]
   have : zji n (y :: l) = zji y l := by
    simp only [zji]
    have h1 : decide (n < y) = true := by simp; omega
    have h2 : decide (y < 6) = true := by simp; omega
    simp [h1, h2]
   rw [this, List.getLastD_cons]
def qerr (l : List Int) : Int := if l.length > 6 then 4 else if zji (-1) l = true /\ l ≠ [] then 0 else 60
theorem qcheck_eq (l : List Int) : zf1 l = some (qerr l) := by
 rw [zf1]
 unfold qerr
 by_cases h : (l.length : Int) > 6
 ·rw [if_pos h, if_pos (by omega)]
 ·rw [if_neg h, if_neg (by omega), qcheck_loop]
  by_cases hr : zji (-1) l = true
  ·rw [if_pos hr]
   cases l with
   | nil => simp
   | cons y l =>
    have hl := (rises_lt (y :: l) (-1) hr ((y :: l).getLastD (-1)) (by rw [List.getLastD_eq_getLast?, List.getLast?_eq_some_getLast (by simp)]; exact List.getLast_mem (by simp))).1
    simp only [Option.bind_some, ne_eq, reduceCtorEq, not_false_eq_true, and_true, if_pos hr]
    rw [if_neg (by omega)]
  ·rw [if_neg hr]
   simp [hr]
theorem equal_loop (b : List Int) : ∀ (l : List Int) (n : Nat), n + l.length = b.length -> zay b l n = some (if l = b.drop n then .inr () else .inl false) := by
 intro l
 induction l with
 | nil => intro n h; simp [zay]; simp at h; omega
 | cons y l ih =>
  intro n h
  simp only [List.length_cons] at h
  have hn : n < b.length := by omega
  have hg : b.getD n default = b[n] := by simp [List.getD, List.getElem?_eq_getElem hn]
  have hd := List.drop_eq_getElem_cons hn
  rw [zay, if_pos hn, hg]
  generalize b[n] = z at hd
  rw [hd]
  by_cases hy : y = z
  ·rw [if_neg (by simpa using hy), ih (n + 1) (by omega)]
   simp only [hy, List.cons.injEq, true_and]
  ·rw [if_pos hy]
   simp only [hy, List.cons.injEq, false_and, if_false]
theorem equal_eq (a b : List Int) : zc7 a b = some (decide (a = b)) := by
 rw [zc7]
 by_cases h : (a.length : Int) = (b.length : Int)
 ·rw [if_neg (by simpa using h), equal_loop b a 0 (by omega), List.drop_zero]
  by_cases hab : a = b <;> simp [hab]
 ·rw [if_pos h]
  have : a ≠ b := fun hh => h (by rw [hh])
  simp [this]
theorem half_eq (i j : Nat) (h : i + j < 4000000) : wr .i64 (shw false .u64 (wr .u64 (wr .i64 ((i : Int) + (j : Int)))) 1) = (((i + j) / 2 : Nat) : Int) := by
 have e1 : wr .i64 ((i : Int) + (j : Int)) = (i : Int) + (j : Int) := wr_eq _ _ (by show (-9223372036854775808 : Int) <= _; omega) (by show _ <= (9223372036854775807 : Int); omega)
 have e2 : wr .u64 ((i : Int) + (j : Int)) = (i : Int) + (j : Int) := wr_eq _ _ (by show (0 : Int) <= _; omega) (by show _ <= (18446744073709551615 : Int); omega)
 have e3 : shw false .u64 ((i : Int) + (j : Int)) 1 = (((i + j) / 2 : Nat) : Int) := by
  unfold shw
  show Int.fdiv ((i : Int) + (j : Int)) 2 = _
  rw [Int.fdiv_eq_ediv_of_nonneg _ (by omega)]
  omega
 rw [e1, e2, e3]
 exact wr_eq _ _ (by show (-9223372036854775808 : Int) <= _; omega) (by show _ <= (9223372036854775807 : Int); omega)
end Go.Proofs
end
section
namespace Go.Proofs
open Go.Tm
set_option linter.unusedSimpArgs false
def stW (w : TWait) : TStamp := ⟨w.Time, w.Message.Id⟩
def ltS (a b : TStamp) : Prop := a.Time < b.Time \/ (a.Time = b.Time /\ a.Id < b.Id)
instance (a b : TStamp) : Decidable (ltS a b) := by unfold ltS; infer_instance
theorem ltS_trans {a b c : TStamp} (h : ltS a b) (k : ltS b c) : ltS a c := by unfold ltS at *; omega
theorem ltS_irrefl (a : TStamp) : ¬ ltS a a := by unfold ltS; omega
theorem ltS_total {a b : TStamp} (h : a.Id ≠ b.Id) (k : ¬ ltS b a) : ltS a b := by unfold ltS at *; omega
theorem or2 (x y : Int) : zgk [x, y] = some (if x = 0 then y else x) := by
 rw [zgk, zc6]
 by_cases hx : x = 0
 ·rw [if_neg (by simpa using hx), zc6, if_pos hx]
  by_cases hy : y = 0
  ·rw [if_neg (by simpa using hy), zc6]; simp [hy]
  ·rw [if_pos hy]; rfl
 ·rw [if_pos hx, if_neg hx]; rfl
theorem cmp_eq (x y : Int) : zde x y = some (if x < y then -1 else if x > y then 1 else 0) := by
 have e : ∀ z : Int, ze2 z = some false := fun z => by rw [ze2]; simp
 rw [zde, e, e]
 simp only [Option.bind_some, Bool.false_eq_true, if_false]
 split
 ·rfl
 ·split <;> rfl
theorem less_eq (a b : TStamp) : ze7 a b = some (decide (ltS a b)) := by
 rw [ze7, cmp_eq, cmp_eq]
 simp only [Option.bind_some, or2, Option.some.injEq, decide_eq_decide, ltS]
 by_cases h1 : a.Time < b.Time
 ·simp [h1]
 ·by_cases h2 : a.Time > b.Time
  ·simp [h1, h2]; omega
  ·have : a.Time = b.Time := by omega
   by_cases h3 : a.Id < b.Id
   ·simp [this, h3]
   ·by_cases h4 : a.Id > b.Id <;> simp [this, h3, h4]
theorem order_eq (a b : TWait) : zcm a b = some (if ltS (stW a) (stW b) then -1 else if ltS (stW b) (stW a) then 1 else 0) := by
 simp only [zcm, zdy, Option.bind_some, less_eq, decide_eq_true_eq]
 show (if ltS (stW a) (stW b) then _ else if ltS (stW b) (stW a) then _ else _) = _
 split
 ·rfl
 ·split <;> rfl
def minW : TWait -> List TWait -> TWait
 | m, [] => m
 | m, x :: l => minW (if ltS (stW x) (stW m) then x else m) l
theorem minW_mem : ∀ (l : List TWait) (m : TWait), minW m l = m \/ minW m l ∈ l := by
 intro l
 induction l with
 | nil => intro m; exact .inl rfl
 | cons x l ih =>
  intro m
  rw [minW]
  rcases ih (if ltS (stW x) (stW m) then x else m) with h | h
  ·rw [h]; split
   ·exact .inr (by simp)
   ·exact .inl rfl
  ·exact .inr (List.mem_cons_of_mem _ h)
theorem minW_le : ∀ (l : List TWait) (m : TWait), ¬ ltS (stW m) (stW (minW m l)) /\ ∀ x ∈ l, ¬ ltS (stW x) (stW (minW m l)) := by
 intro l
 induction l with
 | nil => intro m; exact ⟨ltS_irrefl _, by simp⟩
 | cons x l ih =>
  intro m
  rw [minW]
  obtain ⟨h1, h2⟩ := ih (if ltS (stW x) (stW m) then x else m)
  have key : ¬ ltS (stW m) (stW (minW (if ltS (stW x) (stW m) then x else m) l)) /\ ¬ ltS (stW x) (stW (minW (if ltS (stW x) (stW m) then x else m) l)) := by
   by_cases h : ltS (stW x) (stW m)
   ·rw [if_pos h] at h1 ⊢
    exact ⟨fun k => h1 (ltS_trans h k), h1⟩
   ·rw [if_neg h] at h1 ⊢
    refine ⟨h1, fun k => ?_⟩
    have := @ltS_trans
    unfold ltS at *; omega
  refine ⟨key.1, fun y hy => ?_⟩
  rcases List.mem_cons.1 hy with rfl | hy
  ·exact key.2
  ·exact h2 y hy
theorem min_loop (l : List TWait) (hl : l.length < 1000000) : ∀ (fu k : Nat) (m : TWait), l.length - k < fu -> k <= l.length ->
  zai l zcm fu m.Message.Id m.Message.Groups m.Message.Topic m.Message.Key m.Message.Body m.Time m.Final (k : Int)
   = some (let r := minW m (l.drop k); (r.Message.Id, r.Message.Groups, r.Message.Topic, r.Message.Key, r.Message.Body, r.Time, r.Final)) := by
 intro fu
 induction fu with
 | zero => intro k m h; omega
 | succ fu ih =>
  intro k m h hk
  rw [zai]
  by_cases hlt : k < l.length
  ·have hd := List.drop_eq_getElem_cons hlt
   have hg : l.getD (k : Int).toNat default = l[k] := by simp [List.getD, List.getElem?_eq_getElem hlt]
   have hw : wr .i64 ((k : Int) + 1) = ((k + 1 : Nat) : Int) := wr_eq _ _ (by show (-9223372036854775808 : Int) <= _; omega) (by show _ <= (9223372036854775807 : Int); omega)
   rw [if_pos (by omega), if_pos (by omega), hg, order_eq, hd, minW]
   show Option.bind (Option.bind (some (if ltS (stW l[k]) (stW m) then (-1 : Int) else if ltS (stW m) (stW l[k]) then 1 else 0)) _) _ = _
   simp only [Option.bind_some]
   by_cases hc : ltS (stW l[k]) (stW m)
   ·simp only [hc, if_true]
    rw [if_pos (by decide), if_pos (by omega)]
    simp only [Option.bind_some]
    rw [hw, ih (k + 1) l[k] (by omega) (by omega)]
   ·simp only [hc, if_false]
    rw [if_neg (by split <;> decide)]
    simp only [Option.bind_some]
    rw [hw, ih (k + 1) m (by omega) (by omega)]
  ·rw [if_neg (by omega), List.drop_of_length_le (by omega), minW]
theorem min_eq (y : TWait) (l : List TWait) (hl : l.length < 900000) : zbc (y :: l) zcm = some (minW y l) := by
 rw [zbc, if_neg (by simp; omega), if_pos (by simp)]
 have := min_loop (y :: l) (by simp; omega) ((y :: l).length + 1) 1 y (by simp; omega) (by simp)
 rw [show ((1 : Nat) : Int) = 1 from rfl] at this
 have e : (y :: l).getD 0 default = y := rfl
 rw [e, this]
 rfl
theorem minw_loop (l : List TWait) (f : TWait -> TWait -> Option Int) : ∀ (fu : Nat) (a : Int) (b : List Int) (c : Int) (d e : List UInt8) (g : Int) (h : Bool) (i : Int), zap l f fu a b c d e g h i = zai l f fu a b c d e g h i := by
 intro fu
 induction fu with
 | zero => intros; rfl
 | succ fu ih =>
  intros
  rw [zap, zai]
  simp only [ih]
theorem minw_eq (y : TWait) (l : List TWait) (hl : l.length < 900000) : zbp (y :: l) zcm = some (minW y l) := by
 rw [<- min_eq y l hl, zbp, zbc]
 simp only [minw_loop]
def IdOk (n : Int) : Prop := 0 <= n /\ n <= 6291455
def IdsUp (l : List TWait) : Prop := l.Pairwise fun a b => a.Message.Id < b.Message.Id
theorem find1 (w : TWait) (id : Int) (h1 : IdOk w.Message.Id) (h2 : IdOk id) : zc0 w id = some (w.Message.Id - id) := by
 rw [zc0]
 unfold IdOk at *
 rw [wr_eq _ _ (by show (-9223372036854775808 : Int) <= _; omega) (by show _ <= (9223372036854775807 : Int); omega)]
def plc (id : Int) : List TWait -> Nat
 | [] => 0
 | w :: l => if w.Message.Id < id then plc id l + 1 else 0
theorem plc_le (id : Int) : ∀ l, plc id l <= l.length := by
 intro l
 induction l with
 | nil => simp [plc]
 | cons w l ih => rw [plc]; split <;> simp <;> omega
theorem plc_lt (id : Int) : ∀ (l : List TWait), IdsUp l -> ∀ (x : Nat) (h : x < l.length), (l[x].Message.Id < id ↔ x < plc id l) := by
 intro l
 induction l with
 | nil => intro _ x h; simp at h
 | cons w l ih =>
  intro hu x h
  have hu' := List.pairwise_cons.1 hu
  rw [plc]
  cases x with
  | zero => simp only [List.getElem_cons_zero]; split <;> simp [*]
  | succ x =>
   simp only [List.getElem_cons_succ]
   have hx : x < l.length := by simpa using h
   have := ih hu'.2 x hx
   split
   ·rw [this]; omega
   ·rename_i hw
    have := hu'.1 l[x] (List.getElem_mem hx)
    constructor
    ·intro _; omega
    ·intro h; omega
theorem bs_loop (l : List TWait) (id : Int) (hl : l.length < 1000000) (hu : IdsUp l) (hi : ∀ w ∈ l, IdOk w.Message.Id) (h2 : IdOk id) : ∀ (fu i j : Nat), j - i < fu -> i <= plc id l -> plc id l <= j -> j <= l.length ->
  za7 l id zc0 fu (i : Int) (j : Int) = some ((plc id l : Nat) : Int) := by
 intro fu
 induction fu with
 | zero => intro i j h; omega
 | succ fu ih =>
  intro i j h h1 h3 h4
  rw [za7]
  by_cases hij : i < j
  ·have hm : (i + j) / 2 < l.length := by omega
   have hg : l.getD (((i + j) / 2 : Nat) : Int).toNat default = l[(i + j) / 2] := by rw [Int.toNat_natCast]; simp [List.getD, List.getElem?_eq_getElem hm]
   have e : wr .i64 ((((i + j) / 2 : Nat) : Int) + 1) = (((i + j) / 2 + 1 : Nat) : Int) := wr_eq _ _ (by show (-9223372036854775808 : Int) <= _; omega) (by show _ <= (9223372036854775807 : Int); omega)
   rw [if_pos (by omega), half_eq i j (by omega), if_pos ⟨by omega, by omega⟩, hg, find1 _ _ (hi _ (List.getElem_mem hm)) h2, e]
   simp only [Option.bind_some]
   have hp := plc_lt id l hu _ hm
   by_cases hc : l[(i + j) / 2].Message.Id < id
   ·rw [if_pos (by omega)]
    exact ih _ _ (by omega) (by have := hp.1 hc; omega) h3 h4
   ·rw [if_neg (by omega)]
    exact ih _ _ (by omega) h1 (by have : ¬ _ := fun k => hc (hp.2 k); omega) (by omega)
  ·rw [if_neg (by omega)]
   have : i = plc id l := by omega
   rw [this]
theorem plc_at (id : Int) (l : List TWait) (hu : IdsUp l) : (∃ w ∈ l, w.Message.Id = id) ↔ ∃ h : plc id l < l.length, l[plc id l].Message.Id = id := by
 constructor
 ·rintro ⟨w, hw, rfl⟩
  obtain ⟨x, hx, rfl⟩ := List.getElem_of_mem hw
  have h1 : ¬ x < plc l[x].Message.Id l := fun k => by have := (plc_lt _ l hu x hx).2 k; omega
  have h2 : plc l[x].Message.Id l <= x := by omega
  have h3 : plc l[x].Message.Id l < l.length := by omega
  refine ⟨h3, ?_⟩
  have h4 : ¬ l[plc l[x].Message.Id l].Message.Id < l[x].Message.Id := fun k => by have := (plc_lt _ l hu _ h3).1 k; omega
  rcases Nat.lt_or_eq_of_le h2 with h5 | h5
  ·have := List.pairwise_iff_getElem.1 hu _ _ h3 hx h5
   omega
  ·simp only [h5]
 ·rintro ⟨h, e⟩
  exact ⟨_, List.getElem_mem h, e⟩
theorem find_eq (c : Tskeen_clock) (id : Int) (hl : c.Skeen.Waits.length < 1000000) (hu : IdsUp c.Skeen.Waits) (hi : ∀ w ∈ c.Skeen.Waits, IdOk w.Message.Id) (h2 : IdOk id) :
  zcn c id = some (((plc id c.Skeen.Waits : Nat) : Int), decide (∃ w ∈ c.Skeen.Waits, w.Message.Id = id)) := by
 obtain ⟨⟨ck, l, dn⟩⟩ := c
 simp only at hl hu hi ⊢
 have hb := bs_loop l id hl hu hi h2 (l.length + 1) 0 l.length (by omega) (by omega) (plc_le id l) (by omega)
 rw [zcn, zbe]
 simp only
 have e0 : ((0 : Nat) : Int) = 0 := rfl
 rw [e0] at hb
 rw [hb]
 simp only [Option.bind_some]
 rw [if_pos (by intro h; omega)]
 have hp := plc_at id l hu
 by_cases hc : plc id l < l.length
 ·have hg : l.getD ((plc id l : Nat) : Int).toNat default = l[plc id l] := by rw [Int.toNat_natCast]; simp [List.getD, List.getElem?_eq_getElem hc]
  rw [if_pos (by omega), hg, find1 _ _ (hi _ (List.getElem_mem hc)) h2]
  simp only [Option.bind_some, Option.some.injEq, Prod.mk.injEq, true_and]
  rw [decide_eq_true (by omega : ((plc id l : Nat) : Int) < (l.length : Int)), Bool.true_and]
  by_cases hx : ∃ w ∈ l, w.Message.Id = id
  ·obtain ⟨h3, h4⟩ := hp.1 hx
   simp only [hx, decide_true]
   simp; omega
  ·simp only [hx, decide_false]
   have : ¬ l[plc id l].Message.Id = id := fun k => hx (hp.2 ⟨hc, k⟩)
   simp; omega
 ·rw [if_neg (by omega)]
  have : ¬ ∃ w ∈ l, w.Message.Id = id := fun k => hc (hp.1 k).1
  simp only [Option.bind_some, this, decide_false]
  rw [decide_eq_false (by omega), Bool.false_and]
theorem ixS_loop (f : TStamp -> Option Bool) (g : TStamp -> Bool) (hf : ∀ x, f x = some (g x)) (l : List TStamp) : ∀ n : Nat, (l.any g = true -> ∃ k : Nat, zah f l n = some (.inl (k : Int))) /\ (l.any g = false -> zah f l n = some (.inr ())) := by
 induction l with
 | nil => intro n; exact ⟨(fun h => by cases h), fun _ => rfl⟩
 | cons y l ih =>
  intro n
  rw [zah, hf, List.any_cons]
  cases hg : g y with
  | true => exact ⟨fun _ => ⟨n, by simp⟩, fun h => by cases h⟩
  | false => simpa using ih (n + 1)
theorem done_eq (c : Tskeen_clock) (id : Int) : zdn c id = some (c.Skeen.Done.any fun x => x.Id == id) := by
 rw [zdn, zbq, zc3]
 have hf : ∀ x : TStamp, (fun x0 => zd8 x0 id) x = some (x.Id == id) := fun x => rfl
 cases h : c.Skeen.Done.any fun x => x.Id == id with
 | true => obtain ⟨k, hk⟩ := (ixS_loop _ _ hf c.Skeen.Done 0).1 h; rw [hk]; simp
 | false => rw [(ixS_loop _ _ hf c.Skeen.Done 0).2 h]; simp
end Go.Proofs
end
section
namespace Go.Proofs
open Go.Tm
set_option linter.unusedSimpArgs false
theorem in_eq (a b c : Int) : zc5 a b c = some (decide (b <= a /\ a <= c)) := by
 rw [zc5]; by_cases h : b <= a <;> by_cases k : a <= c <;> simp [h, k]
instance (n : Int) : Decidable (IdOk n) := by unfold IdOk; infer_instance
theorem cid_eq (a : Int) : zep a = some (decide (IdOk a)) := by
 rw [zep, in_eq, Option.bind_some]; rfl
def MsgOk (m : TMessage) : Prop := zam m = some 0
theorem msg_loop (m : TMessage) : ∀ (l : List Int) (n : Nat) (b : Bool), ∃ r, zad m l n b = some r := by
 intro l
 induction l with
 | nil => intro n b; exact ⟨b, rfl⟩
 | cons y l ih =>
  intro n b
  rw [zad, in_eq]
  cases b with
  | true => simp only [if_true, Option.bind_some]; exact ih _ _
  | false => simp only [Bool.false_eq_true, if_false, Option.bind_some]; exact ih _ _
theorem msg_tot (m : TMessage) : (∃ e, zam m = some e) /\ (zam m = some 0 -> IdOk m.Id) := by
 obtain ⟨b, hb⟩ := msg_loop m m.Groups 0 ((decide ((m.Groups.length : Int) >= 1)) && (decide ((m.Groups.length : Int) <= 4)))
 have key : zam m = some (if ((((¬ (b = true)) \/ (¬ (decide (IdOk m.Id) = true))) \/ (¬ (decide (0 <= m.Topic /\ m.Topic <= 3) = true))) \/ ((m.Key.length : Int) > 16)) \/ ((m.Body.length : Int) > 64) then 120 else 0) := by
  rw [zam, hb]
  simp only [Option.bind_some, cid_eq, in_eq]
  cases b with
  | true =>
   simp only [not_true_eq_false, not_false_eq_true, if_true, Option.bind_some, false_or]
   by_cases hi : IdOk m.Id
   ·simp only [hi, decide_true, not_true_eq_false, not_false_eq_true, if_true, Option.bind_some, false_or]
    split <;> rfl
   ·simp only [hi, decide_false, Bool.false_eq_true, not_false_eq_true, not_true_eq_false, if_false, Option.bind_some, true_or, if_true]
  | false => simp
 refine ⟨⟨_, key⟩, fun h => ?_⟩
 rw [key] at h
 by_cases hi : IdOk m.Id
 ·exact hi
 ·simp [hi] at h
theorem MsgOk.id {m : TMessage} (h : MsgOk m) : IdOk m.Id := (msg_tot m).2 h
def zh2 (x : TStamp) : Prop := 0 <= x.Time /\ x.Time <= 1073741824 /\ 0 <= x.Id /\ x.Id < 6291456
instance (x : TStamp) : Decidable (zh2 x) := by unfold zh2; infer_instance
theorem stc_eq (x : TStamp) : zfq x = some (if zh2 x then 0 else 8) := by
 rw [zfq]
 by_cases h : zh2 x
 ·rw [if_pos h, if_neg (by unfold zh2 at h; omega)]
 ·rw [if_neg h, if_pos (by unfold zh2 at h; omega)]
theorem mget_mput (k i v : Int) : ∀ m : List (Int × Int), mget k (mput i v m) = if k = i then some v else mget k m := by
 intro m
 induction m with
 | nil => simp [mput, mget]
 | cons x m ih =>
  rw [mput]
  by_cases h : i = x.1
  ·rw [if_pos h]; simp only [mget]
   by_cases hk : k = i
   ·simp [hk]
   ·simp [hk, show k ≠ x.1 from fun e => hk (e.trans h.symm)]
  ·rw [if_neg h]; simp only [mget]
   by_cases hx : k = x.1
   ·simp [hx, show ¬ x.1 = i from fun e => h e.symm]
   ·rw [if_neg hx, ih, if_neg hx]
def DOk (c : Int) (D : List TStamp) : Prop := (∀ x ∈ D, zh2 x /\ 1 <= x.Time /\ x.Time <= c) /\ D.Pairwise ltS /\ (D.map TStamp.Id).Nodup
theorem DOk.pre {c : Int} {D E : List TStamp} (h : DOk c (D ++ E)) : DOk c D :=
 ⟨fun x hx => h.1 x (List.mem_append_left _ hx), (List.pairwise_append.1 h.2.1).1, by have := h.2.2; rw [List.map_append] at this; exact (List.nodup_append.1 this).1⟩
theorem ltS_last {D : List TStamp} (h : D.Pairwise ltS) {p : TStamp} (hp : D.getLast? = some p) : ∀ x ∈ D, x = p \/ ltS x p := by
 obtain ⟨E, rfl⟩ := List.getLast?_eq_some_iff.1 hp
 intro x hx
 rcases List.mem_append.1 hx with hx | hx
 ·exact .inr ((List.pairwise_append.1 h).2.2 x hx p (by simp))
 ·simp at hx; exact .inl hx
theorem DOk.snoc {c : Int} {D : List TStamp} (h : DOk c D) (y : TStamp) : DOk c (D ++ [y]) ↔ (zh2 y /\ 1 <= y.Time /\ y.Time <= c) /\ (∀ p, D.getLast? = some p -> ltS p y) /\ y.Id ∉ D.map TStamp.Id := by
 constructor
 ·intro k
  refine ⟨k.1 y (by simp), fun p hp => ?_, fun hm => ?_⟩
  ·exact (List.pairwise_append.1 k.2.1).2.2 p (List.mem_of_getLast? hp) y (by simp)
  ·have := k.2.2; rw [List.map_append] at this
   exact (List.nodup_append.1 this).2.2 _ hm _ (by simp) rfl
 ·rintro ⟨h1, h2, h3⟩
  refine ⟨fun x hx => ?_, ?_, ?_⟩
  ·rcases List.mem_append.1 hx with hx | hx
   ·exact h.1 x hx
   ·simp at hx; subst hx; exact h1
  ·rw [List.pairwise_append]
   refine ⟨h.2.1, by simp, fun x hx z hz => ?_⟩
   simp at hz; subst hz
   cases hl : D.getLast? with
   | none => rw [List.getLast?_eq_none_iff] at hl; subst hl; simp at hx
   | some p =>
    rcases ltS_last h.2.1 hl x hx with rfl | hh
    ·exact h2 _ hl
    ·exact ltS_trans hh (h2 _ hl)
  ·rw [List.map_append, List.nodup_append]
   refine ⟨h.2.2, by simp, fun a ha b hb e => ?_⟩
   simp at hb; subst hb; subst e; exact h3 ha
def Mp (D : List TStamp) (m : List (Int × Int)) : Prop := ∀ k, ((mget k m).getD 0 > 0 ↔ k ∈ D.map TStamp.Id)
theorem Mp.snoc {D : List TStamp} {m : List (Int × Int)} (h : Mp D m) (y : TStamp) : Mp (D ++ [y]) (mput y.Id 1 m) := by
 intro k
 rw [mget_mput]
 by_cases e : k = y.Id
 ·simp [e]
 ·rw [if_neg e, h k]; simp [e]
theorem ck1 (s : TSkeen) : ∀ (l pre : List TStamp) (m : List (Int × Int)) (n3 n4 : Int), DOk s.Clock pre -> Mp pre m -> (∀ x, pre.getLast? = some x -> x = ⟨n3, n4⟩) ->
  (DOk s.Clock (pre ++ l) -> ∃ m' a b, zb5 s l pre.length m n3 n4 = some (.inr (m', a, b)) /\ Mp (pre ++ l) m' /\ ∀ x, (pre ++ l).getLast? = some x -> x = ⟨a, b⟩) /\
  (¬ DOk s.Clock (pre ++ l) -> zb5 s l pre.length m n3 n4 = some (.inl 8)) := by
 intro l
 induction l with
 | nil =>
  intro pre m n3 n4 h1 h2 h3
  rw [List.append_nil]
  exact ⟨fun _ => ⟨m, n3, n4, rfl, h2, h3⟩, fun h => absurd h1 h⟩
 | cons y l ih =>
  intro pre m n3 n4 h1 h2 h3
  have ea : pre ++ y :: l = (pre ++ [y]) ++ l := by simp
  have hs := h1.snoc y
  have el : (pre ++ [y]).length = pre.length + 1 := by simp
  have hlast : ∀ x, (pre ++ [y]).getLast? = some x -> x = ⟨y.Time, y.Id⟩ := by
   intro x hx; simp at hx; exact hx.symm
  -- the round's test
  have key : ∀ k : Option (Int ⊕ (List (Int × Int) × Int × Int)), (DOk s.Clock (pre ++ [y]) -> k = zb5 s l (pre.length + 1) (mput y.Id 1 m) y.Time y.Id) -> (¬ DOk s.Clock (pre ++ [y]) -> k = some (.inl 8)) -> zb5 s (y :: l) pre.length m n3 n4 = k := by
   intro k k1 k2
   rw [zb5, stc_eq]
   simp only [Option.bind_some, less_eq]
   by_cases c1 : zh2 y /\ 1 <= y.Time /\ y.Time <= s.Clock
   ·have e1 : ¬ ((¬ (if zh2 y then (0 : Int) else 8) = 0 \/ y.Time < 1) \/ y.Time > s.Clock) := by
     rw [if_pos c1.1]; omega
    by_cases c2 : pre.length = 0
    ·have hp : pre = [] := List.length_eq_zero_iff.1 c2
     have hl : ∀ p, pre.getLast? = some p -> ltS p y := by subst hp; simp
     rw [if_neg (by rw [c2]; simp)]
     simp only [Option.bind_some]
     by_cases c3 : y.Id ∈ pre.map TStamp.Id
     ·rw [if_pos (.inr ((h2 _).2 c3)), k2 (fun h => (hs.1 h).2.2 c3)]
     ·rw [if_neg, k1 (hs.2 ⟨c1, hl, c3⟩)]
      rintro ((hh | hh) | hh)
      ·exact e1 hh
      ·omega
      ·exact c3 ((h2 _).1 hh)
    ·obtain ⟨p, hp⟩ : ∃ p, pre.getLast? = some p := by
      cases hq : pre.getLast? with
      | none => rw [List.getLast?_eq_none_iff] at hq; subst hq; simp at c2
      | some p => exact ⟨p, rfl⟩
     have ep := h3 p hp
     rw [if_pos ⟨e1, by omega⟩]
     simp only [Option.bind_some, decide_eq_true_eq]
     by_cases c4 : ltS ⟨n3, n4⟩ y
     ·by_cases c3 : y.Id ∈ pre.map TStamp.Id
      ·rw [if_pos (.inr ((h2 _).2 c3)), k2 (fun h => (hs.1 h).2.2 c3)]
      ·rw [if_neg, k1 (hs.2 ⟨c1, fun q hq => by rw [hp] at hq; cases hq; rw [ep]; exact c4, c3⟩)]
       rintro ((hh | hh) | hh)
       ·exact e1 hh
       ·exact hh.2 c4
       ·exact c3 ((h2 _).1 hh)
     ·rw [if_pos (.inl (.inr ⟨by omega, c4⟩)), k2 (fun h => c4 (by have := (hs.1 h).2.1 p hp; rwa [ep] at this))]
   ·have e1 : ((¬ (if zh2 y then (0 : Int) else 8) = 0 \/ y.Time < 1) \/ y.Time > s.Clock) := by
     by_cases c0 : zh2 y
     ·rw [if_pos c0]; have := c1; simp only [c0, true_and] at this; omega
     ·rw [if_neg c0]; exact .inl (.inl (by decide))
    rw [if_neg (by rintro ⟨hh, _⟩; exact hh e1)]
    simp only [Option.bind_some]
    rw [if_pos (.inl (.inl e1)), k2 (fun h => c1 (hs.1 h).1)]
  rw [ea]
  by_cases hd : DOk s.Clock (pre ++ [y])
  ·have := ih (pre ++ [y]) (mput y.Id 1 m) y.Time y.Id hd (h2.snoc y) hlast
   rw [el] at this
   rw [key _ (fun _ => rfl) (fun h => absurd hd h)]
   exact this
  ·refine ⟨fun h => absurd h.pre hd, fun _ => key _ (fun h => absurd h hd) (fun _ => rfl)⟩
def W1 (c : Int) (D : List TStamp) (w : TWait) : Prop := MsgOk w.Message /\ 1 <= w.Time /\ w.Time <= c /\ (∀ x ∈ D, x.Id ≠ w.Message.Id) /\ ∀ x, D.getLast? = some x -> ltS x (stW w)
def WOk (c : Int) (D : List TStamp) (W : List TWait) : Prop := (∀ w ∈ W, W1 c D w) /\ IdsUp W
theorem WOk.pre {c : Int} {D : List TStamp} {V W : List TWait} (h : WOk c D (V ++ W)) : WOk c D V := ⟨fun w hw => h.1 w (List.mem_append_left _ hw), (List.pairwise_append.1 h.2).1⟩
theorem ids_last {W : List TWait} (h : IdsUp W) {p : TWait} (hp : W.getLast? = some p) : ∀ x ∈ W, x = p \/ x.Message.Id < p.Message.Id := by
 obtain ⟨E, rfl⟩ := List.getLast?_eq_some_iff.1 hp
 intro x hx
 rcases List.mem_append.1 hx with hx | hx
 ·exact .inr ((List.pairwise_append.1 h).2.2 x hx p (by simp))
 ·simp at hx; exact .inl hx
theorem WOk.snoc {c : Int} {D : List TStamp} {W : List TWait} (h : WOk c D W) (y : TWait) : WOk c D (W ++ [y]) ↔ W1 c D y /\ ∀ p, W.getLast? = some p -> p.Message.Id < y.Message.Id := by
 constructor
 ·intro k
  exact ⟨k.1 y (by simp), fun p hp => (List.pairwise_append.1 k.2).2.2 p (List.mem_of_getLast? hp) y (by simp)⟩
 ·rintro ⟨h1, h2⟩
  refine ⟨fun x hx => ?_, ?_⟩
  ·rcases List.mem_append.1 hx with hx | hx
   ·exact h.1 x hx
   ·simp at hx; subst hx; exact h1
  ·unfold IdsUp
   rw [List.pairwise_append]
   refine ⟨h.2, by simp, fun x hx z hz => ?_⟩
   simp at hz; subst hz
   cases hl : W.getLast? with
   | none => rw [List.getLast?_eq_none_iff] at hl; subst hl; simp at hx
   | some p =>
    rcases ids_last h.2 hl x hx with rfl | hh
    ·exact h2 _ hl
    ·have := h2 _ hl; omega
theorem ck2 (s : TSkeen) (m : List (Int × Int)) (a b : Int) (hm : Mp s.Done m) (hab : ∀ x, s.Done.getLast? = some x -> x = ⟨a, b⟩) : ∀ (l pre : List TWait), s.Waits = pre ++ l -> WOk s.Clock s.Done pre ->
  (WOk s.Clock s.Done (pre ++ l) -> zb4 s m a b l pre.length = some (.inr ())) /\ (¬ WOk s.Clock s.Done (pre ++ l) -> zb4 s m a b l pre.length = some (.inl 8)) := by
 intro l
 induction l with
 | nil =>
  intro pre _ h1
  rw [List.append_nil]
  exact ⟨fun _ => rfl, fun h => absurd h1 h⟩
 | cons y l ih =>
  intro pre hw h1
  have ea : pre ++ y :: l = (pre ++ [y]) ++ l := by simp
  have hs := h1.snoc y
  have el : (pre ++ [y]).length = pre.length + 1 := by simp
  have hprev : ∀ p, pre.getLast? = some p -> s.Waits.getD (pre.length - 1) default = p := by
   intro p hp
   obtain ⟨E, rfl⟩ := List.getLast?_eq_some_iff.1 hp
   rw [hw]; simp [List.getD]
  obtain ⟨⟨e, he⟩, _⟩ := msg_tot y.Message
  have hmo : MsgOk y.Message ↔ e = 0 := by unfold MsgOk; rw [he]; simp
  have key : ∀ k : Option (Int ⊕ Unit), (WOk s.Clock s.Done (pre ++ [y]) -> k = zb4 s m a b l (pre.length + 1)) -> (¬ WOk s.Clock s.Done (pre ++ [y]) -> k = some (.inl 8)) -> zb4 s m a b (y :: l) pre.length = k := by
   intro k k1 k2
   rw [zb4, he]
   simp only [Option.bind_some, zdy, less_eq]
   let T1 : Prop := ((((¬ (e = 0) \/ y.Time < 1) \/ y.Time > s.Clock) \/ (((pre.length : Int) > 0) /\ y.Message.Id <= (s.Waits.getD (pre.length - 1) default).Message.Id)) \/ ((mget y.Message.Id m).getD 0 > 0))
   have t1 : ¬ T1 ↔ (MsgOk y.Message /\ 1 <= y.Time /\ y.Time <= s.Clock /\ (∀ x ∈ s.Done, x.Id ≠ y.Message.Id)) /\ (∀ p, pre.getLast? = some p -> p.Message.Id < y.Message.Id) := by
    have h3 : ((mget y.Message.Id m).getD 0 > 0) ↔ ¬ ∀ x ∈ s.Done, x.Id ≠ y.Message.Id := by
     rw [hm]; simp
    have h4 : (((pre.length : Int) > 0) /\ y.Message.Id <= (s.Waits.getD (pre.length - 1) default).Message.Id) ↔ ¬ ∀ p, pre.getLast? = some p -> p.Message.Id < y.Message.Id := by
     cases hq : pre.getLast? with
     | none => rw [List.getLast?_eq_none_iff] at hq; subst hq; simp
     | some p =>
      rw [hprev p hq]
      have : pre.length > 0 := by
       rcases Nat.eq_zero_or_pos pre.length with h0 | h0
       ·rw [List.length_eq_zero_iff.1 h0] at hq; simp at hq
       ·exact h0
      constructor
      ·rintro ⟨_, h5⟩ h6; have := h6 p rfl; omega
      ·intro h5
       refine ⟨by omega, ?_⟩
       apply Decidable.byContradiction
       intro h6
       exact h5 fun q hq' => by cases hq'; omega
    show ¬ ((((¬ (e = 0) \/ y.Time < 1) \/ y.Time > s.Clock) \/ _) \/ _) ↔ _
    rw [h3, h4, hmo]
    constructor
    ·intro h
     refine ⟨⟨?_, ?_, ?_, ?_⟩, ?_⟩
     ·apply Decidable.byContradiction; intro q; exact h (.inl (.inl (.inl (.inl q))))
     ·apply Decidable.byContradiction; intro q; exact h (.inl (.inl (.inl (.inr (by omega)))))
     ·apply Decidable.byContradiction; intro q; exact h (.inl (.inl (.inr (by omega))))
     ·apply Classical.byContradiction; intro q; exact h (.inr q)
     ·apply Classical.byContradiction; intro q; exact h (.inl (.inr q))
    ·rintro ⟨⟨q1, q2, q3, q4⟩, q5⟩ ((((q | q) | q) | q) | q)
     ·exact q q1
     ·omega
     ·omega
     ·exact q q5
     ·exact q q4
   by_cases c1 : T1
   ·have c1' : ¬ (¬ T1 /\ (s.Done.length : Int) > 0) := fun h => h.1 c1
    show Option.bind (if ¬ T1 /\ (s.Done.length : Int) > 0 then _ else _) _ = k
    rw [if_neg c1']
    simp only [Option.bind_some]
    show Option.bind (if ¬ T1 /\ (s.Done.length : Int) > 0 then _ else _) _ = k
    rw [if_neg c1']
    simp only [Option.bind_some]
    rw [if_pos (.inl c1), k2]
    intro h
    have := hs.1 h
    exact t1.2 ⟨⟨this.1.1, this.1.2.1, this.1.2.2.1, this.1.2.2.2.1⟩, this.2⟩ c1
   ·have q := t1.1 c1
    by_cases c2 : s.Done = []
    ·have c1' : ¬ (¬ T1 /\ (s.Done.length : Int) > 0) := by rw [c2]; simp
     show Option.bind (if ¬ T1 /\ (s.Done.length : Int) > 0 then _ else _) _ = k
     rw [if_neg c1']
     simp only [Option.bind_some]
     show Option.bind (if ¬ T1 /\ (s.Done.length : Int) > 0 then _ else _) _ = k
     rw [if_neg c1']
     simp only [Option.bind_some]
     rw [if_neg, k1 (hs.2 ⟨⟨q.1.1, q.1.2.1, q.1.2.2.1, q.1.2.2.2, by rw [c2]; simp⟩, q.2⟩)]
     rintro (h | h)
     ·exact c1 h
     ·rw [c2] at h; simp at h
    ·obtain ⟨p, hp⟩ : ∃ p, s.Done.getLast? = some p := by
      cases hq : s.Done.getLast? with
      | none => rw [List.getLast?_eq_none_iff] at hq; exact absurd hq c2
      | some p => exact ⟨p, rfl⟩
     have hpos : (s.Done.length : Int) > 0 := by
      have := List.length_pos_iff.2 c2; omega
     have ep := hab p hp
     show Option.bind (if ¬ T1 /\ (s.Done.length : Int) > 0 then _ else _) _ = k
     rw [if_pos ⟨c1, hpos⟩]
     simp only [Option.bind_some]
     show Option.bind (if ¬ T1 /\ (s.Done.length : Int) > 0 then _ else _) _ = k
     rw [if_pos ⟨c1, hpos⟩]
     simp only [Option.bind_some, decide_eq_true_eq]
     show (if T1 \/ ((s.Done.length : Int) > 0 /\ ¬ ltS ⟨a, b⟩ (stW y)) then _ else _) = k
     by_cases c3 : ltS ⟨a, b⟩ (stW y)
     ·rw [if_neg, k1 (hs.2 ⟨⟨q.1.1, q.1.2.1, q.1.2.2.1, q.1.2.2.2, fun x hx => by rw [hab x hx]; exact c3⟩, q.2⟩)]
      rintro (h | h)
      ·exact c1 h
      ·exact h.2 c3
     ·rw [if_pos (.inr ⟨hpos, c3⟩), k2]
      intro h
      exact c3 (by have := (hs.1 h).1.2.2.2.2 p hp; rwa [ep] at this)
  rw [ea]
  by_cases hd : WOk s.Clock s.Done (pre ++ [y])
  ·have := ih (pre ++ [y]) (by rw [hw, ea]) hd
   rw [el] at this
   rw [key _ (fun _ => rfl) (fun h => absurd hd h)]
   exact this
  ·exact ⟨fun h => absurd h.pre hd, fun _ => key _ (fun h => absurd h hd) (fun _ => rfl)⟩
structure V (s : TSkeen) : Prop where
 c0 : 0 <= s.Clock
 c1 : s.Clock <= 1073741824
 lw : s.Waits.length <= 200
 ld : s.Done.length <= 200
 d : DOk s.Clock s.Done
 w : WOk s.Clock s.Done s.Waits
 m : ∀ y l, s.Waits = y :: l -> (minW y l).Final = false
theorem sk_check (s : TSkeen) : ∃ e, zer s = some e /\ (e = 0 ↔ V s) := by
 rw [zer]
 by_cases h0 : ((s.Clock < 0 \/ s.Clock > 1073741824) \/ (s.Waits.length : Int) > 200) \/ (s.Done.length : Int) > 200
 ·rw [if_pos h0]
  refine ⟨8, rfl, (by intro h; cases h), fun h => ?_⟩
  have := h.c0; have := h.c1; have := h.lw; have := h.ld; omega
 rw [if_neg h0]
 have d0 : DOk s.Clock [] := ⟨by simp, by simp, by simp⟩
 have hc := ck1 s s.Done [] [] 0 0 d0 (by intro k; simp [mget]) (by simp)
 rw [List.nil_append] at hc
 by_cases hd : DOk s.Clock s.Done
 ·obtain ⟨m, a, b, h1, h2, h3⟩ := hc.1 hd
  have h1 : zb5 s s.Done 0 [] 0 0 = _ := h1
  rw [h1]
  simp only [Option.bind_some]
  have w0 : WOk s.Clock s.Done [] := ⟨by simp, by simp [IdsUp]⟩
  have hc2 := ck2 s m a b h2 h3 s.Waits [] rfl w0
  rw [List.nil_append] at hc2
  by_cases hw : WOk s.Clock s.Done s.Waits
  ·have h4 : zb4 s m a b s.Waits 0 = _ := hc2.1 hw
   rw [h4]
   simp only [Option.bind_some]
   cases hl : s.Waits with
   | nil =>
    refine ⟨0, by simp, fun _ => ⟨by omega, by omega, by omega, by omega, hd, hw, by rw [hl]; simp⟩, fun _ => rfl⟩
   | cons y l =>
    rw [if_pos (by simp only [List.length_cons]; omega), min_eq y l (by rw [hl] at h0; simp at h0; omega)]
    simp only [Option.bind_some]
    by_cases hf : (minW y l).Final = true
    ·rw [if_pos ⟨by simp only [List.length_cons]; omega, hf⟩]
     refine ⟨8, rfl, (by intro h; cases h), fun h => ?_⟩
     have := h.m y l hl
     rw [hf] at this; cases this
    ·rw [if_neg (fun h => hf h.2)]
     refine ⟨0, rfl, fun _ => ⟨by omega, by omega, by omega, by omega, hd, hw, fun y' l' h => ?_⟩, fun _ => rfl⟩
     rw [hl] at h; cases h
     simpa using hf
  ·have h4 : zb4 s m a b s.Waits 0 = _ := hc2.2 hw
   rw [h4]
   simp only [Option.bind_some]
   exact ⟨8, rfl, (by intro h; cases h), fun h => absurd h.w hw⟩
 ·have h1 : zb5 s s.Done 0 [] 0 0 = _ := hc.2 hd
  rw [h1]
  simp only [Option.bind_some]
  exact ⟨8, rfl, (by intro h; cases h), fun h => absurd h.d hd⟩
end Go.Proofs
end
