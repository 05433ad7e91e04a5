/- Texts of the proof. -/
import Derived.Test.YtkananhhhkkpkaaOrderFinalPg
import Derived.Test.YtkananhhhkkpkaaOrderFinalPh
import Derived.Test.YtkananhhhkkpkaaOrderFinalPi
import Derived.Test.YtkananhhhkkpkaaOrderFinalPj
import Derived.Test.YtkananhhhkkpkaaOrderFinalPl
import Derived.Test.YtkananhhhkkpkaaOrderFinalPk
section
namespace Go.Proofs
open Go.Tm Go.RowKit Go.WideShapes
set_option maxRecDepth 100000
set_option maxHeartbeats 4000000
set_option linter.unusedSimpArgs false
set_option linter.unusedVariables false
attribute [local go_sem] zcw runE runK zex stepE aop opd opdsL opds opdO ev ofVal keep List.any zcf Bool.false_or Bool.true_or aggEq cond_true cond_false Bool.cond_false_right Bool.cond_true_left beq_true beq_false imp_self implies_true getR getL put St.app effL del nwB zid Nat.lt_irrefl Nat.lt_add_one zie Nat.le_refl Nat.beq_refl zez zdi capS capK zg9 zf0 zbx D.ids D.idsL bin arith zhy binT dpick Tm.part zh4 fillD oneD loadD zh3 srcD zdj idxOk decide_true gval dstAt D.cells List.map_cons List.map_nil List.take List.drop List.length_map List.append Int.toNat_natCast and_true true_and decide_false List.length_cons List.length_nil List.append_nil List.nil_append Bool.and_true Bool.true_and Bool.not_false Bool.not_true ne_eq not_false_eq_true BEq.rfl List.getElem?_cons_zero List.getElem?_cons_succ List.getElem?_nil Nat.zero_add List.all_cons List.all_nil List.isEmpty_cons List.isEmpty_nil Option.getD_some Option.getD_none List.any_cons List.any_nil List.drop_succ_cons List.drop_zero unfL unf okM okML low3 List.cons_append true_or or_true Nat.zero_mul Nat.zero_le zgo zgn  zi5 zi4 zgm Option.isSome_map keyD List.length_replicate List.map_replicate setEl List.length_set zfj zn4 zn2 zjp zhz mkM mkML zjr zjq zi0 zgd zfl ze4 List.take_length Int.toNat_zero zfe fpOf zfp opIds mvV mvH mvF pickL D.ren D.renL Blk.ren List.map_append List.length_append Bool.not_not Bool.or_not_self Bool.not_or_self Bool.or_true
attribute [local go_sem] Try.tm_1 Try.tm_2 Try.tm_3 Try.tm_4 Try.tm_5 Try.tm_6 Try.tm_7 Try.tm_8 Try.tm_9 Try.tm_10 Try.tm_11 Try.tm_12 Try.tm_13 Try.tm_14 Try.tm_15 Try.tm_16 Try.tm_17 Try.tm_18 Try.tm_19 Try.tm_20 Try.tm_21 Try.tm_22 Try.tm_23 Try.tm_24 Try.tm_25 Try.tm_26 Try.tm_27 Try.tm_28 Try.tm_30 Try.tm_32 Try.tm_33 Try.tm_35 Try.tm_36 Try.tm_37 Try.tm_38 Try.tm_39 Try.tm_40 Try.tm_41 Try.tm_42 Try.tm_43 Try.tm_44 Try.tm_45 Try.tm_46 Try.tm_48 Try.tm_49 Try.tm_50 Try.tm_51 Try.tm_52 Try.tm_53 Try.tm_54 Try.tm_56 Try.tm_57 Try.tm_59 Try.tm_61 Try.tm_62 Try.tm_63 Try.tm_64 Try.tm_65 Try.tm_66 Try.tm_67 Try.tm_68 Try.tm_69 Try.tm_70 Try.tm_71 Try.tm_72 Try.tm_74 Try.tm_75 Try.tm_76 Try.tm_78 Try.tm_79 Try.tm_80 Try.tm_81 Try.tm_82 Try.tm_83 Try.tm_84 Try.tm_85 Try.tm_86 Try.tm_87 Try.tm_88 Try.tm_89 Try.tm_90 Try.tm_92 Try.tm_94 Try.tm_95 Try.tm_96 Try.tm_97 Try.tm_98 Try.tm_99 Try.tm_100 Try.tm_101 Try.tm_102 Try.tm_103 Try.tm_104 Try.tm_105 Try.tm_107 Try.tm_108 Try.tm_109 Try.tm_110 Try.tm_111 Try.tm_112 Try.tm_113 Try.tm_114 Try.tm_115 Try.tm_116 Try.tm_117 Try.tm_119 Try.tm_120 Try.tm_121 Try.tm_123 Try.tm_124 Try.tm_125 Try.tm_126 Try.tm_127 Try.tm_128 Try.tm_129 Try.tm_130 Try.tm_131 Try.tm_132 Try.tm_133 Try.tm_134 Try.tm_135 Try.tm_136 Try.tm_137 Try.tm_138 Try.tm_139 Try.tm_140 Try.tm_141 Try.tm_142 Try.tm_143 Try.tm_144 Try.tm_145 Try.tm_146 Try.tm_147 Try.tm_148 Try.tm_149 Try.tm_150 Try.tm_151 Try.tm_152 Try.tm_153 Try.tm_155 Try.tm_156 Try.tm_158 Try.tm_160 Try.tm_161 Try.tm_162 Try.tm_163 Try.tm_164 Try.tm_165 Try.tm_168 Try.tm_169 Try.tm_170 Try.tm_171 Try.tm_172 Try.tm_173 Try.tm_174 Try.tm_175 Try.tm_176 TMessage.d TMessage.n TWait.d TWait.n TStamp.d TSkeen.d TSkeen.n TCommand.d TCommand.n Tskeen_clock.d Tskeen_clock.n ze5 zgg zfg zfh ze6 zcp Torder_step.d Torder_step.n Torder_given.d Torder_given.n Tcommand_reader.d Tcommand_reader.n dL_str nL_str dL_Torder_givend nL_Torder_givend zij nL_TStampd zgp nL_TMessaged zfo zf8 ze9 zk3 zdw zga zf7 Try.f36 Try.f23 Try.f16 Try.f37 Try.f18 Try.f39 Try.f19 Try.f7 Try.f24 Try.f21 Try.f20 Try.f8 Try.f29 Try.f13 Try.f14 Try.f4
def Try.St_slices_IndexFunc_order_given_order_given_1 : St := ⟨[], [], 0⟩
attribute [local go_sem] Try.St_slices_IndexFunc_order_given_order_given_1
def Try.St_slices_IndexFunc_order_given_order_given_3 (s : List Torder_given) (Kf : Nat) (cf : List D) (n1 : Nat) : St := ⟨[(0, .imm 6 (s.map Torder_given.d) 4), (1, .fn (.func Kf) cf), (7, .int .i64 (s.length : Int)), (8, .int .i64 (n1 : Int))], [], 0⟩
attribute [local go_sem] Try.St_slices_IndexFunc_order_given_order_given_3
theorem zdu (s : List Torder_given) (Kf : Nat) (cf : List D) (hcf : ∀ hp, lends hp cf = (cf, true)) (h2f : ∀ hp, zd1 hp cf = (cf, true)) (h3f : ∀ hp, ids2s hp cf = []) (f : Torder_given -> Option Bool) (hf : ∀ x0 y, f x0 = some y -> CallP Try.prog Kf (.agg [.int .i64 x0.fTime, .int .i64 x0.fM.Id, .imm 1 (x0.fM.Groups.map (D.int .i64)) 4, .int .i64 x0.fM.Topic, .str x0.fM.Key, .str x0.fM.Body] :: cf) (.bool y)) (r : Int) (h : zb9 s f = some r) : CallP Try.prog 36 [.imm 6 (s.map Torder_given.d) 4, .fn (.func Kf) cf] (.int .i64 r) := by
 refine za9 Try.tmOk 2 Try.func36 rfl (by decide) rfl rfl (Nat.le_of_ble_eq_true rfl) ?_
 intro hwf
 unfold zb9 at h
 refine .seq ?_
 refine .pl Try.S [0, 1] ?_
 obtain ⟨x1, hx1, h⟩ := bind_some h
 refine .seqM 0 (fun (j : Unit) => Try.St_slices_IndexFunc_order_given_order_given_1) (fun j => x1 = (.inr j)) (Nat.le_of_ble_eq_true rfl) ?_ ?_
 ·refine .seq ?_
  refine .pl Try.S [0, 1] ?_
  refine .block ?_
  refine .loopG 0 (fun (j : Nat) => Try.St_slices_IndexFunc_order_given_order_given_3 s Kf cf j) (fun j => j <= s.length /\ za3 f (s.drop j) j  = some x1) (fun j => s.length - j) (0) (Nat.le_of_ble_eq_true rfl) ?_ ⟨Nat.zero_le _, hx1⟩ ?_
  ·refine Goes.mv [0, 1, 7, 8] [] [] ?_ (Nat.le_of_ble_eq_true rfl) (Nat.le_of_ble_eq_true rfl) (by first | rfl | (simp only [idsV, idsH, pickL, getL, D.ids, Blk.ids, zcf, Nat.reduceBEq, cond_true, cond_false, List.append_nil, List.nil_append, List.cons_append, zb8 hcf] <;> rfl))
   first | rfl | (simp only [go_sem, Nat.reduceBEq, Nat.reduceAdd, za6 hcf]; done) | (simp only [go_sem, Nat.reduceBEq, Nat.reduceAdd, za6 hcf]; rfl)
  rintro n1 ⟨hi1, hx1⟩
  simp only [Try.St_slices_IndexFunc_order_given_order_given_3]
  refine .wf 7 (.int .i64 (s.length : Int)) rfl ?_
  intro hln1
  replace hln1 : (s.length : Int) <= 9223372036854775807 := by simp only [wf, wfL, IntKind.max, IntKind.min, IntKind.signed, IntKind.bits, List.length_map] at hln1; first | exact hln1.2 | exact hln1.1 | (simp at hln1; omega)
  refine .seq ?_
  refine .pl Try.S [0, 1, 7, 8] ?_
  refine .seq ?_
  refine .cond rfl rfl (fun hc1 => ?_) (fun hc1 => ?_)
  ·have h1 : n1 < s.length := by simpa using hc1
   have hwn1 : wr .i64 ((n1 : Int) + 1) = ((n1 + 1 : Nat) : Int) := zd4 h1 hln1
   have hpn1 : wr .i64 ((n1 : Int) - 1) = (n1 : Int) - 1 := zd5 h1 hln1
   rw [List.drop_eq_getElem_cons h1, za3] at hx1
   refine .skip ?_
   refine .seq ?_
   refine .block ?_
   refine .seq ?_
   refine .plx Try.S hwn1 [0, 1, 7, 8] ?_
   refine .seq ?_
   obtain ⟨v1, hv1, hx1⟩ := bind_some hx1
   have e1 := zcc Torder_given.d s n1 h1
   refine .rg Try.S [0, 1, 5, 7, 8] ?_
   refine .rnx 5 (And.intro e1 hwn1) ?_
   refine .call (r := .bool v1) rfl rfl rfl rfl rfl (za0 rfl (hcf _)) (hf _ v1 hv1) ?_
   refine .nil ⟨nofun, ?_⟩
   refine .cond rfl rfl (fun hc2 => ?_) (fun hc2 => ?_)
   ·replace hx1 := za2 hx1 hc2
    refine .seq ?_
    refine .plx Try.S hwn1 [5] ?_
    have hq := Option.some.inj hx1
    subst x1
    try dsimp only at h
    have hq := Option.some.inj h
    subst r
    exact .ret ⟨.inr rfl, rsi⟩
   ·replace hx1 := zaa hx1 hc2
    refine .skip ?_
    refine .plx Try.S hwn1 [0, 1, 7, 8] ?_
    refine ⟨n1 + 1, ?_, ⟨by omega, hx1⟩, by dsimp only; omega⟩
    refine Goes.mv [0, 1, 7, 8] [] [] ?_ (Nat.le_of_ble_eq_true rfl) (Nat.le_of_ble_eq_true rfl) (by first | rfl | (simp only [idsV, idsH, pickL, getL, D.ids, Blk.ids, zcf, Nat.reduceBEq, cond_true, cond_false, List.append_nil, List.nil_append, List.cons_append, zb8 hcf] <;> rfl))
    first | rfl | (simp only [go_sem, Nat.reduceBEq, Nat.reduceAdd, za6 hcf]; done) | (simp only [go_sem, Nat.reduceBEq, Nat.reduceAdd, za6 hcf]; rfl)
  ·have h2 : n1 = s.length := by have h2b := of_decide_eq_false hc1; omega
   rw [List.drop_of_length_le (by omega), za3] at hx1
   refine .exit ?_
   refine ⟨_, ?_, (Option.some.inj hx1).symm⟩
   refine Goes.mv [] [] [] ?_ (Nat.le_of_ble_eq_true rfl) (Nat.le_of_ble_eq_true rfl) (by first | rfl | (simp only [idsV, idsH, pickL, getL, D.ids, Blk.ids, zcf, Nat.reduceBEq, cond_true, cond_false, List.append_nil, List.nil_append, List.cons_append, zb8 hcf] <;> rfl))
   first | rfl | (simp only [go_sem, Nat.reduceBEq, Nat.reduceAdd, za6 hcf]; done) | (simp only [go_sem, Nat.reduceBEq, Nat.reduceAdd, za6 hcf]; rfl)
 ·rintro ⟨⟩ hj1
  subst x1
  try dsimp only at h
  simp only [Try.St_slices_IndexFunc_order_given_order_given_1]
  refine .seq ?_
  refine .pl Try.S [] ?_
  have hq := Option.some.inj h
  subst r
  exact .ret ⟨.inr rfl, rsi⟩
def Try.St_slices_IndexFunc_Wait_Wait_1 : St := ⟨[], [], 0⟩
attribute [local go_sem] Try.St_slices_IndexFunc_Wait_Wait_1
def Try.St_slices_IndexFunc_Wait_Wait_3 (s : List TWait) (Kf : Nat) (cf : List D) (n1 : Nat) : St := ⟨[(0, .imm 7 (s.map TWait.d) 4), (1, .fn (.func Kf) cf), (7, .int .i64 (s.length : Int)), (8, .int .i64 (n1 : Int))], [], 0⟩
attribute [local go_sem] Try.St_slices_IndexFunc_Wait_Wait_3
theorem zfw (s : List TWait) (Kf : Nat) (cf : List D) (hcf : ∀ hp, lends hp cf = (cf, true)) (h2f : ∀ hp, zd1 hp cf = (cf, true)) (h3f : ∀ hp, ids2s hp cf = []) (f : TWait -> Option Bool) (hf : ∀ x0 y, f x0 = some y -> CallP Try.prog Kf (.agg [.int .i64 x0.Message.Id, .imm 1 (x0.Message.Groups.map (D.int .i64)) 4, .int .i64 x0.Message.Topic, .str x0.Message.Key, .str x0.Message.Body, .int .i64 x0.Time, .bool x0.Final] :: cf) (.bool y)) (r : Int) (h : zck s f = some r) : CallP Try.prog 23 [.imm 7 (s.map TWait.d) 4, .fn (.func Kf) cf] (.int .i64 r) := by
 refine za9 Try.tmOk 2 Try.func23 rfl (by decide) rfl rfl (Nat.le_of_ble_eq_true rfl) ?_
 intro hwf
 unfold zck at h
 refine .seq ?_
 refine .pl Try.S [0, 1] ?_
 obtain ⟨x1, hx1, h⟩ := bind_some h
 refine .seqM 0 (fun (j : Unit) => Try.St_slices_IndexFunc_Wait_Wait_1) (fun j => x1 = (.inr j)) (Nat.le_of_ble_eq_true rfl) ?_ ?_
 ·refine .seq ?_
  refine .pl Try.S [0, 1] ?_
  refine .block ?_
  refine .loopG 0 (fun (j : Nat) => Try.St_slices_IndexFunc_Wait_Wait_3 s Kf cf j) (fun j => j <= s.length /\ zaq f (s.drop j) j  = some x1) (fun j => s.length - j) (0) (Nat.le_of_ble_eq_true rfl) ?_ ⟨Nat.zero_le _, hx1⟩ ?_
  ·refine Goes.mv [0, 1, 7, 8] [] [] ?_ (Nat.le_of_ble_eq_true rfl) (Nat.le_of_ble_eq_true rfl) (by first | rfl | (simp only [idsV, idsH, pickL, getL, D.ids, Blk.ids, zcf, Nat.reduceBEq, cond_true, cond_false, List.append_nil, List.nil_append, List.cons_append, zb8 hcf] <;> rfl))
   first | rfl | (simp only [go_sem, Nat.reduceBEq, Nat.reduceAdd, za6 hcf]; done) | (simp only [go_sem, Nat.reduceBEq, Nat.reduceAdd, za6 hcf]; rfl)
  rintro n1 ⟨hi1, hx1⟩
  simp only [Try.St_slices_IndexFunc_Wait_Wait_3]
  refine .wf 7 (.int .i64 (s.length : Int)) rfl ?_
  intro hln1
  replace hln1 : (s.length : Int) <= 9223372036854775807 := by simp only [wf, wfL, IntKind.max, IntKind.min, IntKind.signed, IntKind.bits, List.length_map] at hln1; first | exact hln1.2 | exact hln1.1 | (simp at hln1; omega)
  refine .seq ?_
  refine .pl Try.S [0, 1, 7, 8] ?_
  refine .seq ?_
  refine .cond rfl rfl (fun hc1 => ?_) (fun hc1 => ?_)
  ·have h1 : n1 < s.length := by simpa using hc1
   have hwn1 : wr .i64 ((n1 : Int) + 1) = ((n1 + 1 : Nat) : Int) := zd4 h1 hln1
   have hpn1 : wr .i64 ((n1 : Int) - 1) = (n1 : Int) - 1 := zd5 h1 hln1
   rw [List.drop_eq_getElem_cons h1, zaq] at hx1
   refine .skip ?_
   refine .seq ?_
   refine .block ?_
   refine .seq ?_
   refine .plx Try.S hwn1 [0, 1, 7, 8] ?_
   refine .seq ?_
   obtain ⟨v1, hv1, hx1⟩ := bind_some hx1
   have e1 := zcc TWait.d s n1 h1
   refine .rg Try.S [0, 1, 5, 7, 8] ?_
   refine .rnx 5 (And.intro e1 hwn1) ?_
   refine .call (r := .bool v1) rfl rfl rfl rfl rfl (za0 rfl (hcf _)) (hf _ v1 hv1) ?_
   refine .nil ⟨nofun, ?_⟩
   refine .cond rfl rfl (fun hc2 => ?_) (fun hc2 => ?_)
   ·replace hx1 := za2 hx1 hc2
    refine .seq ?_
    refine .plx Try.S hwn1 [5] ?_
    have hq := Option.some.inj hx1
    subst x1
    try dsimp only at h
    have hq := Option.some.inj h
    subst r
    exact .ret ⟨.inr rfl, rsi⟩
   ·replace hx1 := zaa hx1 hc2
    refine .skip ?_
    refine .plx Try.S hwn1 [0, 1, 7, 8] ?_
    refine ⟨n1 + 1, ?_, ⟨by omega, hx1⟩, by dsimp only; omega⟩
    refine Goes.mv [0, 1, 7, 8] [] [] ?_ (Nat.le_of_ble_eq_true rfl) (Nat.le_of_ble_eq_true rfl) (by first | rfl | (simp only [idsV, idsH, pickL, getL, D.ids, Blk.ids, zcf, Nat.reduceBEq, cond_true, cond_false, List.append_nil, List.nil_append, List.cons_append, zb8 hcf] <;> rfl))
    first | rfl | (simp only [go_sem, Nat.reduceBEq, Nat.reduceAdd, za6 hcf]; done) | (simp only [go_sem, Nat.reduceBEq, Nat.reduceAdd, za6 hcf]; rfl)
  ·have h2 : n1 = s.length := by have h2b := of_decide_eq_false hc1; omega
   rw [List.drop_of_length_le (by omega), zaq] at hx1
   refine .exit ?_
   refine ⟨_, ?_, (Option.some.inj hx1).symm⟩
   refine Goes.mv [] [] [] ?_ (Nat.le_of_ble_eq_true rfl) (Nat.le_of_ble_eq_true rfl) (by first | rfl | (simp only [idsV, idsH, pickL, getL, D.ids, Blk.ids, zcf, Nat.reduceBEq, cond_true, cond_false, List.append_nil, List.nil_append, List.cons_append, zb8 hcf] <;> rfl))
   first | rfl | (simp only [go_sem, Nat.reduceBEq, Nat.reduceAdd, za6 hcf]; done) | (simp only [go_sem, Nat.reduceBEq, Nat.reduceAdd, za6 hcf]; rfl)
 ·rintro ⟨⟩ hj1
  subst x1
  try dsimp only at h
  simp only [Try.St_slices_IndexFunc_Wait_Wait_1]
  refine .seq ?_
  refine .pl Try.S [] ?_
  have hq := Option.some.inj h
  subst r
  exact .ret ⟨.inr rfl, rsi⟩
def Try.St_order_of_1 (l1 : List (List Torder_given)) : St := ⟨[(2, .ref 0 1 0 l1.length (some uC))], [(0, .arr 72 1 true (l1.map nL_Torder_givend))], 1⟩
attribute [local go_sem] Try.St_order_of_1
def Try.St_order_of_3 (a0 : List (List (List UInt8))) (n1 : Nat) (l2 : List (List Torder_given)) : St := ⟨[(2, .ref 0 1 0 l2.length (some uC)), (11, .imm 1 (a0.map dL_str) 4), (12, .int .i64 (a0.length : Int)), (13, .int .i64 (n1 : Int))], [(0, .arr 72 1 true (l2.map nL_Torder_givend))], 1⟩
attribute [local go_sem] Try.St_order_of_3
def Try.Re_order_of (r : (List (List Torder_given)) × Int) : St := ⟨[(2, .ref 0 1 0 r.1.length (some uC)), (3, .int .i64 r.2)], [(0, .arr 72 1 true (r.1.map nL_Torder_givend))], 1⟩
attribute [local go_sem] Try.Re_order_of
theorem callH_order_of (a0 : List (List (List UInt8))) (r : (List (List Torder_given)) × Int) (h : zei a0 = some r) : CallH Try.prog 16 [.imm 1 (a0.map dL_str) 4] [] (.tuple [.ref 0 1 0 r.1.length (some uC), .int .i64 r.2]) [(0, some (.arr 72 1 true (r.1.map nL_Torder_givend)))] (0, 5) := by
 refine za4 Try.tmOk Try.func16 rfl (by decide) (Nat.le_of_ble_eq_true rfl) (by simp) ?_
 intro hwf
 unfold zei at h
 refine .ends 0 (Nat.le_refl _) ?_
 refine .seq ?_
 refine .pl Try.S [0] ?_
 refine .seq ?_
 refine .seq ?_
 refine .pl Try.S [0, 2] ?_
 refine .cond rfl rfl (fun hc1 => ?_) (fun hc1 => ?_)
 ·replace h := za2 h hc1
  refine .seq ?_
  refine .pl Try.S [] ?_
  have hq := Option.some.inj h
  subst r
  refine .ret ⟨Try.Re_order_of ([], 4), ?_, .inr rfl, retH [0] ?_ ?_⟩
  ·refine Goes.new0 1 72 (Nat.le_of_ble_eq_true rfl) ?_
   refine Goes.wk 2 _ (.ref 0 1 0 0 (some uC)) rfl (.own0 0 _ _ _ (by decide)) ?_
   exact .m [2, 3] [0] []
  ·exact rsi0
  ·rfl
 ·replace h := zaa h hc1
  refine .skip ?_
  obtain ⟨x1, hx1, h⟩ := bind_some h
  refine .seqM 0 (fun (j : (List (List Torder_given))) => Try.St_order_of_1 j) (fun j => x1 = (.inr j)) (Nat.le_of_ble_eq_true rfl) ?_ ?_
  ·refine .seq ?_
   refine .pl Try.S [0, 2] ?_
   refine .block ?_
   refine .loopG 0 (fun (j : Nat × (List (List Torder_given))) => Try.St_order_of_3 a0 j.1 j.2) (fun j => j.1 <= a0.length /\ zcq (a0.drop j.1) j.1 j.2 = some x1) (fun j => a0.length - j.1) (0, []) (Nat.le_of_ble_eq_true rfl) ?_ ⟨Nat.zero_le _, hx1⟩ ?_
   ·refine Goes.new0 1 72 (Nat.le_of_ble_eq_true rfl) ?_
    refine Goes.wk 2 _ (.ref 0 1 0 0 (some uC)) rfl (.own0 0 _ _ _ (by decide)) ?_
    exact .m [2, 11, 12, 13] [0] []
   rintro ⟨n1, l2⟩ ⟨hi1, hx1⟩
   simp only [Try.St_order_of_3]
   simp only at hi1 hx1
   refine .wf 12 (.int .i64 (a0.length : Int)) rfl ?_
   intro hln1
   replace hln1 : (a0.length : Int) <= 9223372036854775807 := by simp only [wf, wfL, IntKind.max, IntKind.min, IntKind.signed, IntKind.bits, List.length_map] at hln1; first | exact hln1.2 | exact hln1.1 | (simp at hln1; omega)
   refine .seq ?_
   refine .pl Try.S [2, 11, 12, 13] ?_
   refine .seq ?_
   refine .cond rfl rfl (fun hc2 => ?_) (fun hc2 => ?_)
   ·have h1 : n1 < a0.length := by simpa using hc2
    have hwn1 : wr .i64 ((n1 : Int) + 1) = ((n1 + 1 : Nat) : Int) := zd4 h1 hln1
    have hpn1 : wr .i64 ((n1 : Int) - 1) = (n1 : Int) - 1 := zd5 h1 hln1
    rw [List.drop_eq_getElem_cons h1, zi2] at hx1
    refine .skip ?_
    refine .seq ?_
    refine .block ?_
    refine .seq ?_
    have e1 := zcc dL_str a0 n1 h1
    refine .plx Try.S (And.intro e1 hwn1) [2, 11, 12, 13] ?_
    refine .seq ?_
    obtain ⟨v1, hv1, hx1⟩ := bind_some hx1
    refine .rg Try.S [2, 4, 5, 11, 12, 13] ?_
    refine .rnx 2 hwn1 ?_
    refine .call (r := .tuple [.imm 6 (v1.1.map Torder_given.d) 12, .int .i64 v1.2]) rfl rfl rfl rfl rfl rfl (ziq (n1 : Int) (a0[n1]) v1 hv1) ?_
    refine .rnx 5 hwn1 ?_
    refine .nil ⟨nofun, ?_⟩
    refine .seq ?_
    refine .seq ?_
    refine .plx Try.S hwn1 [2, 6, 7, 11, 12, 13] ?_
    refine .cond rfl rfl (fun hc3 => ?_) (fun hc3 => ?_)
    ·replace hx1 := za2 hx1 hc3
     refine .seq ?_
     refine .plx Try.S hwn1 [7] ?_
     have hq := Option.some.inj hx1
     subst x1
     try dsimp only at h
     have hq := Option.some.inj h
     subst r
     refine .ret ⟨Try.Re_order_of ([], v1.2), ?_, .inr rfl, retH [0] ?_ ?_⟩
     ·refine Goes.new0 1 72 (Nat.le_of_ble_eq_true rfl) ?_
      refine Goes.wk 2 _ (.ref 1 1 0 0 (some uC)) rfl (.own0 1 _ _ _ (by decide)) ?_
      exact .m [2, 3] [1] [(1, 0)]
     ·exact rsi0
     ·rfl
    ·replace hx1 := zaa hx1 hc3
     refine .skip ?_
     obtain ⟨k1, hx1⟩ := zba hx1
     refine .plx Try.S hwn1 [2, 6, 11, 12, 13] ?_
     refine .plx Try.S hwn1 [2, 11, 12, 13] ?_
     refine ⟨(n1 + 1, _), ?_, ⟨by omega, hx1⟩, by dsimp only; omega⟩
     exact .m [2, 11, 12, 13] [2] [(2, 0)]
   ·have h2 : n1 = a0.length := by have h2b := of_decide_eq_false hc2; omega
    rw [List.drop_of_length_le (by omega), zi1] at hx1
    refine .exit ?_
    refine ⟨_, ?_, (Option.some.inj hx1).symm⟩
    exact .m [2] [0] []
  ·rintro l1 hj1
   subst x1
   try dsimp only at h
   simp only [Try.St_order_of_1]
   refine .seq ?_
   refine .pl Try.S [2] ?_
   have hq := Option.some.inj h
   subst r
   refine .ret ⟨Try.Re_order_of (l1, 0), ?_, .inr rfl, retH [0] ?_ ?_⟩
   ·exact .m [2, 3] [0] []
   ·exact rsi0
   ·rfl
theorem zki (a0 : List (List (List UInt8))) (r : (List (List Torder_given)) × Int) (h : zei a0 = some r) : CallP Try.prog 16 [.imm 1 (a0.map dL_str) 4] (.tuple [.imm 1 (r.1.map dL_Torder_givend) 12, .int .i64 r.2]) :=
 zgs (zmh (zbb (zll zka rfl rfl) (zbb rfl zhb))) (callH_order_of a0 r h)
theorem zib (a0 : Torder_given) (c0 : TMessage) (r : Bool) (h : zbg a0 c0 = some r) : CallP Try.prog 37 [.agg [.int .i64 a0.fTime, .int .i64 a0.fM.Id, .imm 1 (a0.fM.Groups.map (D.int .i64)) 4, .int .i64 a0.fM.Topic, .str a0.fM.Key, .str a0.fM.Body], .iptr 0 [.int .i64 c0.Id, .imm 1 (c0.Groups.map (D.int .i64)) 4, .int .i64 c0.Topic, .str c0.Key, .str c0.Body]] (.bool r) := by
 refine za9 Try.tmOk 3 Try.func37 rfl (by decide) rfl rfl (Nat.le_of_ble_eq_true rfl) ?_
 intro hwf
 unfold zbg at h
 refine .seq ?_
 refine .pl Try.S [0, 1] ?_
 refine .seq ?_
 obtain ⟨v1, hv1, h⟩ := bind_some h
 refine .rg Try.S [1, 2] ?_
 refine .rn 3 ?_
 refine .call (r := .bool v1) rfl rfl rfl rfl rfl rfl (zcz a0.fM c0 v1 hv1) ?_
 refine .rn 1 ?_
 refine .nil ⟨nofun, ?_⟩
 have hq := Option.some.inj h
 subst r
 exact .ret ⟨.inr rfl, rsi⟩
def Try.St_order_table_final_1 (n1 : Int) : St := ⟨[(4, .int .i64 n1)], [], 1⟩
attribute [local go_sem] Try.St_order_table_final_1
def Try.St_order_table_final_3 (a0 : List (List Torder_given)) (a1 : TMessage) (n3 : Nat) (n2 : Int) : St := ⟨[(0, .imm 1 (a0.map dL_Torder_givend) 4), (3, .ptr 0 0), (4, .int .i64 n2), (10, .imm 1 (a1.Groups.map (D.int .i64)) 4), (11, .int .i64 (a1.Groups.length : Int)), (12, .int .i64 (n3 : Int))], [(0, .box [.int .i64 a1.Id, .imm 1 (a1.Groups.map (D.int .i64)) 4, .int .i64 a1.Topic, .str a1.Key, .str a1.Body])], 1⟩
attribute [local go_sem] Try.St_order_table_final_3
theorem zfv (a0 : List (List Torder_given)) (a1 : TMessage) (r : Int × Bool) (h : zcd a0 a1 = some r) : CallP Try.prog 18 [.imm 1 (a0.map dL_Torder_givend) 4, .agg [.int .i64 a1.Id, .imm 1 (a1.Groups.map (D.int .i64)) 4, .int .i64 a1.Topic, .str a1.Key, .str a1.Body]] (.tuple [.int .i64 r.1, .bool r.2]) := by
 refine za9 Try.tmOk 3 Try.func18 rfl (by decide) rfl rfl (Nat.le_of_ble_eq_true rfl) ?_
 intro hwf
 unfold zcd at h
 refine .seq ?_
 refine .pl Try.S [0, 1] ?_
 obtain ⟨x1, hx1, h⟩ := bind_some h
 refine .seqM 1 (fun (j : Int) => Try.St_order_table_final_1 j) (fun j => x1 = (.inr j)) (Nat.le_of_ble_eq_true rfl) ?_ ?_
 ·refine .seq ?_
  refine .pl Try.S [0, 3, 4] ?_
  refine .block ?_
  refine .loopG 1 (fun (j : Nat × Int) => Try.St_order_table_final_3 a0 a1 j.1 j.2) (fun j => j.1 <= a1.Groups.length /\ zb6 a0 a1 (a1.Groups.drop j.1) j.2 = some x1) (fun j => a1.Groups.length - j.1) (0, 0) (Nat.le_of_ble_eq_true rfl) ?_ ⟨Nat.zero_le _, hx1⟩ ?_
  ·exact .m [0, 3, 4, 10, 11, 12] [0] []
  rintro ⟨n3, n2⟩ ⟨hi1, hx1⟩
  simp only [Try.St_order_table_final_3]
  simp only at hi1 hx1
  refine .wf 11 (.int .i64 (a1.Groups.length : Int)) rfl ?_
  intro hln3
  replace hln3 : (a1.Groups.length : Int) <= 9223372036854775807 := by simp only [wf, wfL, IntKind.max, IntKind.min, IntKind.signed, IntKind.bits, List.length_map] at hln3; first | exact hln3.2 | exact hln3.1 | (simp at hln3; omega)
  refine .seq ?_
  refine .pl Try.S [0, 3, 4, 10, 11, 12] ?_
  refine .seq ?_
  refine .cond rfl rfl (fun hc1 => ?_) (fun hc1 => ?_)
  ·have h1 : n3 < a1.Groups.length := by simpa using hc1
   have hwn3 : wr .i64 ((n3 : Int) + 1) = ((n3 + 1 : Nat) : Int) := zd4 h1 hln3
   have hpn3 : wr .i64 ((n3 : Int) - 1) = (n3 : Int) - 1 := zd5 h1 hln3
   rw [List.drop_eq_getElem_cons h1, zb6] at hx1
   refine .skip ?_
   refine .seq ?_
   refine .block ?_
   refine .seq ?_
   have e1 := zcc (D.int .i64) a1.Groups n3 h1
   refine .plx Try.S (And.intro e1 hwn3) [0, 3, 4, 10, 11, 12] ?_
   refine .seq ?_
   refine .seq ?_
   refine .plx Try.S hwn3 [0, 3, 4, 7, 10, 11, 12] ?_
   refine .cond rfl rfl (fun hc2 => ?_) (fun hc2 => ?_)
   ·replace hx1 := za2 hx1 hc2
    refine .seq ?_
    refine .plx Try.S hwn3 [] ?_
    have hq := Option.some.inj hx1
    subst x1
    try dsimp only at h
    have hq := Option.some.inj h
    subst r
    exact .ret ⟨.inr rfl, rsi⟩
   ·replace hx1 := zaa hx1 hc2
    refine .skip ?_
    refine .seq ?_
    obtain ⟨k1, hx1⟩ := zba hx1
    obtain ⟨v1, hv1, hx1⟩ := bind_some hx1
    have e2 := zcj dL_Torder_givend a0 (a1.Groups[n3])
    replace e2 := e2 k1
    refine .rg Try.S [0, 3, 4, 7, 10, 11, 12] ?_
    refine .rnx 5 (And.intro e2 hwn3) ?_
    refine .lcall (r := .int .i64 v1) [] rfl rfl rfl rfl rfl (za5 rfl (za5 (zj2 (za5 (zhs rfl (za0 rfl (za0 rfl (za0 rfl (za0 rfl (za0 rfl zgl)))))) zau)) zau)) rfl (zdu (a0.getD (a1.Groups[n3]).toNat default) 37 [.iptr 0 [.int .i64 a1.Id, .imm 1 (a1.Groups.map (D.int .i64)) 4, .int .i64 a1.Topic, .str a1.Key, .str a1.Body]] (fun _ => rfl) (fun _ => rfl) (fun _ => rfl) (fun x0 => zbg x0 a1) (fun x0 y hy => zib x0 a1 y hy) v1 hv1) ?_
    refine .rnx 1 (And.intro e2 hwn3) ?_
    refine .nil ⟨nofun, ?_⟩
    refine .seq ?_
    refine .seq ?_
    refine .plx Try.S hwn3 [0, 3, 4, 7, 8, 10, 11, 12] ?_
    refine .cond rfl rfl (fun hc3 => ?_) (fun hc3 => ?_)
    ·replace hx1 := za2 hx1 hc3
     refine .seq ?_
     refine .plx Try.S hwn3 [] ?_
     have hq := Option.some.inj hx1
     subst x1
     try dsimp only at h
     have hq := Option.some.inj h
     subst r
     exact .ret ⟨.inr rfl, rsi⟩
    ·replace hx1 := zaa hx1 hc3
     refine .skip ?_
     obtain ⟨k2, hx1⟩ := zba hx1
     obtain ⟨k3, hx1⟩ := zba hx1
     have e3 := zcj dL_Torder_givend a0 (a1.Groups[n3])
     have e4 := zcj Torder_given.d (a0.getD (a1.Groups[n3]).toNat default) v1
     replace e3 := e3 k2
     replace e4 := e4 k3
     refine .rg Try.S [0, 3, 4, 7, 8, 10, 11, 12] ?_
     refine .rnx 6 (And.intro e3 (And.intro e4 hwn3)) ?_
     refine .rnx 5 (And.intro e3 (And.intro e4 hwn3)) ?_
     refine .nil ⟨nofun, ?_⟩
     refine .plx Try.S hwn3 [0, 3, 4, 10, 11, 12] ?_
     refine ⟨(n3 + 1, _), ?_, ⟨by omega, hx1⟩, by dsimp only; omega⟩
     exact .m [0, 3, 4, 10, 11, 12] [0] []
  ·have h2 : n3 = a1.Groups.length := by have h2b := of_decide_eq_false hc1; omega
   rw [List.drop_of_length_le (by omega), zb6] at hx1
   refine .exit ?_
   refine ⟨_, ?_, (Option.some.inj hx1).symm⟩
   exact .m [4] [] []
 ·rintro n1 hj1
  subst x1
  try dsimp only at h
  simp only [Try.St_order_table_final_1]
  refine .seq ?_
  refine .pl Try.S [4] ?_
  have hq := Option.some.inj h
  subst r
  exact .ret ⟨.inr rfl, rsi⟩
def Try.St_slices_Concat_order_given_order_given_1 (a0 : List (List Torder_given)) (n1 : Int) : St := ⟨[(0, .imm 1 (a0.map dL_Torder_givend) 4), (3, .int .i64 n1)], [], 0⟩
attribute [local go_sem] Try.St_slices_Concat_order_given_order_given_1
def Try.St_slices_Concat_order_given_order_given_3 (a0 : List (List Torder_given)) (n3 : Nat) (n2 : Int) : St := ⟨[(0, .imm 1 (a0.map dL_Torder_givend) 4), (3, .int .i64 n2), (9, .imm 1 (a0.map dL_Torder_givend) 4), (10, .int .i64 (a0.length : Int)), (11, .int .i64 (n3 : Int))], [], 0⟩
attribute [local go_sem] Try.St_slices_Concat_order_given_order_given_3
def Try.St_slices_Concat_order_given_order_given_5 (l1 : List Torder_given) : St := ⟨[(6, .ref 6 6 0 l1.length (some uC))], [(6, .arr 76 6 true (l1.map Torder_given.d))], 7⟩
attribute [local go_sem] Try.St_slices_Concat_order_given_order_given_5
def Try.St_slices_Concat_order_given_order_given_7 (a0 : List (List Torder_given)) (n4 : Nat) (l2 : List Torder_given) : St := ⟨[(6, .ref 6 6 0 l2.length (some uC)), (25, .imm 1 (a0.map dL_Torder_givend) 4), (26, .int .i64 (a0.length : Int)), (27, .int .i64 (n4 : Int))], [(6, .arr 76 6 true (l2.map Torder_given.d))], 7⟩
attribute [local go_sem] Try.St_slices_Concat_order_given_order_given_7
def Try.Re_slices_Concat_order_given_order_given (r : (List Torder_given)) : St := ⟨[(2, .ref 0 6 0 r.length (some uC))], [(0, .arr 76 6 true (r.map Torder_given.d))], 1⟩
attribute [local go_sem] Try.Re_slices_Concat_order_given_order_given
theorem zed (a0 : List (List Torder_given)) (r : (List Torder_given)) (h : zb1 a0 = some r) : CallH Try.prog 39 [.imm 1 (a0.map dL_Torder_givend) 4] [] (.ref 0 6 0 r.length (some uC)) [(0, some (.arr 76 6 true (r.map Torder_given.d)))] (0, 10) := by
 refine za4 Try.tmOk Try.func39 rfl (by decide) (Nat.le_of_ble_eq_true rfl) (by simp) ?_
 intro hwf
 unfold zb1 at h
 refine .ends 0 (Nat.le_refl _) ?_
 refine .seq ?_
 refine .pl Try.S [0] ?_
 refine .seq ?_
 refine .pl Try.S [0] ?_
 obtain ⟨x1, hx1, h⟩ := bind_some h
 refine .seqM 0 (fun (j : Int) => Try.St_slices_Concat_order_given_order_given_1 a0 j) (fun j => x1 = j) (Nat.le_of_ble_eq_true rfl) ?_ ?_
 ·refine .seq ?_
  refine .pl Try.S [0, 3] ?_
  refine .block ?_
  refine .loopG 0 (fun (j : Nat × Int) => Try.St_slices_Concat_order_given_order_given_3 a0 j.1 j.2) (fun j => j.1 <= a0.length /\ zac (a0.drop j.1) j.2 = some x1) (fun j => a0.length - j.1) (0, 0) (Nat.le_of_ble_eq_true rfl) ?_ ⟨Nat.zero_le _, hx1⟩ ?_
  ·exact .m [0, 3, 9, 10, 11] [] []
  rintro ⟨n3, n2⟩ ⟨hi1, hx1⟩
  simp only [Try.St_slices_Concat_order_given_order_given_3]
  simp only at hi1 hx1
  refine .wf 10 (.int .i64 (a0.length : Int)) rfl ?_
  intro hln3
  replace hln3 : (a0.length : Int) <= 9223372036854775807 := by simp only [wf, wfL, IntKind.max, IntKind.min, IntKind.signed, IntKind.bits, List.length_map] at hln3; first | exact hln3.2 | exact hln3.1 | (simp at hln3; omega)
  refine .seq ?_
  refine .pl Try.S [0, 3, 9, 10, 11] ?_
  refine .seq ?_
  refine .cond rfl rfl (fun hc1 => ?_) (fun hc1 => ?_)
  ·have h1 : n3 < a0.length := by simpa using hc1
   have hwn3 : wr .i64 ((n3 : Int) + 1) = ((n3 + 1 : Nat) : Int) := zd4 h1 hln3
   have hpn3 : wr .i64 ((n3 : Int) - 1) = (n3 : Int) - 1 := zd5 h1 hln3
   rw [List.drop_eq_getElem_cons h1, zac] at hx1
   refine .skip ?_
   refine .seq ?_
   refine .block ?_
   refine .seq ?_
   have e1 := zcc dL_Torder_givend a0 n3 h1
   refine .plx Try.S (And.intro e1 hwn3) [0, 3, 9, 10, 11] ?_
   refine .seq ?_
   refine .plx Try.S hwn3 [0, 3, 5, 9, 10, 11] ?_
   refine .seq ?_
   refine .plx Try.S hwn3 [0, 3, 9, 10, 11] ?_
   refine .cond rfl rfl (fun hc2 => ?_) (fun hc2 => ?_)
   ·replace hx1 := za2 hx1 hc2
    cases hx1
   ·replace hx1 := zaa hx1 hc2
    refine .skip ?_
    refine .plx Try.S hwn3 [0, 3, 9, 10, 11] ?_
    refine ⟨(n3 + 1, _), ?_, ⟨by omega, hx1⟩, by dsimp only; omega⟩
    exact .m [0, 3, 9, 10, 11] [] []
  ·have h2 : n3 = a0.length := by have h2b := of_decide_eq_false hc1; omega
   rw [List.drop_of_length_le (by omega), zac] at hx1
   refine .exit ?_
   refine ⟨_, ?_, (Option.some.inj hx1).symm⟩
   exact .m [0, 3] [] []
 ·rintro n1 hj1
  subst x1
  try dsimp only at h
  simp only [Try.St_slices_Concat_order_given_order_given_1]
  refine .seq ?_
  obtain ⟨k1, h⟩ := zba h
  refine .rg Try.S [0, 3] ?_
  refine .rn 1 ?_
  refine .ncall (r := .ref 3 6 0 0 (some uC)) (eff := [(3, some (.arr 76 6 true []))]) (nw := (3, 6)) [] rfl rfl rfl rfl rfl (za5 rfl (za5 rfl zau)) rfl (zee 3 (Nat.le_of_ble_eq_true rfl) (growT52 n1 k1)) (zdf rfl rfl (zlc zjb 76 6 []) zf6) (by intro i hi; simp [D.ids, D.idsL] at hi <;> omega) rfl ⟨Nat.le_of_ble_eq_true rfl, Nat.le_of_ble_eq_true rfl⟩ ?_
  refine .rn 1 ?_
  refine .nil ⟨nofun, ?_⟩
  obtain ⟨x2, hx2, h⟩ := bind_some h
  refine .seqM 6 (fun (j : (List Torder_given)) => Try.St_slices_Concat_order_given_order_given_5 j) (fun j => x2 = j) (Nat.le_of_ble_eq_true rfl) ?_ ?_
  ·refine .seq ?_
   refine .pl Try.S [0, 6] ?_
   refine .block ?_
   refine .loopG 6 (fun (j : Nat × (List Torder_given)) => Try.St_slices_Concat_order_given_order_given_7 a0 j.1 j.2) (fun j => j.1 <= a0.length /\ zab (a0.drop j.1) j.2 = some x2) (fun j => a0.length - j.1) (0, []) (Nat.le_of_ble_eq_true rfl) ?_ ⟨Nat.zero_le _, hx2⟩ ?_
   ·exact .m [6, 25, 26, 27] [3] [(3, 6)]
   rintro ⟨n4, l2⟩ ⟨hi2, hx2⟩
   simp only [Try.St_slices_Concat_order_given_order_given_7]
   simp only at hi2 hx2
   refine .wf 26 (.int .i64 (a0.length : Int)) rfl ?_
   intro hln4
   replace hln4 : (a0.length : Int) <= 9223372036854775807 := by simp only [wf, wfL, IntKind.max, IntKind.min, IntKind.signed, IntKind.bits, List.length_map] at hln4; first | exact hln4.2 | exact hln4.1 | (simp at hln4; omega)
   refine .seq ?_
   refine .pl Try.S [6, 25, 26, 27] ?_
   refine .seq ?_
   refine .cond rfl rfl (fun hc3 => ?_) (fun hc3 => ?_)
   ·have h3 : n4 < a0.length := by simpa using hc3
    have hwn4 : wr .i64 ((n4 : Int) + 1) = ((n4 + 1 : Nat) : Int) := zd4 h3 hln4
    have hpn4 : wr .i64 ((n4 : Int) - 1) = (n4 : Int) - 1 := zd5 h3 hln4
    rw [List.drop_eq_getElem_cons h3, zca] at hx2
    refine .skip ?_
    refine .seq ?_
    refine .block ?_
    refine .seq ?_
    have e2 := zcc dL_Torder_givend a0 n4 h3
    refine .plx Try.S (And.intro e2 hwn4) [6, 25, 26, 27] ?_
    obtain ⟨k2, hx2⟩ := zba hx2
    refine .plx Try.S hwn4 [6, 8, 25, 26, 27] ?_
    refine .plx Try.S hwn4 [6, 25, 26, 27] ?_
    refine ⟨(n4 + 1, _), ?_, ⟨by omega, hx2⟩, by dsimp only; omega⟩
    exact .m [6, 25, 26, 27] [7] [(7, 6)]
   ·have h4 : n4 = a0.length := by have h4b := of_decide_eq_false hc3; omega
    rw [List.drop_of_length_le (by omega), zc9] at hx2
    refine .exit ?_
    refine ⟨_, ?_, (Option.some.inj hx2).symm⟩
    exact .m [6] [6] []
  ·rintro l1 hj2
   subst x2
   try dsimp only at h
   simp only [Try.St_slices_Concat_order_given_order_given_5]
   refine .seq ?_
   refine .pl Try.S [6] ?_
   have hq := Option.some.inj h
   subst r
   refine .ret ⟨Try.Re_slices_Concat_order_given_order_given l1, ?_, .inr rfl, retH [0] ?_ ?_⟩
   ·exact .m [2] [6] [(6, 0)]
   ·exact rsi0
   ·rfl
def Try.St_order_table_one_1 : St := ⟨[], [], 1⟩
attribute [local go_sem] Try.St_order_table_one_1
def Try.St_order_table_one_3 (v1 : (List Torder_given)) (m1 : List (Int × TMessage)) (n1 : Int) : St := ⟨[(3, .mref 0), (10, .ref 10 6 0 v1.length (some uC)), (11, .int .i64 (v1.length : Int)), (12, .int .i64 n1)], [(0, .map (mapD (D.int .i64) TMessage.d m1)), (10, .arr 76 6 true (v1.map Torder_given.d))], 20⟩
attribute [local go_sem] Try.St_order_table_one_3
theorem zjy (a0 : List (List Torder_given)) (r : Bool) (h : zdz a0 = some r) : CallP Try.prog 19 [.imm 1 (a0.map dL_Torder_givend) 4] (.bool r) := by
 refine za9 Try.tmOk 24 Try.func19 rfl (by decide) rfl rfl (Nat.le_of_ble_eq_true rfl) ?_
 intro hwf
 unfold zdz at h
 refine .seq ?_
 refine .pl Try.S [0] ?_
 refine .seq ?_
 refine .pl Try.S [0] ?_
 obtain ⟨x1, hx1, h⟩ := bind_some h
 refine .seqM 1 (fun (j : Unit) => Try.St_order_table_one_1) (fun j => x1 = (.inr j)) (Nat.le_of_ble_eq_true rfl) ?_ ?_
 ·refine .seq ?_
  obtain ⟨v1, hv1, hx1⟩ := bind_some hx1
  refine .rg Try.S [0, 3] ?_
  refine .rn 1 ?_
  refine .hcall (H := []) (eff := [(10, some (.arr 76 6 true (v1.map Torder_given.d)))]) (nw := (10, 20)) (r := .ref 10 6 0 v1.length (some uC)) rfl rfl rfl rfl rfl (zee 10 (Nat.le_of_ble_eq_true rfl) (zed a0 v1 hv1)) (fun id b h => zak [] _ id b h) (by simp) (.inr ⟨Nat.le_of_ble_eq_true rfl, Nat.le_of_ble_eq_true rfl⟩) ?_
  refine .rn 2 ?_
  refine .nil ⟨nofun, ?_⟩
  refine .block ?_
  refine .loopG 20 (fun (j : Nat × (List (Int × TMessage)) × Int) => Try.St_order_table_one_3 v1 j.2.1 j.2.2) (fun j => zb0 v1 j.1 j.2.1 j.2.2 = some x1) (fun j => j.1) (v1.length + 1, [], 0) (Nat.le_of_ble_eq_true rfl) ?_ hx1 ?_
  ·exact .mp [3, 10, 11, 12] [0, 10] [] ⟨rfl, trivial⟩
  rintro ⟨fu1, m1, n1⟩ hx1
  simp only [Try.St_order_table_one_3]
  try simp only at hx1
  obtain ⟨fu1, rfl⟩ : ∃ k, fu1 = k + 1 := by cases fu1 with | zero => (rw [zb0] at hx1; cases hx1) | succ k => exact ⟨k, rfl⟩
  rw [zb0] at hx1
  refine .seq ?_
  refine .pl Try.S [3, 10, 11, 12] ?_
  refine .seq ?_
  refine .cond rfl rfl (fun hc1 => ?_) (fun hc1 => ?_)
  ·replace hx1 := za2 hx1 hc1
   refine .skip ?_
   refine .seq ?_
   refine .block ?_
   refine .seq ?_
   obtain ⟨k1, hx1⟩ := zba hx1
   have e1 := zcj Torder_given.d v1 n1
   replace e1 := e1 k1
   refine .plx Try.S e1 [3, 10, 11, 12] ?_
   refine .seq ?_
   refine .seqM 21 (fun (_ : Unit) => (⟨[(3, .mref 0), (5, .ptr 20 0), (6, .ptr 21 0), (7, .bool ((mget ((v1.getD n1.toNat default).fM.Id) m1).isSome)), (10, .ref 10 6 0 v1.length (some uC)), (11, .int .i64 (v1.length : Int)), (12, .int .i64 n1)], [(0, .map (mapD (D.int .i64) TMessage.d m1)), (10, .arr 76 6 true (v1.map Torder_given.d)), (20, .box [.int .i64 ((v1.getD n1.toNat default).fTime), .int .i64 ((v1.getD n1.toNat default).fM.Id), .imm 1 (((v1.getD n1.toNat default).fM.Groups).map (D.int .i64)) 4, .int .i64 ((v1.getD n1.toNat default).fM.Topic), .str ((v1.getD n1.toNat default).fM.Key), .str ((v1.getD n1.toNat default).fM.Body)]), (21, .box [.int .i64 (((mget ((v1.getD n1.toNat default).fM.Id) m1).getD (⟨0, [], 0, [], []⟩ : TMessage)).Id), .imm 1 ((((mget ((v1.getD n1.toNat default).fM.Id) m1).getD (⟨0, [], 0, [], []⟩ : TMessage)).Groups).map (D.int .i64)) 4, .int .i64 (((mget ((v1.getD n1.toNat default).fM.Id) m1).getD (⟨0, [], 0, [], []⟩ : TMessage)).Topic), .str (((mget ((v1.getD n1.toNat default).fM.Id) m1).getD (⟨0, [], 0, [], []⟩ : TMessage)).Key), .str (((mget ((v1.getD n1.toNat default).fM.Id) m1).getD (⟨0, [], 0, [], []⟩ : TMessage)).Body)])], 22⟩ : St)) (fun _ => True) (Nat.le_of_ble_eq_true rfl) ?_ (fun _ _ => ?_)
   ·cases hX : (mget ((v1.getD n1.toNat default).fM.Id) m1) with
    | none =>
     refine .plx Try.S hX [3, 5, 10, 11, 12] ?_
     refine ⟨(), ?_, trivial⟩
     refine Goes.boxs 21 _ [.int .i64 0, .imm 1 (([] : List Int).map (D.int .i64)) 4, .int .i64 0, .str [], .str []] rfl (.keep (.cons (.nil4 _ _ _ rfl) (.refl _))) ?_
     exact .mp [3, 5, 6, 7, 10, 11, 12] [0, 10, 20, 21] [] ⟨zg6 (fun _ => rfl) (fun _ => rfl) _, trivial⟩
    | some x =>
     refine .plx Try.S hX [3, 5, 10, 11, 12] ?_
     refine ⟨(), ?_, trivial⟩
     exact .mp [3, 5, 6, 7, 10, 11, 12] [0, 10, 20, 21] [] ⟨zg6 (fun _ => rfl) (fun _ => rfl) _, trivial⟩
   refine .seq ?_
   obtain ⟨v2, hv2, hx1⟩ := bind_some hx1
   refine .rg Try.S [3, 5, 6, 7, 10, 11, 12] ?_
   refine .rn 5 ?_
   refine .gcall (r := .bool v2) rfl rfl rfl rfl rfl (fun hg => ⟨[], [.agg [.int .i64 (((mget ((v1.getD n1.toNat default).fM.Id) m1).getD (⟨0, [], 0, [], []⟩ : TMessage)).Id), .imm 1 ((((mget ((v1.getD n1.toNat default).fM.Id) m1).getD (⟨0, [], 0, [], []⟩ : TMessage)).Groups).map (D.int .i64)) 4, .int .i64 (((mget ((v1.getD n1.toNat default).fM.Id) m1).getD (⟨0, [], 0, [], []⟩ : TMessage)).Topic), .str (((mget ((v1.getD n1.toNat default).fM.Id) m1).getD (⟨0, [], 0, [], []⟩ : TMessage)).Key), .str (((mget ((v1.getD n1.toNat default).fM.Id) m1).getD (⟨0, [], 0, [], []⟩ : TMessage)).Body)], .agg [.int .i64 ((v1.getD n1.toNat default).fM.Id), .imm 1 (((v1.getD n1.toNat default).fM.Groups).map (D.int .i64)) 4, .int .i64 ((v1.getD n1.toNat default).fM.Topic), .str ((v1.getD n1.toNat default).fM.Key), .str ((v1.getD n1.toNat default).fM.Body)]], _, rfl, gd hg, rfl, (zcz ((mget ((v1.getD n1.toNat default).fM.Id) m1).getD (⟨0, [], 0, [], []⟩ : TMessage)) ((v1.getD n1.toNat default).fM) v2 (za2 hv2 hg))⟩) ?_
   refine .rn 2 ?_
   refine .nil ⟨nofun, ?_⟩
   refine .cond rfl rfl (fun hc2 => ?_) (fun hc2 => ?_)
   ·replace hx1 := za2 hx1 hc2
    refine .seq ?_
    refine .pl Try.S [] ?_
    have hq := Option.some.inj hx1
    subst x1
    try dsimp only at h
    have hq := Option.some.inj h
    subst r
    exact .ret ⟨.inr rfl, rsi⟩
   ·replace hx1 := zaa hx1 hc2
    refine .skip ?_
    have em2 : updD (.int .i64 ((v1.getD n1.toNat default).fM.Id)) (.agg [.int .i64 ((v1.getD n1.toNat default).fM.Id), .imm 1 (((v1.getD n1.toNat default).fM.Groups).map (D.int .i64)) 4, .int .i64 ((v1.getD n1.toNat default).fM.Topic), .str ((v1.getD n1.toNat default).fM.Key), .str ((v1.getD n1.toNat default).fM.Body)]) (mapD (D.int .i64) TMessage.d m1) = some (mapD (D.int .i64) TMessage.d (mput ((v1.getD n1.toNat default).fM.Id) ((v1.getD n1.toNat default).fM) m1)) := updD_int _ TMessage.d ((v1.getD n1.toNat default).fM.Id) ((v1.getD n1.toNat default).fM) _ rfl m1
    refine .plx Try.S em2 [3, 5, 10, 11, 12] ?_
    refine .pl Try.S [3, 10, 11, 12] ?_
    refine ⟨(fu1, _, _), ?_, hx1, by dsimp only; omega⟩
    exact .mp [3, 10, 11, 12] [0, 10] [] ⟨zg6 (fun _ => rfl) (fun _ => rfl) _, trivial⟩
  ·replace hx1 := zaa hx1 hc1
   refine .exit ?_
   refine ⟨_, ?_, (Option.some.inj hx1).symm⟩
   exact .m [] [] []
 ·rintro ⟨⟩ hj1
  subst x1
  try dsimp only at h
  simp only [Try.St_order_table_one_1]
  refine .seq ?_
  refine .pl Try.S [] ?_
  have hq := Option.some.inj h
  subst r
  exact .ret ⟨.inr rfl, rsi⟩
theorem zmo (a0 : List (List (List UInt8))) (a1 : TMessage) (r : Int × Bool × Int) (h : zh9 a0 a1 = some r) : CallP Try.prog 7 [.imm 1 (a0.map dL_str) 4, .agg [.int .i64 a1.Id, .imm 1 (a1.Groups.map (D.int .i64)) 4, .int .i64 a1.Topic, .str a1.Key, .str a1.Body]] (.tuple [.int .i64 r.1, .bool r.2.1, .int .i64 r.2.2]) := by
 refine za9 Try.tmOk 3 Try.func7 rfl (by decide) rfl rfl (Nat.le_of_ble_eq_true rfl) ?_
 intro hwf
 unfold zh9 at h
 refine .seq ?_
 refine .pl Try.S [0, 1] ?_
 refine .seq ?_
 obtain ⟨v1, hv1, h⟩ := bind_some h
 refine .rg Try.S [0, 3] ?_
 refine .rn 1 ?_
 refine .call (r := .tuple [.imm 1 (v1.1.map dL_Torder_givend) 12, .int .i64 v1.2]) rfl rfl rfl rfl rfl rfl (zki a0 v1 hv1) ?_
 refine .rn 5 ?_
 refine .nil ⟨nofun, ?_⟩
 refine .seq ?_
 refine .seq ?_
 refine .pl Try.S [3, 7, 8] ?_
 refine .cond rfl rfl (fun hc1 => ?_) (fun hc1 => ?_)
 ·replace h := za2 h hc1
  refine .seq ?_
  refine .pl Try.S [8] ?_
  have hq := Option.some.inj h
  subst r
  exact .ret ⟨.inr rfl, rsi⟩
 ·replace h := zaa h hc1
  refine .skip ?_
  refine .seq ?_
  refine .seq ?_
  obtain ⟨v2, hv2, h⟩ := bind_some h
  refine .rg Try.S [3, 7] ?_
  refine .rn 1 ?_
  refine .call (r := .int .i64 v2) rfl rfl rfl rfl rfl rfl (zdk a1 v2 hv2) ?_
  refine .rn 1 ?_
  refine .nil ⟨nofun, ?_⟩
  refine .cond rfl rfl (fun hc2 => ?_) (fun hc2 => ?_)
  ·replace h := za2 h hc2
   refine .seq ?_
   refine .pl Try.S [] ?_
   have hq := Option.some.inj h
   subst r
   exact .ret ⟨.inr rfl, rsi⟩
  ·replace h := zaa h hc2
   refine .skip ?_
   refine .seq ?_
   obtain ⟨v3, hv3, h⟩ := bind_some h
   refine .rg Try.S [3, 7] ?_
   refine .rn 2 ?_
   refine .call (r := .tuple [.int .i64 v3.1, .bool v3.2]) rfl rfl rfl rfl rfl rfl (zfv v1.1 a1 v3 hv3) ?_
   refine .rn 5 ?_
   refine .nil ⟨nofun, ?_⟩
   refine .seq ?_
   refine .pl Try.S [9, 10] ?_
   have hq := Option.some.inj h
   subst r
   exact .ret ⟨.inr rfl, rsi⟩
theorem zje (a0 : TWait) (c0 : Torder_step) (r : Bool) (h : zco a0 c0 = some r) : CallP Try.prog 24 [.agg [.int .i64 a0.Message.Id, .imm 1 (a0.Message.Groups.map (D.int .i64)) 4, .int .i64 a0.Message.Topic, .str a0.Message.Key, .str a0.Message.Body, .int .i64 a0.Time, .bool a0.Final], .iptr 0 [.int .u8 c0.fC.Kind, .int .i64 c0.fC.Message.Id, .imm 1 (c0.fC.Message.Groups.map (D.int .i64)) 4, .int .i64 c0.fC.Message.Topic, .str c0.fC.Message.Key, .str c0.fC.Message.Body, .int .i64 c0.fC.Id, .int .i64 c0.fC.Time, .imm 1 (c0.fC.Members.map (D.int .i64)) 4, .int .i64 c0.fC.Topic, .int .i64 c0.fC.Who, .int .i64 c0.fC.N, .int .i64 c0.fBefore.Clock, .imm 7 (c0.fBefore.Waits.map TWait.d) 4, .imm 2 (c0.fBefore.Done.map TStamp.d) 4, .int .i64 c0.fAfter.Clock, .imm 7 (c0.fAfter.Waits.map TWait.d) 4, .imm 2 (c0.fAfter.Done.map TStamp.d) 4, .imm 5 (c0.fOut.map TMessage.d) 4]] (.bool r) := by
 refine za9 Try.tmOk 3 Try.func24 rfl (by decide) rfl rfl (Nat.le_of_ble_eq_true rfl) ?_
 intro hwf
 unfold zco at h
 refine .seq ?_
 refine .pl Try.S [0, 1] ?_
 refine .seq ?_
 refine .pl Try.S [1, 2] ?_
 have hq := Option.some.inj h
 subst r
 exact .ret ⟨.inr rfl, rsi⟩
def Try.Re_order_Honest_1 (r : (List (List Torder_given)) × Bool) : St := ⟨[(1, .ptr 20000 0), (2, .ptr 20001 0)], [(20000, .box [.imm 1 (r.1.map dL_Torder_givend) 12]), (20001, .box [.bool r.2])], 20100⟩
attribute [local go_sem] Try.Re_order_Honest_1
theorem zkb (a0 : Torder_step) (c0 : List (List Torder_given)) (c1 : Bool) (r : (List (List Torder_given)) × Bool) (h : zdm a0 c0 c1 = some r) : CallH Try.prog 21 [.agg [.int .u8 a0.fC.Kind, .int .i64 a0.fC.Message.Id, .imm 1 (a0.fC.Message.Groups.map (D.int .i64)) 4, .int .i64 a0.fC.Message.Topic, .str a0.fC.Message.Key, .str a0.fC.Message.Body, .int .i64 a0.fC.Id, .int .i64 a0.fC.Time, .imm 1 (a0.fC.Members.map (D.int .i64)) 4, .int .i64 a0.fC.Topic, .int .i64 a0.fC.Who, .int .i64 a0.fC.N, .int .i64 a0.fBefore.Clock, .imm 7 (a0.fBefore.Waits.map TWait.d) 4, .imm 2 (a0.fBefore.Done.map TStamp.d) 4, .int .i64 a0.fAfter.Clock, .imm 7 (a0.fAfter.Waits.map TWait.d) 4, .imm 2 (a0.fAfter.Done.map TStamp.d) 4, .imm 5 (a0.fOut.map TMessage.d) 4], .ptr 20000 0, .ptr 20001 0] [(20000, .box [.imm 1 (c0.map dL_Torder_givend) 12]), (20001, .box [.bool c1])] (.tuple []) [(20000, some (.box [.imm 1 (r.1.map dL_Torder_givend) 12])), (20001, some (.box [.bool r.2]))] (20100, 20103) := by
 refine za4 Try.tmOk Try.func21 rfl (by decide) (Nat.le_of_ble_eq_true rfl) (by simp) ?_
 intro hwf
 unfold zdm at h
 refine .ends 20100 (Nat.le_refl _) ?_
 refine .seq ?_
 refine .pl Try.S [0, 1, 2] ?_
 refine .seq ?_
 refine .seq ?_
 obtain ⟨v1, hv1, h⟩ := bind_some h
 refine .rg Try.S [1, 2, 3] ?_
 refine .rn 6 ?_
 refine .rn 3 ?_
 refine .gcall (r := .bool v1) rfl rfl rfl rfl rfl (fun hg => ⟨[], [.agg [.int .i64 a0.fBefore.Clock, .imm 7 (a0.fBefore.Waits.map TWait.d) 4, .imm 2 (a0.fBefore.Done.map TStamp.d) 4], .agg [.int .i64 a0.fAfter.Clock, .imm 7 (a0.fAfter.Waits.map TWait.d) 4, .imm 2 (a0.fAfter.Done.map TStamp.d) 4]], _, rfl, gd hg, rfl, (zn9 a0.fBefore a0.fAfter v1 (za2 hv1 hg))⟩) ?_
 refine .rn 1 ?_
 refine .nil ⟨nofun, ?_⟩
 refine .cond rfl rfl (fun hc1 => ?_) (fun hc1 => ?_)
 ·replace h := za2 h hc1
  have hq := Option.some.inj h
  subst r
  refine .ret ⟨Try.Re_order_Honest_1 (c0, c1), ?_, .inr rfl, retH [20000, 20001] ?_ ?_⟩
  ·exact .m [1, 2] [20000, 20001] []
  ·exact rsi0
  ·rfl
 ·replace h := zaa h hc1
  refine .skip ?_
  refine .seq ?_
  obtain ⟨v2, hv2, h⟩ := bind_some h
  refine .rg Try.S [1, 2, 3] ?_
  refine .rn 4 ?_
  refine .lcall (r := .int .i64 v2) [] rfl rfl rfl rfl rfl (za5 rfl (za5 (zj2 (za5 (zhs rfl (za0 rfl (za0 rfl (za0 rfl (za0 rfl (za0 rfl (za0 rfl (za0 rfl (za0 rfl (za0 rfl (za0 rfl (za0 rfl (za0 rfl (za0 rfl (za0 rfl (za0 rfl (za0 rfl (za0 rfl (za0 rfl (za0 rfl zgl)))))))))))))))))))) zau)) zau)) rfl (zfw a0.fBefore.Waits 24 [.iptr 0 [.int .u8 a0.fC.Kind, .int .i64 a0.fC.Message.Id, .imm 1 (a0.fC.Message.Groups.map (D.int .i64)) 4, .int .i64 a0.fC.Message.Topic, .str a0.fC.Message.Key, .str a0.fC.Message.Body, .int .i64 a0.fC.Id, .int .i64 a0.fC.Time, .imm 1 (a0.fC.Members.map (D.int .i64)) 4, .int .i64 a0.fC.Topic, .int .i64 a0.fC.Who, .int .i64 a0.fC.N, .int .i64 a0.fBefore.Clock, .imm 7 (a0.fBefore.Waits.map TWait.d) 4, .imm 2 (a0.fBefore.Done.map TStamp.d) 4, .int .i64 a0.fAfter.Clock, .imm 7 (a0.fAfter.Waits.map TWait.d) 4, .imm 2 (a0.fAfter.Done.map TStamp.d) 4, .imm 5 (a0.fOut.map TMessage.d) 4]] (fun _ => rfl) (fun _ => rfl) (fun _ => rfl) (fun x0 => zco x0 a0) (fun x0 y hy => zje x0 a0 y hy) v2 hv2) ?_
  refine .rn 1 ?_
  refine .nil ⟨nofun, ?_⟩
  refine .seq ?_
  obtain ⟨k1, h⟩ := zba h
  obtain ⟨v3, hv3, h⟩ := bind_some h
  have e1 := zcj TWait.d a0.fBefore.Waits v2
  replace e1 := e1 k1
  refine .rg Try.S [1, 2, 3, 4] ?_
  refine .rdx 8 e1 ?_
  refine .call (r := .tuple [.int .i64 v3.1, .bool v3.2]) rfl rfl rfl rfl rfl rfl (zfv c0 ((a0.fBefore.Waits.getD v2.toNat default).Message) v3 hv3) ?_
  refine .rdx 5 e1 ?_
  refine .nil ⟨fun _ => zbd (by kernel_rfl), ?_⟩
  refine .rg Try.S [1, 2, 3, 5, 6] ?_
  refine .rn 6 ?_
  refine .rn 6 ?_
  refine .nil ⟨nofun, ?_⟩
  have hq := Option.some.inj h
  subst r
  refine ⟨Try.Re_order_Honest_1 (c0, ((c1 && v3.2) && (v3.1 == a0.fC.Time))), ?_, .inl rfl, retH [20000, 20001] ?_ ?_⟩
  ·exact .m [1, 2] [20000, 20001] []
  ·exact rsi0
  ·rfl
def Try.St_order_play_Honest_1 (l1 : List (List Torder_given)) (b1 : Bool) (n1 : Int) (l2 : List TWait) (l3 : List TStamp) : St := ⟨[(2, .fn (.func 21) [.ptr 20000 0, .ptr 20001 0]), (6, .ptr 20100 0), (10, .ptr 20101 0)], [(20000, .box [.imm 1 (l1.map dL_Torder_givend) 12]), (20001, .box [.bool b1]), (20100, .box [.int .i64 0, .imm 0 [] 0, .imm 0 [] 0]), (20101, .box [.int .i64 n1, .imm 7 (l2.map TWait.d) 12, .imm 2 (l3.map TStamp.d) 12])], 20102⟩
attribute [local go_sem] Try.St_order_play_Honest_1
def Try.St_order_play_Honest_3 (a0 : Int) (v1 : (List TCommand) × Int) (n3 : Nat) (l4 : List (List Torder_given)) (b2 : Bool) (n2 : Int) (l5 : List TWait) (l6 : List TStamp) : St := ⟨[(0, .int .i64 a0), (2, .fn (.func 21) [.ptr 20000 0, .ptr 20001 0]), (6, .ptr 20100 0), (10, .ptr 20101 0), (33, .imm 12 (v1.1.map TCommand.d) 12), (34, .int .i64 (v1.1.length : Int)), (35, .int .i64 (n3 : Int))], [(20000, .box [.imm 1 (l4.map dL_Torder_givend) 12]), (20001, .box [.bool b2]), (20100, .box [.int .i64 0, .imm 0 [] 0, .imm 0 [] 0]), (20101, .box [.int .i64 n2, .imm 7 (l5.map TWait.d) 12, .imm 2 (l6.map TStamp.d) 12])], 20102⟩
attribute [local go_sem] Try.St_order_play_Honest_3
def Try.St_order_play_Honest_5 (a0 : Int) (v1 : (List TCommand) × Int) (n3 : Nat) (l4 : List (List Torder_given)) (b2 : Bool) (n2 : Int) (l5 : List TWait) (l6 : List TStamp) (yq0 : TCommand) (n4 : Int) (l7 : List TWait) (l8 : List TStamp) (l9 : List TMessage) : St := ⟨[(0, .int .i64 a0), (2, .fn (.func 21) [.ptr 20000 0, .ptr 20001 0]), (6, .ptr 20100 0), (10, .ptr 20101 0), (12, .ptr 20102 0), (13, .ptr 20103 0), (14, .imm 5 (l9.map TMessage.d) 12), (33, .imm 12 (v1.1.map TCommand.d) 12), (34, .int .i64 (v1.1.length : Int)), (35, .int .i64 (n3 : Int))], [(20000, .box [.imm 1 (l4.map dL_Torder_givend) 12]), (20001, .box [.bool b2]), (20100, .box [.int .i64 0, .imm 0 [] 0, .imm 0 [] 0]), (20101, .box [.int .i64 n2, .imm 7 (l5.map TWait.d) 12, .imm 2 (l6.map TStamp.d) 12]), (20102, .box [.int .u8 (yq0.Kind), .int .i64 (yq0.Message.Id), .imm 1 ((yq0.Message.Groups).map (D.int .i64)) 12, .int .i64 (yq0.Message.Topic), .str (yq0.Message.Key), .str (yq0.Message.Body), .int .i64 (yq0.Id), .int .i64 (yq0.Time), .imm 1 ((yq0.Members).map (D.int .i64)) 12, .int .i64 (yq0.Topic), .int .i64 (yq0.Who), .int .i64 (yq0.N)]), (20103, .box [.int .i64 n4, .imm 7 (l7.map TWait.d) 12, .imm 2 (l8.map TStamp.d) 12])], 20104⟩
attribute [local go_sem] Try.St_order_play_Honest_5
def Try.Re_order_play_Honest (r : TSkeen × Int × (List (List Torder_given)) × Bool) : St := ⟨[(2, .fn (.func 21) [.ptr 20000 0, .ptr 20001 0]), (6, .ptr 20102 0), (7, .int .i64 r.2.1)], [(20000, .box [.imm 1 (r.2.2.1.map dL_Torder_givend) 12]), (20001, .box [.bool r.2.2.2]), (20100, .arr 69 7 true (r.1.Waits.map TWait.n)), (20101, .arr 38 2 true (r.1.Done.map TStamp.d)), (20102, .box [.int .i64 r.1.Clock, .ref 20100 7 0 r.1.Waits.length (some uC), .ref 20101 2 0 r.1.Done.length (some uC)])], 20103⟩
attribute [local go_sem] Try.Re_order_play_Honest
theorem zj8 (a0 : Int) (a1 : List (List UInt8)) (a2_0 : List (List Torder_given)) (a2_1 : Bool) (r : TSkeen × Int × (List (List Torder_given)) × Bool) (h : zdg a0 a1 a2_0 a2_1 = some r) : CallH Try.prog 20 [.int .i64 a0, .imm 1 (a1.map D.str) 4, .fn (.func 21) [.ptr 20000 0, .ptr 20001 0]] [(20000, .box [.imm 1 (a2_0.map dL_Torder_givend) 12]), (20001, .box [.bool a2_1])] (.tuple [.agg [.int .i64 r.1.Clock, .ref 20100 7 0 r.1.Waits.length (some uC), .ref 20101 2 0 r.1.Done.length (some uC)], .int .i64 r.2.1]) [(20000, some (.box [.imm 1 (r.2.2.1.map dL_Torder_givend) 12])), (20001, some (.box [.bool r.2.2.2])), (20100, some (.arr 69 7 true (r.1.Waits.map TWait.n))), (20101, some (.arr 38 2 true (r.1.Done.map TStamp.d)))] (20100, 20116) := by
 refine za4 Try.tmOk Try.func20 rfl (by decide) (Nat.le_of_ble_eq_true rfl) (by simp) ?_
 intro hwf
 unfold zdg at h
 refine .ends 20100 (Nat.le_refl _) ?_
 refine .seq ?_
 refine .pl Try.S [0, 1, 2] ?_
 refine .seq ?_
 refine .seq ?_
 refine .pl Try.S [0, 1, 2, 6] ?_
 refine .cond rfl rfl (fun hc1 => ?_) (fun hc1 => ?_)
 ·replace h := za2 h hc1
  refine .seq ?_
  refine .pl Try.S [2, 6] ?_
  have hq := Option.some.inj h
  subst r
  refine .ret ⟨Try.Re_order_play_Honest ((⟨0, [], []⟩ : TSkeen), 2, a2_0, a2_1), ?_, .inr rfl, retH [20000, 20001, 20101, 20100] ?_ ?_⟩
  ·refine Goes.new0 7 69 (Nat.le_of_ble_eq_true rfl) ?_
   refine Goes.new0 2 38 (Nat.le_of_ble_eq_true rfl) ?_
   refine Goes.boxs 20100 _ [.int .i64 0, .ref 20101 7 0 0 (some uC), .ref 20102 2 0 0 (some uC)] rfl (.keep (.cons (.own0 20101 _ _ _ (by decide)) (.cons (.own0 20102 _ _ _ (by decide)) (.refl _)))) ?_
   exact .m [2, 6, 7] [20000, 20001, 20101, 20102, 20100] [(20101, 20100), (20102, 20101), (20100, 20102)]
  ·exact rsi0
  ·rfl
 ·replace h := zaa h hc1
  refine .skip ?_
  refine .seq ?_
  obtain ⟨v1, hv1, h⟩ := bind_some h
  refine .rg Try.S [0, 1, 2, 6] ?_
  refine .rn 1 ?_
  refine .call (r := .tuple [.imm 12 (v1.1.map TCommand.d) 12, .int .i64 v1.2]) rfl rfl rfl rfl rfl rfl (zi8 a1 v1 hv1) ?_
  refine .rn 5 ?_
  refine .nil ⟨nofun, ?_⟩
  refine .seq ?_
  refine .seq ?_
  refine .pl Try.S [0, 2, 6, 8, 9] ?_
  refine .cond rfl rfl (fun hc2 => ?_) (fun hc2 => ?_)
  ·replace h := za2 h hc2
   refine .seq ?_
   refine .pl Try.S [2, 6, 9] ?_
   have hq := Option.some.inj h
   subst r
   refine .ret ⟨Try.Re_order_play_Honest ((⟨0, [], []⟩ : TSkeen), v1.2, a2_0, a2_1), ?_, .inr rfl, retH [20000, 20001, 20101, 20100] ?_ ?_⟩
   ·refine Goes.new0 7 69 (Nat.le_of_ble_eq_true rfl) ?_
    refine Goes.new0 2 38 (Nat.le_of_ble_eq_true rfl) ?_
    refine Goes.boxs 20100 _ [.int .i64 0, .ref 20101 7 0 0 (some uC), .ref 20102 2 0 0 (some uC)] rfl (.keep (.cons (.own0 20101 _ _ _ (by decide)) (.cons (.own0 20102 _ _ _ (by decide)) (.refl _)))) ?_
    exact .m [2, 6, 7] [20000, 20001, 20101, 20102, 20100] [(20101, 20100), (20102, 20101), (20100, 20102)]
   ·exact rsi0
   ·rfl
  ·replace h := zaa h hc2
   refine .skip ?_
   refine .seq ?_
   obtain ⟨v2, hv2, h⟩ := bind_some h
   refine .rg Try.S [0, 2, 6, 8] ?_
   refine .call (r := .agg [.int .i64 v2.Clock, .imm 7 (v2.Waits.map TWait.d) 12, .imm 2 (v2.Done.map TStamp.d) 12]) rfl rfl rfl rfl rfl rfl (zjx  v2 hv2) ?_
   refine .rn 2 ?_
   refine .nil ⟨nofun, ?_⟩
   obtain ⟨x1, hx1, h⟩ := bind_some h
   refine .seqM 20102 (fun (j : (List (List Torder_given)) × Bool × Int × (List TWait) × (List TStamp)) => Try.St_order_play_Honest_1 j.1 j.2.1 j.2.2.1 j.2.2.2.1 j.2.2.2.2) (fun j => x1 = j) (Nat.le_of_ble_eq_true rfl) ?_ ?_
   ·refine .seq ?_
    refine .pl Try.S [0, 2, 6, 8, 10] ?_
    refine .block ?_
    refine .loopG 20102 (fun (j : Nat × (List (List Torder_given)) × Bool × Int × (List TWait) × (List TStamp)) => Try.St_order_play_Honest_3 a0 v1 j.1 j.2.1 j.2.2.1 j.2.2.2.1 j.2.2.2.2.1 j.2.2.2.2.2) (fun j => j.1 <= v1.1.length /\ zb7 a0 (v1.1.drop j.1) j.2.1 j.2.2.1 j.2.2.2.1 j.2.2.2.2.1 j.2.2.2.2.2 = some x1) (fun j => v1.1.length - j.1) (0, a2_0, a2_1, v2.Clock, v2.Waits, v2.Done) (Nat.le_of_ble_eq_true rfl) ?_ ⟨Nat.zero_le _, hx1⟩ ?_
    ·exact .m [0, 2, 6, 10, 33, 34, 35] [20000, 20001, 20100, 20101] []
    rintro ⟨n3, l4, b2, n2, l5, l6⟩ ⟨hi1, hx1⟩
    simp only [Try.St_order_play_Honest_3]
    simp only at hi1 hx1
    refine .wf 34 (.int .i64 (v1.1.length : Int)) rfl ?_
    intro hln3
    replace hln3 : (v1.1.length : Int) <= 9223372036854775807 := by simp only [wf, wfL, IntKind.max, IntKind.min, IntKind.signed, IntKind.bits, List.length_map] at hln3; first | exact hln3.2 | exact hln3.1 | (simp at hln3; omega)
    refine .seq ?_
    refine .pl Try.S [0, 2, 6, 10, 33, 34, 35] ?_
    refine .seq ?_
    refine .cond rfl rfl (fun hc3 => ?_) (fun hc3 => ?_)
    ·have h1 : n3 < v1.1.length := by simpa using hc3
     have hwn3 : wr .i64 ((n3 : Int) + 1) = ((n3 + 1 : Nat) : Int) := zd4 h1 hln3
     have hpn3 : wr .i64 ((n3 : Int) - 1) = (n3 : Int) - 1 := zd5 h1 hln3
     rw [List.drop_eq_getElem_cons h1, zb7] at hx1
     refine .skip ?_
     refine .seq ?_
     refine .block ?_
     refine .seq ?_
     have e1 := zcc TCommand.d v1.1 n3 h1
     refine .plx Try.S (And.intro e1 hwn3) [0, 2, 6, 10, 33, 34, 35] ?_
     refine .seq ?_
     obtain ⟨v3, hv3, hx1⟩ := bind_some hx1
     refine .rg Try.S [0, 2, 6, 10, 12, 33, 34, 35] ?_
     refine .rnx 3 hwn3 ?_
     refine .call (r := .tuple [.agg [.int .i64 v3.1.Clock, .imm 7 (v3.1.Waits.map TWait.d) 12, .imm 2 (v3.1.Done.map TStamp.d) 12], .imm 5 (v3.2.1.map TMessage.d) 12, .int .i64 v3.2.2]) rfl rfl rfl rfl rfl rfl (zio (⟨n2, l5, l6⟩ : TSkeen) a0 (v1.1[n3]) v3 hv3) ?_
     refine .rnx 8 hwn3 ?_
     refine .nil ⟨nofun, ?_⟩
     obtain ⟨x2, hx2, hx1⟩ := bind_some hx1
     refine .seqM 20104 (fun (j : Int × (List TWait) × (List TStamp) × (List TMessage)) => Try.St_order_play_Honest_5 a0 v1 n3 l4 b2 n2 l5 l6 (v1.1[n3]) j.1 j.2.1 j.2.2.1 j.2.2.2) (fun j => x2 = j) (Nat.le_of_ble_eq_true rfl) ?_ ?_
     ·refine .seq ?_
      refine .plx Try.S hwn3 [0, 2, 6, 10, 12, 13, 14, 15, 33, 34, 35] ?_
      refine .cond rfl rfl (fun hc4 => ?_) (fun hc4 => ?_)
      ·replace hx2 := za2 hx2 hc4
       refine .plx Try.S hwn3 [0, 2, 6, 10, 12, 13, 33, 34, 35] ?_
       refine ⟨_, ?_, (Option.some.inj hx2).symm⟩
       refine Goes.wk 14 _ (.imm 5 [] 12) rfl (.nil12 _ _ 0 (by decide)) ?_
       exact .m [0, 2, 6, 10, 12, 13, 14, 33, 34, 35] [20000, 20001, 20100, 20101, 20102, 20103] []
      ·replace hx2 := zaa hx2 hc4
       refine .skip ?_
       refine ⟨_, ?_, (Option.some.inj hx2).symm⟩
       exact .m [0, 2, 6, 10, 12, 13, 14, 33, 34, 35] [20000, 20001, 20100, 20101, 20102, 20103] []
     ·rintro ⟨n4, l7, l8, l9⟩ hj1
      subst x2
      try dsimp only at hx1
      simp only [Try.St_order_play_Honest_5]
      refine .seq ?_
      obtain ⟨v4, hv4, hx1⟩ := bind_some hx1
      refine .rg Try.S [0, 2, 6, 10, 12, 13, 14, 33, 34, 35] ?_
      refine .rnx 6 hwn3 ?_
      refine .hcall (H := [(20000, .box [.imm 1 (l4.map dL_Torder_givend) 12]), (20001, .box [.bool b2])]) (eff := [(20000, some (.box [.imm 1 (v4.1.map dL_Torder_givend) 12])), (20001, some (.box [.bool v4.2]))]) (nw := (20104, 20107)) (r := .tuple []) rfl rfl rfl rfl rfl (zag 20001 20001 (zag 20000 20000 (zby 20104 (zir (.cons (.aggs (.keep (.keep (.cons (.new4 _ _ rfl) (.keep (.keep (.keep (.keep (.keep (.cons (.new4 _ _ rfl) (.keep (.keep (.keep (.keep (.cons (.new4 _ _ rfl) (.cons (.new4 _ _ rfl) (.keep (.cons (.new4 _ _ rfl) (.cons (.new4 _ _ rfl) (.cons (.new4 _ _ rfl) (.refl _))))))))))))))))))))) (.refl _)) (zkb (⟨v1.1[n3], (⟨n2, l5, l6⟩ : TSkeen), (⟨n4, l7, l8⟩ : TSkeen), l9⟩ : Torder_step) l4 b2 v4 hv4))))) (fun id b h => zak [20000, 20001] _ id b h) (by simp) (.inr ⟨Nat.le_of_ble_eq_true rfl, Nat.le_of_ble_eq_true rfl⟩) ?_
      refine .nil ⟨nofun, ?_⟩
      refine .plx Try.S hwn3 [0, 2, 6, 10, 13, 33, 34, 35] ?_
      refine .plx Try.S hwn3 [0, 2, 6, 10, 33, 34, 35] ?_
      refine ⟨(n3 + 1, _, _, _, _, _), ?_, ⟨by omega, hx1⟩, by dsimp only; omega⟩
      exact .m [0, 2, 6, 10, 33, 34, 35] [20000, 20001, 20100, 20101] []
    ·have h2 : n3 = v1.1.length := by have h2b := of_decide_eq_false hc3; omega
     rw [List.drop_of_length_le (by omega), zb7] at hx1
     refine .exit ?_
     refine ⟨_, ?_, (Option.some.inj hx1).symm⟩
     exact .m [2, 6, 10] [20000, 20001, 20100, 20101] []
   ·rintro ⟨l1, b1, n1, l2, l3⟩ hj2
    subst x1
    try dsimp only at h
    simp only [Try.St_order_play_Honest_1]
    refine .seq ?_
    obtain ⟨v5, hv5, h⟩ := bind_some h
    refine .rg Try.S [2, 6, 10] ?_
    refine .rn 1 ?_
    refine .ncall (r := .agg [.int .i64 v5.Clock, .ref 20102 7 0 v5.Waits.length (some uC), .ref 20103 2 0 v5.Done.length (some uC)]) (eff := [(20102, some (.arr 69 7 true (v5.Waits.map TWait.n))), (20103, some (.arr 38 2 true (v5.Done.map TStamp.d)))]) (nw := (20102, 20114)) [] rfl rfl rfl rfl rfl (za5 rfl zau) rfl (zee 20102 (Nat.le_of_ble_eq_true rfl) (zh1 (⟨n1, l2, l3⟩ : TSkeen) v5 hv5)) (zdf rfl rfl (zlc zgf _ _ _) (zdf rfl rfl (zfn zhh _ _ _) zf6)) (by intro i hi; simp [D.ids, D.idsL] at hi <;> omega) rfl ⟨Nat.le_of_ble_eq_true rfl, Nat.le_of_ble_eq_true rfl⟩ ?_
    refine .rn 2 ?_
    refine .nil ⟨nofun, ?_⟩
    have hq := Option.some.inj h
    subst r
    refine .ret ⟨Try.Re_order_play_Honest (v5, 0, l1, b1), ?_, .inr rfl, retH [20000, 20001, 20101, 20100] ?_ ?_⟩
    ·exact .m [2, 6, 7] [20000, 20001, 20102, 20103, 20100] [(20102, 20100), (20103, 20101), (20100, 20102)]
    ·exact rsi0
    ·rfl
def Try.St_order_Honest_1 (b1 : Bool) : St := ⟨[(6, .ptr 1 0)], [(1, .box [.bool b1])], 2⟩
attribute [local go_sem] Try.St_order_Honest_1
def Try.St_order_Honest_3 (a0 : List (List (List UInt8))) (n1 : Nat) (l1 : List (List Torder_given)) (b2 : Bool) : St := ⟨[(4, .ptr 0 0), (6, .ptr 1 0), (19, .imm 1 (a0.map dL_str) 4), (20, .int .i64 (a0.length : Int)), (21, .int .i64 (n1 : Int))], [(0, .box [.imm 1 (l1.map dL_Torder_givend) 12]), (1, .box [.bool b2])], 2⟩
attribute [local go_sem] Try.St_order_Honest_3
theorem zi7 (a0 : List (List (List UInt8))) (r : Bool × Int) (h : zdr a0 = some r) : CallP Try.prog 8 [.imm 1 (a0.map dL_str) 4] (.tuple [.bool r.1, .int .i64 r.2]) := by
 refine za9 Try.tmOk 20 Try.func8 rfl (by decide) rfl rfl (Nat.le_of_ble_eq_true rfl) ?_
 intro hwf
 unfold zdr at h
 refine .seq ?_
 refine .pl Try.S [0] ?_
 refine .seq ?_
 obtain ⟨v1, hv1, h⟩ := bind_some h
 refine .rg Try.S [0] ?_
 refine .rn 1 ?_
 refine .call (r := .tuple [.imm 1 (v1.1.map dL_Torder_givend) 12, .int .i64 v1.2]) rfl rfl rfl rfl rfl rfl (zki a0 v1 hv1) ?_
 refine .rn 6 ?_
 refine .nil ⟨nofun, ?_⟩
 refine .seq ?_
 refine .seq ?_
 refine .pl Try.S [0, 4, 5] ?_
 refine .cond rfl rfl (fun hc1 => ?_) (fun hc1 => ?_)
 ·replace h := za2 h hc1
  refine .seq ?_
  refine .pl Try.S [5] ?_
  have hq := Option.some.inj h
  subst r
  exact .ret ⟨.inr rfl, rsi⟩
 ·replace h := zaa h hc1
  refine .skip ?_
  refine .seq ?_
  obtain ⟨v2, hv2, h⟩ := bind_some h
  refine .rg Try.S [0, 4] ?_
  refine .rn 1 ?_
  refine .call (r := .bool v2) rfl rfl rfl rfl rfl rfl (zjy v1.1 v2 hv2) ?_
  refine .rn 2 ?_
  refine .nil ⟨nofun, ?_⟩
  obtain ⟨x1, hx1, h⟩ := bind_some h
  refine .seqM 2 (fun (j : Bool) => Try.St_order_Honest_1 j) (fun j => x1 = j) (Nat.le_of_ble_eq_true rfl) ?_ ?_
  ·refine .seq ?_
   refine .pl Try.S [0, 4, 6] ?_
   refine .block ?_
   refine .loopG 2 (fun (j : Nat × (List (List Torder_given)) × Bool) => Try.St_order_Honest_3 a0 j.1 j.2.1 j.2.2) (fun j => j.1 <= a0.length /\ zc1 (a0.drop j.1) j.1 j.2.1 j.2.2 = some x1) (fun j => a0.length - j.1) (0, v1.1, v2) (Nat.le_of_ble_eq_true rfl) ?_ ⟨Nat.zero_le _, hx1⟩ ?_
   ·exact .m [4, 6, 19, 20, 21] [0, 1] []
   rintro ⟨n1, l1, b2⟩ ⟨hi1, hx1⟩
   simp only [Try.St_order_Honest_3]
   simp only at hi1 hx1
   refine .wf 20 (.int .i64 (a0.length : Int)) rfl ?_
   intro hln1
   replace hln1 : (a0.length : Int) <= 9223372036854775807 := by simp only [wf, wfL, IntKind.max, IntKind.min, IntKind.signed, IntKind.bits, List.length_map] at hln1; first | exact hln1.2 | exact hln1.1 | (simp at hln1; omega)
   refine .seq ?_
   refine .pl Try.S [4, 6, 19, 20, 21] ?_
   refine .seq ?_
   refine .cond rfl rfl (fun hc2 => ?_) (fun hc2 => ?_)
   ·have h1 : n1 < a0.length := by simpa using hc2
    have hwn1 : wr .i64 ((n1 : Int) + 1) = ((n1 + 1 : Nat) : Int) := zd4 h1 hln1
    have hpn1 : wr .i64 ((n1 : Int) - 1) = (n1 : Int) - 1 := zd5 h1 hln1
    rw [List.drop_eq_getElem_cons h1, zc1] at hx1
    refine .skip ?_
    refine .seq ?_
    refine .block ?_
    refine .seq ?_
    have e1 := zcc dL_str a0 n1 h1
    refine .plx Try.S (And.intro e1 hwn1) [4, 6, 19, 20, 21] ?_
    obtain ⟨v3, hv3, hx1⟩ := bind_some hx1
    refine .rg Try.S [4, 6, 7, 8, 19, 20, 21] ?_
    refine .rnx 3 hwn1 ?_
    refine .hcall (H := [(0, .box [.imm 1 (l1.map dL_Torder_givend) 12]), (1, .box [.bool b2])]) (eff := [(0, some (.box [.imm 1 (v3.2.2.1.map dL_Torder_givend) 12])), (1, some (.box [.bool v3.2.2.2])), (2, some (.arr 69 7 true (v3.1.Waits.map TWait.n))), (3, some (.arr 38 2 true (v3.1.Done.map TStamp.d)))]) (nw := (2, 18)) (r := .tuple [.agg [.int .i64 v3.1.Clock, .ref 2 7 0 v3.1.Waits.length (some uC), .ref 3 2 0 v3.1.Done.length (some uC)], .int .i64 v3.2.1]) rfl rfl rfl rfl rfl (zda 2 (zag 20001 1 (zag 20000 0 (zj8 (n1 : Int) (a0[n1]) l1 b2 v3 hv3)))) (fun id b h => zak [0, 1] _ id b h) (by simp) (.inr ⟨Nat.le_of_ble_eq_true rfl, Nat.le_of_ble_eq_true rfl⟩) ?_
    refine .rnx 3 hwn1 ?_
    refine .nil ⟨nofun, ?_⟩
    refine .plx Try.S hwn1 [4, 6, 19, 20, 21] ?_
    refine ⟨(n1 + 1, _, _), ?_, ⟨by omega, hx1⟩, by dsimp only; omega⟩
    exact .m [4, 6, 19, 20, 21] [0, 1] []
   ·have h2 : n1 = a0.length := by have h2b := of_decide_eq_false hc2; omega
    rw [List.drop_of_length_le (by omega), zc1] at hx1
    refine .exit ?_
    refine ⟨_, ?_, (Option.some.inj hx1).symm⟩
    exact .m [6] [1] []
  ·rintro b1 hj1
   subst x1
   try dsimp only at h
   simp only [Try.St_order_Honest_1]
   refine .seq ?_
   refine .pl Try.S [6] ?_
   have hq := Option.some.inj h
   subst r
   exact .ret ⟨.inr rfl, rsi⟩
end Go.Proofs
end
section
namespace Go.Proofs
open Go.Tm
set_option linter.unusedVariables false
def zd0 : Nat -> (List Int) -> Int -> Option ((List Int) × Int)
 | 0, _, _ => none
 | fu1 + 1, l2, n2 =>
  if n2 > 127 then
  if l2.length + [(wr .u8 (bitw .or .i64 (bitw .and .i64 n2 127) 128))].length < 1000000 then
  zd0 fu1 (l2 ++ [(wr .u8 (bitw .or .i64 (bitw .and .i64 n2 127) 128))]) (shw false .i64 n2 7)
  else none
  else
  some (l2, n2)
def zhq (a1 : Int) : Option ((List Int)) :=
 Option.bind (α := (List Int) × Int) (zd0 (11) [] a1) fun (l1, n1) =>
 if l1.length + [(wr .u8 n1)].length < 1000000 then
 some (l1 ++ [(wr .u8 n1)])
 else none
def ze0 : Nat -> (List Int) -> Int -> Option ((List Int) × Int)
 | 0, _, _ => none
 | fu1 + 1, l2, n2 =>
  if n2 > 127 then
  if l2.length + [(wr .u8 (bitw .or .i64 (bitw .and .i64 n2 127) 128))].length < 1000000 then
  ze0 fu1 (l2 ++ [(wr .u8 (bitw .or .i64 (bitw .and .i64 n2 127) 128))]) (shw false .i64 n2 7)
  else none
  else
  some (l2, n2)
def zkr (a0 : List Int) (a1 : Int) : Option ((List Int)) :=
 Option.bind (α := (List Int) × Int) (ze0 (11) a0 a1) fun (l1, n1) =>
 if l1.length + [(wr .u8 n1)].length < 1000000 then
 some (l1 ++ [(wr .u8 n1)])
 else none
def zhr (a0 : Int) : Option ((List Int) × Int) :=
 Option.bind (zha a0) fun v1 =>
 if ¬ (v1 = true) then
 some ([], 2)
 else
 Option.bind (zhq a0) fun v2 =>
 some (v2, 0)
def zme (a0 : List UInt8) : Option ((List Int) × Int) :=
 if (a0.length : Int) > 4096 then
 some ([], 3)
 else
 Option.bind (zhq (a0.length : Int)) fun v1 =>
 if v1.length + (zg2 a0).length < 1000000 then
 some ((v1 ++ (zg2 a0)), 0)
 else none
def zef : List Int -> (List Int) -> Option (((List Int) × Int) ⊕ ((List Int)))
 | [], l2 =>
  some (.inr l2)
 | y1 :: rest1, l2 =>
  Option.bind (zha (y1)) fun v2 =>
  if ¬ (v2 = true) then
  some (.inl ([], 2))
  else
  Option.bind (zkr l2 (y1)) fun v3 =>
  zef rest1 v3
def zmf (a0 : List Int) : Option ((List Int) × Int) :=
 if (a0.length : Int) > 4096 then
 some ([], 4)
 else
 Option.bind (zhq (a0.length : Int)) fun v1 =>
 Option.bind (α := ((List Int) × Int) ⊕ ((List Int))) (zef a0 v1) fun z => match z with
 | (.inl r) => some r
 | (.inr l1) =>
 some (l1, 0)
def zb3 (a0 : List Int) : Nat -> (List Int) -> Int -> Option ((List Int))
 | 0, _, _ => none
 | fu1 + 1, l1, n1 =>
  if n1 < (a0.length : Int) then
  if (0 <= n1 /\ n1 < (a0.length : Int)) then
  Option.bind (zhr (a0.getD n1.toNat default)) fun v1 =>
  if l1.length + v1.1.length < 1000000 then
  zb3 a0 fu1 (l1 ++ v1.1) (wr .i64 (n1 + 1))
  else none
  else none
  else
  some l1
def zcr (a0 : List Int) (c0 : List Int) : Option ((List Int)) :=
 zb3 a0 (a0.length + 1) c0 0
def zfa (a0 : List Int) (c0 : List Int) : Option ((List Int)) :=
 Option.bind (zmf a0) fun v1 =>
 if c0.length + v1.1.length < 1000000 then
 some (c0 ++ v1.1)
 else none
def zf9 (a0 : List UInt8) (c0 : List Int) : Option ((List Int)) :=
 Option.bind (zme a0) fun v1 =>
 if c0.length + v1.1.length < 1000000 then
 some (c0 ++ v1.1)
 else none
def zgb (a0 : TCommand) : Option ((List UInt8)) :=
 Option.bind (α := (List Int)) (if a0.Kind = 1 then
 Option.bind (zcr [a0.Message.Id] [a0.Kind]) fun v1 =>
 Option.bind (zfa a0.Message.Groups v1) fun v2 =>
 Option.bind (zcr [a0.Message.Topic] v2) fun v3 =>
 Option.bind (zf9 a0.Message.Key v3) fun v4 =>
 Option.bind (zf9 a0.Message.Body v4) fun v5 =>
 some v5
 else
 if a0.Kind = 2 then
 Option.bind (zcr [a0.Id, a0.Time] [a0.Kind]) fun v6 =>
 some v6
 else
 if a0.Kind = 3 then
 Option.bind (zfa a0.Members [a0.Kind]) fun v7 =>
 some v7
 else
 if a0.Kind = 4 then
 Option.bind (zcr [a0.Id, a0.Topic, a0.Who, a0.N] [a0.Kind]) fun v8 =>
 some v8
 else
 Option.bind (α := Bool) (if a0.Kind = 5 then
 some (a0.Kind == 5)
 else
 some (a0.Kind == 6)) fun b1 =>
 if b1 = true then
 Option.bind (zcr [a0.Id, a0.Topic, a0.N] [a0.Kind]) fun v9 =>
 some v9
 else
 some [a0.Kind]) fun l1 =>
 some (zgy l1)
def zft (a0 : TCommand) : Option ((List UInt8) × Int) :=
 Option.bind (zbw a0) fun v1 =>
 if ¬ (v1 = 0) then
 some ([], v1)
 else
 Option.bind (zgb a0) fun v2 =>
 some (v2, 0)
def zcu (a0 : Int) (a1 : Int) : Option ((List UInt8)) :=
 Option.bind (zft (⟨2, (⟨0, [], 0, [], []⟩ : TMessage), a0, a1, [], 0, 0, 0⟩ : TCommand)) fun v1 =>
 some v1.1
def zal (a1 : TMessage) (v2 : Int × Bool × Int) : List TStamp -> Bool -> Option (Bool ⊕ Bool)
 | [], b4 =>
  some (.inr b4)
 | y2 :: rest2, b4 =>
  if (y2.Id = a1.Id) /\ (y2.Time > v2.1) then
  some (.inl false)
  else
  zal a1 v2 rest2 (b4 || ((y2.Time == v2.1) && ((y2.Id == a1.Id) && true)))
def zar (a0 : List (List (List UInt8))) (a1 : TMessage) (v2 : Int × Bool × Int) : List Int -> Bool -> Option (Bool ⊕ Bool)
 | [], b2 =>
  some (.inr b2)
 | y1 :: rest1, b2 =>
  Option.bind (α := Bool ⊕ Bool) (if (y1 < 0) \/ (y1 >= (a0.length : Int)) then
  some (.inl false)
  else
  if (0 <= y1 /\ y1 < (a0.length : Int)) then
  Option.bind (zea (y1) (a0.getD (y1).toNat default)) fun v4 =>
  if ¬ (v4.2 = 0) then
  some (.inl false)
  else
  zal a1 v2 v4.1 b2
  else none) fun z => match z with
  | (.inl r) => some (.inl r)
  | (.inr b3) =>
  zar a0 a1 v2 rest1 b3
def zcl (a0 : List (List (List UInt8))) (a1 : TMessage) (a2 : Int) : Option Bool :=
 Option.bind (zct a0) fun v1 =>
 if ((v1 = true) \/ ((a1.Groups.length : Int) > 1000)) \/ ((wr .i64 ((a1.Key.length : Int) + (a1.Body.length : Int))) > 5000) then
 some true
 else
 Option.bind (zh9 a0 a1) fun v2 =>
 Option.bind (zdr a0) fun v3 =>
 if ((¬ (v2.2.2 = 0)) \/ (¬ (v3.2 = 0))) \/ (¬ (v2.2.1 = true)) then
 some (true && ((v2.2.2 != 0) || (v2.1 == 0)))
 else
 Option.bind (α := Bool ⊕ Bool) (zar a0 a1 v2 a1.Groups false) fun z => match z with
 | (.inl r) => some r
 | (.inr b1) =>
 if (¬ (((a2 < 0) \/ (a2 >= (a0.length : Int))) \/ (¬ (v3.1 = true)))) -> (0 <= a2 /\ a2 < (a0.length : Int)) then
 if (((a2 < 0) \/ (a2 >= (a0.length : Int))) \/ (¬ (v3.1 = true))) \/ (((a0.getD a2.toNat default).length : Int) >= 200) then
 some (true && b1)
 else
 if a0.length * 24 <= 140737488355328 then
 if (0 <= a2 /\ a2 < (a0.length : Int)) then
 if (a0.getD a2.toNat default).length * 16 <= 140737488355328 then
 Option.bind (zcu a1.Id v2.1) fun v5 =>
 Option.bind (zdr (a0.set a2.toNat ((a0.getD a2.toNat default) ++ [v5]))) fun v6 =>
 some (((true && b1) && (v6.2 == 0)) && v6.1)
 else none
 else none
 else none
 else none
end Go.Proofs
end
