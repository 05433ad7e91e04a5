/- Texts of the proof. -/
import Derived.Test.YtkfipajabmhkbaaStableReplaysPf
import Derived.Test.YtkfipajabmhkbaaStableReplaysPg
import Derived.Test.YtkfipajabmhkbaaStableReplaysPh
import Derived.Test.YtkfipajabmhkbaaStableReplaysPi
import Derived.Test.YtkfipajabmhkbaaStableReplaysPj
section
namespace Go.Proofs
open Go.Tm Go.RowKit Go.WideShapes
set_option maxRecDepth 100000
set_option maxHeartbeats 4000000
set_option linter.unusedSimpArgs false
set_option linter.unusedVariables false
attribute [local go_sem] argVars runE runK isCallV stepE aop opd opdsL opds opdO ev ofVal keep List.any natbeq Bool.false_or Bool.true_or aggEq cond_true cond_false Bool.cond_false_right Bool.cond_true_left beq_true beq_false imp_self implies_true getR getL put St.app effL del nwB blt_dec Nat.lt_irrefl Nat.lt_add_one ble_dec Nat.le_refl Nat.beq_refl roomNZ appendIn capS capK mkZ_zero mkZL_zero zeroEl D.ids D.idsL bin arith sarith binT dpick Tm.part splice fillD oneD loadD storeD srcD sliceD idxOk decide_true gval dstAt D.cells List.map_cons List.map_nil List.take List.drop List.length_map List.append Int.toNat_natCast and_true true_and decide_false List.length_cons List.length_nil List.append_nil List.nil_append Bool.and_true Bool.true_and Bool.not_false Bool.not_true ne_eq not_false_eq_true BEq.rfl List.getElem?_cons_zero List.getElem?_cons_succ List.getElem?_nil Nat.zero_add List.all_cons List.all_nil List.isEmpty_cons List.isEmpty_nil Option.getD_some Option.getD_none List.any_cons List.any_nil List.drop_succ_cons List.drop_zero unfL unf okM okML low3 List.cons_append true_or or_true Nat.zero_mul Nat.zero_le findD_int findD_str  getD_int getD_str getD_bool Option.isSome_map keyD List.length_replicate List.map_replicate setEl List.length_set bytesD_map map_ub mx_len mkZ_one mkZL_one mkM mkML mk1_int mk1_str mk1_bool drop_map take_map take_map_len List.take_length Int.toNat_zero toNat_pred fpOf metIds opIds mvV mvH mvF pickL D.ren D.renL Blk.ren List.map_append List.length_append Bool.not_not Bool.or_not_self Bool.not_or_self Bool.or_true
attribute [local go_sem] Try.tm_1 Try.tm_2 Try.tm_3 Try.tm_4 Try.tm_5 Try.tm_6 Try.tm_7 Try.tm_8 Try.tm_9 Try.tm_10 Try.tm_11 Try.tm_12 Try.tm_13 Try.tm_14 Try.tm_15 Try.tm_16 Try.tm_17 Try.tm_18 Try.tm_19 Try.tm_20 Try.tm_21 Try.tm_22 Try.tm_23 Try.tm_24 Try.tm_25 Try.tm_26 Try.tm_27 Try.tm_28 Try.tm_29 Try.tm_30 Try.tm_32 Try.tm_33 Try.tm_34 Try.tm_35 Try.tm_36 Try.tm_37 Try.tm_39 Try.tm_40 Try.tm_41 Try.tm_43 Try.tm_45 Try.tm_46 Try.tm_47 Try.tm_48 Try.tm_49 Try.tm_50 Try.tm_51 Try.tm_52 Try.tm_53 Try.tm_55 Try.tm_57 Try.tm_58 Try.tm_60 Try.tm_61 Try.tm_63 Try.tm_64 Try.tm_65 Try.tm_66 Try.tm_67 Try.tm_68 Try.tm_69 Try.tm_70 Try.tm_71 Try.tm_72 Try.tm_73 Try.tm_74 Try.tm_76 Try.tm_77 Try.tm_78 Try.tm_79 Try.tm_80 Try.tm_81 Try.tm_82 Try.tm_83 Try.tm_84 Try.tm_85 Try.tm_86 Try.tm_87 Try.tm_89 Try.tm_91 Try.tm_92 Try.tm_93 Try.tm_94 Try.tm_95 Try.tm_96 Try.tm_98 Try.tm_99 Try.tm_101 Try.tm_103 Try.tm_104 Try.tm_105 Try.tm_106 Try.tm_107 Try.tm_108 Try.tm_109 Try.tm_110 Try.tm_111 Try.tm_112 Try.tm_113 Try.tm_114 Try.tm_115 Try.tm_116 Try.tm_117 Try.tm_118 Try.tm_119 Try.tm_120 Try.tm_121 Try.tm_123 Try.tm_124 Try.tm_125 Try.tm_126 Try.tm_127 Try.tm_128 Try.tm_129 Try.tm_130 Try.tm_132 Try.tm_134 Try.tm_135 Try.tm_136 Try.tm_137 Try.tm_138 Try.tm_139 Try.tm_140 Try.tm_143 Try.tm_144 Try.tm_145 Try.tm_146 Try.tm_147 Try.tm_148 Try.tm_149 Try.tm_150 Try.tm_151 dL_str nL_str TVote.d TSeen.d TStable.d TStable.n TRecord.d mk1_dL_str mk1_TVote mk1_TSeen mk1_TStable mk1_TRecord Try.f89 Try.f77 Try.f78 Try.f76 Try.f56 Try.f55 Try.f27
def Try.St_num_put_1 (l1 : List Int) (n1 : Int) : St := ⟨[(0, .ref 0 1 0 l1.length (some unkC)), (1, .int .i64 n1)], [(0, .arr 5 1 true (l1.map (D.int .u8)))], 1⟩
attribute [local go_sem] Try.St_num_put_1
def Try.St_num_put_3 (l2 : List Int) (n2 : Int) : St := ⟨[(0, .ref 0 1 0 l2.length (some unkC)), (1, .int .i64 n2)], [(0, .arr 5 1 true (l2.map (D.int .u8)))], 1⟩
attribute [local go_sem] Try.St_num_put_3
def Try.Re_num_put (r : (List Int)) : St := ⟨[(4, .ref 0 1 0 r.length (some unkC))], [(0, .arr 5 1 true (r.map (D.int .u8)))], 1⟩
attribute [local go_sem] Try.Re_num_put
theorem callH_num_put (a1 : Int) (r : (List Int)) (h : m_num_put a1 = some r) : CallH Try.prog 89 [.imm 0 [] 0, .int .i64 a1] [] (.ref 0 1 0 r.length (some unkC)) [(0, some (.arr 5 1 true (r.map (D.int .u8))))] (0, 5) := by
 refine callH_intro' Try.tmOk Try.func89 rfl (by decide) (Nat.le_of_ble_eq_true rfl) (by simp) ?_
 intro hwf
 unfold m_num_put at h
 refine .ends 0 (Nat.le_refl _) ?_
 refine .seq ?_
 refine .pl Try.S [0, 1] ?_
 obtain ⟨x1, hx1, h⟩ := bind_some h
 refine .seqM 0 (fun (j : (List Int) × Int) => Try.St_num_put_1 j.1 j.2) (fun j => x1 = j) (Nat.le_of_ble_eq_true rfl) ?_ ?_
 ·skip
  refine .block ?_
  refine .loopG 0 (fun (j : Nat × (List Int) × Int) => Try.St_num_put_3 j.2.1 j.2.2) (fun j => m_num_put_loop1 j.1 j.2.1 j.2.2 = some x1) (fun j => j.1) (11, [], a1) (Nat.le_of_ble_eq_true rfl) ?_ hx1 ?_
  ·skip
   refine Goes.new0 1 5 (Nat.le_of_ble_eq_true rfl) ?_
   refine Goes.wk 0 _ (.ref 0 1 0 0 (some unkC)) rfl (.own0 0 _ _ _ (by decide)) ?_
   exact .m [0, 1] [0] []
  rintro ⟨fu1, l2, n2⟩ hx1
  simp only [Try.St_num_put_3]
  try simp only at hx1
  obtain ⟨fu1, rfl⟩ : ∃ k, fu1 = k + 1 := by cases fu1 with | zero => (rw [m_num_put_loop1] at hx1; cases hx1) | succ k => exact ⟨k, rfl⟩
  rw [m_num_put_loop1] at hx1
  refine .seq ?_
  refine .seq ?_
  refine .pl Try.S [0, 1] ?_
  refine .cond rfl rfl (fun hc1 => ?_) (fun hc1 => ?_)
  ·skip
   replace hx1 := ite_lc hx1 hc1
   refine .skip ?_
   refine .seq ?_
   refine .block ?_
   obtain ⟨k1, hx1⟩ := ite_ck hx1
   refine .pl Try.S [0, 1] ?_
   refine .pl Try.S [0, 1] ?_
   refine ⟨(fu1, _, _), ?_, hx1, by dsimp only; omega⟩
   exact .m [0, 1] [2] [(2, 0)]
  ·skip
   replace hx1 := ite_rc hx1 hc1
   refine .exit ?_
   refine ⟨_, ?_, (Option.some.inj hx1).symm⟩
   exact .m [0, 1] [0] []
 ·skip
  rintro ⟨l1, n1⟩ hj1
  subst x1
  try dsimp only at h
  simp only [Try.St_num_put_1]
  refine .seq ?_
  obtain ⟨k2, h⟩ := ite_ck h
  refine .pl Try.S [0, 1] ?_
  have hq := Option.some.inj h
  subst r
  refine .ret ⟨Try.Re_num_put (l1 ++ [(wr .u8 n1)]), ?_, .inr rfl, retH [0] ?_ ?_⟩
  ·skip
   exact .m [4] [2] [(2, 0)]
  ·exact rsi0
  ·rfl
def Try.Re_num_Put (r : (List Int) × Int) : St := ⟨[(2, .ref 0 1 0 r.1.length (some unkC)), (3, .int .i64 r.2)], [(0, .arr 5 1 true (r.1.map (D.int .u8)))], 1⟩
attribute [local go_sem] Try.Re_num_Put
theorem callH_num_Put (a0 : Int) (r : (List Int) × Int) (h : m_num_Put a0 = some r) : CallH Try.prog 77 [.int .i64 a0] [] (.tuple [.ref 0 1 0 r.1.length (some unkC), .int .i64 r.2]) [(0, some (.arr 5 1 true (r.1.map (D.int .u8))))] (0, 12) := by
 refine callH_intro' Try.tmOk Try.func77 rfl (by decide) (Nat.le_of_ble_eq_true rfl) (by simp) ?_
 intro hwf
 unfold m_num_Put at h
 refine .ends 0 (Nat.le_refl _) ?_
 refine .seq ?_
 refine .pl Try.S [0] ?_
 refine .seq ?_
 refine .seq ?_
 obtain ⟨v1, hv1, h⟩ := bind_some h
 refine .rg Try.S [0] ?_
 refine .rn 1 ?_
 refine .call (r := .bool v1) rfl rfl rfl rfl rfl rfl (callP_num_in a0 v1 hv1) ?_
 refine .rn 1 ?_
 refine .nil ⟨nofun, ?_⟩
 refine .cond rfl rfl (fun hc1 => ?_) (fun hc1 => ?_)
 ·skip
  replace h := ite_lc h hc1
  refine .seq ?_
  refine .pl Try.S [] ?_
  have hq := Option.some.inj h
  subst r
  refine .ret ⟨Try.Re_num_Put ([], 2), ?_, .inr rfl, retH [0] ?_ ?_⟩
  ·skip
   refine Goes.new0 1 5 (Nat.le_of_ble_eq_true rfl) ?_
   refine Goes.wk 2 _ (.ref 0 1 0 0 (some unkC)) rfl (.own0 0 _ _ _ (by decide)) ?_
   exact .m [2, 3] [0] []
  ·exact rsi0
  ·rfl
 ·skip
  replace h := ite_rc h hc1
  refine .skip ?_
  refine .seq ?_
  obtain ⟨v2, hv2, h⟩ := bind_some h
  refine .rg Try.S [0] ?_
  refine .rn 1 ?_
  refine .ncall (r := .ref 5 1 0 v2.length (some unkC)) (eff := [(5, some (.arr 5 1 true (v2.map (D.int .u8))))]) (nw := (5, 10)) [] rfl rfl rfl rfl rfl (lend2s_cons rfl (lend2s_cons rfl lend2s_nil)) rfl (callH_at 5 (Nat.le_of_ble_eq_true rfl) (callH_num_put a0 v2 hv2)) (newE_cons rfl rfl (newB_arr (pl0_int .u8) _ _ _) newE_nil) (by intro i hi; simp [D.ids, D.idsL] at hi <;> omega) rfl ⟨Nat.le_of_ble_eq_true rfl, Nat.le_of_ble_eq_true rfl⟩ ?_
  refine .rn 2 ?_
  refine .nil ⟨nofun, ?_⟩
  have hq := Option.some.inj h
  subst r
  refine .ret ⟨Try.Re_num_Put (v2, 0), ?_, .inr rfl, retH [0] ?_ ?_⟩
  ·skip
   exact .m [2, 3] [5] [(5, 0)]
  ·exact rsi0
  ·rfl
def Try.Re_num_Text (r : (List Int) × Int) : St := ⟨[(2, .ref 0 1 0 r.1.length (some unkC)), (3, .int .i64 r.2)], [(0, .arr 5 1 true (r.1.map (D.int .u8)))], 1⟩
attribute [local go_sem] Try.Re_num_Text
theorem callH_num_Text (a0 : List UInt8) (r : (List Int) × Int) (h : m_num_Text a0 = some r) : CallH Try.prog 78 [.str a0] [] (.tuple [.ref 0 1 0 r.1.length (some unkC), .int .i64 r.2]) [(0, some (.arr 5 1 true (r.1.map (D.int .u8))))] (0, 13) := by
 refine callH_intro' Try.tmOk Try.func78 rfl (by decide) (Nat.le_of_ble_eq_true rfl) (by simp) ?_
 intro hwf
 unfold m_num_Text at h
 refine .ends 0 (Nat.le_refl _) ?_
 refine .seq ?_
 refine .pl Try.S [0] ?_
 refine .seq ?_
 refine .seq ?_
 refine .pl Try.S [0] ?_
 refine .cond rfl rfl (fun hc1 => ?_) (fun hc1 => ?_)
 ·skip
  replace h := ite_lc h hc1
  refine .seq ?_
  refine .pl Try.S [] ?_
  have hq := Option.some.inj h
  subst r
  refine .ret ⟨Try.Re_num_Text ([], 3), ?_, .inr rfl, retH [0] ?_ ?_⟩
  ·skip
   refine Goes.new0 1 5 (Nat.le_of_ble_eq_true rfl) ?_
   refine Goes.wk 2 _ (.ref 0 1 0 0 (some unkC)) rfl (.own0 0 _ _ _ (by decide)) ?_
   exact .m [2, 3] [0] []
  ·exact rsi0
  ·rfl
 ·skip
  replace h := ite_rc h hc1
  refine .skip ?_
  refine .seq ?_
  obtain ⟨v1, hv1, h⟩ := bind_some h
  obtain ⟨k1, h⟩ := ite_ck h
  refine .rg Try.S [0] ?_
  refine .rn 2 ?_
  refine .ncall (r := .ref 5 1 0 v1.length (some unkC)) (eff := [(5, some (.arr 5 1 true (v1.map (D.int .u8))))]) (nw := (5, 10)) [] rfl rfl rfl rfl rfl (lend2s_cons rfl (lend2s_cons rfl lend2s_nil)) rfl (callH_at 5 (Nat.le_of_ble_eq_true rfl) (callH_num_put (a0.length : Int) v1 hv1)) (newE_cons rfl rfl (newB_arr (pl0_int .u8) _ _ _) newE_nil) (by intro i hi; simp [D.ids, D.idsL] at hi <;> omega) rfl ⟨Nat.le_of_ble_eq_true rfl, Nat.le_of_ble_eq_true rfl⟩ ?_
  refine .rn 4 ?_
  refine .nil ⟨nofun, ?_⟩
  have hq := Option.some.inj h
  subst r
  refine .ret ⟨Try.Re_num_Text ((v1 ++ (ofBytes a0)), 0), ?_, .inr rfl, retH [0] ?_ ?_⟩
  ·skip
   exact .m [2, 3] [10] [(10, 0)]
  ·exact rsi0
  ·rfl
def Try.Re_record_Write_1 (r : (List Int) × Int) : St := ⟨[(2, .ptr 20001 0), (3, .ptr 20003 0)], [(20001, .box [.ref 20100 1 0 r.1.length (some unkC)]), (20003, .box [.int .i64 r.2]), (20100, .arr 5 1 true (r.1.map (D.int .u8)))], 20101⟩
attribute [local go_sem] Try.Re_record_Write_1
theorem callH_record_Write_1 (a0 : List Int) (a1 : Int) (c0 : List Int) (c1 : Int) (r : (List Int) × Int) (h : m_record_Write_1 a0 a1 c0 c1 = some r) : CallH Try.prog 76 [.ref 20000 1 0 a0.length (some unkC), .int .i64 a1, .ptr 20001 0, .ptr 20003 0] [(20000, .arr 5 1 true (a0.map (D.int .u8))), (20001, .box [.ref 20002 1 0 c0.length (some unkC)]), (20002, .arr 5 1 true (c0.map (D.int .u8))), (20003, .box [.int .i64 c1])] (.tuple []) [(20000, none), (20001, some (.box [.ref 20100 1 0 r.1.length (some unkC)])), (20002, none), (20003, some (.box [.int .i64 r.2])), (20100, some (.arr 5 1 true (r.1.map (D.int .u8))))] (20100, 20103) := by
 refine callH_intro' Try.tmOk Try.func76 rfl (by decide) (Nat.le_of_ble_eq_true rfl) (by simp) ?_
 intro hwf
 unfold m_record_Write_1 at h
 refine .ends 20100 (Nat.le_refl _) ?_
 refine .seq ?_
 obtain ⟨k1, h⟩ := ite_ck h
 refine .pl Try.S [0, 1, 2, 3] ?_
 refine .seq ?_
 refine .pl Try.S [1, 2, 3] ?_
 refine .cond rfl rfl (fun hc1 => ?_) (fun hc1 => ?_)
 ·skip
  replace h := ite_lc h hc1
  refine .pl Try.S [1, 2, 3] ?_
  have hq := Option.some.inj h
  subst r
  refine ⟨Try.Re_record_Write_1 ((c0 ++ a0), a1), ?_, .inl rfl, retH [20001, 20003, 20100] ?_ ?_⟩
  ·skip
   exact .m [2, 3] [20001, 20003, 20100] []
  ·exact rsi0
  ·rfl
 ·skip
  replace h := ite_rc h hc1
  refine .skip ?_
  have hq := Option.some.inj h
  subst r
  refine ⟨Try.Re_record_Write_1 ((c0 ++ a0), c1), ?_, .inl rfl, retH [20001, 20003, 20100] ?_ ?_⟩
  ·skip
   exact .m [2, 3] [20001, 20003, 20100] []
  ·exact rsi0
  ·rfl
def Try.St_record_Write_1 (a0 : TRecord) (v8 : Bool × Bool) (l1 : List Int) (n1 : Int) : St := ⟨[(1, .ptr 0 0), (5, .ptr 1 0), (6, .ptr 2 0), (7, .fn (.func 76) [.ptr 1 0, .ptr 2 0]), (9, .bool v8.2)], [(0, .box [.int .u8 a0.Kind, .int .i64 a0.Group, .int .i64 a0.Slot, .int .i64 a0.Ballot, .str a0.Value]), (1, .box [.ref 57 1 0 l1.length (some unkC)]), (2, .box [.int .i64 n1]), (57, .arr 5 1 true (l1.map (D.int .u8)))], 58⟩
attribute [local go_sem] Try.St_record_Write_1
def Try.St_record_Write_3 (l2 : List Int) (n2 : Int) : St := ⟨[(5, .ptr 1 0), (6, .ptr 2 0)], [(1, .box [.ref 58 1 0 l2.length (some unkC)]), (2, .box [.int .i64 n2]), (58, .arr 5 1 true (l2.map (D.int .u8)))], 59⟩
attribute [local go_sem] Try.St_record_Write_3
theorem callP_record_Write (a0 : TRecord) (r : (List UInt8) × Int) (h : m_record_Write a0 = some r) : CallP Try.prog 56 [.agg [.int .u8 a0.Kind, .int .i64 a0.Group, .int .i64 a0.Slot, .int .i64 a0.Ballot, .str a0.Value]] (.tuple [.str r.1, .int .i64 r.2]) := by
 refine callP_intro Try.tmOk 76 Try.func56 rfl (by decide) rfl rfl (Nat.le_of_ble_eq_true rfl) ?_
 intro hwf
 unfold m_record_Write at h
 refine .seq ?_
 refine .pl Try.S [0] ?_
 refine .seq ?_
 refine .seq ?_
 obtain ⟨v1, hv1, h⟩ := bind_some h
 refine .rg Try.S [1] ?_
 refine .rn 1 ?_
 refine .call (r := .int .i64 v1) rfl rfl rfl rfl rfl rfl (callP_record_Check a0 v1 hv1) ?_
 refine .rn 1 ?_
 refine .nil ⟨nofun, ?_⟩
 refine .seq ?_
 refine .pl Try.S [1, 4] ?_
 refine .cond rfl rfl (fun hc1 => ?_) (fun hc1 => ?_)
 ·skip
  replace h := ite_lc h hc1
  refine .seq ?_
  refine .pl Try.S [4] ?_
  have hq := Option.some.inj h
  subst r
  exact .ret ⟨.inr rfl, rsi⟩
 ·skip
  replace h := ite_rc h hc1
  refine .skip ?_
  refine .seq ?_
  refine .pl Try.S [1] ?_
  refine .seq ?_
  refine .pl Try.S [1, 5] ?_
  refine .seq ?_
  refine .pl Try.S [1, 5, 6] ?_
  refine .goes (.new0 1 5 (Nat.le_of_ble_eq_true rfl) .refl) ?_
  refine .goes (.boxs 1 _ [.ref 3 1 0 0 (some unkC)] rfl (.cons (.own0 3 _ _ _ (by decide)) (.refl _)) .refl) ?_
  refine .seq ?_
  obtain ⟨v2, hv2, h⟩ := bind_some h
  obtain ⟨v3, hv3, h⟩ := bind_some h
  refine .rg Try.S [1, 5, 6, 7] ?_
  refine .rn 4 ?_
  refine .ncall (r := .tuple [.ref 12 1 0 v2.1.length (some unkC), .int .i64 v2.2]) (eff := [(12, some (.arr 5 1 true (v2.1.map (D.int .u8))))]) (nw := (12, 24)) [] rfl rfl rfl rfl rfl (lend2s_cons rfl lend2s_nil) rfl (callH_at 12 (Nat.le_of_ble_eq_true rfl) (callH_num_Put (wr .i64 a0.Kind) v2 hv2)) (newE_cons rfl rfl (newB_arr (pl0_int .u8) _ _ _) newE_nil) (by intro i hi; simp [D.ids, D.idsL] at hi <;> omega) rfl ⟨Nat.le_of_ble_eq_true rfl, Nat.le_of_ble_eq_true rfl⟩ ?_
  refine .rn 2 ?_
  refine .hcall (H := [(12, .arr 5 1 true (v2.1.map (D.int .u8))), (1, .box [.ref 3 1 0 0 (some unkC)]), (3, .arr 5 1 true []), (2, .box [.int .i64 0])]) (eff := [(12, none), (1, some (.box [.ref 24 1 0 v3.1.length (some unkC)])), (3, none), (2, some (.box [.int .i64 v3.2])), (24, some (.arr 5 1 true (v3.1.map (D.int .u8))))]) (nw := (24, 27)) (r := .tuple []) rfl rfl rfl rfl rfl (callH_bsw 24 (callH_sw 20003 2 (callH_sw 20002 3 (callH_sw 20001 1 (callH_sw 20000 12 (callH_record_Write_1 v2.1 v2.2 [] 0 v3 hv3)))))) (fun id b h => getL_pick [12, 1, 3, 2] _ id b h) (by simp) (.inr ⟨Nat.le_of_ble_eq_true rfl, Nat.le_of_ble_eq_true rfl⟩) ?_
  refine .nil ⟨nofun, ?_⟩
  refine .seq ?_
  obtain ⟨v4, hv4, h⟩ := bind_some h
  obtain ⟨v5, hv5, h⟩ := bind_some h
  refine .rg Try.S [1, 5, 6, 7] ?_
  refine .rn 3 ?_
  refine .ncall (r := .tuple [.ref 27 1 0 v4.1.length (some unkC), .int .i64 v4.2]) (eff := [(27, some (.arr 5 1 true (v4.1.map (D.int .u8))))]) (nw := (27, 39)) [] rfl rfl rfl rfl rfl (lend2s_cons rfl lend2s_nil) rfl (callH_at 27 (Nat.le_of_ble_eq_true rfl) (callH_num_Put a0.Group v4 hv4)) (newE_cons rfl rfl (newB_arr (pl0_int .u8) _ _ _) newE_nil) (by intro i hi; simp [D.ids, D.idsL] at hi <;> omega) rfl ⟨Nat.le_of_ble_eq_true rfl, Nat.le_of_ble_eq_true rfl⟩ ?_
  refine .rn 2 ?_
  refine .hcall (H := [(27, .arr 5 1 true (v4.1.map (D.int .u8))), (1, .box [.ref 24 1 0 v3.1.length (some unkC)]), (24, .arr 5 1 true (v3.1.map (D.int .u8))), (2, .box [.int .i64 v3.2])]) (eff := [(27, none), (1, some (.box [.ref 39 1 0 v5.1.length (some unkC)])), (24, none), (2, some (.box [.int .i64 v5.2])), (39, some (.arr 5 1 true (v5.1.map (D.int .u8))))]) (nw := (39, 42)) (r := .tuple []) rfl rfl rfl rfl rfl (callH_bsw 39 (callH_sw 20003 2 (callH_sw 20002 24 (callH_sw 20001 1 (callH_sw 20000 27 (callH_record_Write_1 v4.1 v4.2 v3.1 v3.2 v5 hv5)))))) (fun id b h => getL_pick [27, 1, 24, 2] _ id b h) (by simp) (.inr ⟨Nat.le_of_ble_eq_true rfl, Nat.le_of_ble_eq_true rfl⟩) ?_
  refine .nil ⟨nofun, ?_⟩
  refine .seq ?_
  obtain ⟨v6, hv6, h⟩ := bind_some h
  obtain ⟨v7, hv7, h⟩ := bind_some h
  refine .rg Try.S [1, 5, 6, 7] ?_
  refine .rn 3 ?_
  refine .ncall (r := .tuple [.ref 42 1 0 v6.1.length (some unkC), .int .i64 v6.2]) (eff := [(42, some (.arr 5 1 true (v6.1.map (D.int .u8))))]) (nw := (42, 54)) [] rfl rfl rfl rfl rfl (lend2s_cons rfl lend2s_nil) rfl (callH_at 42 (Nat.le_of_ble_eq_true rfl) (callH_num_Put a0.Slot v6 hv6)) (newE_cons rfl rfl (newB_arr (pl0_int .u8) _ _ _) newE_nil) (by intro i hi; simp [D.ids, D.idsL] at hi <;> omega) rfl ⟨Nat.le_of_ble_eq_true rfl, Nat.le_of_ble_eq_true rfl⟩ ?_
  refine .rn 2 ?_
  refine .hcall (H := [(42, .arr 5 1 true (v6.1.map (D.int .u8))), (1, .box [.ref 39 1 0 v5.1.length (some unkC)]), (39, .arr 5 1 true (v5.1.map (D.int .u8))), (2, .box [.int .i64 v5.2])]) (eff := [(42, none), (1, some (.box [.ref 54 1 0 v7.1.length (some unkC)])), (39, none), (2, some (.box [.int .i64 v7.2])), (54, some (.arr 5 1 true (v7.1.map (D.int .u8))))]) (nw := (54, 57)) (r := .tuple []) rfl rfl rfl rfl rfl (callH_bsw 54 (callH_sw 20003 2 (callH_sw 20002 39 (callH_sw 20001 1 (callH_sw 20000 42 (callH_record_Write_1 v6.1 v6.2 v5.1 v5.2 v7 hv7)))))) (fun id b h => getL_pick [42, 1, 39, 2] _ id b h) (by simp) (.inr ⟨Nat.le_of_ble_eq_true rfl, Nat.le_of_ble_eq_true rfl⟩) ?_
  refine .nil ⟨nofun, ?_⟩
  refine .seq ?_
  obtain ⟨v8, hv8, h⟩ := bind_some h
  refine .rg Try.S [1, 5, 6, 7] ?_
  refine .rn 2 ?_
  refine .call (r := .tuple [.bool v8.1, .bool v8.2]) rfl rfl rfl rfl rfl rfl (callP_record_has a0.Kind v8 hv8) ?_
  refine .rn 5 ?_
  refine .nil ⟨nofun, ?_⟩
  obtain ⟨x1, hx1, h⟩ := bind_some h
  refine .seqM 57 (fun (j : (List Int) × Int) => Try.St_record_Write_1 a0 v8 j.1 j.2) (fun j => x1 = j) (Nat.le_of_ble_eq_true rfl) ?_ ?_
  ·skip
   refine .seq ?_
   refine .pl Try.S [1, 5, 6, 7, 8, 9] ?_
   refine .cond rfl rfl (fun hc2 => ?_) (fun hc2 => ?_)
   ·skip
    replace hx1 := ite_lc hx1 hc2
    obtain ⟨v9, hv9, hx1⟩ := bind_some hx1
    obtain ⟨v10, hv10, hx1⟩ := bind_some hx1
    refine .rg Try.S [1, 5, 6, 7, 9] ?_
    refine .rn 3 ?_
    refine .ncall (r := .tuple [.ref 57 1 0 v9.1.length (some unkC), .int .i64 v9.2]) (eff := [(57, some (.arr 5 1 true (v9.1.map (D.int .u8))))]) (nw := (57, 69)) [] rfl rfl rfl rfl rfl (lend2s_cons rfl lend2s_nil) rfl (callH_at 57 (Nat.le_of_ble_eq_true rfl) (callH_num_Put a0.Ballot v9 hv9)) (newE_cons rfl rfl (newB_arr (pl0_int .u8) _ _ _) newE_nil) (by intro i hi; simp [D.ids, D.idsL] at hi <;> omega) rfl ⟨Nat.le_of_ble_eq_true rfl, Nat.le_of_ble_eq_true rfl⟩ ?_
    refine .rn 2 ?_
    refine .hcall (H := [(57, .arr 5 1 true (v9.1.map (D.int .u8))), (1, .box [.ref 54 1 0 v7.1.length (some unkC)]), (54, .arr 5 1 true (v7.1.map (D.int .u8))), (2, .box [.int .i64 v7.2])]) (eff := [(57, none), (1, some (.box [.ref 69 1 0 v10.1.length (some unkC)])), (54, none), (2, some (.box [.int .i64 v10.2])), (69, some (.arr 5 1 true (v10.1.map (D.int .u8))))]) (nw := (69, 72)) (r := .tuple []) rfl rfl rfl rfl rfl (callH_bsw 69 (callH_sw 20003 2 (callH_sw 20002 54 (callH_sw 20001 1 (callH_sw 20000 57 (callH_record_Write_1 v9.1 v9.2 v7.1 v7.2 v10 hv10)))))) (fun id b h => getL_pick [57, 1, 54, 2] _ id b h) (by simp) (.inr ⟨Nat.le_of_ble_eq_true rfl, Nat.le_of_ble_eq_true rfl⟩) ?_
    refine .nil ⟨nofun, ?_⟩
    refine ⟨_, ?_, (Option.some.inj hx1).symm⟩
    exact .m [1, 5, 6, 7, 9] [0, 1, 2, 69] [(69, 57)]
   ·skip
    replace hx1 := ite_rc hx1 hc2
    refine .skip ?_
    refine ⟨_, ?_, (Option.some.inj hx1).symm⟩
    exact .m [1, 5, 6, 7, 9] [0, 1, 2, 54] [(54, 57)]
  ·skip
   rintro ⟨l1, n1⟩ hj1
   subst x1
   try dsimp only at h
   simp only [Try.St_record_Write_1]
   obtain ⟨x2, hx2, h⟩ := bind_some h
   refine .seqM 58 (fun (j : (List Int) × Int) => Try.St_record_Write_3 j.1 j.2) (fun j => x2 = j) (Nat.le_of_ble_eq_true rfl) ?_ ?_
   ·skip
    refine .seq ?_
    refine .pl Try.S [1, 5, 6, 7, 9] ?_
    refine .cond rfl rfl (fun hc3 => ?_) (fun hc3 => ?_)
    ·skip
     replace hx2 := ite_lc hx2 hc3
     obtain ⟨v11, hv11, hx2⟩ := bind_some hx2
     obtain ⟨v12, hv12, hx2⟩ := bind_some hx2
     refine .rg Try.S [1, 5, 6, 7] ?_
     refine .rn 3 ?_
     refine .ncall (r := .tuple [.ref 58 1 0 v11.1.length (some unkC), .int .i64 v11.2]) (eff := [(58, some (.arr 5 1 true (v11.1.map (D.int .u8))))]) (nw := (58, 71)) [] rfl rfl rfl rfl rfl (lend2s_cons rfl lend2s_nil) rfl (callH_at 58 (Nat.le_of_ble_eq_true rfl) (callH_num_Text a0.Value v11 hv11)) (newE_cons rfl rfl (newB_arr (pl0_int .u8) _ _ _) newE_nil) (by intro i hi; simp [D.ids, D.idsL] at hi <;> omega) rfl ⟨Nat.le_of_ble_eq_true rfl, Nat.le_of_ble_eq_true rfl⟩ ?_
     refine .rn 2 ?_
     refine .hcall (H := [(58, .arr 5 1 true (v11.1.map (D.int .u8))), (1, .box [.ref 57 1 0 l1.length (some unkC)]), (57, .arr 5 1 true (l1.map (D.int .u8))), (2, .box [.int .i64 n1])]) (eff := [(58, none), (1, some (.box [.ref 71 1 0 v12.1.length (some unkC)])), (57, none), (2, some (.box [.int .i64 v12.2])), (71, some (.arr 5 1 true (v12.1.map (D.int .u8))))]) (nw := (71, 74)) (r := .tuple []) rfl rfl rfl rfl rfl (callH_bsw 71 (callH_sw 20003 2 (callH_sw 20002 57 (callH_sw 20001 1 (callH_sw 20000 58 (callH_record_Write_1 v11.1 v11.2 l1 n1 v12 hv12)))))) (fun id b h => getL_pick [58, 1, 57, 2] _ id b h) (by simp) (.inr ⟨Nat.le_of_ble_eq_true rfl, Nat.le_of_ble_eq_true rfl⟩) ?_
     refine .nil ⟨nofun, ?_⟩
     refine ⟨_, ?_, (Option.some.inj hx2).symm⟩
     exact .m [5, 6] [1, 2, 71] [(71, 58)]
    ·skip
     replace hx2 := ite_rc hx2 hc3
     refine .skip ?_
     refine ⟨_, ?_, (Option.some.inj hx2).symm⟩
     exact .m [5, 6] [1, 2, 57] [(57, 58)]
   ·skip
    rintro ⟨l2, n2⟩ hj2
    subst x2
    try dsimp only at h
    simp only [Try.St_record_Write_3]
    refine .seq ?_
    refine .dr Try.S [5, 6] ?_
    have hq := Option.some.inj h
    subst r
    exact .ret ⟨.inr rfl, rsi⟩
def Try.Re_stable_Image_1 (r : (List (List UInt8))) : St := ⟨[(1, .ptr 20000 0)], [(20000, .box [.ref 20100 1 0 r.length (some unkC)]), (20100, .arr 9 1 true (r.map D.str))], 20101⟩
attribute [local go_sem] Try.Re_stable_Image_1
theorem callH_stable_Image_1 (a0 : TRecord) (c0 : List (List UInt8)) (r : (List (List UInt8))) (h : m_stable_Image_1 a0 c0 = some r) : CallH Try.prog 55 [.agg [.int .u8 a0.Kind, .int .i64 a0.Group, .int .i64 a0.Slot, .int .i64 a0.Ballot, .str a0.Value], .ptr 20000 0] [(20000, .box [.ref 20001 1 0 c0.length (some unkC)]), (20001, .arr 9 1 true (c0.map D.str))] (.tuple []) [(20000, some (.box [.ref 20100 1 0 r.length (some unkC)])), (20001, none), (20100, some (.arr 9 1 true (r.map D.str)))] (20100, 20105) := by
 refine callH_intro' Try.tmOk Try.func55 rfl (by decide) (Nat.le_of_ble_eq_true rfl) (by simp) ?_
 intro hwf
 unfold m_stable_Image_1 at h
 refine .ends 20100 (Nat.le_refl _) ?_
 refine .seq ?_
 refine .pl Try.S [0, 1] ?_
 refine .seq ?_
 obtain ⟨v1, hv1, h⟩ := bind_some h
 refine .rg Try.S [1, 2] ?_
 refine .rn 1 ?_
 refine .call (r := .tuple [.str v1.1, .int .i64 v1.2]) rfl rfl rfl rfl rfl rfl (callP_record_Write a0 v1 hv1) ?_
 refine .rn 5 ?_
 refine .nil ⟨nofun, ?_⟩
 obtain ⟨k1, h⟩ := ite_ck h
 refine .pl Try.S [1, 3] ?_
 have hq := Option.some.inj h
 subst r
 refine ⟨Try.Re_stable_Image_1 (c0 ++ [v1.1]), ?_, .inl rfl, retH [20000, 20100] ?_ ?_⟩
 ·skip
  exact .m [1] [20000, 20102] [(20102, 20100)]
 ·exact rsi0
 ·rfl
def Try.St_stable_Image_1 (a0 : TStable) (l1 : List (List UInt8)) : St := ⟨[(1, .ptr 0 0), (2, .ptr 1 0), (5, .fn (.func 55) [.ptr 1 0])], [(0, .box [.imm 1 (a0.Logs.map dL_str) 4, .imm 5 (a0.Votes.map TSeen.d) 4]), (1, .box [.ref 2 1 0 l1.length (some unkC)]), (2, .arr 9 1 true (l1.map D.str))], 3⟩
attribute [local go_sem] Try.St_stable_Image_1
def Try.St_stable_Image_3 (a0 : TStable) (l2 : List (List UInt8)) (n1 : Int) : St := ⟨[(1, .ptr 0 0), (2, .ptr 1 0), (5, .fn (.func 55) [.ptr 1 0]), (19, .imm 1 (a0.Logs.map dL_str) 4), (20, .int .i64 (a0.Logs.length : Int)), (21, .int .i64 n1)], [(0, .box [.imm 1 (a0.Logs.map dL_str) 4, .imm 5 (a0.Votes.map TSeen.d) 4]), (1, .box [.ref 2 1 0 l2.length (some unkC)]), (2, .arr 9 1 true (l2.map D.str))], 3⟩
attribute [local go_sem] Try.St_stable_Image_3
def Try.St_stable_Image_5 (a0 : TStable) (n1 : Int) (l3 : List (List UInt8)) : St := ⟨[(1, .ptr 0 0), (2, .ptr 1 0), (5, .fn (.func 55) [.ptr 1 0]), (19, .imm 1 (a0.Logs.map dL_str) 4), (20, .int .i64 (a0.Logs.length : Int)), (21, .int .i64 n1)], [(0, .box [.imm 1 (a0.Logs.map dL_str) 4, .imm 5 (a0.Votes.map TSeen.d) 4]), (1, .box [.ref 3 1 0 l3.length (some unkC)]), (3, .arr 9 1 true (l3.map D.str))], 4⟩
attribute [local go_sem] Try.St_stable_Image_5
def Try.St_stable_Image_7 (a0 : TStable) (n1 : Int) (l4 : List (List UInt8)) (n2 : Int) : St := ⟨[(1, .ptr 0 0), (2, .ptr 1 0), (5, .fn (.func 55) [.ptr 1 0]), (6, .int .i64 n1), (19, .imm 1 (a0.Logs.map dL_str) 4), (20, .int .i64 (a0.Logs.length : Int)), (21, .int .i64 n1), (26, .imm 1 ((a0.Logs.getD n1.toNat default).map D.str) 4), (27, .int .i64 ((a0.Logs.getD n1.toNat default).length : Int)), (28, .int .i64 n2)], [(0, .box [.imm 1 (a0.Logs.map dL_str) 4, .imm 5 (a0.Votes.map TSeen.d) 4]), (1, .box [.ref 3 1 0 l4.length (some unkC)]), (3, .arr 9 1 true (l4.map D.str))], 4⟩
attribute [local go_sem] Try.St_stable_Image_7
def Try.St_stable_Image_9 (l5 : List (List UInt8)) : St := ⟨[(2, .ptr 1 0)], [(1, .box [.ref 3 1 0 l5.length (some unkC)]), (3, .arr 9 1 true (l5.map D.str))], 4⟩
attribute [local go_sem] Try.St_stable_Image_9
def Try.St_stable_Image_11 (a0 : TStable) (l6 : List (List UInt8)) (n3 : Int) : St := ⟨[(2, .ptr 1 0), (5, .fn (.func 55) [.ptr 1 0]), (43, .imm 5 (a0.Votes.map TSeen.d) 4), (44, .int .i64 (a0.Votes.length : Int)), (45, .int .i64 n3)], [(1, .box [.ref 3 1 0 l6.length (some unkC)]), (3, .arr 9 1 true (l6.map D.str))], 4⟩
attribute [local go_sem] Try.St_stable_Image_11
def Try.St_stable_Image_13 (a0 : TStable) (n3 : Int) (l7 : List (List UInt8)) : St := ⟨[(2, .ptr 1 0), (5, .fn (.func 55) [.ptr 1 0]), (43, .imm 5 (a0.Votes.map TSeen.d) 4), (44, .int .i64 (a0.Votes.length : Int)), (45, .int .i64 n3)], [(1, .box [.ref 4 1 0 l7.length (some unkC)]), (4, .arr 9 1 true (l7.map D.str))], 5⟩
attribute [local go_sem] Try.St_stable_Image_13
def Try.St_stable_Image_15 (a0 : TStable) (n3 : Int) (l8 : List (List UInt8)) : St := ⟨[(2, .ptr 1 0), (5, .fn (.func 55) [.ptr 1 0]), (11, .ptr 4 0), (43, .imm 5 (a0.Votes.map TSeen.d) 4), (44, .int .i64 (a0.Votes.length : Int)), (45, .int .i64 n3)], [(1, .box [.ref 5 1 0 l8.length (some unkC)]), (4, .box [.int .i64 ((a0.Votes.getD n3.toNat default).Group), .int .i64 ((a0.Votes.getD n3.toNat default).Slot), .int .i64 ((a0.Votes.getD n3.toNat default).Vote.Promised), .int .i64 ((a0.Votes.getD n3.toNat default).Vote.Ballot), .str ((a0.Votes.getD n3.toNat default).Vote.Value)]), (5, .arr 9 1 true (l8.map D.str))], 6⟩
attribute [local go_sem] Try.St_stable_Image_15
def Try.Re_stable_Image (r : (List (List UInt8)) × Int) : St := ⟨[(2, .ptr 1 0), (3, .int .i64 r.2)], [(0, .arr 9 1 true (r.1.map D.str)), (1, .box [.ref 0 1 0 r.1.length (some unkC)])], 2⟩
attribute [local go_sem] Try.Re_stable_Image
theorem callH_stable_Image (a0 : TStable) (r : (List (List UInt8)) × Int) (h : m_stable_Image a0 = some r) : CallH Try.prog 27 [.agg [.imm 1 (a0.Logs.map dL_str) 4, .imm 5 (a0.Votes.map TSeen.d) 4]] [] (.tuple [.ref 0 1 0 r.1.length (some unkC), .int .i64 r.2]) [(0, some (.arr 9 1 true (r.1.map D.str)))] (0, 13) := by
 refine callH_intro' Try.tmOk Try.func27 rfl (by decide) (Nat.le_of_ble_eq_true rfl) (by simp) ?_
 intro hwf
 unfold m_stable_Image at h
 refine .ends 0 (Nat.le_refl _) ?_
 refine .seq ?_
 refine .pl Try.S [0] ?_
 refine .seq ?_
 refine .seq ?_
 obtain ⟨v1, hv1, h⟩ := bind_some h
 refine .rg Try.S [1, 2] ?_
 refine .rn 1 ?_
 refine .call (r := .int .i64 v1) rfl rfl rfl rfl rfl rfl (callP_stable_Check a0 v1 hv1) ?_
 refine .rn 1 ?_
 refine .nil ⟨nofun, ?_⟩
 refine .seq ?_
 refine .pl Try.S [1, 2, 4] ?_
 refine .cond rfl rfl (fun hc1 => ?_) (fun hc1 => ?_)
 ·skip
  replace h := ite_lc h hc1
  refine .seq ?_
  refine .pl Try.S [2, 4] ?_
  have hq := Option.some.inj h
  subst r
  refine .ret ⟨Try.Re_stable_Image ([], v1), ?_, .inr rfl, retH [0] ?_ ?_⟩
  ·skip
   refine Goes.new0 1 9 (Nat.le_of_ble_eq_true rfl) ?_
   refine Goes.boxs 1 _ [.ref 2 1 0 0 (some unkC)] rfl (.cons (.own0 2 _ _ _ (by decide)) (.refl _)) ?_
   exact .m [2, 3] [2, 1] [(2, 0)]
  ·exact rsi0
  ·rfl
 ·skip
  replace h := ite_rc h hc1
  refine .skip ?_
  refine .seq ?_
  refine .pl Try.S [1, 2] ?_
  obtain ⟨x1, hx1, h⟩ := bind_some h
  refine .seqM 2 (fun (j : (List (List UInt8))) => Try.St_stable_Image_1 a0 j) (fun j => x1 = j) (Nat.le_of_ble_eq_true rfl) ?_ ?_
  ·skip
   refine .seq ?_
   refine .pl Try.S [1, 2, 5] ?_
   refine .block ?_
   refine .loopG 2 (fun (j : Nat × (List (List UInt8)) × Int) => Try.St_stable_Image_3 a0 j.2.1 j.2.2) (fun j => m_stable_Image_loop1 a0 j.1 j.2.1 j.2.2 = some x1) (fun j => j.1) (a0.Logs.length + 1, [], 0) (Nat.le_of_ble_eq_true rfl) ?_ hx1 ?_
   ·skip
    refine Goes.new0 1 9 (Nat.le_of_ble_eq_true rfl) ?_
    refine Goes.boxs 1 _ [.ref 2 1 0 0 (some unkC)] rfl (.cons (.own0 2 _ _ _ (by decide)) (.refl _)) ?_
    exact .m [1, 2, 5, 19, 20, 21] [0, 1, 2] []
   rintro ⟨fu1, l2, n1⟩ hx1
   simp only [Try.St_stable_Image_3]
   try simp only at hx1
   obtain ⟨fu1, rfl⟩ : ∃ k, fu1 = k + 1 := by cases fu1 with | zero => (rw [m_stable_Image_loop1] at hx1; cases hx1) | succ k => exact ⟨k, rfl⟩
   rw [m_stable_Image_loop1] at hx1
   refine .seq ?_
   refine .pl Try.S [1, 2, 5, 19, 20, 21] ?_
   refine .seq ?_
   refine .cond rfl rfl (fun hc2 => ?_) (fun hc2 => ?_)
   ·skip
    replace hx1 := ite_lc hx1 hc2
    refine .skip ?_
    obtain ⟨x2, hx2, hx1⟩ := bind_some hx1
    refine .seqM 3 (fun (j : (List (List UInt8))) => Try.St_stable_Image_5 a0 n1 j) (fun j => x2 = j) (Nat.le_of_ble_eq_true rfl) ?_ ?_
    ·skip
     refine .block ?_
     refine .seq ?_
     obtain ⟨k1, hx2⟩ := ite_ck hx2
     have e1 := nth_mapI dL_str a0.Logs n1
     replace e1 := e1 k1
     refine .plx Try.S e1 [1, 2, 5, 19, 20, 21] ?_
     refine .seq ?_
     refine .pl Try.S [1, 2, 5, 6, 7, 19, 20, 21] ?_
     refine .block ?_
     refine .loopG 3 (fun (j : Nat × (List (List UInt8)) × Int) => Try.St_stable_Image_7 a0 n1 j.2.1 j.2.2) (fun j => m_stable_Image_loop2 a0 n1 j.1 j.2.1 j.2.2 = some x2) (fun j => j.1) (1000001, l2, 0) (Nat.le_of_ble_eq_true rfl) ?_ hx2 ?_
     ·skip
      exact .m [1, 2, 5, 6, 19, 20, 21, 26, 27, 28] [0, 1, 2] [(2, 3)]
     rintro ⟨fu2, l4, n2⟩ hx2
     simp only [Try.St_stable_Image_7]
     try simp only at hx2
     obtain ⟨fu2, rfl⟩ : ∃ k, fu2 = k + 1 := by cases fu2 with | zero => (rw [m_stable_Image_loop2] at hx2; cases hx2) | succ k => exact ⟨k, rfl⟩
     rw [m_stable_Image_loop2] at hx2
     refine .seq ?_
     refine .pl Try.S [1, 2, 5, 6, 19, 20, 21, 26, 27, 28] ?_
     refine .seq ?_
     refine .cond rfl rfl (fun hc3 => ?_) (fun hc3 => ?_)
     ·skip
      replace hx2 := ite_lc hx2 hc3
      refine .skip ?_
      refine .seq ?_
      refine .block ?_
      refine .seq ?_
      obtain ⟨k2, hx2⟩ := ite_ck hx2
      have e2 := nth_mapI D.str (a0.Logs.getD n1.toNat default) n2
      replace e2 := e2 k2
      refine .plx Try.S e2 [1, 2, 5, 6, 19, 20, 21, 26, 27, 28] ?_
      obtain ⟨v2, hv2, hx2⟩ := bind_some hx2
      refine .rg Try.S [1, 2, 5, 6, 8, 9, 19, 20, 21, 26, 27, 28] ?_
      refine .rn 6 ?_
      refine .hcall (H := [(1, .box [.ref 3 1 0 l4.length (some unkC)]), (3, .arr 9 1 true (l4.map D.str))]) (eff := [(1, some (.box [.ref 4 1 0 v2.length (some unkC)])), (3, none), (4, some (.arr 9 1 true (v2.map D.str)))]) (nw := (4, 9)) (r := .tuple []) rfl rfl rfl rfl rfl (callH_bsw 4 (callH_sw 20001 3 (callH_sw 20000 1 (callH_stable_Image_1 (⟨3, n1, (wr .i64 (n2 + 1)), 0, ((a0.Logs.getD n1.toNat default).getD n2.toNat default)⟩ : TRecord) l4 v2 hv2)))) (fun id b h => getL_pick [1, 3] _ id b h) (by simp) (.inr ⟨Nat.le_of_ble_eq_true rfl, Nat.le_of_ble_eq_true rfl⟩) ?_
      refine .nil ⟨nofun, ?_⟩
      refine .pl Try.S [1, 2, 5, 6, 19, 20, 21, 26, 27, 28] ?_
      refine ⟨(fu2, _, _), ?_, hx2, by dsimp only; omega⟩
      exact .m [1, 2, 5, 6, 19, 20, 21, 26, 27, 28] [0, 1, 4] [(4, 3)]
     ·skip
      replace hx2 := ite_rc hx2 hc3
      refine .exit ?_
      refine ⟨_, ?_, (Option.some.inj hx2).symm⟩
      exact .m [1, 2, 5, 19, 20, 21] [0, 1, 3] []
    ·skip
     rintro l3 hj1
     subst x2
     try dsimp only at hx1
     simp only [Try.St_stable_Image_5]
     refine .pl Try.S [1, 2, 5, 19, 20, 21] ?_
     refine ⟨(fu1, _, _), ?_, hx1, by dsimp only; omega⟩
     exact .m [1, 2, 5, 19, 20, 21] [0, 1, 3] [(3, 2)]
   ·skip
    replace hx1 := ite_rc hx1 hc2
    refine .exit ?_
    refine ⟨_, ?_, (Option.some.inj hx1).symm⟩
    exact .m [1, 2, 5] [0, 1, 2] []
  ·skip
   rintro l1 hj2
   subst x1
   try dsimp only at h
   simp only [Try.St_stable_Image_1]
   obtain ⟨x3, hx3, h⟩ := bind_some h
   refine .seqM 3 (fun (j : (List (List UInt8))) => Try.St_stable_Image_9 j) (fun j => x3 = j) (Nat.le_of_ble_eq_true rfl) ?_ ?_
   ·skip
    refine .seq ?_
    refine .pl Try.S [1, 2, 5] ?_
    refine .block ?_
    refine .loopG 3 (fun (j : Nat × (List (List UInt8)) × Int) => Try.St_stable_Image_11 a0 j.2.1 j.2.2) (fun j => m_stable_Image_loop3 a0 j.1 j.2.1 j.2.2 = some x3) (fun j => j.1) (a0.Votes.length + 1, l1, 0) (Nat.le_of_ble_eq_true rfl) ?_ hx3 ?_
    ·skip
     exact .m [2, 5, 43, 44, 45] [1, 2] [(2, 3)]
    rintro ⟨fu3, l6, n3⟩ hx3
    simp only [Try.St_stable_Image_11]
    try simp only at hx3
    obtain ⟨fu3, rfl⟩ : ∃ k, fu3 = k + 1 := by cases fu3 with | zero => (rw [m_stable_Image_loop3] at hx3; cases hx3) | succ k => exact ⟨k, rfl⟩
    rw [m_stable_Image_loop3] at hx3
    refine .seq ?_
    refine .pl Try.S [2, 5, 43, 44, 45] ?_
    refine .seq ?_
    refine .cond rfl rfl (fun hc4 => ?_) (fun hc4 => ?_)
    ·skip
     replace hx3 := ite_lc hx3 hc4
     refine .skip ?_
     obtain ⟨x4, hx4, hx3⟩ := bind_some hx3
     refine .seqM 4 (fun (j : (List (List UInt8))) => Try.St_stable_Image_13 a0 n3 j) (fun j => x4 = j) (Nat.le_of_ble_eq_true rfl) ?_ ?_
     ·skip
      refine .block ?_
      refine .seq ?_
      obtain ⟨k3, hx4⟩ := ite_ck hx4
      have e3 := nth_mapI TSeen.d a0.Votes n3
      replace e3 := e3 k3
      refine .plx Try.S e3 [2, 5, 43, 44, 45] ?_
      obtain ⟨x5, hx5, hx4⟩ := bind_some hx4
      refine .seqM 5 (fun (j : (List (List UInt8))) => Try.St_stable_Image_15 a0 n3 j) (fun j => x5 = j) (Nat.le_of_ble_eq_true rfl) ?_ ?_
      ·skip
       refine .seq ?_
       refine .pl Try.S [2, 5, 11, 43, 44, 45] ?_
       refine .cond rfl rfl (fun hc5 => ?_) (fun hc5 => ?_)
       ·skip
        replace hx5 := ite_lc hx5 hc5
        obtain ⟨v3, hv3, hx5⟩ := bind_some hx5
        refine .rg Try.S [2, 5, 11, 43, 44, 45] ?_
        refine .rn 6 ?_
        refine .rn 6 ?_
        refine .hcall (H := [(1, .box [.ref 3 1 0 l6.length (some unkC)]), (3, .arr 9 1 true (l6.map D.str))]) (eff := [(1, some (.box [.ref 5 1 0 v3.length (some unkC)])), (3, none), (5, some (.arr 9 1 true (v3.map D.str)))]) (nw := (5, 10)) (r := .tuple []) rfl rfl rfl rfl rfl (callH_bsw 5 (callH_sw 20001 3 (callH_sw 20000 1 (callH_stable_Image_1 (⟨2, (a0.Votes.getD n3.toNat default).Group, (a0.Votes.getD n3.toNat default).Slot, (a0.Votes.getD n3.toNat default).Vote.Ballot, (a0.Votes.getD n3.toNat default).Vote.Value⟩ : TRecord) l6 v3 hv3)))) (fun id b h => getL_pick [1, 3] _ id b h) (by simp) (.inr ⟨Nat.le_of_ble_eq_true rfl, Nat.le_of_ble_eq_true rfl⟩) ?_
        refine .nil ⟨nofun, ?_⟩
        refine ⟨_, ?_, (Option.some.inj hx5).symm⟩
        exact .m [2, 5, 11, 43, 44, 45] [1, 4, 5] []
       ·skip
        replace hx5 := ite_rc hx5 hc5
        refine .skip ?_
        refine ⟨_, ?_, (Option.some.inj hx5).symm⟩
        exact .m [2, 5, 11, 43, 44, 45] [1, 4, 3] [(3, 5)]
      ·skip
       rintro l8 hj3
       subst x5
       try dsimp only at hx4
       simp only [Try.St_stable_Image_15]
       refine .seq ?_
       refine .pl Try.S [2, 5, 11, 43, 44, 45] ?_
       refine .cond rfl rfl (fun hc6 => ?_) (fun hc6 => ?_)
       ·skip
        replace hx4 := ite_lc hx4 hc6
        obtain ⟨v4, hv4, hx4⟩ := bind_some hx4
        refine .rg Try.S [2, 5, 11, 43, 44, 45] ?_
        refine .rn 6 ?_
        refine .rn 3 ?_
        refine .hcall (H := [(1, .box [.ref 5 1 0 l8.length (some unkC)]), (5, .arr 9 1 true (l8.map D.str))]) (eff := [(1, some (.box [.ref 6 1 0 v4.length (some unkC)])), (5, none), (6, some (.arr 9 1 true (v4.map D.str)))]) (nw := (6, 11)) (r := .tuple []) rfl rfl rfl rfl rfl (callH_bsw 6 (callH_sw 20001 5 (callH_sw 20000 1 (callH_stable_Image_1 (⟨1, (a0.Votes.getD n3.toNat default).Group, (a0.Votes.getD n3.toNat default).Slot, (a0.Votes.getD n3.toNat default).Vote.Promised, []⟩ : TRecord) l8 v4 hv4)))) (fun id b h => getL_pick [1, 5] _ id b h) (by simp) (.inr ⟨Nat.le_of_ble_eq_true rfl, Nat.le_of_ble_eq_true rfl⟩) ?_
        refine .nil ⟨nofun, ?_⟩
        refine ⟨_, ?_, (Option.some.inj hx4).symm⟩
        exact .m [2, 5, 43, 44, 45] [1, 6] [(6, 4)]
       ·skip
        replace hx4 := ite_rc hx4 hc6
        refine .skip ?_
        refine ⟨_, ?_, (Option.some.inj hx4).symm⟩
        exact .m [2, 5, 43, 44, 45] [1, 5] [(5, 4)]
     ·skip
      rintro l7 hj4
      subst x4
      try dsimp only at hx3
      simp only [Try.St_stable_Image_13]
      refine .pl Try.S [2, 5, 43, 44, 45] ?_
      refine ⟨(fu3, _, _), ?_, hx3, by dsimp only; omega⟩
      exact .m [2, 5, 43, 44, 45] [1, 4] [(4, 3)]
    ·skip
     replace hx3 := ite_rc hx3 hc4
     refine .exit ?_
     refine ⟨_, ?_, (Option.some.inj hx3).symm⟩
     exact .m [2] [1, 3] []
   ·skip
    rintro l5 hj5
    subst x3
    try dsimp only at h
    simp only [Try.St_stable_Image_9]
    refine .seq ?_
    refine .pl Try.S [2] ?_
    have hq := Option.some.inj h
    subst r
    refine .ret ⟨Try.Re_stable_Image (l5, 0), ?_, .inr rfl, retH [0] ?_ ?_⟩
    ·skip
     exact .m [2, 3] [3, 1] [(3, 0)]
    ·exact rsi0
    ·rfl
theorem callP_stable_Image (a0 : TStable) (r : (List (List UInt8)) × Int) (h : m_stable_Image a0 = some r) : CallP Try.prog 27 [.agg [.imm 1 (a0.Logs.map dL_str) 4, .imm 5 (a0.Votes.map TSeen.d) 4]] (.tuple [.imm 1 (r.1.map D.str) 12, .int .i64 r.2]) :=
 callP_frz (frz_tup (frzs_cons (frz_ref0 pl0_str rfl rfl) (frzs_cons rfl frzs_nil))) (callH_stable_Image a0 r h)
end Go.Proofs
end
section
namespace Go.Proofs
open Go.Tm
set_option linter.unusedVariables false
def m_towncrierref01_In (a0 : Int) : Option Bool :=
 some ((decide (a0 ≥ 0)) && (decide (a0 ≤ 1099511627776)))
def m_towncrierref01_Get_loop1 : List Int → Nat → Int → Int → Option ((Int × Int × Int) ⊕ Unit)
 | [], n3, n1, n2 =>
  some (.inr ())
 | y1 :: rest1, n3, n1, n2 =>
  if ((n3 : Int) < 6) then
  if y1 < 128 then
  Option.bind (if ¬ (((n3 : Int) > 0) ∧ (y1 = 0)) then m_towncrierref01_In (wr .i64 (n1 + (wr .i64 ((wr .i64 ((y1).tmod 128)) * n2)))) else some default) fun v1 =>
  if (((n3 : Int) > 0) ∧ (y1 = 0)) ∨ (¬ (v1 = true)) then
  some (.inl (0, 0, 8))
  else
  some (.inl ((wr .i64 (n1 + (wr .i64 ((wr .i64 ((y1).tmod 128)) * n2)))), (wr .i64 ((n3 : Int) + 1)), 0))
  else
  m_towncrierref01_Get_loop1 rest1 (n3 + 1) (wr .i64 (n1 + (wr .i64 ((wr .i64 ((y1).tmod 128)) * n2)))) (wr .i64 (n2 * 128))
  else
  some (.inr ())
def m_towncrierref01_Get (a0 : List Int) : Option (Int × Int × Int) :=
 Option.bind (α := (Int × Int × Int) ⊕ Unit) (m_towncrierref01_Get_loop1 a0 0 0 1) fun z => match z with
 | (.inl r) => some r
 | (.inr _) =>
 some (0, 0, 8)
def m_towncrierref01_GetText (a0 : List Int) : Option ((List UInt8) × Int × Int) :=
 Option.bind (m_towncrierref01_Get a0) fun v1 =>
 if ((¬ (v1.2.2 = 0)) ∨ (v1.1 > 4096)) ∨ (v1.1 > (wr .i64 ((a0.length : Int) - v1.2.1))) then
 some ([], 0, 8)
 else
 if (0 ≤ v1.2.1 ∧ v1.2.1 ≤ (wr .i64 (v1.2.1 + v1.1)) ∧ (wr .i64 (v1.2.1 + v1.1)) ≤ (a0.length : Int)) then
 some ((toBytes ((a0.take (wr .i64 (v1.2.1 + v1.1)).toNat).drop v1.2.1.toNat)), (wr .i64 (v1.2.1 + v1.1)), 0)
 else none
def m_towncrierref01_Reader_Number (a0 : Ttowncrierref01_Reader) (a1 : Int) : Option (Int × Ttowncrierref01_Reader) :=
 Option.bind (m_towncrierref01_Get a0.B) fun v1 =>
 if ((¬ (v1.2.2 = 0)) ∨ (v1.1 > a1)) ∨ (a0.Bad = true) then
 some (0, (⟨a0.B, true⟩ : Ttowncrierref01_Reader))
 else
 if (0 ≤ v1.2.1 ∧ v1.2.1 ≤ (a0.B.length : Int)) then
 some (v1.1, (⟨(a0.B.drop v1.2.1.toNat), a0.Bad⟩ : Ttowncrierref01_Reader))
 else none
def m_towncrierref01_Reader_Text (a0 : Ttowncrierref01_Reader) (a1 : Int) : Option ((List UInt8) × Ttowncrierref01_Reader) :=
 Option.bind (m_towncrierref01_GetText a0.B) fun v1 =>
 if ((¬ (v1.2.2 = 0)) ∨ ((v1.1.length : Int) > a1)) ∨ (a0.Bad = true) then
 some ([], (⟨a0.B, true⟩ : Ttowncrierref01_Reader))
 else
 if (0 ≤ v1.2.1 ∧ v1.2.1 ≤ (a0.B.length : Int)) then
 some (v1.1, (⟨(a0.B.drop v1.2.1.toNat), a0.Bad⟩ : Ttowncrierref01_Reader))
 else none
def m_towncrierref01_Reader_Done (a0 : Ttowncrierref01_Reader) : Option Bool :=
 some ((!a0.Bad) && ((a0.B.length : Int) == 0))
def m_towncrierref10_Read (a0 : List UInt8) : Option (TRecord × Int) :=
 Option.bind (m_towncrierref01_Reader_Number (⟨(ofBytes a0), false⟩ : Ttowncrierref01_Reader) 3) fun v1 =>
 Option.bind (m_towncrierref01_Reader_Number v1.2 3) fun v2 =>
 Option.bind (m_towncrierref01_Reader_Number v2.2 200) fun v3 =>
 Option.bind (α := (List Int) × Bool × Int) (if ¬ ((wr .u8 v1.1) = 3) then
 Option.bind (m_towncrierref01_Reader_Number v3.2 8388613) fun v4 =>
 some (v4.2.B, v4.2.Bad, v4.1)
 else
 some (v3.2.B, v3.2.Bad, 0)) fun (l1, b1, n1) =>
 Option.bind (α := (List Int) × Bool × (List UInt8)) (if ¬ ((wr .u8 v1.1) = 1) then
 Option.bind (m_towncrierref01_Reader_Text (⟨l1, b1⟩ : Ttowncrierref01_Reader) 1024) fun v5 =>
 some (v5.2.B, v5.2.Bad, v5.1)
 else
 some (l1, b1, [])) fun (l2, b2, s1) =>
 Option.bind (m_towncrierref01_Reader_Done (⟨l2, b2⟩ : Ttowncrierref01_Reader)) fun v6 =>
 Option.bind (if ¬ (¬ (v6 = true)) then m_towncrierref10_May (⟨(wr .u8 v1.1), v2.1, v3.1, n1, s1⟩ : TRecord) else some default) fun v7 =>
 if (¬ (v6 = true)) ∨ (¬ (v7 = true)) then
 some ((⟨0, 0, 0, 0, []⟩ : TRecord), 8)
 else
 some ((⟨(wr .u8 v1.1), v2.1, v3.1, n1, s1⟩ : TRecord), 0)
def m_towncrierref01_Bytes_loop1 : Nat → Int → (List Int) → Option (Int × (List Int))
 | 0, _, _ => none
 | fu1 + 1, n2, l2 =>
  if n2 ≥ 128 then
  if l2.length + [(wr .u8 (wr .i64 ((n2.tmod 128) + 128)))].length < 1000000 then
  m_towncrierref01_Bytes_loop1 fu1 (wr .i64 (n2.tdiv 128)) (l2 ++ [(wr .u8 (wr .i64 ((n2.tmod 128) + 128)))])
  else none
  else
  some (n2, l2)
def m_towncrierref01_Bytes (a0 : Int) : Option ((List Int)) :=
 Option.bind (α := Int × (List Int)) (m_towncrierref01_Bytes_loop1 (11) a0 []) fun (n1, l1) =>
 if l1.length + [(wr .u8 n1)].length < 1000000 then
 some (l1 ++ [(wr .u8 n1)])
 else none
def m_towncrierref01_TextBytes (a0 : List UInt8) : Option ((List Int)) :=
 Option.bind (m_towncrierref01_Bytes (a0.length : Int)) fun v1 =>
 if v1.length + (ofBytes a0).length < 1000000 then
 some (v1 ++ (ofBytes a0))
 else none
def m_towncrierref10_Text (a0 : TRecord) : Option ((List UInt8)) :=
 Option.bind (m_towncrierref01_Bytes a0.Slot) fun v1 =>
 if [a0.Kind, (wr .u8 a0.Group)].length + v1.length < 1000000 then
 Option.bind (α := (List Int)) (if ¬ (a0.Kind = 3) then
 Option.bind (m_towncrierref01_Bytes a0.Ballot) fun v2 =>
 if ([a0.Kind, (wr .u8 a0.Group)] ++ v1).length + v2.length < 1000000 then
 some (([a0.Kind, (wr .u8 a0.Group)] ++ v1) ++ v2)
 else none
 else
 some ([a0.Kind, (wr .u8 a0.Group)] ++ v1)) fun l1 =>
 Option.bind (α := (List Int)) (if ¬ (a0.Kind = 1) then
 Option.bind (m_towncrierref01_TextBytes a0.Value) fun v3 =>
 if l1.length + v3.length < 1000000 then
 some (l1 ++ v3)
 else none
 else
 some l1) fun l2 =>
 some (toBytes l2)
 else none
def m_towncrierref11_Records_loop2 (a0 : TStable) (n1 : Int) : Nat → (List TRecord) → Int → Option ((List TRecord))
 | 0, _, _ => none
 | fu2 + 1, l4, n2 =>
  if (0 ≤ n1 ∧ n1 < (a0.Logs.length : Int)) then
  if n2 < ((a0.Logs.getD n1.toNat default).length : Int) then
  if (0 ≤ n1 ∧ n1 < (a0.Logs.length : Int)) then
  if (0 ≤ n2 ∧ n2 < ((a0.Logs.getD n1.toNat default).length : Int)) then
  if l4.length + [(⟨3, n1, (wr .i64 (n2 + 1)), 0, ((a0.Logs.getD n1.toNat default).getD n2.toNat default)⟩ : TRecord)].length < 1000000 then
  m_towncrierref11_Records_loop2 a0 n1 fu2 (l4 ++ [(⟨3, n1, (wr .i64 (n2 + 1)), 0, ((a0.Logs.getD n1.toNat default).getD n2.toNat default)⟩ : TRecord)]) (wr .i64 (n2 + 1))
  else none
  else none
  else none
  else
  some l4
  else none
def m_towncrierref11_Records_loop1 (a0 : TStable) : Nat → (List TRecord) → Int → Option ((List TRecord))
 | 0, _, _ => none
 | fu1 + 1, l2, n1 =>
  if n1 < (a0.Logs.length : Int) then
  Option.bind (α := (List TRecord)) (m_towncrierref11_Records_loop2 a0 n1 (1000001) l2 0) fun l3 =>
  m_towncrierref11_Records_loop1 a0 fu1 l3 (wr .i64 (n1 + 1))
  else
  some l2
def m_towncrierref11_Records_loop3 (a0 : TStable) : Nat → (List TRecord) → Int → Option ((List TRecord))
 | 0, _, _ => none
 | fu3 + 1, l6, n3 =>
  if n3 < (a0.Votes.length : Int) then
  Option.bind (α := (List TRecord)) (if (0 ≤ n3 ∧ n3 < (a0.Votes.length : Int)) then
  Option.bind (α := (List TRecord)) (if (a0.Votes.getD n3.toNat default).Vote.Ballot > 0 then
  if l6.length + [(⟨2, (a0.Votes.getD n3.toNat default).Group, (a0.Votes.getD n3.toNat default).Slot, (a0.Votes.getD n3.toNat default).Vote.Ballot, (a0.Votes.getD n3.toNat default).Vote.Value⟩ : TRecord)].length < 1000000 then
  some (l6 ++ [(⟨2, (a0.Votes.getD n3.toNat default).Group, (a0.Votes.getD n3.toNat default).Slot, (a0.Votes.getD n3.toNat default).Vote.Ballot, (a0.Votes.getD n3.toNat default).Vote.Value⟩ : TRecord)])
  else none
  else
  some l6) fun l8 =>
  if (a0.Votes.getD n3.toNat default).Vote.Promised > (a0.Votes.getD n3.toNat default).Vote.Ballot then
  if l8.length + [(⟨1, (a0.Votes.getD n3.toNat default).Group, (a0.Votes.getD n3.toNat default).Slot, (a0.Votes.getD n3.toNat default).Vote.Promised, []⟩ : TRecord)].length < 1000000 then
  some (l8 ++ [(⟨1, (a0.Votes.getD n3.toNat default).Group, (a0.Votes.getD n3.toNat default).Slot, (a0.Votes.getD n3.toNat default).Vote.Promised, []⟩ : TRecord)])
  else none
  else
  some l8
  else none) fun l7 =>
  m_towncrierref11_Records_loop3 a0 fu3 l7 (wr .i64 (n3 + 1))
  else
  some l6
def m_towncrierref11_Records (a0 : TStable) : Option ((List TRecord)) :=
 Option.bind (α := (List TRecord)) (m_towncrierref11_Records_loop1 a0 (a0.Logs.length + 1) [] 0) fun l1 =>
 Option.bind (α := (List TRecord)) (m_towncrierref11_Records_loop3 a0 (a0.Votes.length + 1) l1 0) fun l5 =>
 some l5
def m_towncrierref11_Image_loop1 (v2 : List TRecord) : Nat → (List (List UInt8)) → Int → Option ((List (List UInt8)))
 | 0, _, _ => none
 | fu1 + 1, l2, n1 =>
  if n1 < (v2.length : Int) then
  if (0 ≤ n1 ∧ n1 < (v2.length : Int)) then
  Option.bind (m_towncrierref10_Text (v2.getD n1.toNat default)) fun v3 =>
  if l2.length + [v3].length < 1000000 then
  m_towncrierref11_Image_loop1 v2 fu1 (l2 ++ [v3]) (wr .i64 (n1 + 1))
  else none
  else none
  else
  some l2
def m_towncrierref11_Image (a0 : TStable) : Option ((List (List UInt8)) × Int) :=
 Option.bind (m_towncrierref11_May a0) fun v1 =>
 if ¬ (v1 = true) then
 some ([], 8)
 else
 Option.bind (m_towncrierref11_Records a0) fun v2 =>
 Option.bind (α := (List (List UInt8))) (m_towncrierref11_Image_loop1 v2 (1000001) [] 0) fun l1 =>
 some (l1, 0)
end Go.Proofs
end
section
namespace Go.Proofs
open Go.Tm Go.RowKit Go.WideShapes
set_option maxRecDepth 100000
set_option maxHeartbeats 4000000
set_option linter.unusedSimpArgs false
set_option linter.unusedVariables false
attribute [local go_sem] argVars runE runK isCallV stepE aop opd opdsL opds opdO ev ofVal keep List.any natbeq Bool.false_or Bool.true_or aggEq cond_true cond_false Bool.cond_false_right Bool.cond_true_left beq_true beq_false imp_self implies_true getR getL put St.app effL del nwB blt_dec Nat.lt_irrefl Nat.lt_add_one ble_dec Nat.le_refl Nat.beq_refl roomNZ appendIn capS capK mkZ_zero mkZL_zero zeroEl D.ids D.idsL bin arith sarith binT dpick Tm.part splice fillD oneD loadD storeD srcD sliceD idxOk decide_true gval dstAt D.cells List.map_cons List.map_nil List.take List.drop List.length_map List.append Int.toNat_natCast and_true true_and decide_false List.length_cons List.length_nil List.append_nil List.nil_append Bool.and_true Bool.true_and Bool.not_false Bool.not_true ne_eq not_false_eq_true BEq.rfl List.getElem?_cons_zero List.getElem?_cons_succ List.getElem?_nil Nat.zero_add List.all_cons List.all_nil List.isEmpty_cons List.isEmpty_nil Option.getD_some Option.getD_none List.any_cons List.any_nil List.drop_succ_cons List.drop_zero unfL unf okM okML low3 List.cons_append true_or or_true Nat.zero_mul Nat.zero_le findD_int findD_str  getD_int getD_str getD_bool Option.isSome_map keyD List.length_replicate List.map_replicate setEl List.length_set bytesD_map map_ub mx_len mkZ_one mkZL_one mkM mkML mk1_int mk1_str mk1_bool drop_map take_map take_map_len List.take_length Int.toNat_zero toNat_pred fpOf metIds opIds mvV mvH mvF pickL D.ren D.renL Blk.ren List.map_append List.length_append Bool.not_not Bool.or_not_self Bool.not_or_self Bool.or_true
attribute [local go_sem] Try.tm_1 Try.tm_2 Try.tm_3 Try.tm_4 Try.tm_5 Try.tm_6 Try.tm_7 Try.tm_8 Try.tm_9 Try.tm_10 Try.tm_11 Try.tm_12 Try.tm_13 Try.tm_14 Try.tm_15 Try.tm_16 Try.tm_17 Try.tm_18 Try.tm_19 Try.tm_20 Try.tm_21 Try.tm_22 Try.tm_23 Try.tm_24 Try.tm_25 Try.tm_26 Try.tm_27 Try.tm_28 Try.tm_29 Try.tm_30 Try.tm_32 Try.tm_33 Try.tm_34 Try.tm_35 Try.tm_36 Try.tm_37 Try.tm_39 Try.tm_40 Try.tm_41 Try.tm_43 Try.tm_45 Try.tm_46 Try.tm_47 Try.tm_48 Try.tm_49 Try.tm_50 Try.tm_51 Try.tm_52 Try.tm_53 Try.tm_55 Try.tm_57 Try.tm_58 Try.tm_60 Try.tm_61 Try.tm_63 Try.tm_64 Try.tm_65 Try.tm_66 Try.tm_67 Try.tm_68 Try.tm_69 Try.tm_70 Try.tm_71 Try.tm_72 Try.tm_73 Try.tm_74 Try.tm_76 Try.tm_77 Try.tm_78 Try.tm_79 Try.tm_80 Try.tm_81 Try.tm_82 Try.tm_83 Try.tm_84 Try.tm_85 Try.tm_86 Try.tm_87 Try.tm_89 Try.tm_91 Try.tm_92 Try.tm_93 Try.tm_94 Try.tm_95 Try.tm_96 Try.tm_98 Try.tm_99 Try.tm_101 Try.tm_103 Try.tm_104 Try.tm_105 Try.tm_106 Try.tm_107 Try.tm_108 Try.tm_109 Try.tm_110 Try.tm_111 Try.tm_112 Try.tm_113 Try.tm_114 Try.tm_115 Try.tm_116 Try.tm_117 Try.tm_118 Try.tm_119 Try.tm_120 Try.tm_121 Try.tm_123 Try.tm_124 Try.tm_125 Try.tm_126 Try.tm_127 Try.tm_128 Try.tm_129 Try.tm_130 Try.tm_132 Try.tm_134 Try.tm_135 Try.tm_136 Try.tm_137 Try.tm_138 Try.tm_139 Try.tm_140 Try.tm_143 Try.tm_144 Try.tm_145 Try.tm_146 Try.tm_147 Try.tm_148 Try.tm_149 Try.tm_150 Try.tm_151 dL_str nL_str TVote.d TSeen.d TStable.d TStable.n TRecord.d mk1_dL_str mk1_TVote mk1_TSeen mk1_TStable mk1_TRecord Ttowncrierref01_Reader.d Ttowncrierref01_Reader.n mk1_Ttowncrierref01_Reader Try.f92 Try.f87 Try.f88 Try.f73 Try.f74 Try.f75 Try.f54 Try.f79 Try.f80 Try.f58 Try.f57 Try.f28
theorem callP_towncrierref01_In (a0 : Int) (r : Bool) (h : m_towncrierref01_In a0 = some r) : CallP Try.prog 92 [.int .i64 a0] (.bool r) := by
 refine callP_intro Try.tmOk 2 Try.func92 rfl (by decide) rfl rfl (Nat.le_of_ble_eq_true rfl) ?_
 intro hwf
 unfold m_towncrierref01_In at h
 refine .seq ?_
 refine .pl Try.S [0] ?_
 refine .seq ?_
 refine .pl Try.S [0] ?_
 have hq := Option.some.inj h
 subst r
 exact .ret ⟨.inr rfl, rsi⟩
def Try.St_towncrierref01_Get_1 : St := ⟨[], [], 0⟩
attribute [local go_sem] Try.St_towncrierref01_Get_1
def Try.St_towncrierref01_Get_3 (a0 : List Int) (n3 : Nat) (n1 : Int) (n2 : Int) : St := ⟨[(0, .imm 1 (a0.map (D.int .u8)) 4), (5, .int .i64 n1), (6, .int .i64 n2), (7, .int .i64 (n3 : Int))], [], 0⟩
attribute [local go_sem] Try.St_towncrierref01_Get_3
theorem callP_towncrierref01_Get (a0 : List Int) (r : Int × Int × Int) (h : m_towncrierref01_Get a0 = some r) : CallP Try.prog 87 [.imm 1 (a0.map (D.int .u8)) 4] (.tuple [.int .i64 r.1, .int .i64 r.2.1, .int .i64 r.2.2]) := by
 refine callP_intro Try.tmOk 2 Try.func87 rfl (by decide) rfl rfl (Nat.le_of_ble_eq_true rfl) ?_
 intro hwf
 unfold m_towncrierref01_Get at h
 refine .seq ?_
 refine .pl Try.S [0] ?_
 refine .seq ?_
 refine .pl Try.S [0] ?_
 obtain ⟨x1, hx1, h⟩ := bind_some h
 refine .seqM 0 (fun (j : Unit) => Try.St_towncrierref01_Get_1) (fun j => x1 = (.inr j)) (Nat.le_of_ble_eq_true rfl) ?_ ?_
 ·skip
  refine .seq ?_
  refine .pl Try.S [0, 5, 6] ?_
  refine .block ?_
  refine .loopG 0 (fun (j : Nat × Int × Int) => Try.St_towncrierref01_Get_3 a0 j.1 j.2.1 j.2.2) (fun j => j.1 ≤ a0.length ∧ m_towncrierref01_Get_loop1 (a0.drop j.1) j.1 j.2.1 j.2.2 = some x1) (fun j => a0.length - j.1) (0, 0, 1) (Nat.le_of_ble_eq_true rfl) ?_ ⟨Nat.zero_le _, hx1⟩ ?_
  ·skip
   exact .m [0, 5, 6, 7] [] []
  rintro ⟨n3, n1, n2⟩ ⟨hi1, hx1⟩
  simp only [Try.St_towncrierref01_Get_3]
  simp only at hi1 hx1
  refine .wf 0 (.imm 1 (a0.map (D.int .u8)) 4) rfl ?_
  intro hln3
  replace hln3 : (a0.length : Int) ≤ 9223372036854775807 := by simp only [wf, wfL, IntKind.max, IntKind.min, IntKind.signed, IntKind.bits, List.length_map] at hln3; first | exact hln3.2 | exact hln3.1 | (simp at hln3; omega)
  refine .seq ?_
  refine .seq ?_
  refine .pl Try.S [0, 5, 6, 7] ?_
  refine .cond rfl rfl (fun hc1 => ?_) (fun hc1 => ?_)
  ·skip
   have h1 : n3 < a0.length := by have hq := hc1; simp at hq; omega
   have hwn3 : wr .i64 ((n3 : Int) + 1) = ((n3 + 1 : Nat) : Int) := wr_succ h1 hln3
   have hpn3 : wr .i64 ((n3 : Int) - 1) = (n3 : Int) - 1 := wr_pred h1 hln3
   rw [List.drop_eq_getElem_cons h1, m_towncrierref01_Get_loop1] at hx1
   replace hx1 := ite_lc hx1 hc1
   refine .skip ?_
   refine .seq ?_
   refine .block ?_
   refine .seq ?_
   have e1 := nth_map (D.int .u8) a0 n3 h1
   refine .rg Try.S [0, 5, 6, 7] ?_
   refine .rnx 6 (And.intro e1 hwn3) ?_
   refine .rnx 5 (And.intro e1 hwn3) ?_
   refine .nil ⟨nofun, ?_⟩
   refine .seq ?_
   refine .plx Try.S hwn3 [0, 5, 6, 7] ?_
   refine .seq ?_
   have e2 := nth_map (D.int .u8) a0 n3 h1
   refine .plx Try.S (And.intro e2 hwn3) [0, 5, 6, 7] ?_
   refine .cond rfl rfl (fun hc2 => ?_) (fun hc2 => ?_)
   ·skip
    replace hx1 := ite_lc hx1 hc2
    refine .seq ?_
    refine .seq ?_
    obtain ⟨v1, hv1, hx1⟩ := bind_some hx1
    have e3 := nth_map (D.int .u8) a0 n3 h1
    refine .rg Try.S [0, 5, 7] ?_
    refine .rnx 6 (And.intro e3 hwn3) ?_
    refine .rnx 5 (And.intro e3 hwn3) ?_
    refine .gcall (r := .bool v1) rfl rfl rfl rfl rfl (fun hg => ⟨[], [.int .i64 (wr .i64 (n1 + (wr .i64 ((wr .i64 ((a0[n3]).tmod 128)) * n2))))], _, rfl, gd hg, rfl, (callP_towncrierref01_In (wr .i64 (n1 + (wr .i64 ((wr .i64 ((a0[n3]).tmod 128)) * n2)))) v1 (ite_lc hv1 hg))⟩) ?_
    refine .rnx 2 (And.intro e3 hwn3) ?_
    refine .nil ⟨nofun, ?_⟩
    refine .cond rfl rfl (fun hc3 => ?_) (fun hc3 => ?_)
    ·skip
     replace hx1 := ite_lc hx1 hc3
     refine .seq ?_
     refine .plx Try.S hwn3 [] ?_
     have hq := Option.some.inj hx1
     subst x1
     try dsimp only at h
     have hq := Option.some.inj h
     subst r
     exact .ret ⟨.inr rfl, rsi⟩
    ·skip
     replace hx1 := ite_rc hx1 hc3
     refine .skip ?_
     refine .seq ?_
     refine .plx Try.S hwn3 [5, 7] ?_
     have hq := Option.some.inj hx1
     subst x1
     try dsimp only at h
     have hq := Option.some.inj h
     subst r
     rw [hwn3]
     exact .ret ⟨.inr rfl, rsi⟩
   ·skip
    replace hx1 := ite_rc hx1 hc2
    refine .skip ?_
    refine .plx Try.S hwn3 [0, 5, 6, 7] ?_
    refine ⟨(n3 + 1, _, _), ?_, ⟨by omega, hx1⟩, by dsimp only; omega⟩
    exact .m [0, 5, 6, 7] [] []
  ·skip
   by_cases h2 : n3 < a0.length
   ·skip
    rw [List.drop_eq_getElem_cons h2, m_towncrierref01_Get_loop1] at hx1
    replace hx1 := ite_r hx1 (by have hq := hc1; simp at hq ⊢; first | exact hq (by omega) | omega | grind)
    refine .exit ?_
    refine ⟨_, ?_, (Option.some.inj hx1).symm⟩
    exact .m [] [] []
   ·skip
    rw [List.drop_of_length_le (by omega), m_towncrierref01_Get_loop1] at hx1
    refine .exit ?_
    refine ⟨_, ?_, (Option.some.inj hx1).symm⟩
    exact .m [] [] []
 ·skip
  rintro ⟨⟩ hj1
  subst x1
  try dsimp only at h
  simp only [Try.St_towncrierref01_Get_1]
  refine .seq ?_
  refine .pl Try.S [] ?_
  have hq := Option.some.inj h
  subst r
  exact .ret ⟨.inr rfl, rsi⟩
theorem callP_towncrierref01_GetText (a0 : List Int) (r : (List UInt8) × Int × Int) (h : m_towncrierref01_GetText a0 = some r) : CallP Try.prog 88 [.imm 1 (a0.map (D.int .u8)) 4] (.tuple [.str r.1, .int .i64 r.2.1, .int .i64 r.2.2]) := by
 refine callP_intro Try.tmOk 2 Try.func88 rfl (by decide) rfl rfl (Nat.le_of_ble_eq_true rfl) ?_
 intro hwf
 unfold m_towncrierref01_GetText at h
 refine .seq ?_
 refine .pl Try.S [0] ?_
 refine .seq ?_
 obtain ⟨v1, hv1, h⟩ := bind_some h
 refine .rg Try.S [0] ?_
 refine .rn 1 ?_
 refine .call (r := .tuple [.int .i64 v1.1, .int .i64 v1.2.1, .int .i64 v1.2.2]) rfl rfl rfl rfl rfl rfl (callP_towncrierref01_Get a0 v1 hv1) ?_
 refine .rn 7 ?_
 refine .nil ⟨nofun, ?_⟩
 refine .seq ?_
 refine .seq ?_
 refine .rg Try.S [0, 5, 6, 7] ?_
 refine .rn 6 ?_
 refine .rn 8 ?_
 refine .nil ⟨nofun, ?_⟩
 refine .cond rfl rfl (fun hc1 => ?_) (fun hc1 => ?_)
 ·skip
  replace h := ite_lc h hc1
  refine .seq ?_
  refine .pl Try.S [] ?_
  have hq := Option.some.inj h
  subst r
  exact .ret ⟨.inr rfl, rsi⟩
 ·skip
  replace h := ite_rc h hc1
  refine .skip ?_
  refine .seq ?_
  obtain ⟨k1, h⟩ := ite_ck h
  refine .rg Try.S [0, 5, 6] ?_
  refine .rn 6 ?_
  refine .rn 7 ?_
  refine .nil ⟨nofun, ?_⟩
  have hq := Option.some.inj h
  subst r
  exact .ret ⟨.inr rfl, rsi⟩
def Try.Re_towncrierref01_Reader_Number (r : Int × Ttowncrierref01_Reader) : St := ⟨[(0, .ptr 20000 0), (4, .int .i64 r.1)], [(20000, .box [.imm 1 (r.2.B.map (D.int .u8)) 12, .bool r.2.Bad])], 20100⟩
attribute [local go_sem] Try.Re_towncrierref01_Reader_Number
theorem callH_towncrierref01_Reader_Number (a0 : Ttowncrierref01_Reader) (a1 : Int) (r : Int × Ttowncrierref01_Reader) (h : m_towncrierref01_Reader_Number a0 a1 = some r) : CallH Try.prog 73 [.ptr 20000 0, .int .i64 a1] [(20000, .box [.imm 1 (a0.B.map (D.int .u8)) 12, .bool a0.Bad])] (.int .i64 r.1) [(20000, some (.box [.imm 1 (r.2.B.map (D.int .u8)) 12, .bool r.2.Bad]))] (20100, 20102) := by
 refine callH_intro' Try.tmOk Try.func73 rfl (by decide) (Nat.le_of_ble_eq_true rfl) (by simp) ?_
 intro hwf
 unfold m_towncrierref01_Reader_Number at h
 refine .ends 20100 (Nat.le_refl _) ?_
 refine .seq ?_
 refine .pl Try.S [0, 1] ?_
 refine .seq ?_
 obtain ⟨v1, hv1, h⟩ := bind_some h
 refine .rg Try.S [0, 1] ?_
 refine .rn 4 ?_
 refine .call (r := .tuple [.int .i64 v1.1, .int .i64 v1.2.1, .int .i64 v1.2.2]) rfl rfl rfl rfl rfl rfl (callP_towncrierref01_Get a0.B v1 hv1) ?_
 refine .rn 7 ?_
 refine .nil ⟨nofun, ?_⟩
 refine .seq ?_
 refine .seq ?_
 refine .rg Try.S [0, 1, 5, 6, 7] ?_
 refine .rn 6 ?_
 refine .rn 7 ?_
 refine .nil ⟨nofun, ?_⟩
 refine .cond rfl rfl (fun hc1 => ?_) (fun hc1 => ?_)
 ·skip
  replace h := ite_lc h hc1
  refine .seq ?_
  refine .pl Try.S [0] ?_
  refine .seq ?_
  refine .pl Try.S [0] ?_
  have hq := Option.some.inj h
  subst r
  refine .ret ⟨Try.Re_towncrierref01_Reader_Number (0, (⟨a0.B, true⟩ : Ttowncrierref01_Reader)), ?_, .inr rfl, retH [20000] ?_ ?_⟩
  ·skip
   exact .m [0, 4] [20000] []
  ·exact rsi0
  ·rfl
 ·skip
  replace h := ite_rc h hc1
  refine .skip ?_
  refine .seq ?_
  obtain ⟨k1, h⟩ := ite_ck h
  refine .rg Try.S [0, 5, 6] ?_
  refine .rn 6 ?_
  refine .rn 4 ?_
  refine .nil ⟨nofun, ?_⟩
  refine .seq ?_
  refine .pl Try.S [0, 5] ?_
  have hq := Option.some.inj h
  subst r
  refine .ret ⟨Try.Re_towncrierref01_Reader_Number (v1.1, (⟨(a0.B.drop v1.2.1.toNat), a0.Bad⟩ : Ttowncrierref01_Reader)), ?_, .inr rfl, retH [20000] ?_ ?_⟩
  ·skip
   exact .m [0, 4] [20000] []
  ·exact rsi0
  ·rfl
def Try.Re_towncrierref01_Reader_Text (r : (List UInt8) × Ttowncrierref01_Reader) : St := ⟨[(0, .ptr 20000 0), (4, .str r.1)], [(20000, .box [.imm 1 (r.2.B.map (D.int .u8)) 12, .bool r.2.Bad])], 20100⟩
attribute [local go_sem] Try.Re_towncrierref01_Reader_Text
theorem callH_towncrierref01_Reader_Text (a0 : Ttowncrierref01_Reader) (a1 : Int) (r : (List UInt8) × Ttowncrierref01_Reader) (h : m_towncrierref01_Reader_Text a0 a1 = some r) : CallH Try.prog 74 [.ptr 20000 0, .int .i64 a1] [(20000, .box [.imm 1 (a0.B.map (D.int .u8)) 12, .bool a0.Bad])] (.str r.1) [(20000, some (.box [.imm 1 (r.2.B.map (D.int .u8)) 12, .bool r.2.Bad]))] (20100, 20102) := by
 refine callH_intro' Try.tmOk Try.func74 rfl (by decide) (Nat.le_of_ble_eq_true rfl) (by simp) ?_
 intro hwf
 unfold m_towncrierref01_Reader_Text at h
 refine .ends 20100 (Nat.le_refl _) ?_
 refine .seq ?_
 refine .pl Try.S [0, 1] ?_
 refine .seq ?_
 obtain ⟨v1, hv1, h⟩ := bind_some h
 refine .rg Try.S [0, 1] ?_
 refine .rn 4 ?_
 refine .call (r := .tuple [.str v1.1, .int .i64 v1.2.1, .int .i64 v1.2.2]) rfl rfl rfl rfl rfl rfl (callP_towncrierref01_GetText a0.B v1 hv1) ?_
 refine .rn 7 ?_
 refine .nil ⟨nofun, ?_⟩
 refine .seq ?_
 refine .seq ?_
 refine .rg Try.S [0, 1, 5, 6, 7] ?_
 refine .rn 6 ?_
 refine .rn 8 ?_
 refine .nil ⟨nofun, ?_⟩
 refine .cond rfl rfl (fun hc1 => ?_) (fun hc1 => ?_)
 ·skip
  replace h := ite_lc h hc1
  refine .seq ?_
  refine .pl Try.S [0] ?_
  refine .seq ?_
  refine .pl Try.S [0] ?_
  have hq := Option.some.inj h
  subst r
  refine .ret ⟨Try.Re_towncrierref01_Reader_Text ([], (⟨a0.B, true⟩ : Ttowncrierref01_Reader)), ?_, .inr rfl, retH [20000] ?_ ?_⟩
  ·skip
   exact .m [0, 4] [20000] []
  ·exact rsi0
  ·rfl
 ·skip
  replace h := ite_rc h hc1
  refine .skip ?_
  refine .seq ?_
  obtain ⟨k1, h⟩ := ite_ck h
  refine .rg Try.S [0, 5, 6] ?_
  refine .rn 6 ?_
  refine .rn 4 ?_
  refine .nil ⟨nofun, ?_⟩
  refine .seq ?_
  refine .pl Try.S [0, 5] ?_
  have hq := Option.some.inj h
  subst r
  refine .ret ⟨Try.Re_towncrierref01_Reader_Text (v1.1, (⟨(a0.B.drop v1.2.1.toNat), a0.Bad⟩ : Ttowncrierref01_Reader)), ?_, .inr rfl, retH [20000] ?_ ?_⟩
  ·skip
   exact .m [0, 4] [20000] []
  ·exact rsi0
  ·rfl
theorem callP_towncrierref01_Reader_Done (a0 : Ttowncrierref01_Reader) (r : Bool) (h : m_towncrierref01_Reader_Done a0 = some r) : CallP Try.prog 75 [.iptr 0 [.imm 1 (a0.B.map (D.int .u8)) 4, .bool a0.Bad]] (.bool r) := by
 refine callP_intro Try.tmOk 2 Try.func75 rfl (by decide) rfl rfl (Nat.le_of_ble_eq_true rfl) ?_
 intro hwf
 unfold m_towncrierref01_Reader_Done at h
 refine .seq ?_
 refine .pl Try.S [0] ?_
 refine .seq ?_
 refine .rg Try.S [0] ?_
 refine .rn 6 ?_
 refine .rn 8 ?_
 refine .nil ⟨nofun, ?_⟩
 have hq := Option.some.inj h
 subst r
 exact .ret ⟨.inr rfl, rsi⟩
def Try.St_towncrierref10_Read_1 (v1 : Int × Ttowncrierref01_Reader) (v2 : Int × Ttowncrierref01_Reader) (v3 : Int × Ttowncrierref01_Reader) (l1 : List Int) (b1 : Bool) (n1 : Int) : St := ⟨[(2, .ptr 0 0), (4, .ptr 1 0), (8, .ptr 8 0)], [(0, .box [.int .u8 0, .int .i64 0, .int .i64 0, .int .i64 0, .str []]), (1, .box [.imm 1 (l1.map (D.int .u8)) 12, .bool b1]), (8, .box [.int .u8 (wr .u8 v1.1), .int .i64 v2.1, .int .i64 v3.1, .int .i64 n1, .str []])], 9⟩
attribute [local go_sem] Try.St_towncrierref10_Read_1
def Try.St_towncrierref10_Read_3 (v1 : Int × Ttowncrierref01_Reader) (v2 : Int × Ttowncrierref01_Reader) (v3 : Int × Ttowncrierref01_Reader) (n1 : Int) (l2 : List Int) (b2 : Bool) (s1 : List UInt8) : St := ⟨[(2, .ptr 0 0), (4, .ptr 1 0), (8, .ptr 8 0)], [(0, .box [.int .u8 0, .int .i64 0, .int .i64 0, .int .i64 0, .str []]), (1, .box [.imm 1 (l2.map (D.int .u8)) 12, .bool b2]), (8, .box [.int .u8 (wr .u8 v1.1), .int .i64 v2.1, .int .i64 v3.1, .int .i64 n1, .str s1])], 9⟩
attribute [local go_sem] Try.St_towncrierref10_Read_3
theorem callP_towncrierref10_Read (a0 : List UInt8) (r : TRecord × Int) (h : m_towncrierref10_Read a0 = some r) : CallP Try.prog 54 [.str a0] (.tuple [.agg [.int .u8 r.1.Kind, .int .i64 r.1.Group, .int .i64 r.1.Slot, .int .i64 r.1.Ballot, .str r.1.Value], .int .i64 r.2]) := by
 refine callP_intro Try.tmOk 13 Try.func54 rfl (by decide) rfl rfl (Nat.le_of_ble_eq_true rfl) ?_
 intro hwf
 unfold m_towncrierref10_Read at h
 refine .seq ?_
 refine .pl Try.S [0] ?_
 refine .seq ?_
 refine .pl Try.S [0, 2] ?_
 refine .goes (.boxs 1 _ [.imm 1 ((ofBytes a0).map (D.int .u8)) 12, .bool false] rfl (.cons (.of_new12 _ _ rfl) (.refl _)) .refl) ?_
 refine .seq ?_
 obtain ⟨v1, hv1, h⟩ := bind_some h
 refine .rg Try.S [2, 4] ?_
 refine .rn 1 ?_
 refine .hcall (H := [(1, .box [.imm 1 ((ofBytes a0).map (D.int .u8)) 12, .bool false])]) (eff := [(1, some (.box [.imm 1 (v1.2.B.map (D.int .u8)) 12, .bool v1.2.Bad]))]) (nw := (2, 4)) (r := .int .i64 v1.1) rfl rfl rfl rfl rfl (callH_bsw 2 (callH_sw 20000 1 (callH_towncrierref01_Reader_Number (⟨(ofBytes a0), false⟩ : Ttowncrierref01_Reader) 3 v1 hv1))) (fun id b h => getL_pick [1] _ id b h) (by simp) (.inr ⟨Nat.le_of_ble_eq_true rfl, Nat.le_of_ble_eq_true rfl⟩) ?_
 refine .rn 1 ?_
 refine .nil ⟨nofun, ?_⟩
 refine .seq ?_
 obtain ⟨v2, hv2, h⟩ := bind_some h
 refine .rg Try.S [2, 4, 5] ?_
 refine .rn 1 ?_
 refine .hcall (H := [(1, .box [.imm 1 (v1.2.B.map (D.int .u8)) 12, .bool v1.2.Bad])]) (eff := [(1, some (.box [.imm 1 (v2.2.B.map (D.int .u8)) 12, .bool v2.2.Bad]))]) (nw := (4, 6)) (r := .int .i64 v2.1) rfl rfl rfl rfl rfl (callH_bsw 4 (callH_sw 20000 1 (callH_towncrierref01_Reader_Number v1.2 3 v2 hv2))) (fun id b h => getL_pick [1] _ id b h) (by simp) (.inr ⟨Nat.le_of_ble_eq_true rfl, Nat.le_of_ble_eq_true rfl⟩) ?_
 refine .rn 1 ?_
 refine .nil ⟨nofun, ?_⟩
 refine .seq ?_
 obtain ⟨v3, hv3, h⟩ := bind_some h
 refine .rg Try.S [2, 4, 5, 6] ?_
 refine .rn 1 ?_
 refine .hcall (H := [(1, .box [.imm 1 (v2.2.B.map (D.int .u8)) 12, .bool v2.2.Bad])]) (eff := [(1, some (.box [.imm 1 (v3.2.B.map (D.int .u8)) 12, .bool v3.2.Bad]))]) (nw := (6, 8)) (r := .int .i64 v3.1) rfl rfl rfl rfl rfl (callH_bsw 6 (callH_sw 20000 1 (callH_towncrierref01_Reader_Number v2.2 200 v3 hv3))) (fun id b h => getL_pick [1] _ id b h) (by simp) (.inr ⟨Nat.le_of_ble_eq_true rfl, Nat.le_of_ble_eq_true rfl⟩) ?_
 refine .rn 1 ?_
 refine .nil ⟨nofun, ?_⟩
 refine .seq ?_
 refine .pl Try.S [2, 4, 5, 6, 7] ?_
 obtain ⟨x1, hx1, h⟩ := bind_some h
 refine .seqM 9 (fun (j : (List Int) × Bool × Int) => Try.St_towncrierref10_Read_1 v1 v2 v3 j.1 j.2.1 j.2.2) (fun j => x1 = j) (Nat.le_of_ble_eq_true rfl) ?_ ?_
 ·skip
  refine .seq ?_
  refine .pl Try.S [2, 4, 8] ?_
  refine .cond rfl rfl (fun hc1 => ?_) (fun hc1 => ?_)
  ·skip
   replace hx1 := ite_lc hx1 hc1
   obtain ⟨v4, hv4, hx1⟩ := bind_some hx1
   refine .rg Try.S [2, 4, 8] ?_
   refine .rn 1 ?_
   refine .hcall (H := [(1, .box [.imm 1 (v3.2.B.map (D.int .u8)) 12, .bool v3.2.Bad])]) (eff := [(1, some (.box [.imm 1 (v4.2.B.map (D.int .u8)) 12, .bool v4.2.Bad]))]) (nw := (9, 11)) (r := .int .i64 v4.1) rfl rfl rfl rfl rfl (callH_bsw 9 (callH_sw 20000 1 (callH_towncrierref01_Reader_Number v3.2 8388613 v4 hv4))) (fun id b h => getL_pick [1] _ id b h) (by simp) (.inr ⟨Nat.le_of_ble_eq_true rfl, Nat.le_of_ble_eq_true rfl⟩) ?_
   refine .rn 2 ?_
   refine .nil ⟨nofun, ?_⟩
   refine ⟨_, ?_, (Option.some.inj hx1).symm⟩
   exact .m [2, 4, 8] [0, 1, 8] []
  ·skip
   replace hx1 := ite_rc hx1 hc1
   refine .skip ?_
   refine ⟨_, ?_, (Option.some.inj hx1).symm⟩
   exact .m [2, 4, 8] [0, 1, 8] []
 ·skip
  rintro ⟨l1, b1, n1⟩ hj1
  subst x1
  try dsimp only at h
  simp only [Try.St_towncrierref10_Read_1]
  obtain ⟨x2, hx2, h⟩ := bind_some h
  refine .seqM 9 (fun (j : (List Int) × Bool × (List UInt8)) => Try.St_towncrierref10_Read_3 v1 v2 v3 n1 j.1 j.2.1 j.2.2) (fun j => x2 = j) (Nat.le_of_ble_eq_true rfl) ?_ ?_
  ·skip
   refine .seq ?_
   refine .pl Try.S [2, 4, 8] ?_
   refine .cond rfl rfl (fun hc2 => ?_) (fun hc2 => ?_)
   ·skip
    replace hx2 := ite_lc hx2 hc2
    obtain ⟨v5, hv5, hx2⟩ := bind_some hx2
    refine .rg Try.S [2, 4, 8] ?_
    refine .rn 1 ?_
    refine .hcall (H := [(1, .box [.imm 1 (l1.map (D.int .u8)) 12, .bool b1])]) (eff := [(1, some (.box [.imm 1 (v5.2.B.map (D.int .u8)) 12, .bool v5.2.Bad]))]) (nw := (9, 11)) (r := .str v5.1) rfl rfl rfl rfl rfl (callH_bsw 9 (callH_sw 20000 1 (callH_towncrierref01_Reader_Text (⟨l1, b1⟩ : Ttowncrierref01_Reader) 1024 v5 hv5))) (fun id b h => getL_pick [1] _ id b h) (by simp) (.inr ⟨Nat.le_of_ble_eq_true rfl, Nat.le_of_ble_eq_true rfl⟩) ?_
    refine .rn 2 ?_
    refine .nil ⟨nofun, ?_⟩
    refine ⟨_, ?_, (Option.some.inj hx2).symm⟩
    exact .m [2, 4, 8] [0, 1, 8] []
   ·skip
    replace hx2 := ite_rc hx2 hc2
    refine .skip ?_
    refine ⟨_, ?_, (Option.some.inj hx2).symm⟩
    exact .m [2, 4, 8] [0, 1, 8] []
  ·skip
   rintro ⟨l2, b2, s1⟩ hj2
   subst x2
   try dsimp only at h
   simp only [Try.St_towncrierref10_Read_3]
   refine .seq ?_
   refine .seq ?_
   obtain ⟨v6, hv6, h⟩ := bind_some h
   obtain ⟨v7, hv7, h⟩ := bind_some h
   refine .rg Try.S [2, 4, 8] ?_
   refine .rn 1 ?_
   refine .lcall (r := .bool v6) [] rfl rfl rfl rfl rfl (lend2s_cons (lend2_ptr rfl (lends_cons rfl (lends_cons rfl lends_nil))) lend2s_nil) rfl (callP_towncrierref01_Reader_Done (⟨l2, b2⟩ : Ttowncrierref01_Reader) v6 hv6) ?_
   refine .rn 3 ?_
   refine .gcall (r := .bool v7) rfl rfl rfl rfl rfl (fun hg => ⟨[], [.agg [.int .u8 (wr .u8 v1.1), .int .i64 v2.1, .int .i64 v3.1, .int .i64 n1, .str s1]], _, rfl, gd hg, rfl, (callP_towncrierref10_May (⟨(wr .u8 v1.1), v2.1, v3.1, n1, s1⟩ : TRecord) v7 (ite_lc hv7 hg))⟩) ?_
   refine .rn 2 ?_
   refine .nil ⟨nofun, ?_⟩
   refine .cond rfl rfl (fun hc3 => ?_) (fun hc3 => ?_)
   ·skip
    replace h := ite_lc h hc3
    refine .seq ?_
    refine .pl Try.S [2] ?_
    have hq := Option.some.inj h
    subst r
    exact .ret ⟨.inr rfl, rsi⟩
   ·skip
    replace h := ite_rc h hc3
    refine .skip ?_
    refine .seq ?_
    refine .pl Try.S [2, 8] ?_
    have hq := Option.some.inj h
    subst r
    exact .ret ⟨.inr rfl, rsi⟩
def Try.St_towncrierref01_Bytes_1 (n1 : Int) (l1 : List Int) : St := ⟨[(0, .int .i64 n1), (3, .ref 0 1 0 l1.length (some unkC))], [(0, .arr 5 1 true (l1.map (D.int .u8)))], 1⟩
attribute [local go_sem] Try.St_towncrierref01_Bytes_1
def Try.St_towncrierref01_Bytes_3 (n2 : Int) (l2 : List Int) : St := ⟨[(0, .int .i64 n2), (3, .ref 0 1 0 l2.length (some unkC))], [(0, .arr 5 1 true (l2.map (D.int .u8)))], 1⟩
attribute [local go_sem] Try.St_towncrierref01_Bytes_3
def Try.Re_towncrierref01_Bytes (r : (List Int)) : St := ⟨[(2, .ref 0 1 0 r.length (some unkC))], [(0, .arr 5 1 true (r.map (D.int .u8)))], 1⟩
attribute [local go_sem] Try.Re_towncrierref01_Bytes
theorem callH_towncrierref01_Bytes (a0 : Int) (r : (List Int)) (h : m_towncrierref01_Bytes a0 = some r) : CallH Try.prog 79 [.int .i64 a0] [] (.ref 0 1 0 r.length (some unkC)) [(0, some (.arr 5 1 true (r.map (D.int .u8))))] (0, 5) := by
 refine callH_intro' Try.tmOk Try.func79 rfl (by decide) (Nat.le_of_ble_eq_true rfl) (by simp) ?_
 intro hwf
 unfold m_towncrierref01_Bytes at h
 refine .ends 0 (Nat.le_refl _) ?_
 refine .seq ?_
 refine .pl Try.S [0] ?_
 refine .seq ?_
 refine .pl Try.S [0] ?_
 obtain ⟨x1, hx1, h⟩ := bind_some h
 refine .seqM 0 (fun (j : Int × (List Int)) => Try.St_towncrierref01_Bytes_1 j.1 j.2) (fun j => x1 = j) (Nat.le_of_ble_eq_true rfl) ?_ ?_
 ·skip
  refine .block ?_
  refine .loopG 0 (fun (j : Nat × Int × (List Int)) => Try.St_towncrierref01_Bytes_3 j.2.1 j.2.2) (fun j => m_towncrierref01_Bytes_loop1 j.1 j.2.1 j.2.2 = some x1) (fun j => j.1) (11, a0, []) (Nat.le_of_ble_eq_true rfl) ?_ hx1 ?_
  ·skip
   refine Goes.new0 1 5 (Nat.le_of_ble_eq_true rfl) ?_
   refine Goes.wk 3 _ (.ref 0 1 0 0 (some unkC)) rfl (.own0 0 _ _ _ (by decide)) ?_
   exact .m [0, 3] [0] []
  rintro ⟨fu1, n2, l2⟩ hx1
  simp only [Try.St_towncrierref01_Bytes_3]
  try simp only at hx1
  obtain ⟨fu1, rfl⟩ : ∃ k, fu1 = k + 1 := by cases fu1 with | zero => (rw [m_towncrierref01_Bytes_loop1] at hx1; cases hx1) | succ k => exact ⟨k, rfl⟩
  rw [m_towncrierref01_Bytes_loop1] at hx1
  refine .seq ?_
  refine .seq ?_
  refine .pl Try.S [0, 3] ?_
  refine .cond rfl rfl (fun hc1 => ?_) (fun hc1 => ?_)
  ·skip
   replace hx1 := ite_lc hx1 hc1
   refine .skip ?_
   refine .block ?_
   refine .seq ?_
   obtain ⟨k1, hx1⟩ := ite_ck hx1
   refine .pl Try.S [0, 3] ?_
   refine .pl Try.S [0, 3] ?_
   refine ⟨(fu1, _, _), ?_, hx1, by dsimp only; omega⟩
   exact .m [0, 3] [2] [(2, 0)]
  ·skip
   replace hx1 := ite_rc hx1 hc1
   refine .exit ?_
   refine ⟨_, ?_, (Option.some.inj hx1).symm⟩
   exact .m [0, 3] [0] []
 ·skip
  rintro ⟨n1, l1⟩ hj1
  subst x1
  try dsimp only at h
  simp only [Try.St_towncrierref01_Bytes_1]
  refine .seq ?_
  obtain ⟨k2, h⟩ := ite_ck h
  refine .pl Try.S [0, 3] ?_
  have hq := Option.some.inj h
  subst r
  refine .ret ⟨Try.Re_towncrierref01_Bytes (l1 ++ [(wr .u8 n1)]), ?_, .inr rfl, retH [0] ?_ ?_⟩
  ·skip
   exact .m [2] [2] [(2, 0)]
  ·exact rsi0
  ·rfl
def Try.Re_towncrierref01_TextBytes (r : (List Int)) : St := ⟨[(2, .ref 0 1 0 r.length (some unkC))], [(0, .arr 5 1 true (r.map (D.int .u8)))], 1⟩
attribute [local go_sem] Try.Re_towncrierref01_TextBytes
theorem callH_towncrierref01_TextBytes (a0 : List UInt8) (r : (List Int)) (h : m_towncrierref01_TextBytes a0 = some r) : CallH Try.prog 80 [.str a0] [] (.ref 0 1 0 r.length (some unkC)) [(0, some (.arr 5 1 true (r.map (D.int .u8))))] (0, 13) := by
 refine callH_intro' Try.tmOk Try.func80 rfl (by decide) (Nat.le_of_ble_eq_true rfl) (by simp) ?_
 intro hwf
 unfold m_towncrierref01_TextBytes at h
 refine .ends 0 (Nat.le_refl _) ?_
 refine .seq ?_
 refine .pl Try.S [0] ?_
 refine .seq ?_
 obtain ⟨v1, hv1, h⟩ := bind_some h
 obtain ⟨k1, h⟩ := ite_ck h
 refine .rg Try.S [0] ?_
 refine .rn 2 ?_
 refine .ncall (r := .ref 5 1 0 v1.length (some unkC)) (eff := [(5, some (.arr 5 1 true (v1.map (D.int .u8))))]) (nw := (5, 10)) [] rfl rfl rfl rfl rfl (lend2s_cons rfl lend2s_nil) rfl (callH_at 5 (Nat.le_of_ble_eq_true rfl) (callH_towncrierref01_Bytes (a0.length : Int) v1 hv1)) (newE_cons rfl rfl (newB_arr (pl0_int .u8) _ _ _) newE_nil) (by intro i hi; simp [D.ids, D.idsL] at hi <;> omega) rfl ⟨Nat.le_of_ble_eq_true rfl, Nat.le_of_ble_eq_true rfl⟩ ?_
 refine .rn 3 ?_
 refine .nil ⟨nofun, ?_⟩
 have hq := Option.some.inj h
 subst r
 refine .ret ⟨Try.Re_towncrierref01_TextBytes (v1 ++ (ofBytes a0)), ?_, .inr rfl, retH [0] ?_ ?_⟩
 ·skip
  exact .m [2] [10] [(10, 0)]
 ·exact rsi0
 ·rfl
def Try.St_towncrierref10_Text_1 (a0 : TRecord) (l1 : List Int) : St := ⟨[(1, .ptr 0 0), (3, .ref 11 1 0 l1.length (some unkC))], [(0, .box [.int .u8 a0.Kind, .int .i64 a0.Group, .int .i64 a0.Slot, .int .i64 a0.Ballot, .str a0.Value]), (11, .arr 5 1 true (l1.map (D.int .u8)))], 12⟩
attribute [local go_sem] Try.St_towncrierref10_Text_1
def Try.St_towncrierref10_Text_3 (l2 : List Int) : St := ⟨[(3, .ref 12 1 0 l2.length (some unkC))], [(12, .arr 5 1 true (l2.map (D.int .u8)))], 13⟩
attribute [local go_sem] Try.St_towncrierref10_Text_3
theorem callP_towncrierref10_Text (a0 : TRecord) (r : (List UInt8)) (h : m_towncrierref10_Text a0 = some r) : CallP Try.prog 58 [.agg [.int .u8 a0.Kind, .int .i64 a0.Group, .int .i64 a0.Slot, .int .i64 a0.Ballot, .str a0.Value]] (.str r) := by
 refine callP_intro Try.tmOk 29 Try.func58 rfl (by decide) rfl rfl (Nat.le_of_ble_eq_true rfl) ?_
 intro hwf
 unfold m_towncrierref10_Text at h
 refine .seq ?_
 refine .pl Try.S [0] ?_
 refine .seq ?_
 refine .pl Try.S [1] ?_
 refine .goes (.wk 3 (.ref 1 1 0 2 (some 2)) (.ref 1 1 0 2 (some unkC)) rfl (.unk _ _ _ _ _) .refl) ?_
 refine .seq ?_
 obtain ⟨v1, hv1, h⟩ := bind_some h
 obtain ⟨k1, h⟩ := ite_ck h
 refine .rg Try.S [1, 3] ?_
 refine .rn 3 ?_
 refine .ncall (r := .ref 5 1 0 v1.length (some unkC)) (eff := [(5, some (.arr 5 1 true (v1.map (D.int .u8))))]) (nw := (5, 10)) [] rfl rfl rfl rfl rfl (lend2s_cons rfl lend2s_nil) rfl (callH_at 5 (Nat.le_of_ble_eq_true rfl) (callH_towncrierref01_Bytes a0.Slot v1 hv1)) (newE_cons rfl rfl (newB_arr (pl0_int .u8) _ _ _) newE_nil) (by intro i hi; simp [D.ids, D.idsL] at hi <;> omega) rfl ⟨Nat.le_of_ble_eq_true rfl, Nat.le_of_ble_eq_true rfl⟩ ?_
 refine .rn 2 ?_
 refine .nil ⟨nofun, ?_⟩
 obtain ⟨x1, hx1, h⟩ := bind_some h
 refine .seqM 11 (fun (j : (List Int)) => Try.St_towncrierref10_Text_1 a0 j) (fun j => x1 = j) (Nat.le_of_ble_eq_true rfl) ?_ ?_
 ·skip
  refine .seq ?_
  refine .pl Try.S [1, 3] ?_
  refine .cond rfl rfl (fun hc1 => ?_) (fun hc1 => ?_)
  ·skip
   replace hx1 := ite_lc hx1 hc1
   obtain ⟨v2, hv2, hx1⟩ := bind_some hx1
   obtain ⟨k2, hx1⟩ := ite_ck hx1
   refine .rg Try.S [1, 3] ?_
   refine .rn 3 ?_
   refine .ncall (r := .ref 11 1 0 v2.length (some unkC)) (eff := [(11, some (.arr 5 1 true (v2.map (D.int .u8))))]) (nw := (11, 16)) [] rfl rfl rfl rfl rfl (lend2s_cons rfl lend2s_nil) rfl (callH_at 11 (Nat.le_of_ble_eq_true rfl) (callH_towncrierref01_Bytes a0.Ballot v2 hv2)) (newE_cons rfl rfl (newB_arr (pl0_int .u8) _ _ _) newE_nil) (by intro i hi; simp [D.ids, D.idsL] at hi <;> omega) rfl ⟨Nat.le_of_ble_eq_true rfl, Nat.le_of_ble_eq_true rfl⟩ ?_
   refine .rn 2 ?_
   refine .nil ⟨nofun, ?_⟩
   refine ⟨_, ?_, (Option.some.inj hx1).symm⟩
   exact .mx (show 2 + v1.length + v2.length = v1.length + v2.length + 1 + 1 by omega) [1, 3] [0, 16] [(16, 11)]
  ·skip
   replace hx1 := ite_rc hx1 hc1
   refine .skip ?_
   refine ⟨_, ?_, (Option.some.inj hx1).symm⟩
   exact .mx (show 2 + v1.length = v1.length + 1 + 1 by omega) [1, 3] [0, 10] [(10, 11)]
 ·skip
  rintro l1 hj1
  subst x1
  try dsimp only at h
  simp only [Try.St_towncrierref10_Text_1]
  obtain ⟨x2, hx2, h⟩ := bind_some h
  refine .seqM 12 (fun (j : (List Int)) => Try.St_towncrierref10_Text_3 j) (fun j => x2 = j) (Nat.le_of_ble_eq_true rfl) ?_ ?_
  ·skip
   refine .seq ?_
   refine .pl Try.S [1, 3] ?_
   refine .cond rfl rfl (fun hc2 => ?_) (fun hc2 => ?_)
   ·skip
    replace hx2 := ite_lc hx2 hc2
    obtain ⟨v3, hv3, hx2⟩ := bind_some hx2
    obtain ⟨k3, hx2⟩ := ite_ck hx2
    refine .rg Try.S [1, 3] ?_
    refine .rn 3 ?_
    refine .ncall (r := .ref 13 1 0 v3.length (some unkC)) (eff := [(13, some (.arr 5 1 true (v3.map (D.int .u8))))]) (nw := (13, 26)) [] rfl rfl rfl rfl rfl (lend2s_cons rfl lend2s_nil) rfl (callH_at 13 (Nat.le_of_ble_eq_true rfl) (callH_towncrierref01_TextBytes a0.Value v3 hv3)) (newE_cons rfl rfl (newB_arr (pl0_int .u8) _ _ _) newE_nil) (by intro i hi; simp [D.ids, D.idsL] at hi <;> omega) rfl ⟨Nat.le_of_ble_eq_true rfl, Nat.le_of_ble_eq_true rfl⟩ ?_
    refine .rn 2 ?_
    refine .nil ⟨nofun, ?_⟩
    refine ⟨_, ?_, (Option.some.inj hx2).symm⟩
    exact .m [3] [26] [(26, 12)]
   ·skip
    replace hx2 := ite_rc hx2 hc2
    refine .skip ?_
    refine ⟨_, ?_, (Option.some.inj hx2).symm⟩
    exact .m [3] [11] [(11, 12)]
  ·skip
   rintro l2 hj2
   subst x2
   try dsimp only at h
   simp only [Try.St_towncrierref10_Text_3]
   refine .seq ?_
   refine .pl Try.S [3] ?_
   have hq := Option.some.inj h
   subst r
   exact .ret ⟨.inr rfl, rsi⟩
def Try.St_towncrierref11_Records_1 (a0 : TStable) (l1 : List TRecord) : St := ⟨[(1, .ptr 0 0), (3, .ref 1 5 0 l1.length (some unkC))], [(0, .box [.imm 1 (a0.Logs.map dL_str) 4, .imm 5 (a0.Votes.map TSeen.d) 4]), (1, .arr 27 5 true (l1.map TRecord.d))], 2⟩
attribute [local go_sem] Try.St_towncrierref11_Records_1
def Try.St_towncrierref11_Records_3 (a0 : TStable) (l2 : List TRecord) (n1 : Int) : St := ⟨[(1, .ptr 0 0), (3, .ref 1 5 0 l2.length (some unkC)), (4, .int .i64 n1)], [(0, .box [.imm 1 (a0.Logs.map dL_str) 4, .imm 5 (a0.Votes.map TSeen.d) 4]), (1, .arr 27 5 true (l2.map TRecord.d))], 2⟩
attribute [local go_sem] Try.St_towncrierref11_Records_3
def Try.St_towncrierref11_Records_5 (a0 : TStable) (n1 : Int) (l3 : List TRecord) : St := ⟨[(1, .ptr 0 0), (3, .ref 2 5 0 l3.length (some unkC)), (4, .int .i64 n1)], [(0, .box [.imm 1 (a0.Logs.map dL_str) 4, .imm 5 (a0.Votes.map TSeen.d) 4]), (2, .arr 27 5 true (l3.map TRecord.d))], 3⟩
attribute [local go_sem] Try.St_towncrierref11_Records_5
def Try.St_towncrierref11_Records_7 (a0 : TStable) (n1 : Int) (l4 : List TRecord) (n2 : Int) : St := ⟨[(1, .ptr 0 0), (3, .ref 2 5 0 l4.length (some unkC)), (4, .int .i64 n1), (5, .int .i64 n2)], [(0, .box [.imm 1 (a0.Logs.map dL_str) 4, .imm 5 (a0.Votes.map TSeen.d) 4]), (2, .arr 27 5 true (l4.map TRecord.d))], 3⟩
attribute [local go_sem] Try.St_towncrierref11_Records_7
def Try.St_towncrierref11_Records_9 (l5 : List TRecord) : St := ⟨[(3, .ref 2 5 0 l5.length (some unkC))], [(2, .arr 27 5 true (l5.map TRecord.d))], 3⟩
attribute [local go_sem] Try.St_towncrierref11_Records_9
def Try.St_towncrierref11_Records_11 (a0 : TStable) (l6 : List TRecord) (n3 : Int) : St := ⟨[(1, .ptr 0 0), (3, .ref 2 5 0 l6.length (some unkC)), (6, .int .i64 n3)], [(0, .box [.imm 1 (a0.Logs.map dL_str) 4, .imm 5 (a0.Votes.map TSeen.d) 4]), (2, .arr 27 5 true (l6.map TRecord.d))], 3⟩
attribute [local go_sem] Try.St_towncrierref11_Records_11
def Try.St_towncrierref11_Records_13 (a0 : TStable) (n3 : Int) (l7 : List TRecord) : St := ⟨[(1, .ptr 0 0), (3, .ref 3 5 0 l7.length (some unkC)), (6, .int .i64 n3)], [(0, .box [.imm 1 (a0.Logs.map dL_str) 4, .imm 5 (a0.Votes.map TSeen.d) 4]), (3, .arr 27 5 true (l7.map TRecord.d))], 4⟩
attribute [local go_sem] Try.St_towncrierref11_Records_13
def Try.St_towncrierref11_Records_15 (a0 : TStable) (n3 : Int) (l8 : List TRecord) : St := ⟨[(1, .ptr 0 0), (3, .ref 4 5 0 l8.length (some unkC)), (6, .int .i64 n3), (7, .ptr 3 0)], [(0, .box [.imm 1 (a0.Logs.map dL_str) 4, .imm 5 (a0.Votes.map TSeen.d) 4]), (3, .box [.int .i64 ((a0.Votes.getD n3.toNat default).Group), .int .i64 ((a0.Votes.getD n3.toNat default).Slot), .int .i64 ((a0.Votes.getD n3.toNat default).Vote.Promised), .int .i64 ((a0.Votes.getD n3.toNat default).Vote.Ballot), .str ((a0.Votes.getD n3.toNat default).Vote.Value)]), (4, .arr 27 5 true (l8.map TRecord.d))], 5⟩
attribute [local go_sem] Try.St_towncrierref11_Records_15
def Try.Re_towncrierref11_Records (r : (List TRecord)) : St := ⟨[(2, .ref 0 5 0 r.length (some unkC))], [(0, .arr 27 5 true (r.map TRecord.d))], 1⟩
attribute [local go_sem] Try.Re_towncrierref11_Records
theorem callH_towncrierref11_Records (a0 : TStable) (r : (List TRecord)) (h : m_towncrierref11_Records a0 = some r) : CallH Try.prog 57 [.agg [.imm 1 (a0.Logs.map dL_str) 4, .imm 5 (a0.Votes.map TSeen.d) 4]] [] (.ref 0 5 0 r.length (some unkC)) [(0, some (.arr 27 5 true (r.map TRecord.d)))] (0, 9) := by
 refine callH_intro' Try.tmOk Try.func57 rfl (by decide) (Nat.le_of_ble_eq_true rfl) (by simp) ?_
 intro hwf
 unfold m_towncrierref11_Records at h
 refine .ends 0 (Nat.le_refl _) ?_
 refine .seq ?_
 refine .pl Try.S [0] ?_
 refine .seq ?_
 refine .pl Try.S [1] ?_
 obtain ⟨x1, hx1, h⟩ := bind_some h
 refine .seqM 1 (fun (j : (List TRecord)) => Try.St_towncrierref11_Records_1 a0 j) (fun j => x1 = j) (Nat.le_of_ble_eq_true rfl) ?_ ?_
 ·skip
  refine .seq ?_
  refine .pl Try.S [1, 3] ?_
  refine .block ?_
  refine .loopG 1 (fun (j : Nat × (List TRecord) × Int) => Try.St_towncrierref11_Records_3 a0 j.2.1 j.2.2) (fun j => m_towncrierref11_Records_loop1 a0 j.1 j.2.1 j.2.2 = some x1) (fun j => j.1) (a0.Logs.length + 1, [], 0) (Nat.le_of_ble_eq_true rfl) ?_ hx1 ?_
  ·skip
   refine Goes.new0 5 27 (Nat.le_of_ble_eq_true rfl) ?_
   refine Goes.wk 3 _ (.ref 1 5 0 0 (some unkC)) rfl (.own0 1 _ _ _ (by decide)) ?_
   exact .m [1, 3, 4] [0, 1] []
  rintro ⟨fu1, l2, n1⟩ hx1
  simp only [Try.St_towncrierref11_Records_3]
  try simp only at hx1
  obtain ⟨fu1, rfl⟩ : ∃ k, fu1 = k + 1 := by cases fu1 with | zero => (rw [m_towncrierref11_Records_loop1] at hx1; cases hx1) | succ k => exact ⟨k, rfl⟩
  rw [m_towncrierref11_Records_loop1] at hx1
  refine .seq ?_
  refine .seq ?_
  refine .pl Try.S [1, 3, 4] ?_
  refine .cond rfl rfl (fun hc1 => ?_) (fun hc1 => ?_)
  ·skip
   replace hx1 := ite_lc hx1 hc1
   refine .skip ?_
   obtain ⟨x2, hx2, hx1⟩ := bind_some hx1
   refine .seqM 2 (fun (j : (List TRecord)) => Try.St_towncrierref11_Records_5 a0 n1 j) (fun j => x2 = j) (Nat.le_of_ble_eq_true rfl) ?_ ?_
   ·skip
    refine .block ?_
    refine .seq ?_
    refine .pl Try.S [1, 3, 4] ?_
    refine .block ?_
    refine .loopG 2 (fun (j : Nat × (List TRecord) × Int) => Try.St_towncrierref11_Records_7 a0 n1 j.2.1 j.2.2) (fun j => m_towncrierref11_Records_loop2 a0 n1 j.1 j.2.1 j.2.2 = some x2) (fun j => j.1) (1000001, l2, 0) (Nat.le_of_ble_eq_true rfl) ?_ hx2 ?_
    ·skip
     exact .m [1, 3, 4, 5] [0, 1] [(1, 2)]
    rintro ⟨fu2, l4, n2⟩ hx2
    simp only [Try.St_towncrierref11_Records_7]
    try simp only at hx2
    obtain ⟨fu2, rfl⟩ : ∃ k, fu2 = k + 1 := by cases fu2 with | zero => (rw [m_towncrierref11_Records_loop2] at hx2; cases hx2) | succ k => exact ⟨k, rfl⟩
    rw [m_towncrierref11_Records_loop2] at hx2
    refine .seq ?_
    refine .seq ?_
    obtain ⟨k2, hx2⟩ := ite_ck hx2
    have e2 := nth_mapI dL_str a0.Logs n1
    replace e2 := e2 k2
    refine .plx Try.S e2 [1, 3, 4, 5] ?_
    refine .cond rfl rfl (fun hc2 => ?_) (fun hc2 => ?_)
    ·skip
     replace hx2 := ite_lc hx2 hc2
     refine .skip ?_
     refine .seq ?_
     refine .block ?_
     obtain ⟨k3, hx2⟩ := ite_ck hx2
     obtain ⟨k4, hx2⟩ := ite_ck hx2
     obtain ⟨k5, hx2⟩ := ite_ck hx2
     have e3 := nth_mapI dL_str a0.Logs n1
     have e4 := nth_mapI D.str (a0.Logs.getD n1.toNat default) n2
     replace e3 := e3 k3
     replace e4 := e4 k4
     refine .rg Try.S [1, 3, 4, 5] ?_
     refine .rnx 6 (And.intro e3 e4) ?_
     refine .rnx 6 (And.intro e3 e4) ?_
     refine .rnx 4 (And.intro e3 e4) ?_
     refine .nil ⟨nofun, ?_⟩
     refine .pl Try.S [1, 3, 4, 5] ?_
     refine ⟨(fu2, _, _), ?_, hx2, by dsimp only; omega⟩
     exact .m [1, 3, 4, 5] [0, 4] [(4, 2)]
    ·skip
     replace hx2 := ite_rc hx2 hc2
     refine .exit ?_
     refine ⟨_, ?_, (Option.some.inj hx2).symm⟩
     exact .m [1, 3, 4] [0, 2] []
   ·skip
    rintro l3 hj1
    subst x2
    try dsimp only at hx1
    simp only [Try.St_towncrierref11_Records_5]
    refine .pl Try.S [1, 3, 4] ?_
    refine ⟨(fu1, _, _), ?_, hx1, by dsimp only; omega⟩
    exact .m [1, 3, 4] [0, 2] [(2, 1)]
  ·skip
   replace hx1 := ite_rc hx1 hc1
   refine .exit ?_
   refine ⟨_, ?_, (Option.some.inj hx1).symm⟩
   exact .m [1, 3] [0, 1] []
 ·skip
  rintro l1 hj2
  subst x1
  try dsimp only at h
  simp only [Try.St_towncrierref11_Records_1]
  obtain ⟨x3, hx3, h⟩ := bind_some h
  refine .seqM 2 (fun (j : (List TRecord)) => Try.St_towncrierref11_Records_9 j) (fun j => x3 = j) (Nat.le_of_ble_eq_true rfl) ?_ ?_
  ·skip
   refine .seq ?_
   refine .pl Try.S [1, 3] ?_
   refine .block ?_
   refine .loopG 2 (fun (j : Nat × (List TRecord) × Int) => Try.St_towncrierref11_Records_11 a0 j.2.1 j.2.2) (fun j => m_towncrierref11_Records_loop3 a0 j.1 j.2.1 j.2.2 = some x3) (fun j => j.1) (a0.Votes.length + 1, l1, 0) (Nat.le_of_ble_eq_true rfl) ?_ hx3 ?_
   ·skip
    exact .m [1, 3, 6] [0, 1] [(1, 2)]
   rintro ⟨fu3, l6, n3⟩ hx3
   simp only [Try.St_towncrierref11_Records_11]
   try simp only at hx3
   obtain ⟨fu3, rfl⟩ : ∃ k, fu3 = k + 1 := by cases fu3 with | zero => (rw [m_towncrierref11_Records_loop3] at hx3; cases hx3) | succ k => exact ⟨k, rfl⟩
   rw [m_towncrierref11_Records_loop3] at hx3
   refine .seq ?_
   refine .seq ?_
   refine .pl Try.S [1, 3, 6] ?_
   refine .cond rfl rfl (fun hc3 => ?_) (fun hc3 => ?_)
   ·skip
    replace hx3 := ite_lc hx3 hc3
    refine .skip ?_
    obtain ⟨x4, hx4, hx3⟩ := bind_some hx3
    refine .seqM 3 (fun (j : (List TRecord)) => Try.St_towncrierref11_Records_13 a0 n3 j) (fun j => x4 = j) (Nat.le_of_ble_eq_true rfl) ?_ ?_
    ·skip
     refine .block ?_
     refine .seq ?_
     obtain ⟨k6, hx4⟩ := ite_ck hx4
     have e5 := nth_mapI TSeen.d a0.Votes n3
     replace e5 := e5 k6
     refine .plx Try.S e5 [1, 3, 6] ?_
     obtain ⟨x5, hx5, hx4⟩ := bind_some hx4
     refine .seqM 4 (fun (j : (List TRecord)) => Try.St_towncrierref11_Records_15 a0 n3 j) (fun j => x5 = j) (Nat.le_of_ble_eq_true rfl) ?_ ?_
     ·skip
      refine .seq ?_
      refine .pl Try.S [1, 3, 6, 7] ?_
      refine .cond rfl rfl (fun hc4 => ?_) (fun hc4 => ?_)
      ·skip
       replace hx5 := ite_lc hx5 hc4
       obtain ⟨k7, hx5⟩ := ite_ck hx5
       refine .rg Try.S [1, 3, 6, 7] ?_
       refine .rn 6 ?_
       refine .rn 6 ?_
       refine .rn 3 ?_
       refine .nil ⟨nofun, ?_⟩
       refine ⟨_, ?_, (Option.some.inj hx5).symm⟩
       exact .m [1, 3, 6, 7] [0, 3, 5] [(5, 4)]
      ·skip
       replace hx5 := ite_rc hx5 hc4
       refine .skip ?_
       refine ⟨_, ?_, (Option.some.inj hx5).symm⟩
       exact .m [1, 3, 6, 7] [0, 3, 2] [(2, 4)]
     ·skip
      rintro l8 hj3
      subst x5
      try dsimp only at hx4
      simp only [Try.St_towncrierref11_Records_15]
      refine .seq ?_
      refine .pl Try.S [1, 3, 6, 7] ?_
      refine .cond rfl rfl (fun hc5 => ?_) (fun hc5 => ?_)
      ·skip
       replace hx4 := ite_lc hx4 hc5
       obtain ⟨k8, hx4⟩ := ite_ck hx4
       refine .rg Try.S [1, 3, 6, 7] ?_
       refine .rn 6 ?_
       refine .rn 6 ?_
       refine .nil ⟨nofun, ?_⟩
       refine ⟨_, ?_, (Option.some.inj hx4).symm⟩
       exact .m [1, 3, 6] [0, 6] [(6, 3)]
      ·skip
       replace hx4 := ite_rc hx4 hc5
       refine .skip ?_
       refine ⟨_, ?_, (Option.some.inj hx4).symm⟩
       exact .m [1, 3, 6] [0, 4] [(4, 3)]
    ·skip
     rintro l7 hj4
     subst x4
     try dsimp only at hx3
     simp only [Try.St_towncrierref11_Records_13]
     refine .pl Try.S [1, 3, 6] ?_
     refine ⟨(fu3, _, _), ?_, hx3, by dsimp only; omega⟩
     exact .m [1, 3, 6] [0, 3] [(3, 2)]
   ·skip
    replace hx3 := ite_rc hx3 hc3
    refine .exit ?_
    refine ⟨_, ?_, (Option.some.inj hx3).symm⟩
    exact .m [3] [2] []
  ·skip
   rintro l5 hj5
   subst x3
   try dsimp only at h
   simp only [Try.St_towncrierref11_Records_9]
   refine .seq ?_
   refine .pl Try.S [3] ?_
   have hq := Option.some.inj h
   subst r
   refine .ret ⟨Try.Re_towncrierref11_Records l5, ?_, .inr rfl, retH [0] ?_ ?_⟩
   ·skip
    exact .m [2] [2] [(2, 0)]
   ·exact rsi0
   ·rfl
def Try.St_towncrierref11_Image_1 (l1 : List (List UInt8)) : St := ⟨[(4, .ref 18 1 0 l1.length (some unkC))], [(18, .arr 9 1 true (l1.map D.str))], 19⟩
attribute [local go_sem] Try.St_towncrierref11_Image_1
def Try.St_towncrierref11_Image_3 (v2 : List TRecord) (l2 : List (List UInt8)) (n1 : Int) : St := ⟨[(4, .ref 18 1 0 l2.length (some unkC)), (5, .ref 9 5 0 v2.length (some unkC)), (6, .int .i64 n1)], [(9, .arr 27 5 true (v2.map TRecord.d)), (18, .arr 9 1 true (l2.map D.str))], 19⟩
attribute [local go_sem] Try.St_towncrierref11_Image_3
def Try.Re_towncrierref11_Image (r : (List (List UInt8)) × Int) : St := ⟨[(2, .ref 0 1 0 r.1.length (some unkC)), (3, .int .i64 r.2)], [(0, .arr 9 1 true (r.1.map D.str))], 1⟩
attribute [local go_sem] Try.Re_towncrierref11_Image
theorem callH_towncrierref11_Image (a0 : TStable) (r : (List (List UInt8)) × Int) (h : m_towncrierref11_Image a0 = some r) : CallH Try.prog 28 [.agg [.imm 1 (a0.Logs.map dL_str) 4, .imm 5 (a0.Votes.map TSeen.d) 4]] [] (.tuple [.ref 0 1 0 r.1.length (some unkC), .int .i64 r.2]) [(0, some (.arr 9 1 true (r.1.map D.str)))] (0, 23) := by
 refine callH_intro' Try.tmOk Try.func28 rfl (by decide) (Nat.le_of_ble_eq_true rfl) (by simp) ?_
 intro hwf
 unfold m_towncrierref11_Image at h
 refine .ends 0 (Nat.le_refl _) ?_
 refine .seq ?_
 refine .pl Try.S [0] ?_
 refine .seq ?_
 refine .seq ?_
 obtain ⟨v1, hv1, h⟩ := bind_some h
 refine .rg Try.S [1] ?_
 refine .rn 1 ?_
 refine .call (r := .bool v1) rfl rfl rfl rfl rfl rfl (callP_towncrierref11_May a0 v1 hv1) ?_
 refine .rn 1 ?_
 refine .nil ⟨nofun, ?_⟩
 refine .cond rfl rfl (fun hc1 => ?_) (fun hc1 => ?_)
 ·skip
  replace h := ite_lc h hc1
  refine .seq ?_
  refine .pl Try.S [] ?_
  have hq := Option.some.inj h
  subst r
  refine .ret ⟨Try.Re_towncrierref11_Image ([], 8), ?_, .inr rfl, retH [0] ?_ ?_⟩
  ·skip
   refine Goes.new0 1 9 (Nat.le_of_ble_eq_true rfl) ?_
   refine Goes.wk 2 _ (.ref 1 1 0 0 (some unkC)) rfl (.own0 1 _ _ _ (by decide)) ?_
   exact .m [2, 3] [1] [(1, 0)]
  ·exact rsi0
  ·rfl
 ·skip
  replace h := ite_rc h hc1
  refine .skip ?_
  refine .seq ?_
  refine .pl Try.S [1] ?_
  refine .seq ?_
  obtain ⟨v2, hv2, h⟩ := bind_some h
  refine .rg Try.S [1, 4] ?_
  refine .rn 1 ?_
  refine .ncall (r := .ref 9 5 0 v2.length (some unkC)) (eff := [(9, some (.arr 27 5 true (v2.map TRecord.d)))]) (nw := (9, 18)) [] rfl rfl rfl rfl rfl (lend2s_cons rfl lend2s_nil) rfl (callH_at 9 (Nat.le_of_ble_eq_true rfl) (callH_towncrierref11_Records a0 v2 hv2)) (newE_cons rfl rfl (newB_arr pl0_TRecord _ _ _) newE_nil) (by intro i hi; simp [D.ids, D.idsL] at hi <;> omega) rfl ⟨Nat.le_of_ble_eq_true rfl, Nat.le_of_ble_eq_true rfl⟩ ?_
  refine .rn 1 ?_
  refine .nil ⟨nofun, ?_⟩
  obtain ⟨x1, hx1, h⟩ := bind_some h
  refine .seqM 18 (fun (j : (List (List UInt8))) => Try.St_towncrierref11_Image_1 j) (fun j => x1 = j) (Nat.le_of_ble_eq_true rfl) ?_ ?_
  ·skip
   refine .seq ?_
   refine .pl Try.S [4, 5] ?_
   refine .block ?_
   refine .loopG 18 (fun (j : Nat × (List (List UInt8)) × Int) => Try.St_towncrierref11_Image_3 v2 j.2.1 j.2.2) (fun j => m_towncrierref11_Image_loop1 v2 j.1 j.2.1 j.2.2 = some x1) (fun j => j.1) (1000001, [], 0) (Nat.le_of_ble_eq_true rfl) ?_ hx1 ?_
   ·skip
    refine Goes.new0 1 9 (Nat.le_of_ble_eq_true rfl) ?_
    refine Goes.wk 4 _ (.ref 18 1 0 0 (some unkC)) rfl (.own0 18 _ _ _ (by decide)) ?_
    exact .m [4, 5, 6] [9, 18] []
   rintro ⟨fu1, l2, n1⟩ hx1
   simp only [Try.St_towncrierref11_Image_3]
   try simp only at hx1
   obtain ⟨fu1, rfl⟩ : ∃ k, fu1 = k + 1 := by cases fu1 with | zero => (rw [m_towncrierref11_Image_loop1] at hx1; cases hx1) | succ k => exact ⟨k, rfl⟩
   rw [m_towncrierref11_Image_loop1] at hx1
   refine .seq ?_
   refine .seq ?_
   refine .pl Try.S [4, 5, 6] ?_
   refine .cond rfl rfl (fun hc2 => ?_) (fun hc2 => ?_)
   ·skip
    replace hx1 := ite_lc hx1 hc2
    refine .skip ?_
    refine .seq ?_
    refine .block ?_
    obtain ⟨k1, hx1⟩ := ite_ck hx1
    obtain ⟨v3, hv3, hx1⟩ := bind_some hx1
    obtain ⟨k2, hx1⟩ := ite_ck hx1
    have e1 := nth_mapI TRecord.d v2 n1
    replace e1 := e1 k1
    refine .rg Try.S [4, 5, 6] ?_
    refine .rnx 5 e1 ?_
    refine .call (r := .str v3) rfl rfl rfl rfl rfl rfl (callP_towncrierref10_Text (v2.getD n1.toNat default) v3 hv3) ?_
    refine .rnx 3 e1 ?_
    refine .nil ⟨nofun, ?_⟩
    refine .pl Try.S [4, 5, 6] ?_
    refine ⟨(fu1, _, _), ?_, hx1, by dsimp only; omega⟩
    exact .m [4, 5, 6] [9, 20] [(20, 18)]
   ·skip
    replace hx1 := ite_rc hx1 hc2
    refine .exit ?_
    refine ⟨_, ?_, (Option.some.inj hx1).symm⟩
    exact .m [4] [18] []
  ·skip
   rintro l1 hj1
   subst x1
   try dsimp only at h
   simp only [Try.St_towncrierref11_Image_1]
   refine .seq ?_
   refine .pl Try.S [4] ?_
   have hq := Option.some.inj h
   subst r
   refine .ret ⟨Try.Re_towncrierref11_Image (l1, 0), ?_, .inr rfl, retH [0] ?_ ?_⟩
   ·skip
    exact .m [2, 3] [18] [(18, 0)]
   ·exact rsi0
   ·rfl
theorem callP_towncrierref11_Image (a0 : TStable) (r : (List (List UInt8)) × Int) (h : m_towncrierref11_Image a0 = some r) : CallP Try.prog 28 [.agg [.imm 1 (a0.Logs.map dL_str) 4, .imm 5 (a0.Votes.map TSeen.d) 4]] (.tuple [.imm 1 (r.1.map D.str) 12, .int .i64 r.2]) :=
 callP_frz (frz_tup (frzs_cons (frz_ref0 pl0_str rfl rfl) (frzs_cons rfl frzs_nil))) (callH_towncrierref11_Image a0 r h)
end Go.Proofs
end
section
namespace Go.Tm
open Go.RowKit Go.WideShapes
theorem elems_last {C : Cx} {d d' : D} (hw : ∀ v, rep C d v → rep C d' v) : ∀ (l : List D) (b o s : Nat), elems C (l ++ [d]) b o s → elems C (l ++ [d']) b o s
 | [], _, _, _, h => by
  simp only [List.nil_append, elems] at h ⊢
  obtain ⟨⟨v, h1, h2⟩, h3⟩ := h
  exact ⟨⟨v, hw v h1, h2⟩, h3⟩
 | x :: l, b, o, s, h => by
  simp only [List.cons_append, elems] at h ⊢
  exact ⟨h.1, elems_last hw l b (o + s) s h.2⟩
theorem holds_last {C : Cx} {id e s : Nat} {p : Bool} {d d' : D} (l : List D) (hw : ∀ C' : Cx, C'.rf = true → ∀ v, rep C' d v → rep C' d' v) (hC : C.rf = true) (h : holds C id (.arr e s p (l ++ [d]))) : holds C id (.arr e s false (l ++ [d'])) := by
 rcases arr_weak hC (q := false) (fun h => by cases h) h with ⟨h1, _⟩ | ⟨b, cs, h1, h2, h3, h4⟩
 ·exact absurd h1 (by simp)
 ·exact .inr ⟨b, cs, h1, h2, by simpa using h3, elems_last (hw _ rfl) l b 0 s h4⟩
end Go.Tm
end
section
namespace Go.Proofs
open Go.Tm
set_option linter.unusedVariables false
def m_towncrierref11_Twin_loop1 : List (List (List UInt8)) → (List (List (List UInt8))) → Option ((List (List (List UInt8))))
 | [], l2 =>
  some l2
 | y1 :: rest1, l2 =>
  if (y1).length * 16 ≤ 140737488355328 then
  if l2.length + [y1].length < 1000000 then
  m_towncrierref11_Twin_loop1 rest1 (l2 ++ [y1])
  else none
  else none
theorem m_towncrierref11_Twin_loop1_n (l2 : List (List (List UInt8))) : m_towncrierref11_Twin_loop1 [] l2 =
  (some l2 : Option ((List (List (List UInt8))))) := rfl
theorem m_towncrierref11_Twin_loop1_c (y1 : (List (List UInt8))) (rest1 : List (List (List UInt8))) (l2 : List (List (List UInt8))) : m_towncrierref11_Twin_loop1 (y1 :: rest1) l2 =
  (if (y1).length * 16 ≤ 140737488355328 then
  if l2.length + [y1].length < 1000000 then
  m_towncrierref11_Twin_loop1 rest1 (l2 ++ [y1])
  else none
  else none : Option ((List (List (List UInt8))))) := rfl
def m_towncrierref11_Twin (a0 : TStable) : Option TStable :=
 if a0.Votes.length * 48 ≤ 140737488355328 then
 Option.bind (α := (List (List (List UInt8)))) (m_towncrierref11_Twin_loop1 a0.Logs []) fun l1 =>
 some (⟨l1, a0.Votes⟩ : TStable)
 else none
def m_towncrierref11_Apply (a0 : TStable) (a1 : TRecord) : Option (TStable × Int) :=
 Option.bind (m_towncrierref11_May a0) fun v1 =>
 Option.bind (if ¬ (¬ (v1 = true)) then m_towncrierref10_May a1 else some default) fun v2 =>
 if (¬ (v1 = true)) ∨ (¬ (v2 = true)) then
 some ((⟨[], []⟩ : TStable), 8)
 else
 if a1.Group ≥ (a0.Logs.length : Int) then
 some ((⟨[], []⟩ : TStable), 6)
 else
 if (0 ≤ a1.Group ∧ a1.Group < (a0.Logs.length : Int)) then
 if (a1.Slot ≤ ((a0.Logs.getD a1.Group.toNat default).length : Int)) ∨ ((a1.Kind = 3) ∧ (¬ (a1.Slot = (wr .i64 (((a0.Logs.getD a1.Group.toNat default).length : Int) + 1))))) then
 some ((⟨[], []⟩ : TStable), 8)
 else
 Option.bind (m_towncrierref11_Vote a0.Votes a1.Group a1.Slot) fun v3 =>
 Option.bind (α := Int × Int × (List UInt8) × Int) (if a1.Kind = 1 then
 Option.bind (m_towncrierref07_Prepare v3 a1.Ballot) fun v4 =>
 some (v4.1.Promised, v4.1.Ballot, v4.1.Value, v4.2)
 else
 if a1.Kind = 2 then
 Option.bind (m_towncrierref07_Accept v3 a1.Ballot a1.Value) fun v5 =>
 some (v5.1.Promised, v5.1.Ballot, v5.1.Value, v5.2)
 else
 if a1.Kind = 3 then
 some (0, 0, [], 0)
 else
 some (v3.Promised, v3.Ballot, v3.Value, 0)) fun (n1, n2, s1, n3) =>
 if ¬ (n3 = 0) then
 some ((⟨[], []⟩ : TStable), n3)
 else
 Option.bind (m_towncrierref11_Twin a0) fun v6 =>
 Option.bind (m_towncrierref11_With a0.Votes (⟨a1.Group, a1.Slot, (⟨n1, n2, s1⟩ : TVote)⟩ : TSeen)) fun v7 =>
 Option.bind (α := (List (List (List UInt8)))) (if a1.Kind = 3 then
 if (0 ≤ a1.Group ∧ a1.Group < (v6.Logs.length : Int)) then
 some (v6.Logs.set a1.Group.toNat ((v6.Logs.getD a1.Group.toNat default) ++ [a1.Value]))
 else none
 else
 some v6.Logs) fun l1 =>
 some ((⟨l1, v7⟩ : TStable), 0)
 else none
end Go.Proofs
end
section
namespace Go.Proofs
open Go.Tm
set_option linter.unusedSimpArgs false
theorem mlog_loop : ∀ l : Txts, m_towncrierref11_MayLog_loop1 l = some (if ∀ v ∈ l, v.length ≤ 1024 then .inr () else .inl false)
 | [] => by rw [m_towncrierref11_MayLog_loop1_n, if_pos (by simp)]
 | v :: l => by
  rw [m_towncrierref11_MayLog_loop1_c]
  by_cases h : v.length ≤ 1024
  ·rw [if_neg (by omega), mlog_loop l]
   congr 1
   simp only [List.forall_mem_cons, h, true_and]
  ·rw [if_pos (by omega), if_neg (by simp only [List.forall_mem_cons, h, false_and]; exact id)]
theorem mlog_eq (l : Txts) : m_towncrierref11_MayLog l = some (decide (LogOk l)) := by
 rw [m_towncrierref11_MayLog, mlog_loop]
 by_cases h1 : l.length ≤ 200
 ·rw [if_neg (by omega)]
  by_cases h2 : ∀ v ∈ l, v.length ≤ 1024
  ·rw [if_pos h2, decide_eq_true ⟨h1, h2⟩]; rfl
  ·rw [if_neg h2, decide_eq_false fun h => h2 h.2]; rfl
 ·rw [if_pos (by omega), decide_eq_false fun h => h1 h.1]
theorem mk1 : ∀ L : List Txts, m_towncrierref11_May_loop1 L = some (if ∀ x ∈ L, LogOk x then .inr () else .inl false)
 | [] => by rw [m_towncrierref11_May_loop1, if_pos (by simp)]
 | y :: L => by
  rw [m_towncrierref11_May_loop1, mlog_eq]
  simp only [Option.bind_some]
  by_cases h : LogOk y
  ·rw [if_neg (by simp [h]), mk1 L]
   congr 1
   simp only [List.forall_mem_cons, h, true_and]
  ·rw [if_pos (by simp [h]), if_neg (by simp only [List.forall_mem_cons, h, false_and]; exact id)]
theorem lens_ref11_May (a0 : TStable) (h : m_towncrierref11_May a0 = some true) : a0.Logs.length ≤ 4 ∧ ∀ k, (a0.Logs.getD k []).length ≤ 100000 := by
 rw [m_towncrierref11_May, mk1] at h
 split at h
 ·cases h
 ·refine ⟨by omega, fun k => ?_⟩
  by_cases hl : ∀ x ∈ a0.Logs, LogOk x
  ·rw [List.getD_eq_getElem?_getD]
   rcases Nat.lt_or_ge k a0.Logs.length with hk | hk
   ·rw [List.getElem?_eq_getElem hk]
    have := (hl _ (List.getElem_mem hk)).1
    simp only [Option.getD_some]; omega
   ·rw [List.getElem?_eq_none hk]; simp
  ·rw [if_neg hl] at h; cases h
theorem rtwin_logs : ∀ (l acc r : List Txts), m_towncrierref11_Twin_loop1 l acc = some r → r = acc ++ l
 | [], acc, r, h => by rw [m_towncrierref11_Twin_loop1_n] at h; cases h; simp
 | y :: l, acc, r, h => by
  rw [m_towncrierref11_Twin_loop1_c] at h
  split at h
  ·split at h
   ·rw [rtwin_logs l _ _ h]; simp
   ·cases h
  ·cases h
theorem lens_ref11_Twin (a0 r : TStable) (h : m_towncrierref11_Twin a0 = some r) : r.Logs = a0.Logs := by
 rw [m_towncrierref11_Twin] at h
 split at h
 ·obtain ⟨x, hx, h⟩ := bind_some h
  cases h
  rw [rtwin_logs _ _ _ hx]; rfl
 ·cases h
theorem lens_ref11_Apply (a0 : TStable) (a1 : TRecord) (r : TStable × Int) (h : m_towncrierref11_Apply a0 a1 = some r) : r.1.Logs.length ≤ 4 := by
 rw [m_towncrierref11_Apply] at h
 obtain ⟨v1, hv1, g⟩ := bind_some h
 clear h
 obtain ⟨v2, hv2, h⟩ := bind_some g
 clear hv2 g
 split at h
 ·cases h; exact Nat.zero_le 4
 ·rename_i hc
  have h1 : v1 = true := by
   cases v1 with
   | true => rfl
   | false => simp at hc
  subst h1
  have h4 := (lens_ref11_May a0 hv1).1
  split at h
  ·cases h; exact Nat.zero_le 4
  ·split at h
   ·split at h
    ·cases h; exact Nat.zero_le 4
    ·obtain ⟨v3, _, h⟩ := bind_some h
     obtain ⟨⟨n1, n2, s1, n3⟩, _, h⟩ := bind_some h
     simp only at h
     split at h
     ·cases h; exact Nat.zero_le 4
     ·obtain ⟨v6, hv6, h⟩ := bind_some h
      have e := congrArg List.length (lens_ref11_Twin _ _ hv6)
      obtain ⟨v7, _, h⟩ := bind_some h
      obtain ⟨l1, hl, h⟩ := bind_some h
      cases h
      split at hl
      ·split at hl
       ·cases hl
        simp only [List.length_set]; omega
       ·cases hl
      ·cases hl
       simp only; omega
   ·cases h
end Go.Proofs
end
