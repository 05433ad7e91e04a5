/- Texts of the proof. -/
import Derived.Test.YtkfipajabmhkbaaStableDoesPf
import Derived.Test.YtkfipajabmhkbaaStableDoesPg
namespace Go.Proofs
open Go.Tm Go.RowKit Go.WideShapes
set_option maxRecDepth 100000
set_option maxHeartbeats 4000000
set_option linter.unusedSimpArgs false
set_option linter.unusedVariables false
attribute [local go_sem] argVars runE runK isCallV stepE aop opd opdsL opds opdO ev ofVal keep List.any natbeq Bool.false_or Bool.true_or aggEq cond_true cond_false Bool.cond_false_right Bool.cond_true_left beq_true beq_false imp_self implies_true getR getL put St.app effL del nwB blt_dec Nat.lt_irrefl Nat.lt_add_one ble_dec Nat.le_refl Nat.beq_refl roomNZ appendIn capS capK mkZ_zero mkZL_zero zeroEl D.ids D.idsL bin arith sarith binT dpick Tm.part splice fillD oneD loadD storeD srcD sliceD idxOk decide_true gval dstAt D.cells List.map_cons List.map_nil List.take List.drop List.length_map List.append Int.toNat_natCast and_true true_and decide_false List.length_cons List.length_nil List.append_nil List.nil_append Bool.and_true Bool.true_and Bool.not_false Bool.not_true ne_eq not_false_eq_true BEq.rfl List.getElem?_cons_zero List.getElem?_cons_succ List.getElem?_nil Nat.zero_add List.all_cons List.all_nil List.isEmpty_cons List.isEmpty_nil Option.getD_some Option.getD_none List.any_cons List.any_nil List.drop_succ_cons List.drop_zero unfL unf okM okML low3 List.cons_append true_or or_true Nat.zero_mul Nat.zero_le findD_int findD_str  getD_int getD_str getD_bool Option.isSome_map keyD List.length_replicate List.map_replicate setEl List.length_set bytesD_map map_ub mx_len mkZ_one mkZL_one mkM mkML mk1_int mk1_str mk1_bool drop_map take_map take_map_len List.take_length Int.toNat_zero toNat_pred fpOf metIds opIds mvV mvH mvF pickL D.ren D.renL Blk.ren List.map_append List.length_append Bool.not_not Bool.or_not_self Bool.not_or_self Bool.or_true
attribute [local go_sem] Try.tm_1 Try.tm_2 Try.tm_3 Try.tm_4 Try.tm_5 Try.tm_6 Try.tm_7 Try.tm_8 Try.tm_9 Try.tm_10 Try.tm_11 Try.tm_12 Try.tm_13 Try.tm_14 Try.tm_15 Try.tm_16 Try.tm_17 Try.tm_18 Try.tm_19 Try.tm_20 Try.tm_21 Try.tm_22 Try.tm_23 Try.tm_24 Try.tm_25 Try.tm_26 Try.tm_27 Try.tm_28 Try.tm_29 Try.tm_30 Try.tm_32 Try.tm_33 Try.tm_34 Try.tm_35 Try.tm_36 Try.tm_37 Try.tm_39 Try.tm_40 Try.tm_41 Try.tm_43 Try.tm_45 Try.tm_46 Try.tm_47 Try.tm_48 Try.tm_49 Try.tm_50 Try.tm_51 Try.tm_52 Try.tm_53 Try.tm_55 Try.tm_57 Try.tm_58 Try.tm_60 Try.tm_61 Try.tm_63 Try.tm_64 Try.tm_65 Try.tm_66 Try.tm_67 Try.tm_68 Try.tm_69 Try.tm_70 Try.tm_71 Try.tm_72 Try.tm_73 Try.tm_74 Try.tm_76 Try.tm_77 Try.tm_78 Try.tm_79 Try.tm_80 Try.tm_81 Try.tm_82 Try.tm_83 Try.tm_84 Try.tm_85 Try.tm_86 Try.tm_87 Try.tm_89 Try.tm_91 Try.tm_92 Try.tm_93 Try.tm_94 Try.tm_95 Try.tm_96 Try.tm_98 Try.tm_99 Try.tm_101 Try.tm_103 Try.tm_104 Try.tm_105 Try.tm_106 Try.tm_107 Try.tm_108 Try.tm_109 Try.tm_110 Try.tm_111 Try.tm_112 Try.tm_113 Try.tm_114 Try.tm_115 Try.tm_116 Try.tm_117 Try.tm_118 Try.tm_119 Try.tm_120 Try.tm_121 Try.tm_123 Try.tm_124 Try.tm_125 Try.tm_126 Try.tm_127 Try.tm_128 Try.tm_129 Try.tm_130 Try.tm_132 Try.tm_134 Try.tm_135 Try.tm_136 Try.tm_137 Try.tm_138 Try.tm_139 Try.tm_140 Try.tm_143 Try.tm_144 Try.tm_145 Try.tm_146 Try.tm_147 Try.tm_148 Try.tm_149 Try.tm_150 Try.tm_151 dL_str nL_str TVote.d TSeen.d TStable.d TStable.n TRecord.d mk1_dL_str mk1_TVote mk1_TSeen mk1_TStable mk1_TRecord Try.f86 Try.f70 Try.f69 Try.f38 Try.f39 Try.f68 Try.f35 Try.f36 Try.f37 Try.f61 Try.f33 Try.f11 Try.f23 Try.f13 Try.f46 Try.f45 Try.f17 Try.f52 Try.f53 Try.f51 Try.f20 Try.f49 Try.f40 Try.f50 Try.f48 Try.f19 Try.f24 Try.f12 Try.f47 Try.f18 Try.f41 Try.f44 Try.f16 Try.f22 Try.f9 Try.f83 Try.f64 Try.f65 Try.f72 Try.f42 Try.f43
theorem callP_cmp_isNaN_int (a0 : Int) (r : Bool) (h : m_cmp_isNaN_int a0 = some r) : CallP Try.prog 86 [.int .i64 a0] (.bool r) := by
 refine callP_intro Try.tmOk 2 Try.func86 rfl (by decide) rfl rfl (Nat.le_of_ble_eq_true rfl) ?_
 intro hwf
 unfold m_cmp_isNaN_int at h
 refine .seq ?_
 refine .pl Try.S [0] ?_
 refine .seq ?_
 refine .pl Try.S [0] ?_
 have hq := Option.some.inj h
 subst r
 exact .ret ⟨.inr rfl, rsi⟩
theorem callP_cmp_Compare_int (a0 : Int) (a1 : Int) (r : Int) (h : m_cmp_Compare_int a0 a1 = some r) : CallP Try.prog 70 [.int .i64 a0, .int .i64 a1] (.int .i64 r) := by
 refine callP_intro Try.tmOk 2 Try.func70 rfl (by decide) rfl rfl (Nat.le_of_ble_eq_true rfl) ?_
 intro hwf
 unfold m_cmp_Compare_int at h
 refine .seq ?_
 refine .pl Try.S [0, 1] ?_
 refine .seq ?_
 obtain ⟨v1, hv1, h⟩ := bind_some h
 refine .rg Try.S [0, 1] ?_
 refine .rn 1 ?_
 refine .call (r := .bool v1) rfl rfl rfl rfl rfl rfl (callP_cmp_isNaN_int a0 v1 hv1) ?_
 refine .rn 1 ?_
 refine .nil ⟨nofun, ?_⟩
 refine .seq ?_
 obtain ⟨v2, hv2, h⟩ := bind_some h
 refine .rg Try.S [0, 1, 5] ?_
 refine .rn 1 ?_
 refine .call (r := .bool v2) rfl rfl rfl rfl rfl rfl (callP_cmp_isNaN_int a1 v2 hv2) ?_
 refine .rn 1 ?_
 refine .nil ⟨nofun, ?_⟩
 refine .seq ?_
 refine .seq ?_
 refine .pl Try.S [0, 1, 5, 6] ?_
 refine .cond rfl rfl (fun hc1 => ?_) (fun hc1 => ?_)
 ·skip
  replace h := ite_lc h hc1
  refine .seq ?_
  refine .seq ?_
  refine .pl Try.S [6] ?_
  refine .cond rfl rfl (fun hc2 => ?_) (fun hc2 => ?_)
  ·skip
   replace h := ite_lc h hc2
   refine .seq ?_
   refine .pl Try.S [] ?_
   have hq := Option.some.inj h
   subst r
   exact .ret ⟨.inr rfl, rsi⟩
  ·skip
   replace h := ite_rc h hc2
   refine .skip ?_
   refine .seq ?_
   refine .pl Try.S [] ?_
   have hq := Option.some.inj h
   subst r
   exact .ret ⟨.inr rfl, rsi⟩
 ·skip
  replace h := ite_rc h hc1
  refine .skip ?_
  refine .seq ?_
  refine .seq ?_
  refine .pl Try.S [0, 1, 6] ?_
  refine .cond rfl rfl (fun hc3 => ?_) (fun hc3 => ?_)
  ·skip
   replace h := ite_lc h hc3
   refine .seq ?_
   refine .pl Try.S [] ?_
   have hq := Option.some.inj h
   subst r
   exact .ret ⟨.inr rfl, rsi⟩
  ·skip
   replace h := ite_rc h hc3
   refine .skip ?_
   refine .seq ?_
   refine .seq ?_
   refine .pl Try.S [0, 1] ?_
   refine .cond rfl rfl (fun hc4 => ?_) (fun hc4 => ?_)
   ·skip
    replace h := ite_lc h hc4
    refine .seq ?_
    refine .pl Try.S [] ?_
    have hq := Option.some.inj h
    subst r
    exact .ret ⟨.inr rfl, rsi⟩
   ·skip
    replace h := ite_rc h hc4
    refine .skip ?_
    refine .seq ?_
    refine .seq ?_
    refine .pl Try.S [0, 1] ?_
    refine .cond rfl rfl (fun hc5 => ?_) (fun hc5 => ?_)
    ·skip
     replace h := ite_lc h hc5
     refine .seq ?_
     refine .pl Try.S [] ?_
     have hq := Option.some.inj h
     subst r
     exact .ret ⟨.inr rfl, rsi⟩
    ·skip
     replace h := ite_rc h hc5
     refine .skip ?_
     refine .seq ?_
     refine .pl Try.S [] ?_
     have hq := Option.some.inj h
     subst r
     exact .ret ⟨.inr rfl, rsi⟩
def Try.St_cmp_Or_int_1 : St := ⟨[(3, .int .i64 0)], [], 0⟩
attribute [local go_sem] Try.St_cmp_Or_int_1
def Try.St_cmp_Or_int_3 (a0 : List Int) (n1 : Nat) : St := ⟨[(3, .int .i64 0), (6, .imm 1 (a0.map (D.int .i64)) 4), (7, .int .i64 (a0.length : Int)), (8, .int .i64 (n1 : Int))], [], 0⟩
attribute [local go_sem] Try.St_cmp_Or_int_3
theorem callP_cmp_Or_int (a0 : List Int) (r : Int) (h : m_cmp_Or_int a0 = some r) : CallP Try.prog 69 [.imm 1 (a0.map (D.int .i64)) 4] (.int .i64 r) := by
 refine callP_intro Try.tmOk 2 Try.func69 rfl (by decide) rfl rfl (Nat.le_of_ble_eq_true rfl) ?_
 intro hwf
 unfold m_cmp_Or_int at h
 refine .seq ?_
 refine .pl Try.S [0] ?_
 refine .seq ?_
 refine .pl Try.S [0] ?_
 obtain ⟨x1, hx1, h⟩ := bind_some h
 refine .seqM 0 (fun (j : Unit) => Try.St_cmp_Or_int_1) (fun j => x1 = (.inr j)) (Nat.le_of_ble_eq_true rfl) ?_ ?_
 ·skip
  refine .seq ?_
  refine .pl Try.S [0, 3] ?_
  refine .block ?_
  refine .loopG 0 (fun (j : Nat) => Try.St_cmp_Or_int_3 a0 j) (fun j => j ≤ a0.length ∧ m_cmp_Or_int_loop1 (a0.drop j)  = some x1) (fun j => a0.length - j) (0) (Nat.le_of_ble_eq_true rfl) ?_ ⟨Nat.zero_le _, hx1⟩ ?_
  ·skip
   exact .m [3, 6, 7, 8] [] []
  rintro n1 ⟨hi1, hx1⟩
  simp only [Try.St_cmp_Or_int_3]
  refine .wf 7 (.int .i64 (a0.length : Int)) rfl ?_
  intro hln1
  replace hln1 : (a0.length : Int) ≤ 9223372036854775807 := by simp only [wf, wfL, IntKind.max, IntKind.min, IntKind.signed, IntKind.bits, List.length_map] at hln1; first | exact hln1.2 | exact hln1.1 | (simp at hln1; omega)
  refine .seq ?_
  refine .pl Try.S [3, 6, 7, 8] ?_
  refine .seq ?_
  refine .cond rfl rfl (fun hc1 => ?_) (fun hc1 => ?_)
  ·skip
   have h1 : n1 < a0.length := by simpa using hc1
   have hwn1 : wr .i64 ((n1 : Int) + 1) = ((n1 + 1 : Nat) : Int) := wr_succ h1 hln1
   have hpn1 : wr .i64 ((n1 : Int) - 1) = (n1 : Int) - 1 := wr_pred h1 hln1
   rw [List.drop_eq_getElem_cons h1, m_cmp_Or_int_loop1] at hx1
   refine .skip ?_
   refine .seq ?_
   refine .block ?_
   refine .seq ?_
   have e1 := nth_map (D.int .i64) a0 n1 h1
   refine .plx Try.S (And.intro e1 hwn1) [3, 6, 7, 8] ?_
   refine .seq ?_
   refine .plx Try.S hwn1 [3, 5, 6, 7, 8] ?_
   refine .cond rfl rfl (fun hc2 => ?_) (fun hc2 => ?_)
   ·skip
    replace hx1 := ite_lc hx1 hc2
    refine .seq ?_
    refine .plx Try.S hwn1 [5] ?_
    have hq := Option.some.inj hx1
    subst x1
    try dsimp only at h
    have hq := Option.some.inj h
    subst r
    exact .ret ⟨.inr rfl, rsi⟩
   ·skip
    replace hx1 := ite_rc hx1 hc2
    refine .skip ?_
    refine .plx Try.S hwn1 [3, 6, 7, 8] ?_
    refine ⟨n1 + 1, ?_, ⟨by omega, hx1⟩, by dsimp only; omega⟩
    exact .m [3, 6, 7, 8] [] []
  ·skip
   have h2 : n1 = a0.length := by have h2b := of_decide_eq_false hc1; omega
   rw [List.drop_of_length_le (by omega), m_cmp_Or_int_loop1] at hx1
   refine .exit ?_
   refine ⟨_, ?_, (Option.some.inj hx1).symm⟩
   exact .m [3] [] []
 ·skip
  rintro ⟨⟩ hj1
  subst x1
  try dsimp only at h
  simp only [Try.St_cmp_Or_int_1]
  refine .seq ?_
  refine .pl Try.S [3] ?_
  have hq := Option.some.inj h
  subst r
  exact .ret ⟨.inr rfl, rsi⟩
theorem callP_stable_place (a0 : TSeen) (a1 : TSeen) (r : Int) (h : m_stable_place a0 a1 = some r) : CallP Try.prog 38 [.agg [.int .i64 a0.Group, .int .i64 a0.Slot, .int .i64 a0.Vote.Promised, .int .i64 a0.Vote.Ballot, .str a0.Vote.Value], .agg [.int .i64 a1.Group, .int .i64 a1.Slot, .int .i64 a1.Vote.Promised, .int .i64 a1.Vote.Ballot, .str a1.Vote.Value]] (.int .i64 r) := by
 refine callP_intro Try.tmOk 5 Try.func38 rfl (by decide) rfl rfl (Nat.le_of_ble_eq_true rfl) ?_
 intro hwf
 unfold m_stable_place at h
 refine .seq ?_
 refine .pl Try.S [0, 1] ?_
 refine .seq ?_
 obtain ⟨v1, hv1, h⟩ := bind_some h
 obtain ⟨v2, hv2, h⟩ := bind_some h
 obtain ⟨v3, hv3, h⟩ := bind_some h
 refine .rg Try.S [2, 3] ?_
 refine .rd 4 ?_
 refine .call (r := .int .i64 v1) rfl rfl rfl rfl rfl rfl (callP_cmp_Compare_int a0.Group a1.Group v1 hv1) ?_
 refine .rd 4 ?_
 refine .call (r := .int .i64 v2) rfl rfl rfl rfl rfl rfl (callP_cmp_Compare_int a0.Slot a1.Slot v2 hv2) ?_
 refine .rd 1 ?_
 refine .lcall (r := .int .i64 v3) [] rfl rfl rfl rfl rfl (lend2s_cons (lend2_of (lend_ref (pl_int .i64) (by first | rfl | (simp only [go_sem, Nat.reduceBEq]; rfl)) (by first | rfl | (simp; done) | (simp <;> omega))) trivial) lend2s_nil) rfl (callP_cmp_Or_int [v1, v2] v3 hv3) ?_
 refine .rd 1 ?_
 refine .nil ⟨fun _ => schedB_of (by kernel_rfl), ?_⟩
 have hq := Option.some.inj h
 subst r
 exact .ret ⟨.inr rfl, rsi⟩
def Try.St_slices_BinarySearchFunc_Seen_Seen_Seen_1 (a0 : List TSeen) (a1 : TSeen) (Ka2 : Nat) (ca2 : List D) (n1 : Int) : St := ⟨[(0, .imm 5 (a0.map TSeen.d) 4), (2, .fn (.func Ka2) ca2), (4, .ptr 0 0), (8, .int .i64 (a0.length : Int)), (9, .int .i64 n1)], [(0, .box [.int .i64 a1.Group, .int .i64 a1.Slot, .int .i64 a1.Vote.Promised, .int .i64 a1.Vote.Ballot, .str a1.Vote.Value])], 1⟩
attribute [local go_sem] Try.St_slices_BinarySearchFunc_Seen_Seen_Seen_1
def Try.St_slices_BinarySearchFunc_Seen_Seen_Seen_3 (a0 : List TSeen) (a1 : TSeen) (Ka2 : Nat) (ca2 : List D) (n2 : Int) (n3 : Int) : St := ⟨[(0, .imm 5 (a0.map TSeen.d) 4), (2, .fn (.func Ka2) ca2), (4, .ptr 0 0), (8, .int .i64 (a0.length : Int)), (9, .int .i64 n2), (10, .int .i64 n3)], [(0, .box [.int .i64 a1.Group, .int .i64 a1.Slot, .int .i64 a1.Vote.Promised, .int .i64 a1.Vote.Ballot, .str a1.Vote.Value])], 1⟩
attribute [local go_sem] Try.St_slices_BinarySearchFunc_Seen_Seen_Seen_3
theorem callP_slices_BinarySearchFunc_Seen_Seen_Seen (a0 : List TSeen) (a1 : TSeen) (Ka2 : Nat) (ca2 : List D) (hca2 : ∀ hp, lends hp ca2 = (ca2, true)) (h2a2 : ∀ hp, lend2s hp ca2 = (ca2, true)) (h3a2 : ∀ hp, ids2s hp ca2 = []) (a2 : TSeen → TSeen → Option Int) (ha2 : ∀ x0 x1 y, a2 x0 x1 = some y → CallP Try.prog Ka2 (.agg [.int .i64 x0.Group, .int .i64 x0.Slot, .int .i64 x0.Vote.Promised, .int .i64 x0.Vote.Ballot, .str x0.Vote.Value] :: .agg [.int .i64 x1.Group, .int .i64 x1.Slot, .int .i64 x1.Vote.Promised, .int .i64 x1.Vote.Ballot, .str x1.Vote.Value] :: ca2) (.int .i64 y)) (r : Int × Bool) (h : m_slices_BinarySearchFunc_Seen_Seen_Seen a0 a1 a2 = some r) : CallP Try.prog 39 [.imm 5 (a0.map TSeen.d) 4, .agg [.int .i64 a1.Group, .int .i64 a1.Slot, .int .i64 a1.Vote.Promised, .int .i64 a1.Vote.Ballot, .str a1.Vote.Value], .fn (.func Ka2) ca2] (.tuple [.int .i64 r.1, .bool r.2]) := by
 refine callP_intro Try.tmOk 3 Try.func39 rfl (by decide) rfl rfl (Nat.le_of_ble_eq_true rfl) ?_
 intro hwf
 unfold m_slices_BinarySearchFunc_Seen_Seen_Seen at h
 refine .seq ?_
 refine .pl Try.S [0, 1, 2] ?_
 refine .seq ?_
 refine .pl Try.S [0, 2, 4] ?_
 refine .seq ?_
 refine .pl Try.S [0, 2, 4, 8] ?_
 obtain ⟨x1, hx1, h⟩ := bind_some h
 refine .seqM 1 (fun (j : Int) => Try.St_slices_BinarySearchFunc_Seen_Seen_Seen_1 a0 a1 Ka2 ca2 j) (fun j => x1 = j) (Nat.le_of_ble_eq_true rfl) ?_ ?_
 ·skip
  refine .block ?_
  refine .loopG 1 (fun (j : Nat × Int × Int) => Try.St_slices_BinarySearchFunc_Seen_Seen_Seen_3 a0 a1 Ka2 ca2 j.2.1 j.2.2) (fun j => m_slices_BinarySearchFunc_Seen_Seen_Seen_loop1 a0 a1 a2 j.1 j.2.1 j.2.2 = some x1) (fun j => j.1) (a0.length + 1, 0, (a0.length : Int)) (Nat.le_of_ble_eq_true rfl) ?_ hx1 ?_
  ·skip
   refine Goes.mv [0, 2, 4, 8, 9, 10] [0] [] ?_ (Nat.le_of_ble_eq_true rfl) (Nat.le_of_ble_eq_true rfl) (by first | rfl | (simp only [idsV, idsH, pickL, getL, D.ids, Blk.ids, natbeq, Nat.reduceBEq, cond_true, cond_false, List.append_nil, List.nil_append, List.cons_append, idsL_lent hca2] <;> rfl))
   first | rfl | (simp only [go_sem, Nat.reduceBEq, Nat.reduceAdd, renL_lent hca2]; done) | (simp only [go_sem, Nat.reduceBEq, Nat.reduceAdd, renL_lent hca2]; rfl)
  rintro ⟨fu1, n2, n3⟩ hx1
  simp only [Try.St_slices_BinarySearchFunc_Seen_Seen_Seen_3]
  try simp only at hx1
  obtain ⟨fu1, rfl⟩ : ∃ k, fu1 = k + 1 := by cases fu1 with | zero => (rw [m_slices_BinarySearchFunc_Seen_Seen_Seen_loop1] at hx1; cases hx1) | succ k => exact ⟨k, rfl⟩
  rw [m_slices_BinarySearchFunc_Seen_Seen_Seen_loop1] at hx1
  refine .seq ?_
  refine .seq ?_
  refine .pl Try.S [0, 2, 4, 8, 9, 10] ?_
  refine .cond rfl rfl (fun hc1 => ?_) (fun hc1 => ?_)
  ·skip
   replace hx1 := ite_lc hx1 hc1
   refine .skip ?_
   refine .block ?_
   refine .seq ?_
   refine .pl Try.S [0, 2, 4, 8, 9, 10] ?_
   refine .seq ?_
   obtain ⟨k1, hx1⟩ := ite_ck hx1
   obtain ⟨v1, hv1, hx1⟩ := bind_some hx1
   have e1 := nth_mapI TSeen.d a0 (wr .i64 (shw false .u64 (wr .u64 (wr .i64 (n2 + n3))) 1))
   replace e1 := e1 k1
   refine .rg Try.S [0, 2, 4, 8, 9, 10, 11] ?_
   refine .rdx 6 e1 ?_
   refine .call (r := .int .i64 v1) rfl rfl rfl rfl rfl (lends_cons rfl (lends_cons rfl (hca2 _))) (ha2 _ _ v1 hv1) ?_
   refine .rdx 1 e1 ?_
   refine .nil ⟨fun _ => schedB_of (by kernel_rfl), ?_⟩
   refine .cond rfl rfl (fun hc2 => ?_) (fun hc2 => ?_)
   ·skip
    replace hx1 := ite_lc hx1 hc2
    refine .pl Try.S [0, 2, 4, 8, 10, 11] ?_
    refine ⟨(fu1, _, _), ?_, hx1, by dsimp only; omega⟩
    refine Goes.mv [0, 2, 4, 8, 9, 10] [0] [] ?_ (Nat.le_of_ble_eq_true rfl) (Nat.le_of_ble_eq_true rfl) (by first | rfl | (simp only [idsV, idsH, pickL, getL, D.ids, Blk.ids, natbeq, Nat.reduceBEq, cond_true, cond_false, List.append_nil, List.nil_append, List.cons_append, idsL_lent hca2] <;> rfl))
    first | rfl | (simp only [go_sem, Nat.reduceBEq, Nat.reduceAdd, renL_lent hca2]; done) | (simp only [go_sem, Nat.reduceBEq, Nat.reduceAdd, renL_lent hca2]; rfl)
   ·skip
    replace hx1 := ite_rc hx1 hc2
    refine .pl Try.S [0, 2, 4, 8, 9, 11] ?_
    refine ⟨(fu1, _, _), ?_, hx1, by dsimp only; omega⟩
    refine Goes.mv [0, 2, 4, 8, 9, 10] [0] [] ?_ (Nat.le_of_ble_eq_true rfl) (Nat.le_of_ble_eq_true rfl) (by first | rfl | (simp only [idsV, idsH, pickL, getL, D.ids, Blk.ids, natbeq, Nat.reduceBEq, cond_true, cond_false, List.append_nil, List.nil_append, List.cons_append, idsL_lent hca2] <;> rfl))
    first | rfl | (simp only [go_sem, Nat.reduceBEq, Nat.reduceAdd, renL_lent hca2]; done) | (simp only [go_sem, Nat.reduceBEq, Nat.reduceAdd, renL_lent hca2]; rfl)
  ·skip
   replace hx1 := ite_rc hx1 hc1
   refine .exit ?_
   refine ⟨_, ?_, (Option.some.inj hx1).symm⟩
   refine Goes.mv [0, 2, 4, 8, 9] [0] [] ?_ (Nat.le_of_ble_eq_true rfl) (Nat.le_of_ble_eq_true rfl) (by first | rfl | (simp only [idsV, idsH, pickL, getL, D.ids, Blk.ids, natbeq, Nat.reduceBEq, cond_true, cond_false, List.append_nil, List.nil_append, List.cons_append, idsL_lent hca2] <;> rfl))
   first | rfl | (simp only [go_sem, Nat.reduceBEq, Nat.reduceAdd, renL_lent hca2]; done) | (simp only [go_sem, Nat.reduceBEq, Nat.reduceAdd, renL_lent hca2]; rfl)
 ·skip
  rintro n1 hj1
  subst x1
  try dsimp only at h
  simp only [Try.St_slices_BinarySearchFunc_Seen_Seen_Seen_1]
  obtain ⟨k2, h⟩ := ite_ck h
  obtain ⟨v2, hv2, h⟩ := bind_some h
  refine .seqM 1 (fun (_ : Unit) => ⟨[(6, .int .i64 n1), (7, .bool ((decide (n1 < (a0.length : Int))) && (v2 == 0)))], [], 1⟩) (fun _ => True) (Nat.le_of_ble_eq_true rfl) ?_ (fun _ _ => ?_)
  ·skip
   by_cases hgd : n1 < (a0.length : Int)
   ·skip
    have eg10 := nth_mapI TSeen.d a0 n1 (k2 hgd)
    refine .rg Try.S [0, 2, 4, 8, 9] ?_
    refine .rdx 6 eg10 ?_
    refine .rdx 5 eg10 ?_
    refine .gcall (r := .int .i64 v2) rfl rfl rfl rfl rfl (fun hg => ⟨ca2, [.agg [.int .i64 ((a0.getD n1.toNat default).Group), .int .i64 ((a0.getD n1.toNat default).Slot), .int .i64 ((a0.getD n1.toNat default).Vote.Promised), .int .i64 ((a0.getD n1.toNat default).Vote.Ballot), .str ((a0.getD n1.toNat default).Vote.Value)], .agg [.int .i64 a1.Group, .int .i64 a1.Slot, .int .i64 a1.Vote.Promised, .int .i64 a1.Vote.Ballot, .str a1.Vote.Value]], _, gd hg, gd hg, (lends_cons rfl (lends_cons rfl (hca2 _))), ha2 _ _ v2 (ite_lc hv2 hg)⟩) ?_
    refine .rdx 4 eg10 ?_
    refine .nil ⟨fun _ => schedB_of (by kernel_rfl), ?_⟩
    refine ⟨(), ?_, trivial⟩
    refine Goes.mv [6, 7] [] [] ?_ (Nat.le_of_ble_eq_true rfl) (Nat.le_of_ble_eq_true rfl) (by first | rfl | (simp only [idsV, idsH, pickL, getL, D.ids, Blk.ids, natbeq, Nat.reduceBEq, cond_true, cond_false, List.append_nil, List.nil_append, List.cons_append, idsL_lent hca2] <;> rfl))
    first | rfl | (simp only [go_sem, Nat.reduceBEq, Nat.reduceAdd, renL_lent hca2]; done) | (simp only [go_sem, Nat.reduceBEq, Nat.reduceAdd, renL_lent hca2]; rfl)
   ·skip
    have hgf1 : (decide (n1 < (a0.length : Int))) = false := by first | simpa using hgd | (simp at hgd ⊢; omega) | grind
    rcases nth_or TSeen.d a0 n1.toNat with eg10 | eg10
    ·skip
     refine .rg Try.S [0, 2, 4, 8, 9] ?_
     refine .rdx 6 (And.intro eg10 hgf1) ?_
     refine .rdx 5 (And.intro eg10 hgf1) ?_
     refine .gcall (r := .int .i64 v2) rfl rfl rfl rfl rfl (fun hg => ⟨ca2, [.agg [.int .i64 ((a0.getD n1.toNat default).Group), .int .i64 ((a0.getD n1.toNat default).Slot), .int .i64 ((a0.getD n1.toNat default).Vote.Promised), .int .i64 ((a0.getD n1.toNat default).Vote.Ballot), .str ((a0.getD n1.toNat default).Vote.Value)], .agg [.int .i64 a1.Group, .int .i64 a1.Slot, .int .i64 a1.Vote.Promised, .int .i64 a1.Vote.Ballot, .str a1.Vote.Value]], _, gd hg, gd hg, (lends_cons rfl (lends_cons rfl (hca2 _))), ha2 _ _ v2 (ite_lc hv2 hg)⟩) ?_
     refine .rdx 4 (And.intro eg10 hgf1) ?_
     refine .nil ⟨fun _ => schedB_of (by kernel_rfl), ?_⟩
     refine ⟨(), ?_, trivial⟩
     refine Goes.mv [6, 7] [] [] ?_ (Nat.le_of_ble_eq_true rfl) (Nat.le_of_ble_eq_true rfl) (by first | rfl | (simp only [idsV, idsH, pickL, getL, D.ids, Blk.ids, natbeq, Nat.reduceBEq, cond_true, cond_false, List.append_nil, List.nil_append, List.cons_append, idsL_lent hca2] <;> rfl))
     first | rfl | (simp only [hgf1, go_sem, Nat.reduceBEq, Nat.reduceAdd, renL_lent hca2, Bool.false_and, Bool.true_or, Bool.and_false]; done) | (simp only [hgf1, go_sem, Nat.reduceBEq, Nat.reduceAdd, renL_lent hca2, Bool.false_and, Bool.true_or, Bool.and_false]; rfl)
    ·skip
     refine .rg Try.S [0, 2, 4, 8, 9] ?_
     refine .rdx 6 (And.intro eg10 hgf1) ?_
     refine .rdx 5 (And.intro eg10 hgf1) ?_
     refine .gcall (r := .int .i64 v2) rfl rfl rfl rfl rfl (fun hg => ⟨ca2, [.agg [.int .i64 ((a0.getD n1.toNat default).Group), .int .i64 ((a0.getD n1.toNat default).Slot), .int .i64 ((a0.getD n1.toNat default).Vote.Promised), .int .i64 ((a0.getD n1.toNat default).Vote.Ballot), .str ((a0.getD n1.toNat default).Vote.Value)], .agg [.int .i64 a1.Group, .int .i64 a1.Slot, .int .i64 a1.Vote.Promised, .int .i64 a1.Vote.Ballot, .str a1.Vote.Value]], _, gd hg, gd hg, (lends_cons rfl (lends_cons rfl (hca2 _))), ha2 _ _ v2 (ite_lc hv2 hg)⟩) ?_
     refine .rdx 4 (And.intro eg10 hgf1) ?_
     refine .nil ⟨fun _ => schedB_of (by kernel_rfl), ?_⟩
     refine ⟨(), ?_, trivial⟩
     refine Goes.mv [6, 7] [] [] ?_ (Nat.le_of_ble_eq_true rfl) (Nat.le_of_ble_eq_true rfl) (by first | rfl | (simp only [idsV, idsH, pickL, getL, D.ids, Blk.ids, natbeq, Nat.reduceBEq, cond_true, cond_false, List.append_nil, List.nil_append, List.cons_append, idsL_lent hca2] <;> rfl))
     first | rfl | (simp only [hgf1, go_sem, Nat.reduceBEq, Nat.reduceAdd, renL_lent hca2, Bool.false_and, Bool.true_or, Bool.and_false]; done) | (simp only [hgf1, go_sem, Nat.reduceBEq, Nat.reduceAdd, renL_lent hca2, Bool.false_and, Bool.true_or, Bool.and_false]; rfl)
  have hq := Option.some.inj h
  subst r
  exact .ret ⟨.inr rfl, rsi⟩
def Try.St_slices_IndexFunc_string_string_1 : St := ⟨[], [], 0⟩
attribute [local go_sem] Try.St_slices_IndexFunc_string_string_1
def Try.St_slices_IndexFunc_string_string_3 (a0 : List (List UInt8)) (Ka1 : Nat) (ca1 : List D) (n1 : Nat) : St := ⟨[(0, .imm 1 (a0.map D.str) 4), (1, .fn (.func Ka1) ca1), (7, .int .i64 (a0.length : Int)), (8, .int .i64 (n1 : Int))], [], 0⟩
attribute [local go_sem] Try.St_slices_IndexFunc_string_string_3
theorem callP_slices_IndexFunc_string_string (a0 : List (List UInt8)) (Ka1 : Nat) (ca1 : List D) (hca1 : ∀ hp, lends hp ca1 = (ca1, true)) (h2a1 : ∀ hp, lend2s hp ca1 = (ca1, true)) (h3a1 : ∀ hp, ids2s hp ca1 = []) (a1 : (List UInt8) → Option Bool) (ha1 : ∀ x0 y, a1 x0 = some y → CallP Try.prog Ka1 (.str x0 :: ca1) (.bool y)) (r : Int) (h : m_slices_IndexFunc_string_string a0 a1 = some r) : CallP Try.prog 68 [.imm 1 (a0.map D.str) 4, .fn (.func Ka1) ca1] (.int .i64 r) := by
 refine callP_intro Try.tmOk 2 Try.func68 rfl (by decide) rfl rfl (Nat.le_of_ble_eq_true rfl) ?_
 intro hwf
 unfold m_slices_IndexFunc_string_string at h
 refine .seq ?_
 refine .pl Try.S [0, 1] ?_
 obtain ⟨x1, hx1, h⟩ := bind_some h
 refine .seqM 0 (fun (j : Unit) => Try.St_slices_IndexFunc_string_string_1) (fun j => x1 = (.inr j)) (Nat.le_of_ble_eq_true rfl) ?_ ?_
 ·skip
  refine .seq ?_
  refine .pl Try.S [0, 1] ?_
  refine .block ?_
  refine .loopG 0 (fun (j : Nat) => Try.St_slices_IndexFunc_string_string_3 a0 Ka1 ca1 j) (fun j => j ≤ a0.length ∧ m_slices_IndexFunc_string_string_loop1 a1 (a0.drop j) j  = some x1) (fun j => a0.length - j) (0) (Nat.le_of_ble_eq_true rfl) ?_ ⟨Nat.zero_le _, hx1⟩ ?_
  ·skip
   refine Goes.mv [0, 1, 7, 8] [] [] ?_ (Nat.le_of_ble_eq_true rfl) (Nat.le_of_ble_eq_true rfl) (by first | rfl | (simp only [idsV, idsH, pickL, getL, D.ids, Blk.ids, natbeq, Nat.reduceBEq, cond_true, cond_false, List.append_nil, List.nil_append, List.cons_append, idsL_lent hca1] <;> rfl))
   first | rfl | (simp only [go_sem, Nat.reduceBEq, Nat.reduceAdd, renL_lent hca1]; done) | (simp only [go_sem, Nat.reduceBEq, Nat.reduceAdd, renL_lent hca1]; rfl)
  rintro n1 ⟨hi1, hx1⟩
  simp only [Try.St_slices_IndexFunc_string_string_3]
  refine .wf 7 (.int .i64 (a0.length : Int)) rfl ?_
  intro hln1
  replace hln1 : (a0.length : Int) ≤ 9223372036854775807 := by simp only [wf, wfL, IntKind.max, IntKind.min, IntKind.signed, IntKind.bits, List.length_map] at hln1; first | exact hln1.2 | exact hln1.1 | (simp at hln1; omega)
  refine .seq ?_
  refine .pl Try.S [0, 1, 7, 8] ?_
  refine .seq ?_
  refine .cond rfl rfl (fun hc1 => ?_) (fun hc1 => ?_)
  ·skip
   have h1 : n1 < a0.length := by simpa using hc1
   have hwn1 : wr .i64 ((n1 : Int) + 1) = ((n1 + 1 : Nat) : Int) := wr_succ h1 hln1
   have hpn1 : wr .i64 ((n1 : Int) - 1) = (n1 : Int) - 1 := wr_pred h1 hln1
   rw [List.drop_eq_getElem_cons h1, m_slices_IndexFunc_string_string_loop1] at hx1
   refine .skip ?_
   refine .seq ?_
   refine .block ?_
   refine .seq ?_
   refine .plx Try.S hwn1 [0, 1, 7, 8] ?_
   refine .seq ?_
   obtain ⟨v1, hv1, hx1⟩ := bind_some hx1
   have e1 := nth_map D.str a0 n1 h1
   refine .rg Try.S [0, 1, 5, 7, 8] ?_
   refine .rnx 5 (And.intro e1 hwn1) ?_
   refine .call (r := .bool v1) rfl rfl rfl rfl rfl (lends_cons rfl (hca1 _)) (ha1 _ v1 hv1) ?_
   refine .nil ⟨nofun, ?_⟩
   refine .cond rfl rfl (fun hc2 => ?_) (fun hc2 => ?_)
   ·skip
    replace hx1 := ite_lc hx1 hc2
    refine .seq ?_
    refine .plx Try.S hwn1 [5] ?_
    have hq := Option.some.inj hx1
    subst x1
    try dsimp only at h
    have hq := Option.some.inj h
    subst r
    exact .ret ⟨.inr rfl, rsi⟩
   ·skip
    replace hx1 := ite_rc hx1 hc2
    refine .skip ?_
    refine .plx Try.S hwn1 [0, 1, 7, 8] ?_
    refine ⟨n1 + 1, ?_, ⟨by omega, hx1⟩, by dsimp only; omega⟩
    refine Goes.mv [0, 1, 7, 8] [] [] ?_ (Nat.le_of_ble_eq_true rfl) (Nat.le_of_ble_eq_true rfl) (by first | rfl | (simp only [idsV, idsH, pickL, getL, D.ids, Blk.ids, natbeq, Nat.reduceBEq, cond_true, cond_false, List.append_nil, List.nil_append, List.cons_append, idsL_lent hca1] <;> rfl))
    first | rfl | (simp only [go_sem, Nat.reduceBEq, Nat.reduceAdd, renL_lent hca1]; done) | (simp only [go_sem, Nat.reduceBEq, Nat.reduceAdd, renL_lent hca1]; rfl)
  ·skip
   have h2 : n1 = a0.length := by have h2b := of_decide_eq_false hc1; omega
   rw [List.drop_of_length_le (by omega), m_slices_IndexFunc_string_string_loop1] at hx1
   refine .exit ?_
   refine ⟨_, ?_, (Option.some.inj hx1).symm⟩
   refine Goes.mv [] [] [] ?_ (Nat.le_of_ble_eq_true rfl) (Nat.le_of_ble_eq_true rfl) (by first | rfl | (simp only [idsV, idsH, pickL, getL, D.ids, Blk.ids, natbeq, Nat.reduceBEq, cond_true, cond_false, List.append_nil, List.nil_append, List.cons_append, idsL_lent hca1] <;> rfl))
   first | rfl | (simp only [go_sem, Nat.reduceBEq, Nat.reduceAdd, renL_lent hca1]; done) | (simp only [go_sem, Nat.reduceBEq, Nat.reduceAdd, renL_lent hca1]; rfl)
 ·skip
  rintro ⟨⟩ hj1
  subst x1
  try dsimp only at h
  simp only [Try.St_slices_IndexFunc_string_string_1]
  refine .seq ?_
  refine .pl Try.S [] ?_
  have hq := Option.some.inj h
  subst r
  exact .ret ⟨.inr rfl, rsi⟩
theorem callP_slices_ContainsFunc_string_string (a0 : List (List UInt8)) (Ka1 : Nat) (ca1 : List D) (hca1 : ∀ hp, lends hp ca1 = (ca1, true)) (h2a1 : ∀ hp, lend2s hp ca1 = (ca1, true)) (h3a1 : ∀ hp, ids2s hp ca1 = []) (a1 : (List UInt8) → Option Bool) (ha1 : ∀ x0 y, a1 x0 = some y → CallP Try.prog Ka1 (.str x0 :: ca1) (.bool y)) (r : Bool) (h : m_slices_ContainsFunc_string_string a0 a1 = some r) : CallP Try.prog 35 [.imm 1 (a0.map D.str) 4, .fn (.func Ka1) ca1] (.bool r) := by
 refine callP_intro Try.tmOk 2 Try.func35 rfl (by decide) rfl rfl (Nat.le_of_ble_eq_true rfl) ?_
 intro hwf
 unfold m_slices_ContainsFunc_string_string at h
 refine .seq ?_
 refine .pl Try.S [0, 1] ?_
 refine .seq ?_
 obtain ⟨v1, hv1, h⟩ := bind_some h
 refine .rg Try.S [0, 1] ?_
 refine .rn 2 ?_
 refine .lcall (r := .int .i64 v1) [] rfl rfl rfl rfl rfl (lend2s_cons rfl (lend2s_cons (lend2_fn (h2a1 _)) lend2s_nil)) (by show ids2s _ [.imm 1 (a0.map D.str) 4, .fn (.func Ka1) ca1] = _; simp only [ids2s, ids2, List.append_nil, List.nil_append, List.cons_append, h3a1]) (callP_slices_IndexFunc_string_string a0 Ka1 ca1 hca1 h2a1 h3a1 a1 ha1 v1 hv1) ?_
 refine .rn 2 ?_
 refine .nil ⟨nofun, ?_⟩
 have hq := Option.some.inj h
 subst r
 exact .ret ⟨.inr rfl, rsi⟩
theorem callP_stable_Check_1 (a0 : List UInt8) (r : Bool) (h : m_stable_Check_1 a0 = some r) : CallP Try.prog 36 [.str a0] (.bool r) := by
 refine callP_intro Try.tmOk 2 Try.func36 rfl (by decide) rfl rfl (Nat.le_of_ble_eq_true rfl) ?_
 intro hwf
 unfold m_stable_Check_1 at h
 refine .seq ?_
 refine .pl Try.S [0] ?_
 refine .seq ?_
 refine .pl Try.S [0] ?_
 have hq := Option.some.inj h
 subst r
 exact .ret ⟨.inr rfl, rsi⟩
def Try.St_vote_Check_1 (b1 : Bool) : St := ⟨[(3, .bool b1)], [], 1⟩
attribute [local go_sem] Try.St_vote_Check_1
theorem callP_vote_Check (a0 : TVote) (r : Int) (h : m_vote_Check a0 = some r) : CallP Try.prog 37 [.agg [.int .i64 a0.Promised, .int .i64 a0.Ballot, .str a0.Value]] (.int .i64 r) := by
 refine callP_intro Try.tmOk 3 Try.func37 rfl (by decide) rfl rfl (Nat.le_of_ble_eq_true rfl) ?_
 intro hwf
 unfold m_vote_Check at h
 refine .seq ?_
 refine .pl Try.S [0] ?_
 refine .seq ?_
 obtain ⟨v1, hv1, h⟩ := bind_some h
 refine .rg Try.S [1] ?_
 refine .rn 6 ?_
 refine .gcall (r := .int .i64 v1) rfl rfl rfl rfl rfl (fun hg => ⟨[], [.int .i64 a0.Promised], _, rfl, gd hg, rfl, (callP_ballot_Check a0.Promised v1 (ite_lc hv1 hg))⟩) ?_
 refine .rn 3 ?_
 refine .nil ⟨nofun, ?_⟩
 obtain ⟨x1, hx1, h⟩ := bind_some h
 refine .seqM 1 (fun (j : Bool) => Try.St_vote_Check_1 j) (fun j => x1 = j) (Nat.le_of_ble_eq_true rfl) ?_ ?_
 ·skip
  refine .seq ?_
  refine .pl Try.S [1, 3] ?_
  refine .cond rfl rfl (fun hc1 => ?_) (fun hc1 => ?_)
  ·skip
   replace hx1 := ite_lc hx1 hc1
   refine .pl Try.S [1, 3] ?_
   refine ⟨_, ?_, (Option.some.inj hx1).symm⟩
   exact .m [3] [] []
  ·skip
   replace hx1 := ite_rc hx1 hc1
   obtain ⟨v2, hv2, hx1⟩ := bind_some hx1
   refine .rg Try.S [1, 3] ?_
   refine .rn 4 ?_
   refine .gcall (r := .int .i64 v2) rfl rfl rfl rfl rfl (fun hg => ⟨[], [.int .i64 a0.Ballot], _, rfl, gd hg, rfl, (callP_ballot_Check a0.Ballot v2 (ite_lc hv2 hg))⟩) ?_
   refine .rn 6 ?_
   refine .rn 6 ?_
   refine .rn 4 ?_
   refine .nil ⟨nofun, ?_⟩
   refine ⟨_, ?_, (Option.some.inj hx1).symm⟩
   exact .m [3] [] []
 ·skip
  rintro b1 hj1
  subst x1
  try dsimp only at h
  simp only [Try.St_vote_Check_1]
  refine .seq ?_
  refine .seq ?_
  refine .pl Try.S [3] ?_
  refine .cond rfl rfl (fun hc2 => ?_) (fun hc2 => ?_)
  ·skip
   replace h := ite_lc h hc2
   refine .seq ?_
   refine .pl Try.S [] ?_
   have hq := Option.some.inj h
   subst r
   exact .ret ⟨.inr rfl, rsi⟩
  ·skip
   replace h := ite_rc h hc2
   refine .skip ?_
   refine .seq ?_
   refine .pl Try.S [] ?_
   have hq := Option.some.inj h
   subst r
   exact .ret ⟨.inr rfl, rsi⟩
theorem callP_record_has (a0 : Int) (r : Bool × Bool) (h : m_record_has a0 = some r) : CallP Try.prog 61 [.int .u8 a0] (.tuple [.bool r.1, .bool r.2]) := by
 refine callP_intro Try.tmOk 2 Try.func61 rfl (by decide) rfl rfl (Nat.le_of_ble_eq_true rfl) ?_
 intro hwf
 unfold m_record_has at h
 refine .seq ?_
 refine .pl Try.S [0] ?_
 refine .seq ?_
 refine .rg Try.S [0] ?_
 refine .rn 6 ?_
 refine .rn 8 ?_
 refine .nil ⟨nofun, ?_⟩
 have hq := Option.some.inj h
 subst r
 exact .ret ⟨.inr rfl, rsi⟩
theorem callP_record_Check (a0 : TRecord) (r : Int) (h : m_record_Check a0 = some r) : CallP Try.prog 33 [.agg [.int .u8 a0.Kind, .int .i64 a0.Group, .int .i64 a0.Slot, .int .i64 a0.Ballot, .str a0.Value]] (.int .i64 r) := by
 refine callP_intro Try.tmOk 3 Try.func33 rfl (by decide) rfl rfl (Nat.le_of_ble_eq_true rfl) ?_
 intro hwf
 unfold m_record_Check at h
 refine .seq ?_
 refine .pl Try.S [0] ?_
 refine .seq ?_
 obtain ⟨v1, hv1, h⟩ := bind_some h
 refine .rg Try.S [1] ?_
 refine .rn 2 ?_
 refine .call (r := .tuple [.bool v1.1, .bool v1.2]) rfl rfl rfl rfl rfl rfl (callP_record_has a0.Kind v1 hv1) ?_
 refine .rn 5 ?_
 refine .nil ⟨nofun, ?_⟩
 refine .seq ?_
 refine .rg Try.S [1, 3, 4] ?_
 refine .rn 6 ?_
 refine .rn 6 ?_
 refine .rn 6 ?_
 refine .rn 6 ?_
 refine .rn 7 ?_
 refine .nil ⟨nofun, ?_⟩
 refine .seq ?_
 obtain ⟨v2, hv2, h⟩ := bind_some h
 refine .rg Try.S [1, 3, 4, 5] ?_
 refine .rn 6 ?_
 refine .rn 6 ?_
 refine .rn 6 ?_
 refine .rn 4 ?_
 refine .gcall (r := .int .i64 v2) rfl rfl rfl rfl rfl (fun hg => ⟨[], [.int .i64 a0.Ballot], _, rfl, gd hg, rfl, (callP_ballot_Check a0.Ballot v2 (ite_lc hv2 hg))⟩) ?_
 refine .rn 5 ?_
 refine .nil ⟨nofun, ?_⟩
 refine .seq ?_
 refine .seq ?_
 refine .pl Try.S [5] ?_
 refine .cond rfl rfl (fun hc1 => ?_) (fun hc1 => ?_)
 ·skip
  replace h := ite_lc h hc1
  refine .seq ?_
  refine .pl Try.S [] ?_
  have hq := Option.some.inj h
  subst r
  exact .ret ⟨.inr rfl, rsi⟩
 ·skip
  replace h := ite_rc h hc1
  refine .skip ?_
  refine .seq ?_
  refine .pl Try.S [] ?_
  have hq := Option.some.inj h
  subst r
  exact .ret ⟨.inr rfl, rsi⟩
def Try.St_stable_Check_1 (a0 : TStable) : St := ⟨[(1, .ptr 0 0)], [(0, .box [.imm 1 (a0.Logs.map dL_str) 4, .imm 5 (a0.Votes.map TSeen.d) 4])], 1⟩
attribute [local go_sem] Try.St_stable_Check_1
def Try.St_stable_Check_3 (a0 : TStable) (n1 : Nat) : St := ⟨[(1, .ptr 0 0), (18, .imm 1 (a0.Logs.map dL_str) 4), (19, .int .i64 (a0.Logs.length : Int)), (20, .int .i64 (n1 : Int))], [(0, .box [.imm 1 (a0.Logs.map dL_str) 4, .imm 5 (a0.Votes.map TSeen.d) 4])], 1⟩
attribute [local go_sem] Try.St_stable_Check_3
def Try.St_stable_Check_5 : St := ⟨[], [], 1⟩
attribute [local go_sem] Try.St_stable_Check_5
def Try.St_stable_Check_7 (a0 : TStable) (n2 : Nat) : St := ⟨[(1, .ptr 0 0), (33, .imm 5 (a0.Votes.map TSeen.d) 4), (34, .int .i64 (a0.Votes.length : Int)), (35, .int .i64 (n2 : Int))], [(0, .box [.imm 1 (a0.Logs.map dL_str) 4, .imm 5 (a0.Votes.map TSeen.d) 4])], 1⟩
attribute [local go_sem] Try.St_stable_Check_7
theorem callP_stable_Check (a0 : TStable) (r : Int) (h : m_stable_Check a0 = some r) : CallP Try.prog 11 [.agg [.imm 1 (a0.Logs.map dL_str) 4, .imm 5 (a0.Votes.map TSeen.d) 4]] (.int .i64 r) := by
 refine callP_intro Try.tmOk 4 Try.func11 rfl (by decide) rfl rfl (Nat.le_of_ble_eq_true rfl) ?_
 intro hwf
 unfold m_stable_Check at h
 refine .seq ?_
 refine .pl Try.S [0] ?_
 refine .seq ?_
 refine .seq ?_
 refine .rg Try.S [1] ?_
 refine .rn 6 ?_
 refine .rn 4 ?_
 refine .nil ⟨nofun, ?_⟩
 refine .cond rfl rfl (fun hc1 => ?_) (fun hc1 => ?_)
 ·skip
  replace h := ite_lc h hc1
  refine .seq ?_
  refine .pl Try.S [] ?_
  have hq := Option.some.inj h
  subst r
  exact .ret ⟨.inr rfl, rsi⟩
 ·skip
  replace h := ite_rc h hc1
  refine .skip ?_
  obtain ⟨x1, hx1, h⟩ := bind_some h
  refine .seqM 1 (fun (j : Unit) => Try.St_stable_Check_1 a0) (fun j => x1 = (.inr j)) (Nat.le_of_ble_eq_true rfl) ?_ ?_
  ·skip
   refine .seq ?_
   refine .pl Try.S [1] ?_
   refine .block ?_
   refine .loopG 1 (fun (j : Nat) => Try.St_stable_Check_3 a0 j) (fun j => j ≤ a0.Logs.length ∧ m_stable_Check_loop1 (a0.Logs.drop j)  = some x1) (fun j => a0.Logs.length - j) (0) (Nat.le_of_ble_eq_true rfl) ?_ ⟨Nat.zero_le _, hx1⟩ ?_
   ·skip
    exact .m [1, 18, 19, 20] [0] []
   rintro n1 ⟨hi1, hx1⟩
   simp only [Try.St_stable_Check_3]
   refine .wf 19 (.int .i64 (a0.Logs.length : Int)) rfl ?_
   intro hln1
   replace hln1 : (a0.Logs.length : Int) ≤ 9223372036854775807 := by simp only [wf, wfL, IntKind.max, IntKind.min, IntKind.signed, IntKind.bits, List.length_map] at hln1; first | exact hln1.2 | exact hln1.1 | (simp at hln1; omega)
   refine .seq ?_
   refine .pl Try.S [1, 18, 19, 20] ?_
   refine .seq ?_
   refine .cond rfl rfl (fun hc2 => ?_) (fun hc2 => ?_)
   ·skip
    have h1 : n1 < a0.Logs.length := by simpa using hc2
    have hwn1 : wr .i64 ((n1 : Int) + 1) = ((n1 + 1 : Nat) : Int) := wr_succ h1 hln1
    have hpn1 : wr .i64 ((n1 : Int) - 1) = (n1 : Int) - 1 := wr_pred h1 hln1
    rw [List.drop_eq_getElem_cons h1, m_stable_Check_loop1] at hx1
    refine .skip ?_
    refine .seq ?_
    refine .block ?_
    refine .seq ?_
    have e1 := nth_map dL_str a0.Logs n1 h1
    refine .plx Try.S (And.intro e1 hwn1) [1, 18, 19, 20] ?_
    refine .seq ?_
    obtain ⟨v1, hv1, hx1⟩ := bind_some hx1
    refine .rg Try.S [1, 4, 18, 19, 20] ?_
    refine .rnx 5 hwn1 ?_
    refine .glcall (r := .bool v1) [] rfl rfl rfl rfl rfl (fun hg => ⟨[], [.imm 1 ((a0.Logs[n1]).map D.str) 4, .fn (.func 36) []], _, rfl, gd hg, (lend2s_cons rfl (lend2s_cons (lend2_fn lend2s_nil) lend2s_nil)), rfl, (callP_slices_ContainsFunc_string_string (a0.Logs[n1]) 36 [] (fun _ => rfl) (fun _ => rfl) (fun _ => rfl) m_stable_Check_1 (fun x0 y hy => callP_stable_Check_1 x0 y hy) v1 (ite_lc hv1 hg))⟩) ?_
    refine .rnx 1 hwn1 ?_
    refine .nil ⟨nofun, ?_⟩
    refine .cond rfl rfl (fun hc3 => ?_) (fun hc3 => ?_)
    ·skip
     replace hx1 := ite_lc hx1 hc3
     refine .seq ?_
     refine .plx Try.S hwn1 [] ?_
     have hq := Option.some.inj hx1
     subst x1
     try dsimp only at h
     have hq := Option.some.inj h
     subst r
     exact .ret ⟨.inr rfl, rsi⟩
    ·skip
     replace hx1 := ite_rc hx1 hc3
     refine .skip ?_
     refine .plx Try.S hwn1 [1, 18, 19, 20] ?_
     refine ⟨n1 + 1, ?_, ⟨by omega, hx1⟩, by dsimp only; omega⟩
     exact .m [1, 18, 19, 20] [0] []
   ·skip
    have h2 : n1 = a0.Logs.length := by have h2b := of_decide_eq_false hc2; omega
    rw [List.drop_of_length_le (by omega), m_stable_Check_loop1] at hx1
    refine .exit ?_
    refine ⟨_, ?_, (Option.some.inj hx1).symm⟩
    exact .m [1] [0] []
  ·skip
   rintro ⟨⟩ hj1
   subst x1
   try dsimp only at h
   simp only [Try.St_stable_Check_1]
   obtain ⟨x2, hx2, h⟩ := bind_some h
   refine .seqM 1 (fun (j : Unit) => Try.St_stable_Check_5) (fun j => x2 = (.inr j)) (Nat.le_of_ble_eq_true rfl) ?_ ?_
   ·skip
    refine .seq ?_
    refine .pl Try.S [1] ?_
    refine .block ?_
    refine .loopG 1 (fun (j : Nat) => Try.St_stable_Check_7 a0 j) (fun j => j ≤ a0.Votes.length ∧ m_stable_Check_loop2 a0 (a0.Votes.drop j) j  = some x2) (fun j => a0.Votes.length - j) (0) (Nat.le_of_ble_eq_true rfl) ?_ ⟨Nat.zero_le _, hx2⟩ ?_
    ·skip
     exact .m [1, 33, 34, 35] [0] []
    rintro n2 ⟨hi2, hx2⟩
    simp only [Try.St_stable_Check_7]
    refine .wf 34 (.int .i64 (a0.Votes.length : Int)) rfl ?_
    intro hln2
    replace hln2 : (a0.Votes.length : Int) ≤ 9223372036854775807 := by simp only [wf, wfL, IntKind.max, IntKind.min, IntKind.signed, IntKind.bits, List.length_map] at hln2; first | exact hln2.2 | exact hln2.1 | (simp at hln2; omega)
    refine .seq ?_
    refine .pl Try.S [1, 33, 34, 35] ?_
    refine .seq ?_
    refine .cond rfl rfl (fun hc4 => ?_) (fun hc4 => ?_)
    ·skip
     have h3 : n2 < a0.Votes.length := by simpa using hc4
     have hwn2 : wr .i64 ((n2 : Int) + 1) = ((n2 + 1 : Nat) : Int) := wr_succ h3 hln2
     have hpn2 : wr .i64 ((n2 : Int) - 1) = (n2 : Int) - 1 := wr_pred h3 hln2
     rw [List.drop_eq_getElem_cons h3, m_stable_Check_loop2] at hx2
     refine .skip ?_
     refine .seq ?_
     refine .block ?_
     refine .seq ?_
     have e2 := nth_map TSeen.d a0.Votes n2 h3
     refine .plx Try.S (And.intro e2 hwn2) [1, 33, 34, 35] ?_
     obtain ⟨k1, hx2⟩ := ite_ck hx2
     obtain ⟨v2, hv2, hx2⟩ := bind_some hx2
     obtain ⟨v3, hv3, hx2⟩ := bind_some hx2
     refine .seqM 2 (fun (_ : Unit) => ⟨[(1, .ptr 0 0), (33, .imm 5 (a0.Votes.map TSeen.d) 4), (34, .int .i64 (a0.Votes.length : Int)), (35, .int .i64 (n2 : Int)), (94, .bool (((((((decide (a0.Votes[n2].Group < 0)) || (decide (a0.Votes[n2].Group ≥ (a0.Logs.length : Int)))) || (decide (a0.Votes[n2].Slot ≤ ((a0.Logs.getD (a0.Votes[n2].Group).toNat default).length : Int)))) || (decide (a0.Votes[n2].Slot > 200))) || (a0.Votes[n2].Vote.Promised == 0)) || (v2 != 0)) || ((decide ((n2 : Int) > 0)) && (decide (v3 ≥ 0)))))], [(0, .box [.imm 1 (a0.Logs.map dL_str) 4, .imm 5 (a0.Votes.map TSeen.d) 4])], 2⟩) (fun _ => True) (Nat.le_of_ble_eq_true rfl) ?_ (fun _ _ => ?_)
     ·skip
      by_cases hgd : ¬ ((a0.Votes[n2].Group < 0) ∨ (a0.Votes[n2].Group ≥ (a0.Logs.length : Int)))
      ·skip
       have eg10 := nth_mapI dL_str a0.Logs (a0.Votes[n2].Group) (k1 hgd)
       have e3 := nth_mapD TSeen.d a0.Votes (n2 - 1) (by omega)
       refine .rg Try.S [1, 5, 6, 33, 34, 35] ?_
       refine .rdx 6 (And.intro e3 (And.intro hpn2 (And.intro eg10 hwn2))) ?_
       refine .rdx 6 (And.intro e3 (And.intro hpn2 (And.intro eg10 hwn2))) ?_
       refine .rdx 6 (And.intro e3 (And.intro hpn2 (And.intro eg10 hwn2))) ?_
       refine .rdx 6 (And.intro e3 (And.intro hpn2 (And.intro eg10 hwn2))) ?_
       refine .rdx 6 (And.intro e3 (And.intro hpn2 (And.intro eg10 hwn2))) ?_
       refine .rdx 7 (And.intro e3 (And.intro hpn2 (And.intro eg10 hwn2))) ?_
       refine .gcall (r := .int .i64 v2) rfl rfl rfl rfl rfl (fun hg => ⟨[], [.agg [.int .i64 (a0.Votes[n2].Vote.Promised), .int .i64 (a0.Votes[n2].Vote.Ballot), .str (a0.Votes[n2].Vote.Value)]], _, rfl, gd hg, rfl, (callP_vote_Check (a0.Votes[n2].Vote) v2 (ite_lc hv2 hg))⟩) ?_
       refine .rdx 6 (And.intro e3 (And.intro hpn2 (And.intro eg10 hwn2))) ?_
       refine .rdx 7 (And.intro e3 (And.intro hpn2 (And.intro eg10 hwn2))) ?_
       refine .gcall (r := .int .i64 v3) rfl rfl rfl rfl rfl (fun hg => ⟨[], [.agg [.int .i64 ((a0.Votes.getD (n2 - 1) default).Group), .int .i64 ((a0.Votes.getD (n2 - 1) default).Slot), .int .i64 ((a0.Votes.getD (n2 - 1) default).Vote.Promised), .int .i64 ((a0.Votes.getD (n2 - 1) default).Vote.Ballot), .str ((a0.Votes.getD (n2 - 1) default).Vote.Value)], .agg [.int .i64 (a0.Votes[n2].Group), .int .i64 (a0.Votes[n2].Slot), .int .i64 (a0.Votes[n2].Vote.Promised), .int .i64 (a0.Votes[n2].Vote.Ballot), .str (a0.Votes[n2].Vote.Value)]], _, rfl, gd hg, rfl, (callP_stable_place (a0.Votes.getD (n2 - 1) default) (a0.Votes[n2]) v3 (ite_lc hv3 hg))⟩) ?_
       refine .rdx 3 (And.intro e3 (And.intro hpn2 (And.intro eg10 hwn2))) ?_
       refine .nil ⟨fun _ => schedB_of (by kernel_rfl), ?_⟩
       refine ⟨(), ?_, trivial⟩
       exact .m [1, 33, 34, 35, 94] [0] []
      ·skip
       have hgf1 : (!((decide (a0.Votes[n2].Group < 0)) || (decide (a0.Votes[n2].Group ≥ (a0.Logs.length : Int))))) = false := by first | simpa using hgd | (simp at hgd ⊢; omega) | grind
       have hgf1t : ((decide (a0.Votes[n2].Group < 0)) || (decide (a0.Votes[n2].Group ≥ (a0.Logs.length : Int)))) = true := by first | simpa using hgf1 | grind
       rcases nth_or dL_str a0.Logs ((a0.Votes[n2].Group).toNat) with eg10 | eg10
       ·skip
        have e3 := nth_mapD TSeen.d a0.Votes (n2 - 1) (by omega)
        refine .rg Try.S [1, 5, 6, 33, 34, 35] ?_
        refine .rdx 6 (And.intro e3 (And.intro hpn2 (And.intro eg10 (And.intro hgf1 (And.intro hgf1t hwn2))))) ?_
        refine .rdx 6 (And.intro e3 (And.intro hpn2 (And.intro eg10 (And.intro hgf1 (And.intro hgf1t hwn2))))) ?_
        refine .rdx 6 (And.intro e3 (And.intro hpn2 (And.intro eg10 (And.intro hgf1 (And.intro hgf1t hwn2))))) ?_
        refine .rdx 6 (And.intro e3 (And.intro hpn2 (And.intro eg10 (And.intro hgf1 (And.intro hgf1t hwn2))))) ?_
        refine .rdx 6 (And.intro e3 (And.intro hpn2 (And.intro eg10 (And.intro hgf1 (And.intro hgf1t hwn2))))) ?_
        refine .rdx 7 (And.intro e3 (And.intro hpn2 (And.intro eg10 (And.intro hgf1 (And.intro hgf1t hwn2))))) ?_
        refine .gcall (r := .int .i64 v2) rfl rfl rfl rfl rfl (fun hg => ⟨[], [.agg [.int .i64 (a0.Votes[n2].Vote.Promised), .int .i64 (a0.Votes[n2].Vote.Ballot), .str (a0.Votes[n2].Vote.Value)]], _, rfl, gd hg, rfl, (callP_vote_Check (a0.Votes[n2].Vote) v2 (ite_lc hv2 hg))⟩) ?_
        refine .rdx 6 (And.intro e3 (And.intro hpn2 (And.intro eg10 (And.intro hgf1 (And.intro hgf1t hwn2))))) ?_
        refine .rdx 7 (And.intro e3 (And.intro hpn2 (And.intro eg10 (And.intro hgf1 (And.intro hgf1t hwn2))))) ?_
        refine .gcall (r := .int .i64 v3) rfl rfl rfl rfl rfl (fun hg => ⟨[], [.agg [.int .i64 ((a0.Votes.getD (n2 - 1) default).Group), .int .i64 ((a0.Votes.getD (n2 - 1) default).Slot), .int .i64 ((a0.Votes.getD (n2 - 1) default).Vote.Promised), .int .i64 ((a0.Votes.getD (n2 - 1) default).Vote.Ballot), .str ((a0.Votes.getD (n2 - 1) default).Vote.Value)], .agg [.int .i64 (a0.Votes[n2].Group), .int .i64 (a0.Votes[n2].Slot), .int .i64 (a0.Votes[n2].Vote.Promised), .int .i64 (a0.Votes[n2].Vote.Ballot), .str (a0.Votes[n2].Vote.Value)]], _, rfl, gd hg, rfl, (callP_stable_place (a0.Votes.getD (n2 - 1) default) (a0.Votes[n2]) v3 (ite_lc hv3 hg))⟩) ?_
        refine .rdx 3 (And.intro e3 (And.intro hpn2 (And.intro eg10 (And.intro hgf1 (And.intro hgf1t hwn2))))) ?_
        refine .nil ⟨fun _ => schedB_of (by kernel_rfl), ?_⟩
        refine ⟨(), ?_, trivial⟩
        exact .mx (And.intro hgf1 hgf1t) [1, 33, 34, 35, 94] [0] []
       ·skip
        have e3 := nth_mapD TSeen.d a0.Votes (n2 - 1) (by omega)
        refine .rg Try.S [1, 5, 6, 33, 34, 35] ?_
        refine .rdx 6 (And.intro e3 (And.intro hpn2 (And.intro eg10 (And.intro hgf1 (And.intro hgf1t hwn2))))) ?_
        refine .rdx 6 (And.intro e3 (And.intro hpn2 (And.intro eg10 (And.intro hgf1 (And.intro hgf1t hwn2))))) ?_
        refine .rdx 6 (And.intro e3 (And.intro hpn2 (And.intro eg10 (And.intro hgf1 (And.intro hgf1t hwn2))))) ?_
        refine .rdx 6 (And.intro e3 (And.intro hpn2 (And.intro eg10 (And.intro hgf1 (And.intro hgf1t hwn2))))) ?_
        refine .rdx 6 (And.intro e3 (And.intro hpn2 (And.intro eg10 (And.intro hgf1 (And.intro hgf1t hwn2))))) ?_
        refine .rdx 7 (And.intro e3 (And.intro hpn2 (And.intro eg10 (And.intro hgf1 (And.intro hgf1t hwn2))))) ?_
        refine .gcall (r := .int .i64 v2) rfl rfl rfl rfl rfl (fun hg => ⟨[], [.agg [.int .i64 (a0.Votes[n2].Vote.Promised), .int .i64 (a0.Votes[n2].Vote.Ballot), .str (a0.Votes[n2].Vote.Value)]], _, rfl, gd hg, rfl, (callP_vote_Check (a0.Votes[n2].Vote) v2 (ite_lc hv2 hg))⟩) ?_
        refine .rdx 6 (And.intro e3 (And.intro hpn2 (And.intro eg10 (And.intro hgf1 (And.intro hgf1t hwn2))))) ?_
        refine .rdx 7 (And.intro e3 (And.intro hpn2 (And.intro eg10 (And.intro hgf1 (And.intro hgf1t hwn2))))) ?_
        refine .gcall (r := .int .i64 v3) rfl rfl rfl rfl rfl (fun hg => ⟨[], [.agg [.int .i64 ((a0.Votes.getD (n2 - 1) default).Group), .int .i64 ((a0.Votes.getD (n2 - 1) default).Slot), .int .i64 ((a0.Votes.getD (n2 - 1) default).Vote.Promised), .int .i64 ((a0.Votes.getD (n2 - 1) default).Vote.Ballot), .str ((a0.Votes.getD (n2 - 1) default).Vote.Value)], .agg [.int .i64 (a0.Votes[n2].Group), .int .i64 (a0.Votes[n2].Slot), .int .i64 (a0.Votes[n2].Vote.Promised), .int .i64 (a0.Votes[n2].Vote.Ballot), .str (a0.Votes[n2].Vote.Value)]], _, rfl, gd hg, rfl, (callP_stable_place (a0.Votes.getD (n2 - 1) default) (a0.Votes[n2]) v3 (ite_lc hv3 hg))⟩) ?_
        refine .rdx 3 (And.intro e3 (And.intro hpn2 (And.intro eg10 (And.intro hgf1 (And.intro hgf1t hwn2))))) ?_
        refine .nil ⟨fun _ => schedB_of (by kernel_rfl), ?_⟩
        refine ⟨(), ?_, trivial⟩
        exact .mx (And.intro hgf1 hgf1t) [1, 33, 34, 35, 94] [0] []
     refine .cond rfl rfl (fun hc5 => ?_) (fun hc5 => ?_)
     ·skip
      replace hx2 := ite_lc hx2 hc5
      refine .seq ?_
      refine .plx Try.S hwn2 [] ?_
      have hq := Option.some.inj hx2
      subst x2
      try dsimp only at h
      have hq := Option.some.inj h
      subst r
      exact .ret ⟨.inr rfl, rsi⟩
     ·skip
      replace hx2 := ite_rc hx2 hc5
      refine .skip ?_
      refine .plx Try.S hwn2 [1, 33, 34, 35] ?_
      refine ⟨n2 + 1, ?_, ⟨by omega, hx2⟩, by dsimp only; omega⟩
      exact .m [1, 33, 34, 35] [0] []
    ·skip
     have h4 : n2 = a0.Votes.length := by have h4b := of_decide_eq_false hc4; omega
     rw [List.drop_of_length_le (by omega), m_stable_Check_loop2] at hx2
     refine .exit ?_
     refine ⟨_, ?_, (Option.some.inj hx2).symm⟩
     exact .m [] [] []
   ·skip
    rintro ⟨⟩ hj2
    subst x2
    try dsimp only at h
    simp only [Try.St_stable_Check_5]
    refine .seq ?_
    refine .pl Try.S [] ?_
    have hq := Option.some.inj h
    subst r
    exact .ret ⟨.inr rfl, rsi⟩
theorem callP_stable_At (a0 : TStable) (a1 : Int) (a2 : Int) (r : TVote × Int) (h : m_stable_At a0 a1 a2 = some r) : CallP Try.prog 13 [.agg [.imm 1 (a0.Logs.map dL_str) 4, .imm 5 (a0.Votes.map TSeen.d) 4], .int .i64 a1, .int .i64 a2] (.tuple [.agg [.int .i64 r.1.Promised, .int .i64 r.1.Ballot, .str r.1.Value], .int .i64 r.2]) := by
 refine callP_intro Try.tmOk 4 Try.func13 rfl (by decide) rfl rfl (Nat.le_of_ble_eq_true rfl) ?_
 intro hwf
 unfold m_stable_At at h
 refine .seq ?_
 refine .pl Try.S [0, 1, 2] ?_
 refine .seq ?_
 refine .seq ?_
 obtain ⟨v1, hv1, h⟩ := bind_some h
 refine .rg Try.S [1, 2, 3, 6] ?_
 refine .rn 1 ?_
 refine .call (r := .int .i64 v1) rfl rfl rfl rfl rfl rfl (callP_stable_Check a0 v1 hv1) ?_
 refine .rn 1 ?_
 refine .nil ⟨nofun, ?_⟩
 refine .seq ?_
 refine .pl Try.S [1, 2, 3, 6, 8] ?_
 refine .cond rfl rfl (fun hc1 => ?_) (fun hc1 => ?_)
 ·skip
  replace h := ite_lc h hc1
  refine .seq ?_
  refine .pl Try.S [6, 8] ?_
  have hq := Option.some.inj h
  subst r
  exact .ret ⟨.inr rfl, rsi⟩
 ·skip
  replace h := ite_rc h hc1
  refine .skip ?_
  refine .seq ?_
  refine .seq ?_
  refine .rg Try.S [1, 2, 3, 6] ?_
  refine .rn 6 ?_
  refine .rn 3 ?_
  refine .nil ⟨nofun, ?_⟩
  refine .cond rfl rfl (fun hc2 => ?_) (fun hc2 => ?_)
  ·skip
   replace h := ite_lc h hc2
   refine .seq ?_
   refine .pl Try.S [6] ?_
   have hq := Option.some.inj h
   subst r
   exact .ret ⟨.inr rfl, rsi⟩
  ·skip
   replace h := ite_rc h hc2
   refine .skip ?_
   refine .seq ?_
   refine .seq ?_
   refine .pl Try.S [1, 2, 3, 6] ?_
   refine .cond rfl rfl (fun hc3 => ?_) (fun hc3 => ?_)
   ·skip
    replace h := ite_lc h hc3
    refine .seq ?_
    refine .pl Try.S [6] ?_
    have hq := Option.some.inj h
    subst r
    exact .ret ⟨.inr rfl, rsi⟩
   ·skip
    replace h := ite_rc h hc3
    refine .skip ?_
    refine .seq ?_
    refine .seq ?_
    obtain ⟨v2, hv2, h⟩ := bind_some h
    refine .rg Try.S [1, 2, 3, 6] ?_
    refine .rn 5 ?_
    refine .lcall (r := .tuple [.int .i64 v2.1, .bool v2.2]) [] rfl rfl rfl rfl rfl (lend2s_cons rfl (lend2s_cons rfl (lend2s_cons (lend2_fn lend2s_nil) lend2s_nil))) rfl (callP_slices_BinarySearchFunc_Seen_Seen_Seen a0.Votes (⟨a1, a2, (⟨0, 0, []⟩ : TVote)⟩ : TSeen) 38 [] (fun _ => rfl) (fun _ => rfl) (fun _ => rfl) m_stable_place (fun x0 x1 y hy => callP_stable_place x0 x1 y hy) v2 hv2) ?_
    refine .rn 5 ?_
    refine .nil ⟨nofun, ?_⟩
    refine .seq ?_
    refine .pl Try.S [3, 6, 9, 10] ?_
    refine .cond rfl rfl (fun hc4 => ?_) (fun hc4 => ?_)
    ·skip
     replace h := ite_lc h hc4
     refine .seq ?_
     obtain ⟨k1, h⟩ := ite_ck h
     have e1 := nth_mapI TSeen.d a0.Votes v2.1
     replace e1 := e1 k1
     refine .plx Try.S e1 [3, 6, 9] ?_
     have hq := Option.some.inj h
     subst r
     exact .ret ⟨.inr rfl, rsi⟩
    ·skip
     replace h := ite_rc h hc4
     refine .skip ?_
     refine .seq ?_
     refine .pl Try.S [6] ?_
     have hq := Option.some.inj h
     subst r
     exact .ret ⟨.inr rfl, rsi⟩
def Try.Re_slices_Clone_string_string (r : (List (List UInt8))) : St := ⟨[(2, .ref 0 1 0 r.length (some unkC))], [(0, .arr 9 1 true (r.map D.str))], 1⟩
attribute [local go_sem] Try.Re_slices_Clone_string_string
theorem callH_slices_Clone_string_string (a0 : List (List UInt8)) (r : (List (List UInt8))) (h : m_slices_Clone_string_string a0 = some r) : CallH Try.prog 46 [.imm 1 (a0.map D.str) 4] [] (.ref 0 1 0 r.length (some unkC)) [(0, some (.arr 9 1 true (r.map D.str)))] (0, 3) := by
 refine callH_intro' Try.tmOk Try.func46 rfl (by decide) (Nat.le_of_ble_eq_true rfl) (by simp) ?_
 intro hwf
 unfold m_slices_Clone_string_string at h
 refine .ends 0 (Nat.le_refl _) ?_
 refine .nil4 0 1 (a0.map D.str) rfl ?_ (fun hl => ?_)
 ·skip
  refine .seq ?_
  refine .pl Try.S [0] ?_
  refine .seq ?_
  refine .seq ?_
  refine .pl Try.S [0] ?_
  refine .cond rfl rfl (fun hc => by cases hc) (fun hc => ?_)
  refine .skip ?_
  obtain ⟨k1, h⟩ := ite_ck h
  refine .seqM 0 (fun (_ : Unit) => ⟨[(2, .ref 0 1 0 a0.length (some unkC))], [(0, .arr 9 1 true (a0.map D.str))], 1⟩) (fun _ => True) (Nat.le_of_ble_eq_true rfl) ?_ (fun _ _ => ?_)
  ·skip
   rcases list_cases a0 with hE1 | ⟨y, ys, hE1⟩
   ·skip
    have hM1 : a0.map D.str = [] := by rw [hE1]; simp
    refine .plain Try.tmOk Try.tmMixed [0] (by decide +kernel) (by intro q hq; simp only [go_sem, Nat.reduceSub, Int.reduceEq, Nat.reduceLT, Nat.reduceDiv, Nat.reduceAdd, Nat.reduceBEq, Nat.reduceLeDiff, reduceCtorEq, Nat.reduceEqDiff, Nat.reduceMod, Nat.reduceMul, Try.tm_34, appendD_nil hM1]; exact hq) (by first | rfl | (simp only [go_sem, Nat.reduceLeDiff]; done) | (simp only [go_sem, Nat.reduceLeDiff]; rfl) | (simp; done) | (simp [oneD] <;> omega) | (simp_all; done) | (simp_all [oneD] <;> omega)) (by first | exact Nat.le_refl _ | exact Nat.le_of_ble_eq_true rfl | (dsimp only; omega) | (simp <;> omega)) ?_
    refine ⟨(), ?_, trivial⟩
    refine Goes.new0 1 9 (Nat.le_of_ble_eq_true rfl) ?_
    refine Goes.wk 2 _ (.ref 0 1 0 0 (some unkC)) rfl (.own0 0 _ _ _ (by decide)) ?_
    exact .mx hE1 [2] [0] []
   ·skip
    have hM1 : a0.map D.str ≠ [] := by rw [hE1]; simp
    refine .plain Try.tmOk Try.tmMixed [0] (by decide +kernel) (by intro q hq; simp only [go_sem, Nat.reduceSub, Int.reduceEq, Nat.reduceLT, Nat.reduceDiv, Nat.reduceAdd, Nat.reduceBEq, Nat.reduceLeDiff, reduceCtorEq, Nat.reduceEqDiff, Nat.reduceMod, Nat.reduceMul, Try.tm_34, appendD_cons hM1]; exact hq) (by first | rfl | (simp only [go_sem, Nat.reduceLeDiff]; done) | (simp only [go_sem, Nat.reduceLeDiff]; rfl) | (simp; done) | (simp [oneD] <;> omega) | (simp_all; done) | (simp_all [oneD] <;> omega)) (by first | exact Nat.le_refl _ | exact Nat.le_of_ble_eq_true rfl | (dsimp only; omega) | (simp <;> omega)) ?_
    refine ⟨(), ?_, trivial⟩
    refine Goes.wk 2 _ (.ref 0 1 0 a0.length (some unkC)) rfl (.unk _ _ _ _ _) ?_
    exact .mx hE1 [2] [0] []
  have hq := Option.some.inj h
  subst r
  refine .ret ⟨Try.Re_slices_Clone_string_string a0, ?_, .inr rfl, retH [0] ?_ ?_⟩
  ·skip
   exact .m [2] [0] []
  ·exact rsi0
  ·rfl
 ·skip
  have hE0 : a0 = [] := by simpa using hl
  obtain ⟨k1, h⟩ := ite_ck h
  refine .seq ?_
  refine .pl Try.S [0] ?_
  refine .seq ?_
  refine .seq ?_
  refine .pl Try.S [0] ?_
  refine .cond rfl rfl (fun hc => ?_) (fun hc => by cases hc)
  refine .seq ?_
  refine .pl Try.S [] ?_
  have hq := Option.some.inj h
  subst r
  refine .ret ⟨Try.Re_slices_Clone_string_string a0, ?_, .inr rfl, retH [0] ?_ ?_⟩
  ·skip
   refine Goes.new0 1 9 (Nat.le_of_ble_eq_true rfl) ?_
   refine Goes.wk 2 _ (.ref 0 1 0 0 (some unkC)) rfl (.own0 0 _ _ _ (by decide)) ?_
   exact .mx hE0 [2] [0] []
  ·exact rsi0
  ·rfl
def Try.Re_slices_Clone_Seen_Seen (r : (List TSeen)) : St := ⟨[(2, .ref 0 5 0 r.length (some unkC))], [(0, .arr 67 5 true (r.map TSeen.d))], 1⟩
attribute [local go_sem] Try.Re_slices_Clone_Seen_Seen
theorem callH_slices_Clone_Seen_Seen (a0 : List TSeen) (r : (List TSeen)) (h : m_slices_Clone_Seen_Seen a0 = some r) : CallH Try.prog 45 [.imm 5 (a0.map TSeen.d) 4] [] (.ref 0 5 0 r.length (some unkC)) [(0, some (.arr 67 5 true (r.map TSeen.d)))] (0, 3) := by
 refine callH_intro' Try.tmOk Try.func45 rfl (by decide) (Nat.le_of_ble_eq_true rfl) (by simp) ?_
 intro hwf
 unfold m_slices_Clone_Seen_Seen at h
 refine .ends 0 (Nat.le_refl _) ?_
 refine .nil4 0 5 (a0.map TSeen.d) rfl ?_ (fun hl => ?_)
 ·skip
  refine .seq ?_
  refine .pl Try.S [0] ?_
  refine .seq ?_
  refine .seq ?_
  refine .pl Try.S [0] ?_
  refine .cond rfl rfl (fun hc => by cases hc) (fun hc => ?_)
  refine .skip ?_
  obtain ⟨k1, h⟩ := ite_ck h
  refine .seqM 0 (fun (_ : Unit) => ⟨[(2, .ref 0 5 0 a0.length (some unkC))], [(0, .arr 67 5 true (a0.map TSeen.d))], 1⟩) (fun _ => True) (Nat.le_of_ble_eq_true rfl) ?_ (fun _ _ => ?_)
  ·skip
   rcases list_cases a0 with hE1 | ⟨y, ys, hE1⟩
   ·skip
    have hM1 : a0.map TSeen.d = [] := by rw [hE1]; simp
    refine .plain Try.tmOk Try.tmMixed [0] (by decide +kernel) (by intro q hq; simp only [go_sem, Nat.reduceSub, Int.reduceEq, Nat.reduceLT, Nat.reduceDiv, Nat.reduceAdd, Nat.reduceBEq, Nat.reduceLeDiff, reduceCtorEq, Nat.reduceEqDiff, Nat.reduceMod, Nat.reduceMul, Try.tm_23, appendD_nil hM1, TSeen.d]; exact hq) (by first | rfl | (simp only [go_sem, Nat.reduceLeDiff]; done) | (simp only [go_sem, Nat.reduceLeDiff]; rfl) | (simp; done) | (simp [oneD] <;> omega) | (simp_all; done) | (simp_all [oneD] <;> omega)) (by first | exact Nat.le_refl _ | exact Nat.le_of_ble_eq_true rfl | (dsimp only; omega) | (simp <;> omega)) ?_
    refine ⟨(), ?_, trivial⟩
    refine Goes.new0 5 67 (Nat.le_of_ble_eq_true rfl) ?_
    refine Goes.wk 2 _ (.ref 0 5 0 0 (some unkC)) rfl (.own0 0 _ _ _ (by decide)) ?_
    exact .mx hE1 [2] [0] []
   ·skip
    have hM1 : a0.map TSeen.d ≠ [] := by rw [hE1]; simp
    refine .plain Try.tmOk Try.tmMixed [0] (by decide +kernel) (by intro q hq; simp only [go_sem, Nat.reduceSub, Int.reduceEq, Nat.reduceLT, Nat.reduceDiv, Nat.reduceAdd, Nat.reduceBEq, Nat.reduceLeDiff, reduceCtorEq, Nat.reduceEqDiff, Nat.reduceMod, Nat.reduceMul, Try.tm_23, appendD_cons hM1, TSeen.d]; exact hq) (by first | rfl | (simp only [go_sem, Nat.reduceLeDiff]; done) | (simp only [go_sem, Nat.reduceLeDiff]; rfl) | (simp; done) | (simp [oneD] <;> omega) | (simp_all; done) | (simp_all [oneD] <;> omega)) (by first | exact Nat.le_refl _ | exact Nat.le_of_ble_eq_true rfl | (dsimp only; omega) | (simp <;> omega)) ?_
    refine ⟨(), ?_, trivial⟩
    refine Goes.wk 2 _ (.ref 0 5 0 a0.length (some unkC)) rfl (.unk _ _ _ _ _) ?_
    exact .mx hE1 [2] [0] []
  have hq := Option.some.inj h
  subst r
  refine .ret ⟨Try.Re_slices_Clone_Seen_Seen a0, ?_, .inr rfl, retH [0] ?_ ?_⟩
  ·skip
   exact .m [2] [0] []
  ·exact rsi0
  ·rfl
 ·skip
  have hE0 : a0 = [] := by simpa using hl
  obtain ⟨k1, h⟩ := ite_ck h
  refine .seq ?_
  refine .pl Try.S [0] ?_
  refine .seq ?_
  refine .seq ?_
  refine .pl Try.S [0] ?_
  refine .cond rfl rfl (fun hc => ?_) (fun hc => by cases hc)
  refine .seq ?_
  refine .pl Try.S [] ?_
  have hq := Option.some.inj h
  subst r
  refine .ret ⟨Try.Re_slices_Clone_Seen_Seen a0, ?_, .inr rfl, retH [0] ?_ ?_⟩
  ·skip
   refine Goes.new0 5 67 (Nat.le_of_ble_eq_true rfl) ?_
   refine Goes.wk 2 _ (.ref 0 5 0 0 (some unkC)) rfl (.own0 0 _ _ _ (by decide)) ?_
   exact .mx hE0 [2] [0] []
  ·exact rsi0
  ·rfl
def Try.St_slices_Equal_string_string_1 : St := ⟨[], [], 0⟩
attribute [local go_sem] Try.St_slices_Equal_string_string_1
def Try.St_slices_Equal_string_string_3 (a0 : List (List UInt8)) (a1 : List (List UInt8)) (n1 : Nat) : St := ⟨[(0, .imm 1 (a0.map D.str) 4), (1, .imm 1 (a1.map D.str) 4), (12, .int .i64 (a0.length : Int)), (13, .int .i64 (n1 : Int))], [], 0⟩
attribute [local go_sem] Try.St_slices_Equal_string_string_3
theorem callP_slices_Equal_string_string (a0 : List (List UInt8)) (a1 : List (List UInt8)) (r : Bool) (h : m_slices_Equal_string_string a0 a1 = some r) : CallP Try.prog 52 [.imm 1 (a0.map D.str) 4, .imm 1 (a1.map D.str) 4] (.bool r) := by
 refine callP_intro Try.tmOk 2 Try.func52 rfl (by decide) rfl rfl (Nat.le_of_ble_eq_true rfl) ?_
 intro hwf
 unfold m_slices_Equal_string_string at h
 refine .seq ?_
 refine .pl Try.S [0, 1] ?_
 refine .seq ?_
 refine .seq ?_
 refine .pl Try.S [0, 1] ?_
 refine .cond rfl rfl (fun hc1 => ?_) (fun hc1 => ?_)
 ·skip
  replace h := ite_lc h hc1
  refine .seq ?_
  refine .pl Try.S [] ?_
  have hq := Option.some.inj h
  subst r
  exact .ret ⟨.inr rfl, rsi⟩
 ·skip
  replace h := ite_rc h hc1
  refine .skip ?_
  obtain ⟨x1, hx1, h⟩ := bind_some h
  refine .seqM 0 (fun (j : Unit) => Try.St_slices_Equal_string_string_1) (fun j => x1 = (.inr j)) (Nat.le_of_ble_eq_true rfl) ?_ ?_
  ·skip
   refine .seq ?_
   refine .pl Try.S [0, 1] ?_
   refine .block ?_
   refine .loopG 0 (fun (j : Nat) => Try.St_slices_Equal_string_string_3 a0 a1 j) (fun j => j ≤ a0.length ∧ m_slices_Equal_string_string_loop1 a1 (a0.drop j) j  = some x1) (fun j => a0.length - j) (0) (Nat.le_of_ble_eq_true rfl) ?_ ⟨Nat.zero_le _, hx1⟩ ?_
   ·skip
    exact .m [0, 1, 12, 13] [] []
   rintro n1 ⟨hi1, hx1⟩
   simp only [Try.St_slices_Equal_string_string_3]
   refine .wf 12 (.int .i64 (a0.length : Int)) rfl ?_
   intro hln1
   replace hln1 : (a0.length : Int) ≤ 9223372036854775807 := by simp only [wf, wfL, IntKind.max, IntKind.min, IntKind.signed, IntKind.bits, List.length_map] at hln1; first | exact hln1.2 | exact hln1.1 | (simp at hln1; omega)
   refine .seq ?_
   refine .pl Try.S [0, 1, 12, 13] ?_
   refine .seq ?_
   refine .cond rfl rfl (fun hc2 => ?_) (fun hc2 => ?_)
   ·skip
    have h1 : n1 < a0.length := by simpa using hc2
    have hwn1 : wr .i64 ((n1 : Int) + 1) = ((n1 + 1 : Nat) : Int) := wr_succ h1 hln1
    have hpn1 : wr .i64 ((n1 : Int) - 1) = (n1 : Int) - 1 := wr_pred h1 hln1
    rw [List.drop_eq_getElem_cons h1, m_slices_Equal_string_string_loop1] at hx1
    refine .skip ?_
    refine .seq ?_
    refine .block ?_
    refine .seq ?_
    refine .plx Try.S hwn1 [0, 1, 12, 13] ?_
    refine .seq ?_
    obtain ⟨k1, hx1⟩ := ite_ck hx1
    have e1 := nth_map D.str a0 n1 h1
    have e2 := nth_mapD D.str a1 n1
    replace e2 := e2 k1
    refine .rg Try.S [0, 1, 5, 12, 13] ?_
    refine .rdx 6 (And.intro e1 (And.intro e2 hwn1)) ?_
    refine .rdx 3 (And.intro e1 (And.intro e2 hwn1)) ?_
    refine .nil ⟨fun _ => schedB_of (by kernel_rfl), ?_⟩
    refine .cond rfl rfl (fun hc3 => ?_) (fun hc3 => ?_)
    ·skip
     replace hx1 := ite_lc hx1 hc3
     refine .seq ?_
     refine .plx Try.S hwn1 [] ?_
     have hq := Option.some.inj hx1
     subst x1
     try dsimp only at h
     have hq := Option.some.inj h
     subst r
     exact .ret ⟨.inr rfl, rsi⟩
    ·skip
     replace hx1 := ite_rc hx1 hc3
     refine .skip ?_
     refine .plx Try.S hwn1 [0, 1, 12, 13] ?_
     refine ⟨n1 + 1, ?_, ⟨by omega, hx1⟩, by dsimp only; omega⟩
     exact .m [0, 1, 12, 13] [] []
   ·skip
    have h2 : n1 = a0.length := by have h2b := of_decide_eq_false hc2; omega
    rw [List.drop_of_length_le (by omega), m_slices_Equal_string_string_loop1] at hx1
    refine .exit ?_
    refine ⟨_, ?_, (Option.some.inj hx1).symm⟩
    exact .m [] [] []
  ·skip
   rintro ⟨⟩ hj1
   subst x1
   try dsimp only at h
   simp only [Try.St_slices_Equal_string_string_1]
   refine .seq ?_
   refine .pl Try.S [] ?_
   have hq := Option.some.inj h
   subst r
   exact .ret ⟨.inr rfl, rsi⟩
def Try.St_slices_Equal_Seen_Seen_1 : St := ⟨[], [], 0⟩
attribute [local go_sem] Try.St_slices_Equal_Seen_Seen_1
def Try.St_slices_Equal_Seen_Seen_3 (a0 : List TSeen) (a1 : List TSeen) (n1 : Nat) : St := ⟨[(0, .imm 5 (a0.map TSeen.d) 4), (1, .imm 5 (a1.map TSeen.d) 4), (12, .int .i64 (a0.length : Int)), (13, .int .i64 (n1 : Int))], [], 0⟩
attribute [local go_sem] Try.St_slices_Equal_Seen_Seen_3
theorem callP_slices_Equal_Seen_Seen (a0 : List TSeen) (a1 : List TSeen) (r : Bool) (h : m_slices_Equal_Seen_Seen a0 a1 = some r) : CallP Try.prog 53 [.imm 5 (a0.map TSeen.d) 4, .imm 5 (a1.map TSeen.d) 4] (.bool r) := by
 refine callP_intro Try.tmOk 2 Try.func53 rfl (by decide) rfl rfl (Nat.le_of_ble_eq_true rfl) ?_
 intro hwf
 unfold m_slices_Equal_Seen_Seen at h
 refine .seq ?_
 refine .pl Try.S [0, 1] ?_
 refine .seq ?_
 refine .seq ?_
 refine .pl Try.S [0, 1] ?_
 refine .cond rfl rfl (fun hc1 => ?_) (fun hc1 => ?_)
 ·skip
  replace h := ite_lc h hc1
  refine .seq ?_
  refine .pl Try.S [] ?_
  have hq := Option.some.inj h
  subst r
  exact .ret ⟨.inr rfl, rsi⟩
 ·skip
  replace h := ite_rc h hc1
  refine .skip ?_
  obtain ⟨x1, hx1, h⟩ := bind_some h
  refine .seqM 0 (fun (j : Unit) => Try.St_slices_Equal_Seen_Seen_1) (fun j => x1 = (.inr j)) (Nat.le_of_ble_eq_true rfl) ?_ ?_
  ·skip
   refine .seq ?_
   refine .pl Try.S [0, 1] ?_
   refine .block ?_
   refine .loopG 0 (fun (j : Nat) => Try.St_slices_Equal_Seen_Seen_3 a0 a1 j) (fun j => j ≤ a0.length ∧ m_slices_Equal_Seen_Seen_loop1 a1 (a0.drop j) j  = some x1) (fun j => a0.length - j) (0) (Nat.le_of_ble_eq_true rfl) ?_ ⟨Nat.zero_le _, hx1⟩ ?_
   ·skip
    exact .m [0, 1, 12, 13] [] []
   rintro n1 ⟨hi1, hx1⟩
   simp only [Try.St_slices_Equal_Seen_Seen_3]
   refine .wf 12 (.int .i64 (a0.length : Int)) rfl ?_
   intro hln1
   replace hln1 : (a0.length : Int) ≤ 9223372036854775807 := by simp only [wf, wfL, IntKind.max, IntKind.min, IntKind.signed, IntKind.bits, List.length_map] at hln1; first | exact hln1.2 | exact hln1.1 | (simp at hln1; omega)
   refine .seq ?_
   refine .pl Try.S [0, 1, 12, 13] ?_
   refine .seq ?_
   refine .cond rfl rfl (fun hc2 => ?_) (fun hc2 => ?_)
   ·skip
    have h1 : n1 < a0.length := by simpa using hc2
    have hwn1 : wr .i64 ((n1 : Int) + 1) = ((n1 + 1 : Nat) : Int) := wr_succ h1 hln1
    have hpn1 : wr .i64 ((n1 : Int) - 1) = (n1 : Int) - 1 := wr_pred h1 hln1
    rw [List.drop_eq_getElem_cons h1, m_slices_Equal_Seen_Seen_loop1] at hx1
    refine .skip ?_
    refine .seq ?_
    refine .block ?_
    refine .seq ?_
    refine .plx Try.S hwn1 [0, 1, 12, 13] ?_
    refine .seq ?_
    obtain ⟨k1, hx1⟩ := ite_ck hx1
    have e1 := nth_map TSeen.d a0 n1 h1
    have e2 := nth_mapD TSeen.d a1 n1
    replace e2 := e2 k1
    refine .rg Try.S [0, 1, 5, 12, 13] ?_
    refine .rdx 6 (And.intro e1 (And.intro e2 hwn1)) ?_
    refine .rdx 3 (And.intro e1 (And.intro e2 hwn1)) ?_
    refine .nil ⟨fun _ => schedB_of (by kernel_rfl), ?_⟩
    refine .cond rfl rfl (fun hc3 => ?_) (fun hc3 => ?_)
    ·skip
     replace hx1 := ite_lc hx1 hc3
     refine .seq ?_
     refine .plx Try.S hwn1 [] ?_
     have hq := Option.some.inj hx1
     subst x1
     try dsimp only at h
     have hq := Option.some.inj h
     subst r
     exact .ret ⟨.inr rfl, rsi⟩
    ·skip
     replace hx1 := ite_rc hx1 hc3
     refine .skip ?_
     refine .plx Try.S hwn1 [0, 1, 12, 13] ?_
     refine ⟨n1 + 1, ?_, ⟨by omega, hx1⟩, by dsimp only; omega⟩
     exact .m [0, 1, 12, 13] [] []
   ·skip
    have h2 : n1 = a0.length := by have h2b := of_decide_eq_false hc2; omega
    rw [List.drop_of_length_le (by omega), m_slices_Equal_Seen_Seen_loop1] at hx1
    refine .exit ?_
    refine ⟨_, ?_, (Option.some.inj hx1).symm⟩
    exact .m [] [] []
  ·skip
   rintro ⟨⟩ hj1
   subst x1
   try dsimp only at h
   simp only [Try.St_slices_Equal_Seen_Seen_1]
   refine .seq ?_
   refine .pl Try.S [] ?_
   have hq := Option.some.inj h
   subst r
   exact .ret ⟨.inr rfl, rsi⟩
def Try.St_slices_EqualFunc_string_string_string_string_1 : St := ⟨[], [], 0⟩
attribute [local go_sem] Try.St_slices_EqualFunc_string_string_string_string_1
def Try.St_slices_EqualFunc_string_string_string_string_3 (a0 : List (List (List UInt8))) (a1 : List (List (List UInt8))) (Ka2 : Nat) (ca2 : List D) (n1 : Nat) : St := ⟨[(1, .imm 1 (a1.map dL_str) 4), (2, .fn (.func Ka2) ca2), (15, .imm 1 (a0.map dL_str) 4), (16, .int .i64 (a0.length : Int)), (17, .int .i64 (n1 : Int))], [], 0⟩
attribute [local go_sem] Try.St_slices_EqualFunc_string_string_string_string_3
theorem callP_slices_EqualFunc_string_string_string_string (a0 : List (List (List UInt8))) (a1 : List (List (List UInt8))) (Ka2 : Nat) (ca2 : List D) (hca2 : ∀ hp, lends hp ca2 = (ca2, true)) (h2a2 : ∀ hp, lend2s hp ca2 = (ca2, true)) (h3a2 : ∀ hp, ids2s hp ca2 = []) (a2 : (List (List UInt8)) → (List (List UInt8)) → Option Bool) (ha2 : ∀ x0 x1 y, a2 x0 x1 = some y → CallP Try.prog Ka2 (.imm 1 (x0.map D.str) 4 :: .imm 1 (x1.map D.str) 4 :: ca2) (.bool y)) (r : Bool) (h : m_slices_EqualFunc_string_string_string_string a0 a1 a2 = some r) : CallP Try.prog 51 [.imm 1 (a0.map dL_str) 4, .imm 1 (a1.map dL_str) 4, .fn (.func Ka2) ca2] (.bool r) := by
 refine callP_intro Try.tmOk 2 Try.func51 rfl (by decide) rfl rfl (Nat.le_of_ble_eq_true rfl) ?_
 intro hwf
 unfold m_slices_EqualFunc_string_string_string_string at h
 refine .seq ?_
 refine .pl Try.S [0, 1, 2] ?_
 refine .seq ?_
 refine .seq ?_
 refine .pl Try.S [0, 1, 2] ?_
 refine .cond rfl rfl (fun hc1 => ?_) (fun hc1 => ?_)
 ·skip
  replace h := ite_lc h hc1
  refine .seq ?_
  refine .pl Try.S [] ?_
  have hq := Option.some.inj h
  subst r
  exact .ret ⟨.inr rfl, rsi⟩
 ·skip
  replace h := ite_rc h hc1
  refine .skip ?_
  obtain ⟨x1, hx1, h⟩ := bind_some h
  refine .seqM 0 (fun (j : Unit) => Try.St_slices_EqualFunc_string_string_string_string_1) (fun j => x1 = (.inr j)) (Nat.le_of_ble_eq_true rfl) ?_ ?_
  ·skip
   refine .seq ?_
   refine .pl Try.S [0, 1, 2] ?_
   refine .block ?_
   refine .loopG 0 (fun (j : Nat) => Try.St_slices_EqualFunc_string_string_string_string_3 a0 a1 Ka2 ca2 j) (fun j => j ≤ a0.length ∧ m_slices_EqualFunc_string_string_string_string_loop1 a1 a2 (a0.drop j) j  = some x1) (fun j => a0.length - j) (0) (Nat.le_of_ble_eq_true rfl) ?_ ⟨Nat.zero_le _, hx1⟩ ?_
   ·skip
    refine Goes.mv [1, 2, 15, 16, 17] [] [] ?_ (Nat.le_of_ble_eq_true rfl) (Nat.le_of_ble_eq_true rfl) (by first | rfl | (simp only [idsV, idsH, pickL, getL, D.ids, Blk.ids, natbeq, Nat.reduceBEq, cond_true, cond_false, List.append_nil, List.nil_append, List.cons_append, idsL_lent hca2] <;> rfl))
    first | rfl | (simp only [go_sem, Nat.reduceBEq, Nat.reduceAdd, renL_lent hca2]; done) | (simp only [go_sem, Nat.reduceBEq, Nat.reduceAdd, renL_lent hca2]; rfl)
   rintro n1 ⟨hi1, hx1⟩
   simp only [Try.St_slices_EqualFunc_string_string_string_string_3]
   refine .wf 16 (.int .i64 (a0.length : Int)) rfl ?_
   intro hln1
   replace hln1 : (a0.length : Int) ≤ 9223372036854775807 := by simp only [wf, wfL, IntKind.max, IntKind.min, IntKind.signed, IntKind.bits, List.length_map] at hln1; first | exact hln1.2 | exact hln1.1 | (simp at hln1; omega)
   refine .seq ?_
   refine .pl Try.S [1, 2, 15, 16, 17] ?_
   refine .seq ?_
   refine .cond rfl rfl (fun hc2 => ?_) (fun hc2 => ?_)
   ·skip
    have h1 : n1 < a0.length := by simpa using hc2
    have hwn1 : wr .i64 ((n1 : Int) + 1) = ((n1 + 1 : Nat) : Int) := wr_succ h1 hln1
    have hpn1 : wr .i64 ((n1 : Int) - 1) = (n1 : Int) - 1 := wr_pred h1 hln1
    rw [List.drop_eq_getElem_cons h1, m_slices_EqualFunc_string_string_string_string_loop1] at hx1
    refine .skip ?_
    refine .seq ?_
    refine .block ?_
    refine .seq ?_
    have e1 := nth_map dL_str a0 n1 h1
    refine .plx Try.S (And.intro e1 hwn1) [1, 2, 15, 16, 17] ?_
    refine .seq ?_
    obtain ⟨k1, hx1⟩ := ite_ck hx1
    have e2 := nth_mapD dL_str a1 n1
    replace e2 := e2 k1
    refine .plx Try.S (And.intro e2 hwn1) [1, 2, 7, 8, 15, 16, 17] ?_
    refine .seq ?_
    obtain ⟨v1, hv1, hx1⟩ := bind_some hx1
    refine .rg Try.S [1, 2, 8, 9, 15, 16, 17] ?_
    refine .rnx 3 hwn1 ?_
    refine .call (r := .bool v1) rfl rfl rfl rfl rfl (lends_cons rfl (lends_cons rfl (hca2 _))) (ha2 _ _ v1 hv1) ?_
    refine .rnx 1 hwn1 ?_
    refine .nil ⟨nofun, ?_⟩
    refine .cond rfl rfl (fun hc3 => ?_) (fun hc3 => ?_)
    ·skip
     replace hx1 := ite_lc hx1 hc3
     refine .seq ?_
     refine .plx Try.S hwn1 [] ?_
     have hq := Option.some.inj hx1
     subst x1
     try dsimp only at h
     have hq := Option.some.inj h
     subst r
     exact .ret ⟨.inr rfl, rsi⟩
    ·skip
     replace hx1 := ite_rc hx1 hc3
     refine .skip ?_
     refine .plx Try.S hwn1 [1, 2, 15, 16, 17] ?_
     refine ⟨n1 + 1, ?_, ⟨by omega, hx1⟩, by dsimp only; omega⟩
     refine Goes.mv [1, 2, 15, 16, 17] [] [] ?_ (Nat.le_of_ble_eq_true rfl) (Nat.le_of_ble_eq_true rfl) (by first | rfl | (simp only [idsV, idsH, pickL, getL, D.ids, Blk.ids, natbeq, Nat.reduceBEq, cond_true, cond_false, List.append_nil, List.nil_append, List.cons_append, idsL_lent hca2] <;> rfl))
     first | rfl | (simp only [go_sem, Nat.reduceBEq, Nat.reduceAdd, renL_lent hca2]; done) | (simp only [go_sem, Nat.reduceBEq, Nat.reduceAdd, renL_lent hca2]; rfl)
   ·skip
    have h2 : n1 = a0.length := by have h2b := of_decide_eq_false hc2; omega
    rw [List.drop_of_length_le (by omega), m_slices_EqualFunc_string_string_string_string_loop1] at hx1
    refine .exit ?_
    refine ⟨_, ?_, (Option.some.inj hx1).symm⟩
    refine Goes.mv [] [] [] ?_ (Nat.le_of_ble_eq_true rfl) (Nat.le_of_ble_eq_true rfl) (by first | rfl | (simp only [idsV, idsH, pickL, getL, D.ids, Blk.ids, natbeq, Nat.reduceBEq, cond_true, cond_false, List.append_nil, List.nil_append, List.cons_append, idsL_lent hca2] <;> rfl))
    first | rfl | (simp only [go_sem, Nat.reduceBEq, Nat.reduceAdd, renL_lent hca2]; done) | (simp only [go_sem, Nat.reduceBEq, Nat.reduceAdd, renL_lent hca2]; rfl)
  ·skip
   rintro ⟨⟩ hj1
   subst x1
   try dsimp only at h
   simp only [Try.St_slices_EqualFunc_string_string_string_string_1]
   refine .seq ?_
   refine .pl Try.S [] ?_
   have hq := Option.some.inj h
   subst r
   exact .ret ⟨.inr rfl, rsi⟩
theorem callP_stable_Same (a0 : TStable) (a1 : TStable) (r : Bool) (h : m_stable_Same a0 a1 = some r) : CallP Try.prog 20 [.agg [.imm 1 (a0.Logs.map dL_str) 4, .imm 5 (a0.Votes.map TSeen.d) 4], .agg [.imm 1 (a1.Logs.map dL_str) 4, .imm 5 (a1.Votes.map TSeen.d) 4]] (.bool r) := by
 refine callP_intro Try.tmOk 4 Try.func20 rfl (by decide) rfl rfl (Nat.le_of_ble_eq_true rfl) ?_
 intro hwf
 unfold m_stable_Same at h
 refine .seq ?_
 refine .pl Try.S [0, 1] ?_
 refine .seq ?_
 obtain ⟨v1, hv1, h⟩ := bind_some h
 obtain ⟨v2, hv2, h⟩ := bind_some h
 refine .rg Try.S [2, 3] ?_
 refine .rn 4 ?_
 refine .lcall (r := .bool v1) [] rfl rfl rfl rfl rfl (lend2s_cons rfl (lend2s_cons rfl (lend2s_cons (lend2_fn lend2s_nil) lend2s_nil))) rfl (callP_slices_EqualFunc_string_string_string_string a0.Logs a1.Logs 52 [] (fun _ => rfl) (fun _ => rfl) (fun _ => rfl) m_slices_Equal_string_string (fun x0 x1 y hy => callP_slices_Equal_string_string x0 x1 y hy) v1 hv1) ?_
 refine .rn 5 ?_
 refine .gcall (r := .bool v2) rfl rfl rfl rfl rfl (fun hg => ⟨[], [.imm 5 (a0.Votes.map TSeen.d) 4, .imm 5 (a1.Votes.map TSeen.d) 4], _, rfl, gd hg, rfl, (callP_slices_Equal_Seen_Seen a0.Votes a1.Votes v2 (ite_lc hv2 hg))⟩) ?_
 refine .rn 2 ?_
 refine .nil ⟨nofun, ?_⟩
 have hq := Option.some.inj h
 subst r
 exact .ret ⟨.inr rfl, rsi⟩
theorem callP_towncrierref07_May (a0 : TVote) (r : Bool) (h : m_towncrierref07_May a0 = some r) : CallP Try.prog 49 [.agg [.int .i64 a0.Promised, .int .i64 a0.Ballot, .str a0.Value]] (.bool r) := by
 refine callP_intro Try.tmOk 3 Try.func49 rfl (by decide) rfl rfl (Nat.le_of_ble_eq_true rfl) ?_
 intro hwf
 unfold m_towncrierref07_May at h
 refine .seq ?_
 refine .pl Try.S [0] ?_
 refine .seq ?_
 refine .seq ?_
 obtain ⟨v1, hv1, h⟩ := bind_some h
 refine .rg Try.S [1] ?_
 refine .rn 6 ?_
 refine .gcall (r := .bool v1) rfl rfl rfl rfl rfl (fun hg => ⟨[], [.int .i64 a0.Promised], _, rfl, gd hg, rfl, (callP_towncrierref05_May a0.Promised v1 (ite_lc hv1 hg))⟩) ?_
 refine .rn 2 ?_
 refine .nil ⟨nofun, ?_⟩
 refine .cond rfl rfl (fun hc1 => ?_) (fun hc1 => ?_)
 ·skip
  replace h := ite_lc h hc1
  refine .seq ?_
  refine .pl Try.S [] ?_
  have hq := Option.some.inj h
  subst r
  exact .ret ⟨.inr rfl, rsi⟩
 ·skip
  replace h := ite_rc h hc1
  refine .skip ?_
  refine .seq ?_
  refine .seq ?_
  refine .pl Try.S [1] ?_
  refine .cond rfl rfl (fun hc2 => ?_) (fun hc2 => ?_)
  ·skip
   replace h := ite_lc h hc2
   refine .seq ?_
   refine .pl Try.S [1] ?_
   have hq := Option.some.inj h
   subst r
   exact .ret ⟨.inr rfl, rsi⟩
  ·skip
   replace h := ite_rc h hc2
   refine .skip ?_
   refine .seq ?_
   obtain ⟨v2, hv2, h⟩ := bind_some h
   refine .rg Try.S [1] ?_
   refine .rn 2 ?_
   refine .call (r := .bool v2) rfl rfl rfl rfl rfl rfl (callP_towncrierref05_May a0.Ballot v2 hv2) ?_
   refine .rn 6 ?_
   refine .rn 8 ?_
   refine .nil ⟨nofun, ?_⟩
   have hq := Option.some.inj h
   subst r
   exact .ret ⟨.inr rfl, rsi⟩
theorem callP_towncrierref10_May (a0 : TRecord) (r : Bool) (h : m_towncrierref10_May a0 = some r) : CallP Try.prog 40 [.agg [.int .u8 a0.Kind, .int .i64 a0.Group, .int .i64 a0.Slot, .int .i64 a0.Ballot, .str a0.Value]] (.bool r) := by
 refine callP_intro Try.tmOk 3 Try.func40 rfl (by decide) rfl rfl (Nat.le_of_ble_eq_true rfl) ?_
 intro hwf
 unfold m_towncrierref10_May at h
 refine .seq ?_
 refine .pl Try.S [0] ?_
 refine .seq ?_
 refine .seq ?_
 refine .rg Try.S [1] ?_
 refine .rn 6 ?_
 refine .rn 6 ?_
 refine .rn 6 ?_
 refine .nil ⟨nofun, ?_⟩
 refine .cond rfl rfl (fun hc1 => ?_) (fun hc1 => ?_)
 ·skip
  replace h := ite_lc h hc1
  refine .seq ?_
  refine .pl Try.S [] ?_
  have hq := Option.some.inj h
  subst r
  exact .ret ⟨.inr rfl, rsi⟩
 ·skip
  replace h := ite_rc h hc1
  refine .skip ?_
  refine .seq ?_
  refine .seq ?_
  refine .pl Try.S [1] ?_
  refine .block ?_
  refine .seq ?_
  refine .pl Try.S [1, 22] ?_
  refine .cond rfl rfl (fun hc2 => ?_) (fun hc2 => ?_)
  ·skip
   replace h := ite_lc h hc2
   refine .seq ?_
   obtain ⟨v1, hv1, h⟩ := bind_some h
   refine .rg Try.S [1] ?_
   refine .rn 2 ?_
   refine .call (r := .bool v1) rfl rfl rfl rfl rfl rfl (callP_towncrierref05_May a0.Ballot v1 hv1) ?_
   refine .rn 6 ?_
   refine .nil ⟨nofun, ?_⟩
   have hq := Option.some.inj h
   subst r
   exact .ret ⟨.inr rfl, rsi⟩
  ·skip
   replace h := ite_rc h hc2
   refine .seq ?_
   refine .pl Try.S [1, 22] ?_
   refine .cond rfl rfl (fun hc3 => ?_) (fun hc3 => ?_)
   ·skip
    replace h := ite_lc h hc3
    refine .seq ?_
    obtain ⟨v2, hv2, h⟩ := bind_some h
    refine .rg Try.S [1] ?_
    refine .rn 2 ?_
    refine .call (r := .bool v2) rfl rfl rfl rfl rfl rfl (callP_towncrierref05_May a0.Ballot v2 hv2) ?_
    refine .rn 7 ?_
    refine .nil ⟨nofun, ?_⟩
    have hq := Option.some.inj h
    subst r
    exact .ret ⟨.inr rfl, rsi⟩
   ·skip
    replace h := ite_rc h hc3
    refine .seq ?_
    refine .pl Try.S [1, 22] ?_
    refine .cond rfl rfl (fun hc4 => ?_) (fun hc4 => ?_)
    ·skip
     replace h := ite_lc h hc4
     refine .seq ?_
     refine .rg Try.S [1] ?_
     refine .rn 6 ?_
     refine .rn 4 ?_
     refine .nil ⟨nofun, ?_⟩
     have hq := Option.some.inj h
     subst r
     exact .ret ⟨.inr rfl, rsi⟩
    ·skip
     replace h := ite_rc h hc4
     refine .skip ?_
     refine .seq ?_
     refine .pl Try.S [] ?_
     have hq := Option.some.inj h
     subst r
     exact .ret ⟨.inr rfl, rsi⟩
theorem callP_towncrierref11_ahead (a0 : TSeen) (a1 : TSeen) (r : Bool) (h : m_towncrierref11_ahead a0 a1 = some r) : CallP Try.prog 50 [.agg [.int .i64 a0.Group, .int .i64 a0.Slot, .int .i64 a0.Vote.Promised, .int .i64 a0.Vote.Ballot, .str a0.Vote.Value], .agg [.int .i64 a1.Group, .int .i64 a1.Slot, .int .i64 a1.Vote.Promised, .int .i64 a1.Vote.Ballot, .str a1.Vote.Value]] (.bool r) := by
 refine callP_intro Try.tmOk 4 Try.func50 rfl (by decide) rfl rfl (Nat.le_of_ble_eq_true rfl) ?_
 intro hwf
 unfold m_towncrierref11_ahead at h
 refine .seq ?_
 refine .pl Try.S [0, 1] ?_
 refine .seq ?_
 refine .rg Try.S [2, 3] ?_
 refine .rn 6 ?_
 refine .rn 6 ?_
 refine .rn 8 ?_
 refine .nil ⟨nofun, ?_⟩
 have hq := Option.some.inj h
 subst r
 exact .ret ⟨.inr rfl, rsi⟩
def Try.St_towncrierref11_MayLog_1 : St := ⟨[], [], 0⟩
attribute [local go_sem] Try.St_towncrierref11_MayLog_1
def Try.St_towncrierref11_MayLog_3 (a0 : List (List UInt8)) (n1 : Nat) : St := ⟨[(0, .imm 1 (a0.map D.str) 4), (3, .int .i64 (n1 : Int))], [], 0⟩
attribute [local go_sem] Try.St_towncrierref11_MayLog_3
theorem callP_towncrierref11_MayLog (a0 : List (List UInt8)) (r : Bool) (h : m_towncrierref11_MayLog a0 = some r) : CallP Try.prog 48 [.imm 1 (a0.map D.str) 4] (.bool r) := by
 refine callP_intro Try.tmOk 2 Try.func48 rfl (by decide) rfl rfl (Nat.le_of_ble_eq_true rfl) ?_
 intro hwf
 unfold m_towncrierref11_MayLog at h
 refine .seq ?_
 refine .pl Try.S [0] ?_
 refine .seq ?_
 refine .seq ?_
 refine .pl Try.S [0] ?_
 refine .cond rfl rfl (fun hc1 => ?_) (fun hc1 => ?_)
 ·skip
  replace h := ite_lc h hc1
  refine .seq ?_
  refine .pl Try.S [] ?_
  have hq := Option.some.inj h
  subst r
  exact .ret ⟨.inr rfl, rsi⟩
 ·skip
  replace h := ite_rc h hc1
  refine .skip ?_
  obtain ⟨x1, hx1, h⟩ := bind_some h
  refine .seqM 0 (fun (j : Unit) => Try.St_towncrierref11_MayLog_1) (fun j => x1 = (.inr j)) (Nat.le_of_ble_eq_true rfl) ?_ ?_
  ·skip
   refine .seq ?_
   refine .pl Try.S [0] ?_
   refine .block ?_
   refine .loopG 0 (fun (j : Nat) => Try.St_towncrierref11_MayLog_3 a0 j) (fun j => j ≤ a0.length ∧ m_towncrierref11_MayLog_loop1 (a0.drop j)  = some x1) (fun j => a0.length - j) (0) (Nat.le_of_ble_eq_true rfl) ?_ ⟨Nat.zero_le _, hx1⟩ ?_
   ·skip
    exact .m [0, 3] [] []
   rintro n1 ⟨hi1, hx1⟩
   simp only [Try.St_towncrierref11_MayLog_3]
   refine .wf 0 (.imm 1 (a0.map D.str) 4) rfl ?_
   intro hln1
   replace hln1 : (a0.length : Int) ≤ 9223372036854775807 := by simp only [wf, wfL, IntKind.max, IntKind.min, IntKind.signed, IntKind.bits, List.length_map] at hln1; first | exact hln1.2 | exact hln1.1 | (simp at hln1; omega)
   refine .seq ?_
   refine .seq ?_
   refine .pl Try.S [0, 3] ?_
   refine .cond rfl rfl (fun hc2 => ?_) (fun hc2 => ?_)
   ·skip
    have h1 : n1 < a0.length := by simpa using hc2
    have hwn1 : wr .i64 ((n1 : Int) + 1) = ((n1 + 1 : Nat) : Int) := wr_succ h1 hln1
    have hpn1 : wr .i64 ((n1 : Int) - 1) = (n1 : Int) - 1 := wr_pred h1 hln1
    rw [List.drop_eq_getElem_cons h1, m_towncrierref11_MayLog_loop1_c] at hx1
    refine .skip ?_
    refine .seq ?_
    refine .block ?_
    refine .seq ?_
    have e1 := nth_map D.str a0 n1 h1
    refine .plx Try.S (And.intro e1 hwn1) [0, 3] ?_
    refine .cond rfl rfl (fun hc3 => ?_) (fun hc3 => ?_)
    ·skip
     replace hx1 := ite_lc hx1 hc3
     refine .seq ?_
     refine .plx Try.S hwn1 [] ?_
     have hq := Option.some.inj hx1
     subst x1
     try dsimp only at h
     have hq := Option.some.inj h
     subst r
     exact .ret ⟨.inr rfl, rsi⟩
    ·skip
     replace hx1 := ite_rc hx1 hc3
     refine .skip ?_
     refine .plx Try.S hwn1 [0, 3] ?_
     refine ⟨n1 + 1, ?_, ⟨by omega, hx1⟩, by dsimp only; omega⟩
     exact .m [0, 3] [] []
   ·skip
    have h2 : n1 = a0.length := by have h2b := of_decide_eq_false hc2; omega
    rw [List.drop_of_length_le (by omega), m_towncrierref11_MayLog_loop1_n] at hx1
    refine .exit ?_
    refine ⟨_, ?_, (Option.some.inj hx1).symm⟩
    exact .m [] [] []
  ·skip
   rintro ⟨⟩ hj1
   subst x1
   try dsimp only at h
   simp only [Try.St_towncrierref11_MayLog_1]
   refine .seq ?_
   refine .pl Try.S [] ?_
   have hq := Option.some.inj h
   subst r
   exact .ret ⟨.inr rfl, rsi⟩
def Try.St_towncrierref11_May_1 (a0 : TStable) : St := ⟨[(1, .ptr 0 0)], [(0, .box [.imm 1 (a0.Logs.map dL_str) 4, .imm 5 (a0.Votes.map TSeen.d) 4])], 1⟩
attribute [local go_sem] Try.St_towncrierref11_May_1
def Try.St_towncrierref11_May_3 (a0 : TStable) (n1 : Nat) : St := ⟨[(1, .ptr 0 0), (3, .int .i64 (n1 : Int))], [(0, .box [.imm 1 (a0.Logs.map dL_str) 4, .imm 5 (a0.Votes.map TSeen.d) 4])], 1⟩
attribute [local go_sem] Try.St_towncrierref11_May_3
def Try.St_towncrierref11_May_5 : St := ⟨[], [], 1⟩
attribute [local go_sem] Try.St_towncrierref11_May_5
def Try.St_towncrierref11_May_7 (a0 : TStable) (n2 : Nat) : St := ⟨[(1, .ptr 0 0), (4, .int .i64 (n2 : Int))], [(0, .box [.imm 1 (a0.Logs.map dL_str) 4, .imm 5 (a0.Votes.map TSeen.d) 4])], 1⟩
attribute [local go_sem] Try.St_towncrierref11_May_7
theorem callP_towncrierref11_May (a0 : TStable) (r : Bool) (h : m_towncrierref11_May a0 = some r) : CallP Try.prog 19 [.agg [.imm 1 (a0.Logs.map dL_str) 4, .imm 5 (a0.Votes.map TSeen.d) 4]] (.bool r) := by
 refine callP_intro Try.tmOk 4 Try.func19 rfl (by decide) rfl rfl (Nat.le_of_ble_eq_true rfl) ?_
 intro hwf
 unfold m_towncrierref11_May at h
 refine .seq ?_
 refine .pl Try.S [0] ?_
 refine .seq ?_
 refine .seq ?_
 refine .rg Try.S [1] ?_
 refine .rn 6 ?_
 refine .rn 4 ?_
 refine .nil ⟨nofun, ?_⟩
 refine .cond rfl rfl (fun hc1 => ?_) (fun hc1 => ?_)
 ·skip
  replace h := ite_lc h hc1
  refine .seq ?_
  refine .pl Try.S [] ?_
  have hq := Option.some.inj h
  subst r
  exact .ret ⟨.inr rfl, rsi⟩
 ·skip
  replace h := ite_rc h hc1
  refine .skip ?_
  obtain ⟨x1, hx1, h⟩ := bind_some h
  refine .seqM 1 (fun (j : Unit) => Try.St_towncrierref11_May_1 a0) (fun j => x1 = (.inr j)) (Nat.le_of_ble_eq_true rfl) ?_ ?_
  ·skip
   refine .seq ?_
   refine .pl Try.S [1] ?_
   refine .block ?_
   refine .loopG 1 (fun (j : Nat) => Try.St_towncrierref11_May_3 a0 j) (fun j => j ≤ a0.Logs.length ∧ m_towncrierref11_May_loop1 (a0.Logs.drop j)  = some x1) (fun j => a0.Logs.length - j) (0) (Nat.le_of_ble_eq_true rfl) ?_ ⟨Nat.zero_le _, hx1⟩ ?_
   ·skip
    exact .m [1, 3] [0] []
   rintro n1 ⟨hi1, hx1⟩
   simp only [Try.St_towncrierref11_May_3]
   refine .wfb 0 [.imm 1 (a0.Logs.map dL_str) 4, .imm 5 (a0.Votes.map TSeen.d) 4] rfl ?_
   intro hln1
   replace hln1 : (a0.Logs.length : Int) ≤ 9223372036854775807 := by simp only [wf, wfL, IntKind.max, IntKind.min, IntKind.signed, IntKind.bits, List.length_map] at hln1; first | exact hln1.2 | exact hln1.1 | (simp at hln1; omega)
   refine .seq ?_
   refine .seq ?_
   refine .pl Try.S [1, 3] ?_
   refine .cond rfl rfl (fun hc2 => ?_) (fun hc2 => ?_)
   ·skip
    have h1 : n1 < a0.Logs.length := by simpa using hc2
    have hwn1 : wr .i64 ((n1 : Int) + 1) = ((n1 + 1 : Nat) : Int) := wr_succ h1 hln1
    have hpn1 : wr .i64 ((n1 : Int) - 1) = (n1 : Int) - 1 := wr_pred h1 hln1
    rw [List.drop_eq_getElem_cons h1, m_towncrierref11_May_loop1] at hx1
    refine .skip ?_
    refine .seq ?_
    refine .block ?_
    refine .seq ?_
    obtain ⟨v1, hv1, hx1⟩ := bind_some hx1
    have e1 := nth_map dL_str a0.Logs n1 h1
    refine .rg Try.S [1, 3] ?_
    refine .rnx 5 (And.intro e1 hwn1) ?_
    refine .call (r := .bool v1) rfl rfl rfl rfl rfl rfl (callP_towncrierref11_MayLog (a0.Logs[n1]) v1 hv1) ?_
    refine .rnx 1 (And.intro e1 hwn1) ?_
    refine .nil ⟨nofun, ?_⟩
    refine .cond rfl rfl (fun hc3 => ?_) (fun hc3 => ?_)
    ·skip
     replace hx1 := ite_lc hx1 hc3
     refine .seq ?_
     refine .plx Try.S hwn1 [] ?_
     have hq := Option.some.inj hx1
     subst x1
     try dsimp only at h
     have hq := Option.some.inj h
     subst r
     exact .ret ⟨.inr rfl, rsi⟩
    ·skip
     replace hx1 := ite_rc hx1 hc3
     refine .skip ?_
     refine .plx Try.S hwn1 [1, 3] ?_
     refine ⟨n1 + 1, ?_, ⟨by omega, hx1⟩, by dsimp only; omega⟩
     exact .m [1, 3] [0] []
   ·skip
    have h2 : n1 = a0.Logs.length := by have h2b := of_decide_eq_false hc2; omega
    rw [List.drop_of_length_le (by omega), m_towncrierref11_May_loop1] at hx1
    refine .exit ?_
    refine ⟨_, ?_, (Option.some.inj hx1).symm⟩
    exact .m [1] [0] []
  ·skip
   rintro ⟨⟩ hj1
   subst x1
   try dsimp only at h
   simp only [Try.St_towncrierref11_May_1]
   obtain ⟨x2, hx2, h⟩ := bind_some h
   refine .seqM 1 (fun (j : Unit) => Try.St_towncrierref11_May_5) (fun j => x2 = (.inr j)) (Nat.le_of_ble_eq_true rfl) ?_ ?_
   ·skip
    refine .seq ?_
    refine .pl Try.S [1] ?_
    refine .block ?_
    refine .loopG 1 (fun (j : Nat) => Try.St_towncrierref11_May_7 a0 j) (fun j => j ≤ a0.Votes.length ∧ m_towncrierref11_May_loop2 a0 (a0.Votes.drop j) j  = some x2) (fun j => a0.Votes.length - j) (0) (Nat.le_of_ble_eq_true rfl) ?_ ⟨Nat.zero_le _, hx2⟩ ?_
    ·skip
     exact .m [1, 4] [0] []
    rintro n2 ⟨hi2, hx2⟩
    simp only [Try.St_towncrierref11_May_7]
    refine .wfb 0 [.imm 1 (a0.Logs.map dL_str) 4, .imm 5 (a0.Votes.map TSeen.d) 4] rfl ?_
    intro hln2
    replace hln2 : (a0.Votes.length : Int) ≤ 9223372036854775807 := by simp only [wf, wfL, IntKind.max, IntKind.min, IntKind.signed, IntKind.bits, List.length_map] at hln2; first | exact hln2.2 | exact hln2.1 | (simp at hln2; omega)
    refine .seq ?_
    refine .seq ?_
    refine .pl Try.S [1, 4] ?_
    refine .cond rfl rfl (fun hc4 => ?_) (fun hc4 => ?_)
    ·skip
     have h3 : n2 < a0.Votes.length := by simpa using hc4
     have hwn2 : wr .i64 ((n2 : Int) + 1) = ((n2 + 1 : Nat) : Int) := wr_succ h3 hln2
     have hpn2 : wr .i64 ((n2 : Int) - 1) = (n2 : Int) - 1 := wr_pred h3 hln2
     rw [List.drop_eq_getElem_cons h3, m_towncrierref11_May_loop2] at hx2
     refine .skip ?_
     refine .seq ?_
     refine .block ?_
     refine .seq ?_
     have e2 := nth_map TSeen.d a0.Votes n2 h3
     refine .plx Try.S (And.intro e2 hwn2) [1, 4] ?_
     obtain ⟨k1, hx2⟩ := ite_ck hx2
     obtain ⟨v2, hv2, hx2⟩ := bind_some hx2
     obtain ⟨v3, hv3, hx2⟩ := bind_some hx2
     refine .seqM 2 (fun (_ : Unit) => ⟨[(1, .ptr 0 0), (4, .int .i64 (n2 : Int)), (96, .bool (((((((decide (a0.Votes[n2].Group < 0)) || (decide (a0.Votes[n2].Group ≥ (a0.Logs.length : Int)))) || (decide (a0.Votes[n2].Slot > 200))) || (decide (a0.Votes[n2].Slot ≤ ((a0.Logs.getD (a0.Votes[n2].Group).toNat default).length : Int)))) || (!v2)) || (a0.Votes[n2].Vote.Promised == 0)) || ((decide ((n2 : Int) > 0)) && (!v3))))], [(0, .box [.imm 1 (a0.Logs.map dL_str) 4, .imm 5 (a0.Votes.map TSeen.d) 4])], 2⟩) (fun _ => True) (Nat.le_of_ble_eq_true rfl) ?_ (fun _ _ => ?_)
     ·skip
      by_cases hgd : ¬ (((a0.Votes[n2].Group < 0) ∨ (a0.Votes[n2].Group ≥ (a0.Logs.length : Int))) ∨ (a0.Votes[n2].Slot > 200))
      ·skip
       have eg10 := nth_mapI dL_str a0.Logs (a0.Votes[n2].Group) (k1 hgd)
       have e3 := nth_mapD TSeen.d a0.Votes (n2 - 1) (by omega)
       refine .rg Try.S [1, 4, 5] ?_
       refine .rdx 6 (And.intro e3 (And.intro hpn2 (And.intro eg10 hwn2))) ?_
       refine .rdx 6 (And.intro e3 (And.intro hpn2 (And.intro eg10 hwn2))) ?_
       refine .rdx 6 (And.intro e3 (And.intro hpn2 (And.intro eg10 hwn2))) ?_
       refine .rdx 6 (And.intro e3 (And.intro hpn2 (And.intro eg10 hwn2))) ?_
       refine .rdx 7 (And.intro e3 (And.intro hpn2 (And.intro eg10 hwn2))) ?_
       refine .gcall (r := .bool v2) rfl rfl rfl rfl rfl (fun hg => ⟨[], [.agg [.int .i64 (a0.Votes[n2].Vote.Promised), .int .i64 (a0.Votes[n2].Vote.Ballot), .str (a0.Votes[n2].Vote.Value)]], _, rfl, gd hg, rfl, (callP_towncrierref07_May (a0.Votes[n2].Vote) v2 (ite_lc hv2 hg))⟩) ?_
       refine .rdx 6 (And.intro e3 (And.intro hpn2 (And.intro eg10 hwn2))) ?_
       refine .rdx 6 (And.intro e3 (And.intro hpn2 (And.intro eg10 hwn2))) ?_
       refine .rdx 7 (And.intro e3 (And.intro hpn2 (And.intro eg10 hwn2))) ?_
       refine .gcall (r := .bool v3) rfl rfl rfl rfl rfl (fun hg => ⟨[], [.agg [.int .i64 ((a0.Votes.getD (n2 - 1) default).Group), .int .i64 ((a0.Votes.getD (n2 - 1) default).Slot), .int .i64 ((a0.Votes.getD (n2 - 1) default).Vote.Promised), .int .i64 ((a0.Votes.getD (n2 - 1) default).Vote.Ballot), .str ((a0.Votes.getD (n2 - 1) default).Vote.Value)], .agg [.int .i64 (a0.Votes[n2].Group), .int .i64 (a0.Votes[n2].Slot), .int .i64 (a0.Votes[n2].Vote.Promised), .int .i64 (a0.Votes[n2].Vote.Ballot), .str (a0.Votes[n2].Vote.Value)]], _, rfl, gd hg, rfl, (callP_towncrierref11_ahead (a0.Votes.getD (n2 - 1) default) (a0.Votes[n2]) v3 (ite_lc hv3 hg))⟩) ?_
       refine .rdx 3 (And.intro e3 (And.intro hpn2 (And.intro eg10 hwn2))) ?_
       refine .nil ⟨fun _ => schedB_of (by kernel_rfl), ?_⟩
       refine ⟨(), ?_, trivial⟩
       exact .m [1, 4, 96] [0] []
      ·skip
       have hgf1 : (!(((decide (a0.Votes[n2].Group < 0)) || (decide (a0.Votes[n2].Group ≥ (a0.Logs.length : Int)))) || (decide (a0.Votes[n2].Slot > 200)))) = false := by first | simpa using hgd | (simp at hgd ⊢; omega) | grind
       have hgf1t : (((decide (a0.Votes[n2].Group < 0)) || (decide (a0.Votes[n2].Group ≥ (a0.Logs.length : Int)))) || (decide (a0.Votes[n2].Slot > 200))) = true := by first | simpa using hgf1 | grind
       rcases nth_or dL_str a0.Logs ((a0.Votes[n2].Group).toNat) with eg10 | eg10
       ·skip
        have e3 := nth_mapD TSeen.d a0.Votes (n2 - 1) (by omega)
        refine .rg Try.S [1, 4, 5] ?_
        refine .rdx 6 (And.intro e3 (And.intro hpn2 (And.intro eg10 (And.intro hgf1 (And.intro hgf1t hwn2))))) ?_
        refine .rdx 6 (And.intro e3 (And.intro hpn2 (And.intro eg10 (And.intro hgf1 (And.intro hgf1t hwn2))))) ?_
        refine .rdx 6 (And.intro e3 (And.intro hpn2 (And.intro eg10 (And.intro hgf1 (And.intro hgf1t hwn2))))) ?_
        refine .rdx 6 (And.intro e3 (And.intro hpn2 (And.intro eg10 (And.intro hgf1 (And.intro hgf1t hwn2))))) ?_
        refine .rdx 7 (And.intro e3 (And.intro hpn2 (And.intro eg10 (And.intro hgf1 (And.intro hgf1t hwn2))))) ?_
        refine .gcall (r := .bool v2) rfl rfl rfl rfl rfl (fun hg => ⟨[], [.agg [.int .i64 (a0.Votes[n2].Vote.Promised), .int .i64 (a0.Votes[n2].Vote.Ballot), .str (a0.Votes[n2].Vote.Value)]], _, rfl, gd hg, rfl, (callP_towncrierref07_May (a0.Votes[n2].Vote) v2 (ite_lc hv2 hg))⟩) ?_
        refine .rdx 6 (And.intro e3 (And.intro hpn2 (And.intro eg10 (And.intro hgf1 (And.intro hgf1t hwn2))))) ?_
        refine .rdx 6 (And.intro e3 (And.intro hpn2 (And.intro eg10 (And.intro hgf1 (And.intro hgf1t hwn2))))) ?_
        refine .rdx 7 (And.intro e3 (And.intro hpn2 (And.intro eg10 (And.intro hgf1 (And.intro hgf1t hwn2))))) ?_
        refine .gcall (r := .bool v3) rfl rfl rfl rfl rfl (fun hg => ⟨[], [.agg [.int .i64 ((a0.Votes.getD (n2 - 1) default).Group), .int .i64 ((a0.Votes.getD (n2 - 1) default).Slot), .int .i64 ((a0.Votes.getD (n2 - 1) default).Vote.Promised), .int .i64 ((a0.Votes.getD (n2 - 1) default).Vote.Ballot), .str ((a0.Votes.getD (n2 - 1) default).Vote.Value)], .agg [.int .i64 (a0.Votes[n2].Group), .int .i64 (a0.Votes[n2].Slot), .int .i64 (a0.Votes[n2].Vote.Promised), .int .i64 (a0.Votes[n2].Vote.Ballot), .str (a0.Votes[n2].Vote.Value)]], _, rfl, gd hg, rfl, (callP_towncrierref11_ahead (a0.Votes.getD (n2 - 1) default) (a0.Votes[n2]) v3 (ite_lc hv3 hg))⟩) ?_
        refine .rdx 3 (And.intro e3 (And.intro hpn2 (And.intro eg10 (And.intro hgf1 (And.intro hgf1t hwn2))))) ?_
        refine .nil ⟨fun _ => schedB_of (by kernel_rfl), ?_⟩
        refine ⟨(), ?_, trivial⟩
        exact .mx (And.intro hgf1 hgf1t) [1, 4, 96] [0] []
       ·skip
        have e3 := nth_mapD TSeen.d a0.Votes (n2 - 1) (by omega)
        refine .rg Try.S [1, 4, 5] ?_
        refine .rdx 6 (And.intro e3 (And.intro hpn2 (And.intro eg10 (And.intro hgf1 (And.intro hgf1t hwn2))))) ?_
        refine .rdx 6 (And.intro e3 (And.intro hpn2 (And.intro eg10 (And.intro hgf1 (And.intro hgf1t hwn2))))) ?_
        refine .rdx 6 (And.intro e3 (And.intro hpn2 (And.intro eg10 (And.intro hgf1 (And.intro hgf1t hwn2))))) ?_
        refine .rdx 6 (And.intro e3 (And.intro hpn2 (And.intro eg10 (And.intro hgf1 (And.intro hgf1t hwn2))))) ?_
        refine .rdx 7 (And.intro e3 (And.intro hpn2 (And.intro eg10 (And.intro hgf1 (And.intro hgf1t hwn2))))) ?_
        refine .gcall (r := .bool v2) rfl rfl rfl rfl rfl (fun hg => ⟨[], [.agg [.int .i64 (a0.Votes[n2].Vote.Promised), .int .i64 (a0.Votes[n2].Vote.Ballot), .str (a0.Votes[n2].Vote.Value)]], _, rfl, gd hg, rfl, (callP_towncrierref07_May (a0.Votes[n2].Vote) v2 (ite_lc hv2 hg))⟩) ?_
        refine .rdx 6 (And.intro e3 (And.intro hpn2 (And.intro eg10 (And.intro hgf1 (And.intro hgf1t hwn2))))) ?_
        refine .rdx 6 (And.intro e3 (And.intro hpn2 (And.intro eg10 (And.intro hgf1 (And.intro hgf1t hwn2))))) ?_
        refine .rdx 7 (And.intro e3 (And.intro hpn2 (And.intro eg10 (And.intro hgf1 (And.intro hgf1t hwn2))))) ?_
        refine .gcall (r := .bool v3) rfl rfl rfl rfl rfl (fun hg => ⟨[], [.agg [.int .i64 ((a0.Votes.getD (n2 - 1) default).Group), .int .i64 ((a0.Votes.getD (n2 - 1) default).Slot), .int .i64 ((a0.Votes.getD (n2 - 1) default).Vote.Promised), .int .i64 ((a0.Votes.getD (n2 - 1) default).Vote.Ballot), .str ((a0.Votes.getD (n2 - 1) default).Vote.Value)], .agg [.int .i64 (a0.Votes[n2].Group), .int .i64 (a0.Votes[n2].Slot), .int .i64 (a0.Votes[n2].Vote.Promised), .int .i64 (a0.Votes[n2].Vote.Ballot), .str (a0.Votes[n2].Vote.Value)]], _, rfl, gd hg, rfl, (callP_towncrierref11_ahead (a0.Votes.getD (n2 - 1) default) (a0.Votes[n2]) v3 (ite_lc hv3 hg))⟩) ?_
        refine .rdx 3 (And.intro e3 (And.intro hpn2 (And.intro eg10 (And.intro hgf1 (And.intro hgf1t hwn2))))) ?_
        refine .nil ⟨fun _ => schedB_of (by kernel_rfl), ?_⟩
        refine ⟨(), ?_, trivial⟩
        exact .mx (And.intro hgf1 hgf1t) [1, 4, 96] [0] []
     refine .cond rfl rfl (fun hc5 => ?_) (fun hc5 => ?_)
     ·skip
      replace hx2 := ite_lc hx2 hc5
      refine .seq ?_
      refine .plx Try.S hwn2 [] ?_
      have hq := Option.some.inj hx2
      subst x2
      try dsimp only at h
      have hq := Option.some.inj h
      subst r
      exact .ret ⟨.inr rfl, rsi⟩
     ·skip
      replace hx2 := ite_rc hx2 hc5
      refine .skip ?_
      refine .plx Try.S hwn2 [1, 4] ?_
      refine ⟨n2 + 1, ?_, ⟨by omega, hx2⟩, by dsimp only; omega⟩
      exact .m [1, 4] [0] []
    ·skip
     have h4 : n2 = a0.Votes.length := by have h4b := of_decide_eq_false hc4; omega
     rw [List.drop_of_length_le (by omega), m_towncrierref11_May_loop2] at hx2
     refine .exit ?_
     refine ⟨_, ?_, (Option.some.inj hx2).symm⟩
     exact .m [] [] []
   ·skip
    rintro ⟨⟩ hj2
    subst x2
    try dsimp only at h
    simp only [Try.St_towncrierref11_May_5]
    refine .seq ?_
    refine .pl Try.S [] ?_
    have hq := Option.some.inj h
    subst r
    exact .ret ⟨.inr rfl, rsi⟩
def Try.St_towncrierref01_SameTexts_1 : St := ⟨[], [], 0⟩
attribute [local go_sem] Try.St_towncrierref01_SameTexts_1
def Try.St_towncrierref01_SameTexts_3 (a : List (List UInt8)) (b : List (List UInt8)) (n1 : Nat) : St := ⟨[(0, .imm 1 (a.map D.str) 4), (1, .imm 1 (b.map D.str) 4), (5, .int .i64 (n1 : Int))], [], 0⟩
attribute [local go_sem] Try.St_towncrierref01_SameTexts_3
theorem callP_towncrierref01_SameTexts (a : List (List UInt8)) (b : List (List UInt8)) (r : Bool) (h : m_towncrierref01_SameTexts a b = some r) : CallP Try.prog 12 [.imm 1 (a.map D.str) 4, .imm 1 (b.map D.str) 4] (.bool r) := by
 refine callP_intro Try.tmOk 2 Try.func12 rfl (by decide) rfl rfl (Nat.le_of_ble_eq_true rfl) ?_
 intro hwf
 unfold m_towncrierref01_SameTexts at h
 refine .seq ?_
 refine .pl Try.S [0, 1] ?_
 refine .seq ?_
 refine .seq ?_
 refine .pl Try.S [0, 1] ?_
 refine .cond rfl rfl (fun hc1 => ?_) (fun hc1 => ?_)
 ·skip
  replace h := ite_lc h hc1
  refine .seq ?_
  refine .pl Try.S [] ?_
  have hq := Option.some.inj h
  subst r
  exact .ret ⟨.inr rfl, rsi⟩
 ·skip
  replace h := ite_rc h hc1
  refine .skip ?_
  obtain ⟨x1, hx1, h⟩ := bind_some h
  refine .seqM 0 (fun (j : Unit) => Try.St_towncrierref01_SameTexts_1) (fun j => x1 = (.inr j)) (Nat.le_of_ble_eq_true rfl) ?_ ?_
  ·skip
   refine .seq ?_
   refine .pl Try.S [0, 1] ?_
   refine .block ?_
   refine .loopG 0 (fun (j : Nat) => Try.St_towncrierref01_SameTexts_3 a b j) (fun j => j ≤ a.length ∧ m_towncrierref01_SameTexts_loop1 b (a.drop j) j  = some x1) (fun j => a.length - j) (0) (Nat.le_of_ble_eq_true rfl) ?_ ⟨Nat.zero_le _, hx1⟩ ?_
   ·skip
    exact .m [0, 1, 5] [] []
   rintro n1 ⟨hi1, hx1⟩
   simp only [Try.St_towncrierref01_SameTexts_3]
   refine .wf 0 (.imm 1 (a.map D.str) 4) rfl ?_
   intro hln1
   replace hln1 : (a.length : Int) ≤ 9223372036854775807 := by simp only [wf, wfL, IntKind.max, IntKind.min, IntKind.signed, IntKind.bits, List.length_map] at hln1; first | exact hln1.2 | exact hln1.1 | (simp at hln1; omega)
   refine .seq ?_
   refine .seq ?_
   refine .pl Try.S [0, 1, 5] ?_
   refine .cond rfl rfl (fun hc2 => ?_) (fun hc2 => ?_)
   ·skip
    have h1 : n1 < a.length := by simpa using hc2
    have hwn1 : wr .i64 ((n1 : Int) + 1) = ((n1 + 1 : Nat) : Int) := wr_succ h1 hln1
    have hpn1 : wr .i64 ((n1 : Int) - 1) = (n1 : Int) - 1 := wr_pred h1 hln1
    rw [List.drop_eq_getElem_cons h1, m_towncrierref01_SameTexts_loop1] at hx1
    refine .skip ?_
    refine .seq ?_
    refine .block ?_
    refine .seq ?_
    obtain ⟨k1, hx1⟩ := ite_ck hx1
    have e1 := nth_map D.str a n1 h1
    have e2 := nth_mapD D.str b n1
    replace e2 := e2 k1
    refine .rg Try.S [0, 1, 5] ?_
    refine .rdx 6 (And.intro e1 (And.intro e2 hwn1)) ?_
    refine .rdx 3 (And.intro e1 (And.intro e2 hwn1)) ?_
    refine .nil ⟨fun _ => schedB_of (by kernel_rfl), ?_⟩
    refine .cond rfl rfl (fun hc3 => ?_) (fun hc3 => ?_)
    ·skip
     replace hx1 := ite_lc hx1 hc3
     refine .seq ?_
     refine .plx Try.S hwn1 [] ?_
     have hq := Option.some.inj hx1
     subst x1
     try dsimp only at h
     have hq := Option.some.inj h
     subst r
     exact .ret ⟨.inr rfl, rsi⟩
    ·skip
     replace hx1 := ite_rc hx1 hc3
     refine .skip ?_
     refine .plx Try.S hwn1 [0, 1, 5] ?_
     refine ⟨n1 + 1, ?_, ⟨by omega, hx1⟩, by dsimp only; omega⟩
     exact .m [0, 1, 5] [] []
   ·skip
    have h2 : n1 = a.length := by have h2b := of_decide_eq_false hc2; omega
    rw [List.drop_of_length_le (by omega), m_towncrierref01_SameTexts_loop1] at hx1
    refine .exit ?_
    refine ⟨_, ?_, (Option.some.inj hx1).symm⟩
    exact .m [] [] []
  ·skip
   rintro ⟨⟩ hj1
   subst x1
   try dsimp only at h
   simp only [Try.St_towncrierref01_SameTexts_1]
   refine .seq ?_
   refine .pl Try.S [] ?_
   have hq := Option.some.inj h
   subst r
   exact .ret ⟨.inr rfl, rsi⟩
def Try.St_towncrierref11_SameVotes_1 : St := ⟨[], [], 0⟩
attribute [local go_sem] Try.St_towncrierref11_SameVotes_1
def Try.St_towncrierref11_SameVotes_3 (a0 : List TSeen) (a1 : List TSeen) (n1 : Nat) : St := ⟨[(0, .imm 5 (a0.map TSeen.d) 4), (1, .imm 5 (a1.map TSeen.d) 4), (5, .int .i64 (n1 : Int))], [], 0⟩
attribute [local go_sem] Try.St_towncrierref11_SameVotes_3
theorem callP_towncrierref11_SameVotes (a0 : List TSeen) (a1 : List TSeen) (r : Bool) (h : m_towncrierref11_SameVotes a0 a1 = some r) : CallP Try.prog 47 [.imm 5 (a0.map TSeen.d) 4, .imm 5 (a1.map TSeen.d) 4] (.bool r) := by
 refine callP_intro Try.tmOk 2 Try.func47 rfl (by decide) rfl rfl (Nat.le_of_ble_eq_true rfl) ?_
 intro hwf
 unfold m_towncrierref11_SameVotes at h
 refine .seq ?_
 refine .pl Try.S [0, 1] ?_
 refine .seq ?_
 refine .seq ?_
 refine .pl Try.S [0, 1] ?_
 refine .cond rfl rfl (fun hc1 => ?_) (fun hc1 => ?_)
 ·skip
  replace h := ite_lc h hc1
  refine .seq ?_
  refine .pl Try.S [] ?_
  have hq := Option.some.inj h
  subst r
  exact .ret ⟨.inr rfl, rsi⟩
 ·skip
  replace h := ite_rc h hc1
  refine .skip ?_
  obtain ⟨x1, hx1, h⟩ := bind_some h
  refine .seqM 0 (fun (j : Unit) => Try.St_towncrierref11_SameVotes_1) (fun j => x1 = (.inr j)) (Nat.le_of_ble_eq_true rfl) ?_ ?_
  ·skip
   refine .seq ?_
   refine .pl Try.S [0, 1] ?_
   refine .block ?_
   refine .loopG 0 (fun (j : Nat) => Try.St_towncrierref11_SameVotes_3 a0 a1 j) (fun j => j ≤ a0.length ∧ m_towncrierref11_SameVotes_loop1 a1 (a0.drop j) j  = some x1) (fun j => a0.length - j) (0) (Nat.le_of_ble_eq_true rfl) ?_ ⟨Nat.zero_le _, hx1⟩ ?_
   ·skip
    exact .m [0, 1, 5] [] []
   rintro n1 ⟨hi1, hx1⟩
   simp only [Try.St_towncrierref11_SameVotes_3]
   refine .wf 0 (.imm 5 (a0.map TSeen.d) 4) rfl ?_
   intro hln1
   replace hln1 : (a0.length : Int) ≤ 9223372036854775807 := by simp only [wf, wfL, IntKind.max, IntKind.min, IntKind.signed, IntKind.bits, List.length_map] at hln1; first | exact hln1.2 | exact hln1.1 | (simp at hln1; omega)
   refine .seq ?_
   refine .seq ?_
   refine .pl Try.S [0, 1, 5] ?_
   refine .cond rfl rfl (fun hc2 => ?_) (fun hc2 => ?_)
   ·skip
    have h1 : n1 < a0.length := by simpa using hc2
    have hwn1 : wr .i64 ((n1 : Int) + 1) = ((n1 + 1 : Nat) : Int) := wr_succ h1 hln1
    have hpn1 : wr .i64 ((n1 : Int) - 1) = (n1 : Int) - 1 := wr_pred h1 hln1
    rw [List.drop_eq_getElem_cons h1, m_towncrierref11_SameVotes_loop1] at hx1
    refine .skip ?_
    refine .seq ?_
    refine .block ?_
    refine .seq ?_
    obtain ⟨k1, hx1⟩ := ite_ck hx1
    have e1 := nth_map TSeen.d a0 n1 h1
    have e2 := nth_mapD TSeen.d a1 n1
    replace e2 := e2 k1
    refine .rg Try.S [0, 1, 5] ?_
    refine .rdx 6 (And.intro e1 (And.intro e2 hwn1)) ?_
    refine .rdx 3 (And.intro e1 (And.intro e2 hwn1)) ?_
    refine .nil ⟨fun _ => schedB_of (by kernel_rfl), ?_⟩
    refine .cond rfl rfl (fun hc3 => ?_) (fun hc3 => ?_)
    ·skip
     replace hx1 := ite_lc hx1 hc3
     refine .seq ?_
     refine .plx Try.S hwn1 [] ?_
     have hq := Option.some.inj hx1
     subst x1
     try dsimp only at h
     have hq := Option.some.inj h
     subst r
     exact .ret ⟨.inr rfl, rsi⟩
    ·skip
     replace hx1 := ite_rc hx1 hc3
     refine .skip ?_
     refine .plx Try.S hwn1 [0, 1, 5] ?_
     refine ⟨n1 + 1, ?_, ⟨by omega, hx1⟩, by dsimp only; omega⟩
     exact .m [0, 1, 5] [] []
   ·skip
    have h2 : n1 = a0.length := by have h2b := of_decide_eq_false hc2; omega
    rw [List.drop_of_length_le (by omega), m_towncrierref11_SameVotes_loop1] at hx1
    refine .exit ?_
    refine ⟨_, ?_, (Option.some.inj hx1).symm⟩
    exact .m [] [] []
  ·skip
   rintro ⟨⟩ hj1
   subst x1
   try dsimp only at h
   simp only [Try.St_towncrierref11_SameVotes_1]
   refine .seq ?_
   refine .pl Try.S [] ?_
   have hq := Option.some.inj h
   subst r
   exact .ret ⟨.inr rfl, rsi⟩
def Try.St_towncrierref11_Same_1 : St := ⟨[], [], 2⟩
attribute [local go_sem] Try.St_towncrierref11_Same_1
def Try.St_towncrierref11_Same_3 (a0 : TStable) (a1 : TStable) (n1 : Nat) : St := ⟨[(2, .ptr 0 0), (3, .ptr 1 0), (5, .int .i64 (n1 : Int))], [(0, .box [.imm 1 (a0.Logs.map dL_str) 4, .imm 5 (a0.Votes.map TSeen.d) 4]), (1, .box [.imm 1 (a1.Logs.map dL_str) 4, .imm 5 (a1.Votes.map TSeen.d) 4])], 2⟩
attribute [local go_sem] Try.St_towncrierref11_Same_3
theorem callP_towncrierref11_Same (a0 : TStable) (a1 : TStable) (r : Bool) (h : m_towncrierref11_Same a0 a1 = some r) : CallP Try.prog 18 [.agg [.imm 1 (a0.Logs.map dL_str) 4, .imm 5 (a0.Votes.map TSeen.d) 4], .agg [.imm 1 (a1.Logs.map dL_str) 4, .imm 5 (a1.Votes.map TSeen.d) 4]] (.bool r) := by
 refine callP_intro Try.tmOk 4 Try.func18 rfl (by decide) rfl rfl (Nat.le_of_ble_eq_true rfl) ?_
 intro hwf
 unfold m_towncrierref11_Same at h
 refine .seq ?_
 refine .pl Try.S [0, 1] ?_
 refine .seq ?_
 refine .seq ?_
 obtain ⟨v1, hv1, h⟩ := bind_some h
 refine .rg Try.S [2, 3] ?_
 refine .rn 6 ?_
 refine .rn 6 ?_
 refine .gcall (r := .bool v1) rfl rfl rfl rfl rfl (fun hg => ⟨[], [.imm 5 (a0.Votes.map TSeen.d) 4, .imm 5 (a1.Votes.map TSeen.d) 4], _, rfl, gd hg, rfl, (callP_towncrierref11_SameVotes a0.Votes a1.Votes v1 (ite_lc hv1 hg))⟩) ?_
 refine .rn 2 ?_
 refine .nil ⟨nofun, ?_⟩
 refine .cond rfl rfl (fun hc1 => ?_) (fun hc1 => ?_)
 ·skip
  replace h := ite_lc h hc1
  refine .seq ?_
  refine .pl Try.S [] ?_
  have hq := Option.some.inj h
  subst r
  exact .ret ⟨.inr rfl, rsi⟩
 ·skip
  replace h := ite_rc h hc1
  refine .skip ?_
  obtain ⟨x1, hx1, h⟩ := bind_some h
  refine .seqM 2 (fun (j : Unit) => Try.St_towncrierref11_Same_1) (fun j => x1 = (.inr j)) (Nat.le_of_ble_eq_true rfl) ?_ ?_
  ·skip
   refine .seq ?_
   refine .pl Try.S [2, 3] ?_
   refine .block ?_
   refine .loopG 2 (fun (j : Nat) => Try.St_towncrierref11_Same_3 a0 a1 j) (fun j => j ≤ a0.Logs.length ∧ m_towncrierref11_Same_loop1 a1 (a0.Logs.drop j) j  = some x1) (fun j => a0.Logs.length - j) (0) (Nat.le_of_ble_eq_true rfl) ?_ ⟨Nat.zero_le _, hx1⟩ ?_
   ·skip
    exact .m [2, 3, 5] [0, 1] []
   rintro n1 ⟨hi1, hx1⟩
   simp only [Try.St_towncrierref11_Same_3]
   refine .wfb 0 [.imm 1 (a0.Logs.map dL_str) 4, .imm 5 (a0.Votes.map TSeen.d) 4] rfl ?_
   intro hln1
   replace hln1 : (a0.Logs.length : Int) ≤ 9223372036854775807 := by simp only [wf, wfL, IntKind.max, IntKind.min, IntKind.signed, IntKind.bits, List.length_map] at hln1; first | exact hln1.2 | exact hln1.1 | (simp at hln1; omega)
   refine .seq ?_
   refine .seq ?_
   refine .pl Try.S [2, 3, 5] ?_
   refine .cond rfl rfl (fun hc2 => ?_) (fun hc2 => ?_)
   ·skip
    have h1 : n1 < a0.Logs.length := by simpa using hc2
    have hwn1 : wr .i64 ((n1 : Int) + 1) = ((n1 + 1 : Nat) : Int) := wr_succ h1 hln1
    have hpn1 : wr .i64 ((n1 : Int) - 1) = (n1 : Int) - 1 := wr_pred h1 hln1
    rw [List.drop_eq_getElem_cons h1, m_towncrierref11_Same_loop1] at hx1
    refine .skip ?_
    refine .seq ?_
    refine .block ?_
    refine .seq ?_
    obtain ⟨k1, hx1⟩ := ite_ck hx1
    obtain ⟨v2, hv2, hx1⟩ := bind_some hx1
    have e1 := nth_map dL_str a0.Logs n1 h1
    have e2 := nth_mapD dL_str a1.Logs n1
    replace e2 := e2 k1
    refine .rg Try.S [2, 3, 5] ?_
    refine .rdx 6 (And.intro e1 (And.intro e2 hwn1)) ?_
    refine .rdx 4 (And.intro e1 (And.intro e2 hwn1)) ?_
    refine .call (r := .bool v2) rfl rfl rfl rfl rfl rfl (callP_towncrierref01_SameTexts (a0.Logs[n1]) (a1.Logs.getD n1 default) v2 hv2) ?_
    refine .rdx 1 (And.intro e1 (And.intro e2 hwn1)) ?_
    refine .nil ⟨fun _ => schedB_of (by kernel_rfl), ?_⟩
    refine .cond rfl rfl (fun hc3 => ?_) (fun hc3 => ?_)
    ·skip
     replace hx1 := ite_lc hx1 hc3
     refine .seq ?_
     refine .plx Try.S hwn1 [] ?_
     have hq := Option.some.inj hx1
     subst x1
     try dsimp only at h
     have hq := Option.some.inj h
     subst r
     exact .ret ⟨.inr rfl, rsi⟩
    ·skip
     replace hx1 := ite_rc hx1 hc3
     refine .skip ?_
     refine .plx Try.S hwn1 [2, 3, 5] ?_
     refine ⟨n1 + 1, ?_, ⟨by omega, hx1⟩, by dsimp only; omega⟩
     exact .m [2, 3, 5] [0, 1] []
   ·skip
    have h2 : n1 = a0.Logs.length := by have h2b := of_decide_eq_false hc2; omega
    rw [List.drop_of_length_le (by omega), m_towncrierref11_Same_loop1] at hx1
    refine .exit ?_
    refine ⟨_, ?_, (Option.some.inj hx1).symm⟩
    exact .m [] [] []
  ·skip
   rintro ⟨⟩ hj1
   subst x1
   try dsimp only at h
   simp only [Try.St_towncrierref11_Same_1]
   refine .seq ?_
   refine .pl Try.S [] ?_
   have hq := Option.some.inj h
   subst r
   exact .ret ⟨.inr rfl, rsi⟩
def Try.St_towncrierref11_Vote_1 : St := ⟨[(6, .ptr 0 0)], [(0, .box [.int .i64 0, .int .i64 0, .str []])], 1⟩
attribute [local go_sem] Try.St_towncrierref11_Vote_1
def Try.St_towncrierref11_Vote_3 (a0 : List TSeen) (a1 : Int) (a2 : Int) (n1 : Nat) : St := ⟨[(0, .imm 5 (a0.map TSeen.d) 4), (1, .int .i64 a1), (2, .int .i64 a2), (6, .ptr 0 0), (7, .int .i64 (n1 : Int))], [(0, .box [.int .i64 0, .int .i64 0, .str []])], 1⟩
attribute [local go_sem] Try.St_towncrierref11_Vote_3
theorem callP_towncrierref11_Vote (a0 : List TSeen) (a1 : Int) (a2 : Int) (r : TVote) (h : m_towncrierref11_Vote a0 a1 a2 = some r) : CallP Try.prog 41 [.imm 5 (a0.map TSeen.d) 4, .int .i64 a1, .int .i64 a2] (.agg [.int .i64 r.Promised, .int .i64 r.Ballot, .str r.Value]) := by
 refine callP_intro Try.tmOk 3 Try.func41 rfl (by decide) rfl rfl (Nat.le_of_ble_eq_true rfl) ?_
 intro hwf
 unfold m_towncrierref11_Vote at h
 refine .seq ?_
 refine .pl Try.S [0, 1, 2] ?_
 obtain ⟨x1, hx1, h⟩ := bind_some h
 refine .seqM 1 (fun (j : Unit) => Try.St_towncrierref11_Vote_1) (fun j => x1 = (.inr j)) (Nat.le_of_ble_eq_true rfl) ?_ ?_
 ·skip
  refine .seq ?_
  refine .pl Try.S [0, 1, 2, 6] ?_
  refine .block ?_
  refine .loopG 1 (fun (j : Nat) => Try.St_towncrierref11_Vote_3 a0 a1 a2 j) (fun j => j ≤ a0.length ∧ m_towncrierref11_Vote_loop1 a1 a2 (a0.drop j)  = some x1) (fun j => a0.length - j) (0) (Nat.le_of_ble_eq_true rfl) ?_ ⟨Nat.zero_le _, hx1⟩ ?_
  ·skip
   exact .m [0, 1, 2, 6, 7] [0] []
  rintro n1 ⟨hi1, hx1⟩
  simp only [Try.St_towncrierref11_Vote_3]
  refine .wf 0 (.imm 5 (a0.map TSeen.d) 4) rfl ?_
  intro hln1
  replace hln1 : (a0.length : Int) ≤ 9223372036854775807 := by simp only [wf, wfL, IntKind.max, IntKind.min, IntKind.signed, IntKind.bits, List.length_map] at hln1; first | exact hln1.2 | exact hln1.1 | (simp at hln1; omega)
  refine .seq ?_
  refine .seq ?_
  refine .pl Try.S [0, 1, 2, 6, 7] ?_
  refine .cond rfl rfl (fun hc1 => ?_) (fun hc1 => ?_)
  ·skip
   have h1 : n1 < a0.length := by simpa using hc1
   have hwn1 : wr .i64 ((n1 : Int) + 1) = ((n1 + 1 : Nat) : Int) := wr_succ h1 hln1
   have hpn1 : wr .i64 ((n1 : Int) - 1) = (n1 : Int) - 1 := wr_pred h1 hln1
   rw [List.drop_eq_getElem_cons h1, m_towncrierref11_Vote_loop1] at hx1
   refine .skip ?_
   refine .seq ?_
   refine .block ?_
   refine .seq ?_
   have e1 := nth_map TSeen.d a0 n1 h1
   have e2 := nth_map TSeen.d a0 n1 h1
   refine .rg Try.S [0, 1, 2, 6, 7] ?_
   refine .rnx 6 (And.intro e1 (And.intro e2 hwn1)) ?_
   refine .rnx 6 (And.intro e1 (And.intro e2 hwn1)) ?_
   refine .rnx 4 (And.intro e1 (And.intro e2 hwn1)) ?_
   refine .nil ⟨nofun, ?_⟩
   refine .cond rfl rfl (fun hc2 => ?_) (fun hc2 => ?_)
   ·skip
    replace hx1 := ite_lc hx1 hc2
    refine .seq ?_
    have e3 := nth_map TSeen.d a0 n1 h1
    refine .plx Try.S (And.intro e3 hwn1) [0, 6, 7] ?_
    have hq := Option.some.inj hx1
    subst x1
    try dsimp only at h
    have hq := Option.some.inj h
    subst r
    exact .ret ⟨.inr rfl, rsi⟩
   ·skip
    replace hx1 := ite_rc hx1 hc2
    refine .skip ?_
    refine .plx Try.S hwn1 [0, 1, 2, 6, 7] ?_
    refine ⟨n1 + 1, ?_, ⟨by omega, hx1⟩, by dsimp only; omega⟩
    exact .m [0, 1, 2, 6, 7] [0] []
  ·skip
   have h2 : n1 = a0.length := by have h2b := of_decide_eq_false hc1; omega
   rw [List.drop_of_length_le (by omega), m_towncrierref11_Vote_loop1] at hx1
   refine .exit ?_
   refine ⟨_, ?_, (Option.some.inj hx1).symm⟩
   exact .m [6] [0] []
 ·skip
  rintro ⟨⟩ hj1
  subst x1
  try dsimp only at h
  simp only [Try.St_towncrierref11_Vote_1]
  refine .seq ?_
  refine .pl Try.S [6] ?_
  have hq := Option.some.inj h
  subst r
  exact .ret ⟨.inr rfl, rsi⟩
def Try.St_towncrierref11_With_1 (a0 : List TSeen) (a1 : TSeen) (l1 : List TSeen) : St := ⟨[(0, .imm 5 (a0.map TSeen.d) 4), (3, .ptr 0 0), (5, .ref 1 5 0 l1.length (some unkC))], [(0, .box [.int .i64 a1.Group, .int .i64 a1.Slot, .int .i64 a1.Vote.Promised, .int .i64 a1.Vote.Ballot, .str a1.Vote.Value]), (1, .arr 67 5 true (l1.map TSeen.d))], 2⟩
attribute [local go_sem] Try.St_towncrierref11_With_1
def Try.St_towncrierref11_With_3 (a0 : List TSeen) (a1 : TSeen) (n1 : Nat) (l2 : List TSeen) : St := ⟨[(0, .imm 5 (a0.map TSeen.d) 4), (3, .ptr 0 0), (5, .ref 1 5 0 l2.length (some unkC)), (6, .int .i64 (n1 : Int))], [(0, .box [.int .i64 a1.Group, .int .i64 a1.Slot, .int .i64 a1.Vote.Promised, .int .i64 a1.Vote.Ballot, .str a1.Vote.Value]), (1, .arr 67 5 true (l2.map TSeen.d))], 2⟩
attribute [local go_sem] Try.St_towncrierref11_With_3
def Try.St_towncrierref11_With_5 (a0 : List TSeen) (a1 : TSeen) (n1 : Nat) (l3 : List TSeen) : St := ⟨[(0, .imm 5 (a0.map TSeen.d) 4), (3, .ptr 0 0), (5, .ref 2 5 0 l3.length (some unkC)), (6, .int .i64 (n1 : Int))], [(0, .box [.int .i64 a1.Group, .int .i64 a1.Slot, .int .i64 a1.Vote.Promised, .int .i64 a1.Vote.Ballot, .str a1.Vote.Value]), (2, .arr 67 5 true (l3.map TSeen.d))], 3⟩
attribute [local go_sem] Try.St_towncrierref11_With_5
def Try.St_towncrierref11_With_7 (a0 : List TSeen) (a1 : TSeen) (l4 : List TSeen) : St := ⟨[(0, .imm 5 (a0.map TSeen.d) 4), (3, .ptr 0 0), (5, .ref 2 5 0 l4.length (some unkC))], [(0, .box [.int .i64 a1.Group, .int .i64 a1.Slot, .int .i64 a1.Vote.Promised, .int .i64 a1.Vote.Ballot, .str a1.Vote.Value]), (2, .arr 67 5 true (l4.map TSeen.d))], 3⟩
attribute [local go_sem] Try.St_towncrierref11_With_7
def Try.St_towncrierref11_With_9 (l5 : List TSeen) : St := ⟨[(5, .ref 3 5 0 l5.length (some unkC))], [(3, .arr 67 5 true (l5.map TSeen.d))], 4⟩
attribute [local go_sem] Try.St_towncrierref11_With_9
def Try.St_towncrierref11_With_11 (a0 : List TSeen) (a1 : TSeen) (n2 : Nat) (l6 : List TSeen) : St := ⟨[(0, .imm 5 (a0.map TSeen.d) 4), (3, .ptr 0 0), (5, .ref 3 5 0 l6.length (some unkC)), (7, .int .i64 (n2 : Int))], [(0, .box [.int .i64 a1.Group, .int .i64 a1.Slot, .int .i64 a1.Vote.Promised, .int .i64 a1.Vote.Ballot, .str a1.Vote.Value]), (3, .arr 67 5 true (l6.map TSeen.d))], 4⟩
attribute [local go_sem] Try.St_towncrierref11_With_11
def Try.St_towncrierref11_With_13 (a0 : List TSeen) (a1 : TSeen) (n2 : Nat) (l7 : List TSeen) : St := ⟨[(0, .imm 5 (a0.map TSeen.d) 4), (3, .ptr 0 0), (5, .ref 4 5 0 l7.length (some unkC)), (7, .int .i64 (n2 : Int))], [(0, .box [.int .i64 a1.Group, .int .i64 a1.Slot, .int .i64 a1.Vote.Promised, .int .i64 a1.Vote.Ballot, .str a1.Vote.Value]), (4, .arr 67 5 true (l7.map TSeen.d))], 5⟩
attribute [local go_sem] Try.St_towncrierref11_With_13
def Try.Re_towncrierref11_With (r : (List TSeen)) : St := ⟨[(4, .ref 0 5 0 r.length (some unkC))], [(0, .arr 67 5 true (r.map TSeen.d))], 1⟩
attribute [local go_sem] Try.Re_towncrierref11_With
theorem callH_towncrierref11_With (a0 : List TSeen) (a1 : TSeen) (r : (List TSeen)) (h : m_towncrierref11_With a0 a1 = some r) : CallH Try.prog 44 [.imm 5 (a0.map TSeen.d) 4, .agg [.int .i64 a1.Group, .int .i64 a1.Slot, .int .i64 a1.Vote.Promised, .int .i64 a1.Vote.Ballot, .str a1.Vote.Value]] [] (.ref 0 5 0 r.length (some unkC)) [(0, some (.arr 67 5 true (r.map TSeen.d)))] (0, 8) := by
 refine callH_intro' Try.tmOk Try.func44 rfl (by decide) (Nat.le_of_ble_eq_true rfl) (by simp) ?_
 intro hwf
 unfold m_towncrierref11_With at h
 refine .ends 0 (Nat.le_refl _) ?_
 refine .seq ?_
 refine .pl Try.S [0, 1] ?_
 refine .seq ?_
 refine .pl Try.S [0, 3] ?_
 obtain ⟨x1, hx1, h⟩ := bind_some h
 refine .seqM 1 (fun (j : (List TSeen)) => Try.St_towncrierref11_With_1 a0 a1 j) (fun j => x1 = j) (Nat.le_of_ble_eq_true rfl) ?_ ?_
 ·skip
  refine .seq ?_
  refine .pl Try.S [0, 3, 5] ?_
  refine .block ?_
  refine .loopG 1 (fun (j : Nat × (List TSeen)) => Try.St_towncrierref11_With_3 a0 a1 j.1 j.2) (fun j => j.1 ≤ a0.length ∧ m_towncrierref11_With_loop1 a1 (a0.drop j.1) j.2 = some x1) (fun j => a0.length - j.1) (0, []) (Nat.le_of_ble_eq_true rfl) ?_ ⟨Nat.zero_le _, hx1⟩ ?_
  ·skip
   refine Goes.new0 5 67 (Nat.le_of_ble_eq_true rfl) ?_
   refine Goes.wk 5 _ (.ref 1 5 0 0 (some unkC)) rfl (.own0 1 _ _ _ (by decide)) ?_
   exact .m [0, 3, 5, 6] [0, 1] []
  rintro ⟨n1, l2⟩ ⟨hi1, hx1⟩
  simp only [Try.St_towncrierref11_With_3]
  simp only at hi1 hx1
  refine .wf 0 (.imm 5 (a0.map TSeen.d) 4) rfl ?_
  intro hln1
  replace hln1 : (a0.length : Int) ≤ 9223372036854775807 := by simp only [wf, wfL, IntKind.max, IntKind.min, IntKind.signed, IntKind.bits, List.length_map] at hln1; first | exact hln1.2 | exact hln1.1 | (simp at hln1; omega)
  refine .seq ?_
  refine .seq ?_
  refine .pl Try.S [0, 3, 5, 6] ?_
  refine .cond rfl rfl (fun hc1 => ?_) (fun hc1 => ?_)
  ·skip
   have h1 : n1 < a0.length := by simpa using hc1
   have hwn1 : wr .i64 ((n1 : Int) + 1) = ((n1 + 1 : Nat) : Int) := wr_succ h1 hln1
   have hpn1 : wr .i64 ((n1 : Int) - 1) = (n1 : Int) - 1 := wr_pred h1 hln1
   rw [List.drop_eq_getElem_cons h1, m_towncrierref11_With_loop1_c] at hx1
   refine .skip ?_
   obtain ⟨x2, hx2, hx1⟩ := bind_some hx1
   refine .seqM 2 (fun (j : (List TSeen)) => Try.St_towncrierref11_With_5 a0 a1 n1 j) (fun j => x2 = j) (Nat.le_of_ble_eq_true rfl) ?_ ?_
   ·skip
    refine .block ?_
    refine .seq ?_
    obtain ⟨v1, hv1, hx2⟩ := bind_some hx2
    have e1 := nth_map TSeen.d a0 n1 h1
    refine .rg Try.S [0, 3, 5, 6] ?_
    refine .rdx 5 (And.intro e1 hwn1) ?_
    refine .call (r := .bool v1) rfl rfl rfl rfl rfl rfl (callP_towncrierref11_ahead (a0[n1]) a1 v1 hv1) ?_
    refine .nil ⟨fun _ => schedB_of (by kernel_rfl), ?_⟩
    refine .cond rfl rfl (fun hc2 => ?_) (fun hc2 => ?_)
    ·skip
     replace hx2 := ite_lc hx2 hc2
     obtain ⟨k1, hx2⟩ := ite_ck hx2
     have e2 := nth_map TSeen.d a0 n1 h1
     refine .plx Try.S (And.intro e2 hwn1) [0, 3, 5, 6] ?_
     refine ⟨_, ?_, (Option.some.inj hx2).symm⟩
     exact .m [0, 3, 5, 6] [0, 3] [(3, 2)]
    ·skip
     replace hx2 := ite_rc hx2 hc2
     refine .skip ?_
     refine ⟨_, ?_, (Option.some.inj hx2).symm⟩
     exact .m [0, 3, 5, 6] [0, 1] [(1, 2)]
   ·skip
    rintro l3 hj1
    subst x2
    try dsimp only at hx1
    simp only [Try.St_towncrierref11_With_5]
    refine .plx Try.S hwn1 [0, 3, 5, 6] ?_
    refine ⟨(n1 + 1, _), ?_, ⟨by omega, hx1⟩, by dsimp only; omega⟩
    exact .m [0, 3, 5, 6] [0, 2] [(2, 1)]
  ·skip
   have h2 : n1 = a0.length := by have h2b := of_decide_eq_false hc1; omega
   rw [List.drop_of_length_le (by omega), m_towncrierref11_With_loop1_n] at hx1
   refine .exit ?_
   refine ⟨_, ?_, (Option.some.inj hx1).symm⟩
   exact .m [0, 3, 5] [0, 1] []
 ·skip
  rintro l1 hj2
  subst x1
  try dsimp only at h
  simp only [Try.St_towncrierref11_With_1]
  obtain ⟨x3, hx3, h⟩ := bind_some h
  refine .seqM 2 (fun (j : (List TSeen)) => Try.St_towncrierref11_With_7 a0 a1 j) (fun j => x3 = j) (Nat.le_of_ble_eq_true rfl) ?_ ?_
  ·skip
   refine .seq ?_
   refine .pl Try.S [0, 3, 5] ?_
   refine .cond rfl rfl (fun hc3 => ?_) (fun hc3 => ?_)
   ·skip
    replace hx3 := ite_lc hx3 hc3
    obtain ⟨k2, hx3⟩ := ite_ck hx3
    refine .pl Try.S [0, 3, 5] ?_
    refine ⟨_, ?_, (Option.some.inj hx3).symm⟩
    exact .m [0, 3, 5] [0, 3] [(3, 2)]
   ·skip
    replace hx3 := ite_rc hx3 hc3
    refine .skip ?_
    refine ⟨_, ?_, (Option.some.inj hx3).symm⟩
    exact .m [0, 3, 5] [0, 1] [(1, 2)]
  ·skip
   rintro l4 hj3
   subst x3
   try dsimp only at h
   simp only [Try.St_towncrierref11_With_7]
   obtain ⟨x4, hx4, h⟩ := bind_some h
   refine .seqM 3 (fun (j : (List TSeen)) => Try.St_towncrierref11_With_9 j) (fun j => x4 = j) (Nat.le_of_ble_eq_true rfl) ?_ ?_
   ·skip
    refine .seq ?_
    refine .pl Try.S [0, 3, 5] ?_
    refine .block ?_
    refine .loopG 3 (fun (j : Nat × (List TSeen)) => Try.St_towncrierref11_With_11 a0 a1 j.1 j.2) (fun j => j.1 ≤ a0.length ∧ m_towncrierref11_With_loop2 a1 (a0.drop j.1) j.2 = some x4) (fun j => a0.length - j.1) (0, l4) (Nat.le_of_ble_eq_true rfl) ?_ ⟨Nat.zero_le _, hx4⟩ ?_
    ·skip
     exact .m [0, 3, 5, 7] [0, 2] [(2, 3)]
    rintro ⟨n2, l6⟩ ⟨hi2, hx4⟩
    simp only [Try.St_towncrierref11_With_11]
    simp only at hi2 hx4
    refine .wf 0 (.imm 5 (a0.map TSeen.d) 4) rfl ?_
    intro hln2
    replace hln2 : (a0.length : Int) ≤ 9223372036854775807 := by simp only [wf, wfL, IntKind.max, IntKind.min, IntKind.signed, IntKind.bits, List.length_map] at hln2; first | exact hln2.2 | exact hln2.1 | (simp at hln2; omega)
    refine .seq ?_
    refine .seq ?_
    refine .pl Try.S [0, 3, 5, 7] ?_
    refine .cond rfl rfl (fun hc4 => ?_) (fun hc4 => ?_)
    ·skip
     have h3 : n2 < a0.length := by simpa using hc4
     have hwn2 : wr .i64 ((n2 : Int) + 1) = ((n2 + 1 : Nat) : Int) := wr_succ h3 hln2
     have hpn2 : wr .i64 ((n2 : Int) - 1) = (n2 : Int) - 1 := wr_pred h3 hln2
     rw [List.drop_eq_getElem_cons h3, m_towncrierref11_With_loop2_c] at hx4
     refine .skip ?_
     obtain ⟨x5, hx5, hx4⟩ := bind_some hx4
     refine .seqM 4 (fun (j : (List TSeen)) => Try.St_towncrierref11_With_13 a0 a1 n2 j) (fun j => x5 = j) (Nat.le_of_ble_eq_true rfl) ?_ ?_
     ·skip
      refine .block ?_
      refine .seq ?_
      obtain ⟨v2, hv2, hx5⟩ := bind_some hx5
      have e3 := nth_map TSeen.d a0 n2 h3
      refine .rg Try.S [0, 3, 5, 7] ?_
      refine .rdx 5 (And.intro e3 hwn2) ?_
      refine .call (r := .bool v2) rfl rfl rfl rfl rfl rfl (callP_towncrierref11_ahead a1 (a0[n2]) v2 hv2) ?_
      refine .nil ⟨fun _ => schedB_of (by kernel_rfl), ?_⟩
      refine .cond rfl rfl (fun hc5 => ?_) (fun hc5 => ?_)
      ·skip
       replace hx5 := ite_lc hx5 hc5
       obtain ⟨k3, hx5⟩ := ite_ck hx5
       have e4 := nth_map TSeen.d a0 n2 h3
       refine .plx Try.S (And.intro e4 hwn2) [0, 3, 5, 7] ?_
       refine ⟨_, ?_, (Option.some.inj hx5).symm⟩
       exact .m [0, 3, 5, 7] [0, 5] [(5, 4)]
      ·skip
       replace hx5 := ite_rc hx5 hc5
       refine .skip ?_
       refine ⟨_, ?_, (Option.some.inj hx5).symm⟩
       exact .m [0, 3, 5, 7] [0, 3] [(3, 4)]
     ·skip
      rintro l7 hj4
      subst x5
      try dsimp only at hx4
      simp only [Try.St_towncrierref11_With_13]
      refine .plx Try.S hwn2 [0, 3, 5, 7] ?_
      refine ⟨(n2 + 1, _), ?_, ⟨by omega, hx4⟩, by dsimp only; omega⟩
      exact .m [0, 3, 5, 7] [0, 4] [(4, 3)]
    ·skip
     have h4 : n2 = a0.length := by have h4b := of_decide_eq_false hc4; omega
     rw [List.drop_of_length_le (by omega), m_towncrierref11_With_loop2_n] at hx4
     refine .exit ?_
     refine ⟨_, ?_, (Option.some.inj hx4).symm⟩
     exact .m [5] [3] []
   ·skip
    rintro l5 hj5
    subst x4
    try dsimp only at h
    simp only [Try.St_towncrierref11_With_9]
    refine .seq ?_
    refine .pl Try.S [5] ?_
    have hq := Option.some.inj h
    subst r
    refine .ret ⟨Try.Re_towncrierref11_With l5, ?_, .inr rfl, retH [0] ?_ ?_⟩
    ·skip
     exact .m [4] [3] [(3, 0)]
    ·exact rsi0
    ·rfl
theorem callP_towncrierref11_At (a0 : TStable) (a1 : Int) (a2 : Int) (r : TVote × Int) (h : m_towncrierref11_At a0 a1 a2 = some r) : CallP Try.prog 16 [.agg [.imm 1 (a0.Logs.map dL_str) 4, .imm 5 (a0.Votes.map TSeen.d) 4], .int .i64 a1, .int .i64 a2] (.tuple [.agg [.int .i64 r.1.Promised, .int .i64 r.1.Ballot, .str r.1.Value], .int .i64 r.2]) := by
 refine callP_intro Try.tmOk 4 Try.func16 rfl (by decide) rfl rfl (Nat.le_of_ble_eq_true rfl) ?_
 intro hwf
 unfold m_towncrierref11_At at h
 refine .seq ?_
 refine .pl Try.S [0, 1, 2] ?_
 refine .seq ?_
 refine .seq ?_
 obtain ⟨v1, hv1, h⟩ := bind_some h
 refine .rg Try.S [1, 2, 3, 6] ?_
 refine .rn 1 ?_
 refine .call (r := .bool v1) rfl rfl rfl rfl rfl rfl (callP_towncrierref11_May a0 v1 hv1) ?_
 refine .rn 1 ?_
 refine .nil ⟨nofun, ?_⟩
 refine .cond rfl rfl (fun hc1 => ?_) (fun hc1 => ?_)
 ·skip
  replace h := ite_lc h hc1
  refine .seq ?_
  refine .pl Try.S [6] ?_
  have hq := Option.some.inj h
  subst r
  exact .ret ⟨.inr rfl, rsi⟩
 ·skip
  replace h := ite_rc h hc1
  refine .skip ?_
  refine .seq ?_
  refine .seq ?_
  refine .rg Try.S [1, 2, 3, 6] ?_
  refine .rn 6 ?_
  refine .rn 3 ?_
  refine .nil ⟨nofun, ?_⟩
  refine .cond rfl rfl (fun hc2 => ?_) (fun hc2 => ?_)
  ·skip
   replace h := ite_lc h hc2
   refine .seq ?_
   refine .pl Try.S [6] ?_
   have hq := Option.some.inj h
   subst r
   exact .ret ⟨.inr rfl, rsi⟩
  ·skip
   replace h := ite_rc h hc2
   refine .skip ?_
   refine .seq ?_
   refine .seq ?_
   refine .pl Try.S [1, 2, 3, 6] ?_
   refine .cond rfl rfl (fun hc3 => ?_) (fun hc3 => ?_)
   ·skip
    replace h := ite_lc h hc3
    refine .seq ?_
    refine .pl Try.S [6] ?_
    have hq := Option.some.inj h
    subst r
    exact .ret ⟨.inr rfl, rsi⟩
   ·skip
    replace h := ite_rc h hc3
    refine .skip ?_
    refine .seq ?_
    obtain ⟨v2, hv2, h⟩ := bind_some h
    refine .rg Try.S [1, 2, 3, 6] ?_
    refine .rn 4 ?_
    refine .call (r := .agg [.int .i64 v2.Promised, .int .i64 v2.Ballot, .str v2.Value]) rfl rfl rfl rfl rfl rfl (callP_towncrierref11_Vote a0.Votes a1 a2 v2 hv2) ?_
    refine .rn 2 ?_
    refine .nil ⟨nofun, ?_⟩
    have hq := Option.some.inj h
    subst r
    exact .ret ⟨.inr rfl, rsi⟩
def Try.St_towncrierref01_Great_1 (l : List (List UInt8)) (n1 : Int) : St := ⟨[(0, .imm 1 (l.map D.str) 4), (3, .int .i64 n1)], [], 0⟩
attribute [local go_sem] Try.St_towncrierref01_Great_1
def Try.St_towncrierref01_Great_3 (l : List (List UInt8)) (n3 : Nat) (n2 : Int) : St := ⟨[(0, .imm 1 (l.map D.str) 4), (3, .int .i64 n2), (4, .int .i64 (n3 : Int))], [], 0⟩
attribute [local go_sem] Try.St_towncrierref01_Great_3
theorem callP_towncrierref01_Great (l : List (List UInt8)) (r : Bool) (h : m_towncrierref01_Great l = some r) : CallP Try.prog 22 [.imm 1 (l.map D.str) 4] (.bool r) := by
 refine callP_intro Try.tmOk 2 Try.func22 rfl (by decide) rfl rfl (Nat.le_of_ble_eq_true rfl) ?_
 intro hwf
 unfold m_towncrierref01_Great at h
 refine .seq ?_
 refine .pl Try.S [0] ?_
 refine .seq ?_
 refine .pl Try.S [0] ?_
 obtain ⟨x1, hx1, h⟩ := bind_some h
 refine .seqM 0 (fun (j : Int) => Try.St_towncrierref01_Great_1 l j) (fun j => x1 = j) (Nat.le_of_ble_eq_true rfl) ?_ ?_
 ·skip
  refine .seq ?_
  refine .pl Try.S [0, 3] ?_
  refine .block ?_
  refine .loopG 0 (fun (j : Nat × Int) => Try.St_towncrierref01_Great_3 l j.1 j.2) (fun j => j.1 ≤ l.length ∧ m_towncrierref01_Great_loop1 (l.drop j.1) j.1 j.2 = some x1) (fun j => l.length - j.1) (0, 0) (Nat.le_of_ble_eq_true rfl) ?_ ⟨Nat.zero_le _, hx1⟩ ?_
  ·skip
   exact .m [0, 3, 4] [] []
  rintro ⟨n3, n2⟩ ⟨hi1, hx1⟩
  simp only [Try.St_towncrierref01_Great_3]
  simp only at hi1 hx1
  refine .wf 0 (.imm 1 (l.map D.str) 4) rfl ?_
  intro hln3
  replace hln3 : (l.length : Int) ≤ 9223372036854775807 := by simp only [wf, wfL, IntKind.max, IntKind.min, IntKind.signed, IntKind.bits, List.length_map] at hln3; first | exact hln3.2 | exact hln3.1 | (simp at hln3; omega)
  refine .seq ?_
  refine .seq ?_
  refine .pl Try.S [0, 3, 4] ?_
  refine .cond rfl rfl (fun hc1 => ?_) (fun hc1 => ?_)
  ·skip
   have h1 : n3 < l.length := by have hq := hc1; simp at hq; omega
   have hwn3 : wr .i64 ((n3 : Int) + 1) = ((n3 + 1 : Nat) : Int) := wr_succ h1 hln3
   have hpn3 : wr .i64 ((n3 : Int) - 1) = (n3 : Int) - 1 := wr_pred h1 hln3
   rw [List.drop_eq_getElem_cons h1, m_towncrierref01_Great_loop1_c] at hx1
   replace hx1 := ite_lc hx1 hc1
   refine .skip ?_
   refine .seq ?_
   refine .block ?_
   have e1 := nth_map D.str l n3 h1
   refine .rg Try.S [0, 3, 4] ?_
   refine .rnx 6 (And.intro e1 hwn3) ?_
   refine .rnx 3 (And.intro e1 hwn3) ?_
   refine .nil ⟨nofun, ?_⟩
   refine .plx Try.S hwn3 [0, 3, 4] ?_
   refine ⟨(n3 + 1, _), ?_, ⟨by omega, hx1⟩, by dsimp only; omega⟩
   exact .m [0, 3, 4] [] []
  ·skip
   by_cases h2 : n3 < l.length
   ·skip
    rw [List.drop_eq_getElem_cons h2, m_towncrierref01_Great_loop1_c] at hx1
    replace hx1 := ite_r hx1 (by have hq := hc1; simp at hq ⊢; first | exact hq (by omega) | omega | grind)
    refine .exit ?_
    refine ⟨_, ?_, (Option.some.inj hx1).symm⟩
    exact .m [0, 3] [] []
   ·skip
    rw [List.drop_of_length_le (by omega), m_towncrierref01_Great_loop1_n] at hx1
    refine .exit ?_
    refine ⟨_, ?_, (Option.some.inj hx1).symm⟩
    exact .m [0, 3] [] []
 ·skip
  rintro n1 hj1
  subst x1
  try dsimp only at h
  simp only [Try.St_towncrierref01_Great_1]
  refine .seq ?_
  refine .pl Try.S [0, 3] ?_
  have hq := Option.some.inj h
  subst r
  exact .ret ⟨.inr rfl, rsi⟩
def Try.St_towncrierref11_Great_1 (a0 : TStable) : St := ⟨[(1, .ptr 0 0), (3, .int .i64 0)], [(0, .box [.imm 1 (a0.Logs.map dL_str) 4, .imm 5 (a0.Votes.map TSeen.d) 4])], 1⟩
attribute [local go_sem] Try.St_towncrierref11_Great_1
def Try.St_towncrierref11_Great_3 (a0 : TStable) (n1 : Nat) : St := ⟨[(1, .ptr 0 0), (3, .int .i64 0), (4, .int .i64 (n1 : Int))], [(0, .box [.imm 1 (a0.Logs.map dL_str) 4, .imm 5 (a0.Votes.map TSeen.d) 4])], 1⟩
attribute [local go_sem] Try.St_towncrierref11_Great_3
def Try.St_towncrierref11_Great_5 (a0 : TStable) (n2 : Int) : St := ⟨[(1, .ptr 0 0), (3, .int .i64 n2)], [(0, .box [.imm 1 (a0.Logs.map dL_str) 4, .imm 5 (a0.Votes.map TSeen.d) 4])], 1⟩
attribute [local go_sem] Try.St_towncrierref11_Great_5
def Try.St_towncrierref11_Great_7 (a0 : TStable) (n4 : Nat) (n3 : Int) : St := ⟨[(1, .ptr 0 0), (3, .int .i64 n3), (5, .int .i64 (n4 : Int))], [(0, .box [.imm 1 (a0.Logs.map dL_str) 4, .imm 5 (a0.Votes.map TSeen.d) 4])], 1⟩
attribute [local go_sem] Try.St_towncrierref11_Great_7
theorem callP_towncrierref11_Great (a0 : TStable) (r : Bool) (h : m_towncrierref11_Great a0 = some r) : CallP Try.prog 9 [.agg [.imm 1 (a0.Logs.map dL_str) 4, .imm 5 (a0.Votes.map TSeen.d) 4]] (.bool r) := by
 refine callP_intro Try.tmOk 3 Try.func9 rfl (by decide) rfl rfl (Nat.le_of_ble_eq_true rfl) ?_
 intro hwf
 unfold m_towncrierref11_Great at h
 refine .seq ?_
 refine .pl Try.S [0] ?_
 refine .seq ?_
 refine .pl Try.S [1] ?_
 obtain ⟨x1, hx1, h⟩ := bind_some h
 refine .seqM 1 (fun (j : Unit) => Try.St_towncrierref11_Great_1 a0) (fun j => x1 = (.inr j)) (Nat.le_of_ble_eq_true rfl) ?_ ?_
 ·skip
  refine .seq ?_
  refine .pl Try.S [1, 3] ?_
  refine .block ?_
  refine .loopG 1 (fun (j : Nat) => Try.St_towncrierref11_Great_3 a0 j) (fun j => j ≤ a0.Logs.length ∧ m_towncrierref11_Great_loop1 (a0.Logs.drop j) j  = some x1) (fun j => a0.Logs.length - j) (0) (Nat.le_of_ble_eq_true rfl) ?_ ⟨Nat.zero_le _, hx1⟩ ?_
  ·skip
   exact .m [1, 3, 4] [0] []
  rintro n1 ⟨hi1, hx1⟩
  simp only [Try.St_towncrierref11_Great_3]
  refine .wfb 0 [.imm 1 (a0.Logs.map dL_str) 4, .imm 5 (a0.Votes.map TSeen.d) 4] rfl ?_
  intro hln1
  replace hln1 : (a0.Logs.length : Int) ≤ 9223372036854775807 := by simp only [wf, wfL, IntKind.max, IntKind.min, IntKind.signed, IntKind.bits, List.length_map] at hln1; first | exact hln1.2 | exact hln1.1 | (simp at hln1; omega)
  refine .seq ?_
  refine .seq ?_
  refine .rg Try.S [1, 3, 4] ?_
  refine .rn 6 ?_
  refine .rn 3 ?_
  refine .nil ⟨nofun, ?_⟩
  refine .cond rfl rfl (fun hc1 => ?_) (fun hc1 => ?_)
  ·skip
   have h1 : n1 < a0.Logs.length := by have hq := hc1; simp at hq; omega
   have hwn1 : wr .i64 ((n1 : Int) + 1) = ((n1 + 1 : Nat) : Int) := wr_succ h1 hln1
   have hpn1 : wr .i64 ((n1 : Int) - 1) = (n1 : Int) - 1 := wr_pred h1 hln1
   rw [List.drop_eq_getElem_cons h1, m_towncrierref11_Great_loop1] at hx1
   replace hx1 := ite_lc hx1 hc1
   refine .skip ?_
   refine .seq ?_
   refine .block ?_
   refine .seq ?_
   obtain ⟨v1, hv1, hx1⟩ := bind_some hx1
   have e1 := nth_map dL_str a0.Logs n1 h1
   refine .rg Try.S [1, 3, 4] ?_
   refine .rnx 5 (And.intro e1 hwn1) ?_
   refine .call (r := .bool v1) rfl rfl rfl rfl rfl rfl (callP_towncrierref01_Great (a0.Logs[n1]) v1 hv1) ?_
   refine .nil ⟨nofun, ?_⟩
   refine .cond rfl rfl (fun hc2 => ?_) (fun hc2 => ?_)
   ·skip
    replace hx1 := ite_lc hx1 hc2
    refine .seq ?_
    refine .plx Try.S hwn1 [] ?_
    have hq := Option.some.inj hx1
    subst x1
    try dsimp only at h
    have hq := Option.some.inj h
    subst r
    exact .ret ⟨.inr rfl, rsi⟩
   ·skip
    replace hx1 := ite_rc hx1 hc2
    refine .skip ?_
    refine .plx Try.S hwn1 [1, 3, 4] ?_
    refine ⟨n1 + 1, ?_, ⟨by omega, hx1⟩, by dsimp only; omega⟩
    exact .m [1, 3, 4] [0] []
  ·skip
   by_cases h2 : n1 < a0.Logs.length
   ·skip
    rw [List.drop_eq_getElem_cons h2, m_towncrierref11_Great_loop1] at hx1
    replace hx1 := ite_r hx1 (by have hq := hc1; simp at hq ⊢; first | exact hq (by omega) | omega | grind)
    refine .exit ?_
    refine ⟨_, ?_, (Option.some.inj hx1).symm⟩
    exact .m [1, 3] [0] []
   ·skip
    rw [List.drop_of_length_le (by omega), m_towncrierref11_Great_loop1] at hx1
    refine .exit ?_
    refine ⟨_, ?_, (Option.some.inj hx1).symm⟩
    exact .m [1, 3] [0] []
 ·skip
  rintro ⟨⟩ hj1
  subst x1
  try dsimp only at h
  simp only [Try.St_towncrierref11_Great_1]
  obtain ⟨x2, hx2, h⟩ := bind_some h
  refine .seqM 1 (fun (j : Int) => Try.St_towncrierref11_Great_5 a0 j) (fun j => x2 = j) (Nat.le_of_ble_eq_true rfl) ?_ ?_
  ·skip
   refine .seq ?_
   refine .pl Try.S [1, 3] ?_
   refine .block ?_
   refine .loopG 1 (fun (j : Nat × Int) => Try.St_towncrierref11_Great_7 a0 j.1 j.2) (fun j => j.1 ≤ a0.Votes.length ∧ m_towncrierref11_Great_loop2 (a0.Votes.drop j.1) j.1 j.2 = some x2) (fun j => a0.Votes.length - j.1) (0, 0) (Nat.le_of_ble_eq_true rfl) ?_ ⟨Nat.zero_le _, hx2⟩ ?_
   ·skip
    exact .m [1, 3, 5] [0] []
   rintro ⟨n4, n3⟩ ⟨hi2, hx2⟩
   simp only [Try.St_towncrierref11_Great_7]
   simp only at hi2 hx2
   refine .wfb 0 [.imm 1 (a0.Logs.map dL_str) 4, .imm 5 (a0.Votes.map TSeen.d) 4] rfl ?_
   intro hln4
   replace hln4 : (a0.Votes.length : Int) ≤ 9223372036854775807 := by simp only [wf, wfL, IntKind.max, IntKind.min, IntKind.signed, IntKind.bits, List.length_map] at hln4; first | exact hln4.2 | exact hln4.1 | (simp at hln4; omega)
   refine .seq ?_
   refine .seq ?_
   refine .rg Try.S [1, 3, 5] ?_
   refine .rn 6 ?_
   refine .rn 3 ?_
   refine .nil ⟨nofun, ?_⟩
   refine .cond rfl rfl (fun hc3 => ?_) (fun hc3 => ?_)
   ·skip
    have h3 : n4 < a0.Votes.length := by have hq := hc3; simp at hq; omega
    have hwn4 : wr .i64 ((n4 : Int) + 1) = ((n4 + 1 : Nat) : Int) := wr_succ h3 hln4
    have hpn4 : wr .i64 ((n4 : Int) - 1) = (n4 : Int) - 1 := wr_pred h3 hln4
    rw [List.drop_eq_getElem_cons h3, m_towncrierref11_Great_loop2_c] at hx2
    replace hx2 := ite_lc hx2 hc3
    refine .skip ?_
    refine .seq ?_
    refine .block ?_
    have e2 := nth_map TSeen.d a0.Votes n4 h3
    refine .rg Try.S [1, 3, 5] ?_
    refine .rnx 6 (And.intro e2 hwn4) ?_
    refine .rnx 6 (And.intro e2 hwn4) ?_
    refine .nil ⟨nofun, ?_⟩
    refine .plx Try.S hwn4 [1, 3, 5] ?_
    refine ⟨(n4 + 1, _), ?_, ⟨by omega, hx2⟩, by dsimp only; omega⟩
    exact .m [1, 3, 5] [0] []
   ·skip
    by_cases h4 : n4 < a0.Votes.length
    ·skip
     rw [List.drop_eq_getElem_cons h4, m_towncrierref11_Great_loop2_c] at hx2
     replace hx2 := ite_r hx2 (by have hq := hc3; simp at hq ⊢; first | exact hq (by omega) | omega | grind)
     refine .exit ?_
     refine ⟨_, ?_, (Option.some.inj hx2).symm⟩
     exact .m [1, 3] [0] []
    ·skip
     rw [List.drop_of_length_le (by omega), m_towncrierref11_Great_loop2_n] at hx2
     refine .exit ?_
     refine ⟨_, ?_, (Option.some.inj hx2).symm⟩
     exact .m [1, 3] [0] []
  ·skip
   rintro n2 hj2
   subst x2
   try dsimp only at h
   simp only [Try.St_towncrierref11_Great_5]
   refine .seq ?_
   refine .rg Try.S [1, 3] ?_
   refine .rn 6 ?_
   refine .rn 6 ?_
   refine .rn 3 ?_
   refine .nil ⟨nofun, ?_⟩
   have hq := Option.some.inj h
   subst r
   exact .ret ⟨.inr rfl, rsi⟩
theorem callP_vote_asked (a0 : TVote) (a1 : Int) (a2 : List UInt8) (r : Int) (h : m_vote_asked a0 a1 a2 = some r) : CallP Try.prog 83 [.agg [.int .i64 a0.Promised, .int .i64 a0.Ballot, .str a0.Value], .int .i64 a1, .str a2] (.int .i64 r) := by
 refine callP_intro Try.tmOk 3 Try.func83 rfl (by decide) rfl rfl (Nat.le_of_ble_eq_true rfl) ?_
 intro hwf
 unfold m_vote_asked at h
 refine .seq ?_
 refine .pl Try.S [0, 1, 2] ?_
 refine .seq ?_
 refine .seq ?_
 obtain ⟨v1, hv1, h⟩ := bind_some h
 refine .rg Try.S [1, 2, 3] ?_
 refine .rn 1 ?_
 refine .call (r := .int .i64 v1) rfl rfl rfl rfl rfl rfl (callP_vote_Check a0 v1 hv1) ?_
 refine .rn 1 ?_
 refine .nil ⟨nofun, ?_⟩
 refine .seq ?_
 refine .pl Try.S [1, 2, 3, 7] ?_
 refine .cond rfl rfl (fun hc1 => ?_) (fun hc1 => ?_)
 ·skip
  replace h := ite_lc h hc1
  refine .seq ?_
  refine .pl Try.S [7] ?_
  have hq := Option.some.inj h
  subst r
  exact .ret ⟨.inr rfl, rsi⟩
 ·skip
  replace h := ite_rc h hc1
  refine .skip ?_
  refine .seq ?_
  refine .seq ?_
  obtain ⟨v2, hv2, h⟩ := bind_some h
  refine .rg Try.S [1, 2, 3] ?_
  refine .rn 1 ?_
  refine .call (r := .int .i64 v2) rfl rfl rfl rfl rfl rfl (callP_ballot_Check a1 v2 hv2) ?_
  refine .rn 1 ?_
  refine .nil ⟨nofun, ?_⟩
  refine .seq ?_
  refine .pl Try.S [1, 2, 3, 8] ?_
  refine .cond rfl rfl (fun hc2 => ?_) (fun hc2 => ?_)
  ·skip
   replace h := ite_lc h hc2
   refine .seq ?_
   refine .pl Try.S [8] ?_
   have hq := Option.some.inj h
   subst r
   exact .ret ⟨.inr rfl, rsi⟩
  ·skip
   replace h := ite_rc h hc2
   refine .skip ?_
   refine .seq ?_
   refine .seq ?_
   refine .pl Try.S [1, 2, 3] ?_
   refine .cond rfl rfl (fun hc3 => ?_) (fun hc3 => ?_)
   ·skip
    replace h := ite_lc h hc3
    refine .seq ?_
    refine .pl Try.S [] ?_
    have hq := Option.some.inj h
    subst r
    exact .ret ⟨.inr rfl, rsi⟩
   ·skip
    replace h := ite_rc h hc3
    refine .skip ?_
    refine .seq ?_
    refine .seq ?_
    refine .pl Try.S [1, 3] ?_
    refine .cond rfl rfl (fun hc4 => ?_) (fun hc4 => ?_)
    ·skip
     replace h := ite_lc h hc4
     refine .seq ?_
     refine .pl Try.S [] ?_
     have hq := Option.some.inj h
     subst r
     exact .ret ⟨.inr rfl, rsi⟩
    ·skip
     replace h := ite_rc h hc4
     refine .skip ?_
     refine .seq ?_
     refine .pl Try.S [] ?_
     have hq := Option.some.inj h
     subst r
     exact .ret ⟨.inr rfl, rsi⟩
theorem callP_vote_Prepare (a0 : TVote) (a1 : Int) (r : TVote × Int) (h : m_vote_Prepare a0 a1 = some r) : CallP Try.prog 64 [.agg [.int .i64 a0.Promised, .int .i64 a0.Ballot, .str a0.Value], .int .i64 a1] (.tuple [.agg [.int .i64 r.1.Promised, .int .i64 r.1.Ballot, .str r.1.Value], .int .i64 r.2]) := by
 refine callP_intro Try.tmOk 4 Try.func64 rfl (by decide) rfl rfl (Nat.le_of_ble_eq_true rfl) ?_
 intro hwf
 unfold m_vote_Prepare at h
 refine .seq ?_
 refine .pl Try.S [0, 1] ?_
 refine .seq ?_
 refine .seq ?_
 obtain ⟨v1, hv1, h⟩ := bind_some h
 refine .rg Try.S [1, 2, 4] ?_
 refine .rn 2 ?_
 refine .call (r := .int .i64 v1) rfl rfl rfl rfl rfl rfl (callP_vote_asked a0 a1 [] v1 hv1) ?_
 refine .rn 1 ?_
 refine .nil ⟨nofun, ?_⟩
 refine .seq ?_
 refine .pl Try.S [1, 2, 4, 6] ?_
 refine .cond rfl rfl (fun hc1 => ?_) (fun hc1 => ?_)
 ·skip
  replace h := ite_lc h hc1
  refine .seq ?_
  refine .pl Try.S [4, 6] ?_
  have hq := Option.some.inj h
  subst r
  exact .ret ⟨.inr rfl, rsi⟩
 ·skip
  replace h := ite_rc h hc1
  refine .skip ?_
  refine .seq ?_
  refine .pl Try.S [1, 2, 4] ?_
  refine .seq ?_
  refine .pl Try.S [2, 4] ?_
  have hq := Option.some.inj h
  subst r
  exact .ret ⟨.inr rfl, rsi⟩
theorem callP_vote_Accept (a0 : TVote) (a1 : Int) (a2 : List UInt8) (r : TVote × Int) (h : m_vote_Accept a0 a1 a2 = some r) : CallP Try.prog 65 [.agg [.int .i64 a0.Promised, .int .i64 a0.Ballot, .str a0.Value], .int .i64 a1, .str a2] (.tuple [.agg [.int .i64 r.1.Promised, .int .i64 r.1.Ballot, .str r.1.Value], .int .i64 r.2]) := by
 refine callP_intro Try.tmOk 4 Try.func65 rfl (by decide) rfl rfl (Nat.le_of_ble_eq_true rfl) ?_
 intro hwf
 unfold m_vote_Accept at h
 refine .seq ?_
 refine .pl Try.S [0, 1, 2] ?_
 refine .seq ?_
 refine .seq ?_
 obtain ⟨v1, hv1, h⟩ := bind_some h
 refine .rg Try.S [1, 2, 3, 6] ?_
 refine .rn 3 ?_
 refine .call (r := .int .i64 v1) rfl rfl rfl rfl rfl rfl (callP_vote_asked a0 a1 a2 v1 hv1) ?_
 refine .rn 1 ?_
 refine .nil ⟨nofun, ?_⟩
 refine .seq ?_
 refine .pl Try.S [1, 2, 6, 8] ?_
 refine .cond rfl rfl (fun hc1 => ?_) (fun hc1 => ?_)
 ·skip
  replace h := ite_lc h hc1
  refine .seq ?_
  refine .pl Try.S [6, 8] ?_
  have hq := Option.some.inj h
  subst r
  exact .ret ⟨.inr rfl, rsi⟩
 ·skip
  replace h := ite_rc h hc1
  refine .skip ?_
  refine .seq ?_
  refine .pl Try.S [1, 2, 6] ?_
  have hq := Option.some.inj h
  subst r
  exact .ret ⟨.inr rfl, rsi⟩
theorem callP_towncrierref07_asked (a0 : TVote) (a1 : Int) (r : Int) (h : m_towncrierref07_asked a0 a1 = some r) : CallP Try.prog 72 [.agg [.int .i64 a0.Promised, .int .i64 a0.Ballot, .str a0.Value], .int .i64 a1] (.int .i64 r) := by
 refine callP_intro Try.tmOk 3 Try.func72 rfl (by decide) rfl rfl (Nat.le_of_ble_eq_true rfl) ?_
 intro hwf
 unfold m_towncrierref07_asked at h
 refine .seq ?_
 refine .pl Try.S [0, 1] ?_
 refine .seq ?_
 refine .seq ?_
 obtain ⟨v1, hv1, h⟩ := bind_some h
 refine .rg Try.S [1, 2] ?_
 refine .rn 1 ?_
 refine .call (r := .bool v1) rfl rfl rfl rfl rfl rfl (callP_towncrierref07_May a0 v1 hv1) ?_
 refine .rn 1 ?_
 refine .nil ⟨nofun, ?_⟩
 refine .cond rfl rfl (fun hc1 => ?_) (fun hc1 => ?_)
 ·skip
  replace h := ite_lc h hc1
  refine .seq ?_
  refine .pl Try.S [] ?_
  have hq := Option.some.inj h
  subst r
  exact .ret ⟨.inr rfl, rsi⟩
 ·skip
  replace h := ite_rc h hc1
  refine .skip ?_
  refine .seq ?_
  refine .seq ?_
  obtain ⟨v2, hv2, h⟩ := bind_some h
  refine .rg Try.S [1] ?_
  refine .rn 1 ?_
  refine .call (r := .bool v2) rfl rfl rfl rfl rfl rfl (callP_towncrierref05_May a1 v2 hv2) ?_
  refine .rn 1 ?_
  refine .nil ⟨nofun, ?_⟩
  refine .cond rfl rfl (fun hc2 => ?_) (fun hc2 => ?_)
  ·skip
   replace h := ite_lc h hc2
   refine .seq ?_
   refine .pl Try.S [] ?_
   have hq := Option.some.inj h
   subst r
   exact .ret ⟨.inr rfl, rsi⟩
  ·skip
   replace h := ite_rc h hc2
   refine .skip ?_
   refine .seq ?_
   refine .pl Try.S [] ?_
   have hq := Option.some.inj h
   subst r
   exact .ret ⟨.inr rfl, rsi⟩
theorem callP_towncrierref07_Prepare (a0 : TVote) (a1 : Int) (r : TVote × Int) (h : m_towncrierref07_Prepare a0 a1 = some r) : CallP Try.prog 42 [.agg [.int .i64 a0.Promised, .int .i64 a0.Ballot, .str a0.Value], .int .i64 a1] (.tuple [.agg [.int .i64 r.1.Promised, .int .i64 r.1.Ballot, .str r.1.Value], .int .i64 r.2]) := by
 refine callP_intro Try.tmOk 4 Try.func42 rfl (by decide) rfl rfl (Nat.le_of_ble_eq_true rfl) ?_
 intro hwf
 unfold m_towncrierref07_Prepare at h
 refine .seq ?_
 refine .pl Try.S [0, 1] ?_
 refine .seq ?_
 obtain ⟨v1, hv1, h⟩ := bind_some h
 refine .rg Try.S [1, 2, 4] ?_
 refine .rn 2 ?_
 refine .call (r := .int .i64 v1) rfl rfl rfl rfl rfl rfl (callP_towncrierref07_asked a0 a1 v1 hv1) ?_
 refine .rn 1 ?_
 refine .nil ⟨nofun, ?_⟩
 refine .seq ?_
 refine .seq ?_
 refine .pl Try.S [1, 2, 4, 6] ?_
 refine .cond rfl rfl (fun hc1 => ?_) (fun hc1 => ?_)
 ·skip
  replace h := ite_lc h hc1
  refine .seq ?_
  refine .pl Try.S [4, 6] ?_
  have hq := Option.some.inj h
  subst r
  exact .ret ⟨.inr rfl, rsi⟩
 ·skip
  replace h := ite_rc h hc1
  refine .skip ?_
  refine .seq ?_
  refine .seq ?_
  refine .pl Try.S [1, 2, 4] ?_
  refine .cond rfl rfl (fun hc2 => ?_) (fun hc2 => ?_)
  ·skip
   replace h := ite_lc h hc2
   refine .seq ?_
   refine .pl Try.S [4] ?_
   have hq := Option.some.inj h
   subst r
   exact .ret ⟨.inr rfl, rsi⟩
  ·skip
   replace h := ite_rc h hc2
   refine .skip ?_
   refine .seq ?_
   refine .pl Try.S [1, 2, 4] ?_
   refine .seq ?_
   refine .pl Try.S [2, 4] ?_
   have hq := Option.some.inj h
   subst r
   exact .ret ⟨.inr rfl, rsi⟩
theorem callP_towncrierref07_Accept (a0 : TVote) (a1 : Int) (a2 : List UInt8) (r : TVote × Int) (h : m_towncrierref07_Accept a0 a1 a2 = some r) : CallP Try.prog 43 [.agg [.int .i64 a0.Promised, .int .i64 a0.Ballot, .str a0.Value], .int .i64 a1, .str a2] (.tuple [.agg [.int .i64 r.1.Promised, .int .i64 r.1.Ballot, .str r.1.Value], .int .i64 r.2]) := by
 refine callP_intro Try.tmOk 4 Try.func43 rfl (by decide) rfl rfl (Nat.le_of_ble_eq_true rfl) ?_
 intro hwf
 unfold m_towncrierref07_Accept at h
 refine .seq ?_
 refine .pl Try.S [0, 1, 2] ?_
 refine .seq ?_
 obtain ⟨v1, hv1, h⟩ := bind_some h
 refine .rg Try.S [1, 2, 3, 6] ?_
 refine .rn 2 ?_
 refine .call (r := .int .i64 v1) rfl rfl rfl rfl rfl rfl (callP_towncrierref07_asked a0 a1 v1 hv1) ?_
 refine .rn 1 ?_
 refine .nil ⟨nofun, ?_⟩
 refine .seq ?_
 refine .seq ?_
 refine .pl Try.S [1, 2, 3, 6, 8] ?_
 refine .cond rfl rfl (fun hc1 => ?_) (fun hc1 => ?_)
 ·skip
  replace h := ite_lc h hc1
  refine .seq ?_
  refine .pl Try.S [6, 8] ?_
  have hq := Option.some.inj h
  subst r
  exact .ret ⟨.inr rfl, rsi⟩
 ·skip
  replace h := ite_rc h hc1
  refine .skip ?_
  refine .seq ?_
  refine .seq ?_
  refine .pl Try.S [1, 2, 3, 6] ?_
  refine .cond rfl rfl (fun hc2 => ?_) (fun hc2 => ?_)
  ·skip
   replace h := ite_lc h hc2
   refine .seq ?_
   refine .pl Try.S [6] ?_
   have hq := Option.some.inj h
   subst r
   exact .ret ⟨.inr rfl, rsi⟩
  ·skip
   replace h := ite_rc h hc2
   refine .skip ?_
   refine .seq ?_
   refine .seq ?_
   refine .pl Try.S [1, 2, 3, 6] ?_
   refine .cond rfl rfl (fun hc3 => ?_) (fun hc3 => ?_)
   ·skip
    replace h := ite_lc h hc3
    refine .seq ?_
    refine .pl Try.S [6] ?_
    have hq := Option.some.inj h
    subst r
    exact .ret ⟨.inr rfl, rsi⟩
   ·skip
    replace h := ite_rc h hc3
    refine .skip ?_
    refine .seq ?_
    refine .pl Try.S [1, 2, 6] ?_
    have hq := Option.some.inj h
    subst r
    exact .ret ⟨.inr rfl, rsi⟩
end Go.Proofs
