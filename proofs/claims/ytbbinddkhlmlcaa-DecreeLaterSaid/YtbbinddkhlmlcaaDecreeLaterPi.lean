/- Texts of the proof. -/
import Derived.Lib.Overlaps
import Derived.KernelRfl
import Derived.Test.YtbbinddkhlmlcaaDecreeLaterPg
import Derived.Test.YtbbinddkhlmlcaaDecreeLaterPh
section
namespace Go.Proofs
open Go.Tm Go.RowKit Go.WideShapes
set_option maxRecDepth 100000
set_option maxHeartbeats 4000000
set_option linter.unusedSimpArgs false
set_option linter.unusedVariables false
attribute [local go_sem] argVars runE runK isCallV stepE aop opd opdsL opds opdO ev ofVal keep List.any natbeq Bool.false_or Bool.true_or aggEq cond_true cond_false Bool.cond_false_right Bool.cond_true_left beq_true beq_false imp_self implies_true getR getL put St.app effL del nwB blt_dec Nat.lt_irrefl Nat.lt_add_one ble_dec Nat.le_refl Nat.beq_refl roomNZ appendIn capS capK mkZ_zero mkZL_zero zeroEl D.ids D.idsL bin arith sarith binT dpick Tm.part splice fillD oneD loadD storeD srcD sliceD idxOk decide_true gval dstAt D.cells List.map_cons List.map_nil List.take List.drop List.length_map List.append Int.toNat_natCast and_true true_and decide_false List.length_cons List.length_nil List.append_nil List.nil_append Bool.and_true Bool.true_and Bool.not_false Bool.not_true ne_eq not_false_eq_true BEq.rfl List.getElem?_cons_zero List.getElem?_cons_succ List.getElem?_nil Nat.zero_add List.all_cons List.all_nil List.isEmpty_cons List.isEmpty_nil Option.getD_some Option.getD_none List.any_cons List.any_nil List.drop_succ_cons List.drop_zero unfL unf okM okML low3 List.cons_append true_or or_true Nat.zero_mul Nat.zero_le findD_int findD_str  getD_int getD_str getD_bool Option.isSome_map keyD List.length_replicate List.map_replicate setEl List.length_set bytesD_map map_ub mx_len mkZ_one mkZL_one mkM mkML mk1_int mk1_str mk1_bool drop_map take_map take_map_len List.take_length Int.toNat_zero toNat_pred fpOf metIds opIds mvV mvH mvF pickL D.ren D.renL Blk.ren List.map_append List.length_append Bool.not_not Bool.or_not_self Bool.not_or_self Bool.or_true
attribute [local go_sem] Try.tm_1 Try.tm_2 Try.tm_3 Try.tm_4 Try.tm_5 Try.tm_6 Try.tm_7 Try.tm_8 Try.tm_9 Try.tm_10 Try.tm_11 Try.tm_12 Try.tm_13 Try.tm_14 Try.tm_15 Try.tm_16 Try.tm_17 Try.tm_18 Try.tm_19 Try.tm_20 Try.tm_21 Try.tm_22 Try.tm_23 Try.tm_24 Try.tm_25 Try.tm_26 Try.tm_27 Try.tm_28 Try.tm_29 Try.tm_30 Try.tm_31 Try.tm_32 Try.tm_34 Try.tm_35 Try.tm_36 Try.tm_37 Try.tm_38 Try.tm_39 Try.tm_40 Try.tm_41 Try.tm_42 Try.tm_43 Try.tm_44 Try.tm_45 Try.tm_46 Try.tm_47 Try.tm_48 Try.tm_49 Try.tm_50 Try.tm_51 Try.tm_52 Try.tm_53 Try.tm_54 Try.tm_55 Try.tm_56 Try.tm_57 Try.tm_59 Try.tm_60 Try.tm_61 Try.tm_62 Try.tm_63 Try.tm_64 Try.tm_65 Try.tm_66 Try.tm_67 Try.tm_68 Try.tm_69 Try.tm_70 Try.tm_71 Try.tm_72 Try.tm_73 Try.tm_74 Try.tm_75 Try.tm_76 Try.tm_77 Try.tm_78 Try.tm_79 Try.tm_80 Try.tm_81 Try.tm_82 Try.tm_83 Try.tm_84 Try.tm_85 Try.tm_87 Try.tm_89 Try.tm_91 Try.tm_92 Try.tm_93 Try.tm_94 Try.tm_95 Try.tm_96 Try.tm_97 Try.tm_99 Try.tm_100 Try.tm_101 Try.tm_102 Try.tm_103 Try.tm_104 Try.tm_105 Try.tm_106 Try.tm_107 Try.tm_108 Try.tm_109 Try.tm_110 Try.tm_111 Try.tm_112 Try.tm_113 Try.tm_114 Try.tm_115 Try.tm_116 Try.tm_117 Try.tm_118 Try.tm_119 Try.tm_120 Try.tm_121 Try.tm_122 Try.tm_123 Try.tm_126 Try.tm_127 Try.tm_128 Try.tm_129 Try.tm_130 Try.tm_131 Try.tm_132 Try.tm_133 Try.tm_134 TPromise.d TAttempt.d TAttempt.n mk1_TPromise mk1_TAttempt Try.f33 Try.f17 Try.f26
theorem callP_attempt_Check_1 (a0 : TPromise) (c0 : TAttempt) (r : Bool) (h : m_attempt_Check_1 a0 c0 = some r) : CallP Try.prog 33 [.agg [.int .i64 a0.Node, .int .i64 a0.Ballot, .str a0.Value], .iptr 0 [.int .u8 c0.Phase, .int .i64 c0.Ballot, .imm 1 (c0.Members.map (D.int .i64)) 4, .str c0.Wish, .str c0.Value, .imm 3 (c0.Promises.map TPromise.d) 4, .imm 1 (c0.Accepted.map (D.int .i64)) 4]] (.bool r) := by
 refine callP_intro Try.tmOk 3 Try.func33 rfl (by decide) rfl rfl (Nat.le_of_ble_eq_true rfl) ?_
 intro hwf
 unfold m_attempt_Check_1 at h
 refine .seq ?_
 refine .pl Try.S [0, 1] ?_
 refine .seq ?_
 obtain ⟨v1, hv1, h⟩ := bind_some h
 refine .rg Try.S [1, 2] ?_
 refine .rn 3 ?_
 refine .call (r := .bool v1) rfl rfl rfl rfl rfl rfl (callP_attempt_may a0 c0.Ballot v1 hv1) ?_
 refine .rn 2 ?_
 refine .nil ⟨nofun, ?_⟩
 have hq := Option.some.inj h
 subst r
 exact .ret ⟨.inr rfl, rsi⟩
def Try.St_attempt_Check_1 (b1 : Bool) : St := ⟨[(3, .bool b1)], [], 1⟩
attribute [local go_sem] Try.St_attempt_Check_1
def Try.St_attempt_Check_3 (a0 : TAttempt) (b2 : Bool) : St := ⟨[(1, .ptr 0 0), (3, .bool b2)], [(0, .box [.int .u8 a0.Phase, .int .i64 a0.Ballot, .imm 1 (a0.Members.map (D.int .i64)) 4, .str a0.Wish, .str a0.Value, .imm 3 (a0.Promises.map TPromise.d) 4, .imm 1 (a0.Accepted.map (D.int .i64)) 4])], 1⟩
attribute [local go_sem] Try.St_attempt_Check_3
def Try.St_attempt_Check_5 (a0 : TAttempt) (b5 : Bool) : St := ⟨[(1, .ptr 0 0), (3, .bool true), (10, .bool b5)], [(0, .box [.int .u8 a0.Phase, .int .i64 a0.Ballot, .imm 1 (a0.Members.map (D.int .i64)) 4, .str a0.Wish, .str a0.Value, .imm 3 (a0.Promises.map TPromise.d) 4, .imm 1 (a0.Accepted.map (D.int .i64)) 4])], 1⟩
attribute [local go_sem] Try.St_attempt_Check_5
theorem callP_attempt_Check (a0 : TAttempt) (r : Int) (h : m_attempt_Check a0 = some r) : CallP Try.prog 17 [.agg [.int .u8 a0.Phase, .int .i64 a0.Ballot, .imm 1 (a0.Members.map (D.int .i64)) 4, .str a0.Wish, .str a0.Value, .imm 3 (a0.Promises.map TPromise.d) 4, .imm 1 (a0.Accepted.map (D.int .i64)) 4]] (.int .i64 r) := by
 refine callP_intro Try.tmOk 3 Try.func17 rfl (by decide) rfl rfl (Nat.le_of_ble_eq_true rfl) ?_
 intro hwf
 unfold m_attempt_Check at h
 refine .seq ?_
 refine .pl Try.S [0] ?_
 refine .seq ?_
 refine .pl Try.S [1] ?_
 obtain ⟨x1, hx1, h⟩ := bind_some h
 refine .seqM 1 (fun (j : Bool) => Try.St_attempt_Check_1 j) (fun j => x1 = j) (Nat.le_of_ble_eq_true rfl) ?_ ?_
 ·skip
  refine .seq ?_
  refine .pl Try.S [1, 3] ?_
  refine .block ?_
  refine .seq ?_
  refine .block ?_
  obtain ⟨x2, hx2, hx1⟩ := bind_some hx1
  refine .seqM 1 (fun (j : Bool) => Try.St_attempt_Check_3 a0 j) (fun j => x2 = (.inr (.inr j))) (Nat.le_of_ble_eq_true rfl) ?_ ?_
  ·skip
   refine .block ?_
   refine .seq ?_
   refine .block ?_
   refine .seq ?_
   refine .block ?_
   refine .seq ?_
   refine .seq ?_
   refine .seq ?_
   refine .pl Try.S [1, 3, 5] ?_
   refine .cond rfl rfl (fun hc1 => ?_) (fun hc1 => ?_)
   ·skip
    replace hx2 := ite_lc hx2 hc1
    refine .exit ?_
    refine .seq ?_
    obtain ⟨v1, hv1, hx2⟩ := bind_some hx2
    refine .rg Try.S [1] ?_
    refine .rn 2 ?_
    refine .call (r := .bool v1) rfl rfl rfl rfl rfl rfl (callP_wk (WkL.cons (Wk.refl _) (WkL.cons (Wk.agg (WkL.cons (Wk.refl _) (WkL.cons (Wk.refl _) (WkL.cons (Wk.nil4 0 1 0 rfl) (WkL.cons (Wk.refl _) (WkL.cons (Wk.refl _) (WkL.cons (Wk.nil4 0 3 0 rfl) (WkL.cons (Wk.nil4 0 1 0 rfl) (WkL.refl _))))))))) (WkL.refl _))) (callP_attempt_Same a0 (⟨0, 0, [], [], [], [], []⟩ : TAttempt) v1 hv1)) ?_
    refine .rn 1 ?_
    refine .nil ⟨nofun, ?_⟩
    refine .exit ?_
    have hq := Option.some.inj hx2
    subst x2
    try dsimp only at hx1
    refine ⟨_, ?_, (Option.some.inj hx1).symm⟩
    exact .m [3] [] []
   ·skip
    replace hx2 := ite_rc hx2 hc1
    refine .skip ?_
    refine .seq ?_
    refine .seq ?_
    refine .pl Try.S [1, 3, 5] ?_
    refine .cond rfl rfl (fun hc2 => ?_) (fun hc2 => ?_)
    ·skip
     replace hx2 := ite_lc hx2 hc2
     refine .exit ?_
     refine .rg Try.S [1] ?_
     refine .rn 6 ?_
     refine .rn 4 ?_
     refine .nil ⟨nofun, ?_⟩
     refine ⟨_, ?_, (Option.some.inj hx2).symm⟩
     exact .m [1, 3] [0] []
    ·skip
     replace hx2 := ite_rc hx2 hc2
     refine .skip ?_
     obtain ⟨x3, hx3, hx2⟩ := bind_some hx2
     refine .seqM 1 (fun (j : Bool) => Try.St_attempt_Check_5 a0 j) (fun j => x3 = j) (Nat.le_of_ble_eq_true rfl) ?_ ?_
     ·skip
      refine .seq ?_
      refine .pl Try.S [1, 3, 5] ?_
      refine .cond rfl rfl (fun hc3 => ?_) (fun hc3 => ?_)
      ·skip
       replace hx3 := ite_lc hx3 hc3
       refine .skip ?_
       refine ⟨_, ?_, (Option.some.inj hx3).symm⟩
       exact .m [1, 3, 10] [0] []
      ·skip
       replace hx3 := ite_rc hx3 hc3
       refine .pl Try.S [1, 3, 5] ?_
       refine ⟨_, ?_, (Option.some.inj hx3).symm⟩
       exact .m [1, 3, 10] [0] []
     ·skip
      rintro b5 hj1
      subst x3
      try dsimp only at hx2
      simp only [Try.St_attempt_Check_5]
      refine .cond rfl rfl (fun hc4 => ?_) (fun hc4 => ?_)
      ·skip
       replace hx2 := ite_lc hx2 hc4
       refine .exit ?_
       refine ⟨_, ?_, (Option.some.inj hx2).symm⟩
       exact .m [1, 3] [0] []
      ·skip
       replace hx2 := ite_rc hx2 hc4
       refine .skip ?_
       refine .exit ?_
       have hq := Option.some.inj hx2
       subst x2
       try dsimp only at hx1
       refine .seq ?_
       refine .pl Try.S [] ?_
       refine .exit ?_
       refine ⟨_, ?_, (Option.some.inj hx1).symm⟩
       exact .m [3] [] []
  ·skip
   rintro b2 hj2
   subst x2
   try dsimp only at hx1
   simp only [Try.St_attempt_Check_3]
   refine .seq ?_
   refine .seq ?_
   obtain ⟨v2, hv2, hx1⟩ := bind_some hx1
   obtain ⟨v3, hv3, hx1⟩ := bind_some hx1
   refine .rg Try.S [1, 3] ?_
   refine .rn 4 ?_
   refine .gcall (r := .int .i64 v2) rfl rfl rfl rfl rfl (fun hg => ⟨[], [.int .i64 a0.Ballot], _, rfl, gd hg, rfl, (callP_ballot_Check a0.Ballot v2 (ite_lc hv2 hg))⟩) ?_
   refine .rn 5 ?_
   refine .gcall (r := .int .i64 v3) rfl rfl rfl rfl rfl (fun hg => ⟨[], [.imm 1 (a0.Members.map (D.int .i64)) 4], _, rfl, gd hg, rfl, (callP_quorum_Check a0.Members v3 (ite_lc hv3 hg))⟩) ?_
   refine .rn 6 ?_
   refine .rn 3 ?_
   refine .nil ⟨nofun, ?_⟩
   refine .seq ?_
   obtain ⟨v4, hv4, hx1⟩ := bind_some hx1
   obtain ⟨v5, hv5, hx1⟩ := bind_some hx1
   obtain ⟨v6, hv6, hx1⟩ := bind_some hx1
   refine .rg Try.S [1, 3] ?_
   refine .rd 4 ?_
   refine .gcall (r := .imm 1 (v4.map (D.int .i64)) 12) rfl rfl rfl rfl rfl (fun hg => ⟨[], [.imm 3 (a0.Promises.map TPromise.d) 4], _, rfl, gd hg, rfl, (callP_attempt_nodes a0.Promises v4 (ite_lc hv4 hg))⟩) ?_
   refine .rd 2 ?_
   refine .gcall (r := .bool v5) rfl rfl rfl rfl rfl (fun hg => ⟨[], [.imm 1 (v4.map (D.int .i64)) 12, .imm 1 (a0.Members.map (D.int .i64)) 4], _, rfl, gd hg, rfl, (callP_attempt_rising v4 a0.Members v5 (ite_lc hv5 hg))⟩) ?_
   refine .rd 6 ?_
   refine .gcall (r := .bool v6) rfl rfl rfl rfl rfl (fun hg => ⟨[], [.imm 1 (a0.Accepted.map (D.int .i64)) 4, .imm 1 (a0.Members.map (D.int .i64)) 4], _, rfl, gd hg, rfl, (callP_attempt_rising a0.Accepted a0.Members v6 (ite_lc hv6 hg))⟩) ?_
   refine .rd 2 ?_
   refine .nil ⟨fun _ => schedB_of (by kernel_rfl), ?_⟩
   refine .seq ?_
   obtain ⟨v7, hv7, hx1⟩ := bind_some hx1
   refine .rg Try.S [1, 3] ?_
   refine .rn 5 ?_
   refine .glcall (r := .bool v7) [] rfl rfl rfl rfl rfl (fun hg => ⟨[], [.imm 3 (a0.Promises.map TPromise.d) 4, .fn (.func 33) [.ptr 0 0]], _, rfl, gd hg, (lend2s_cons rfl (lend2s_cons (lend2_fn (lend2s_cons (lend2_ptr rfl (lends_cons rfl (lends_cons rfl (lends_cons rfl (lends_cons rfl (lends_cons rfl (lends_cons rfl (lends_cons rfl lends_nil)))))))) lend2s_nil)) lend2s_nil)), rfl, (callP_slices_ContainsFunc_Promise_Promise a0.Promises 33 [.iptr 0 [.int .u8 a0.Phase, .int .i64 a0.Ballot, .imm 1 (a0.Members.map (D.int .i64)) 4, .str a0.Wish, .str a0.Value, .imm 3 (a0.Promises.map TPromise.d) 4, .imm 1 (a0.Accepted.map (D.int .i64)) 4]] (fun _ => rfl) (fun _ => rfl) (fun _ => rfl) (fun x0 => m_attempt_Check_1 x0 a0) (fun x0 y hy => callP_attempt_Check_1 x0 a0 y hy) v7 (ite_lc hv7 hg))⟩) ?_
   refine .rn 3 ?_
   refine .nil ⟨nofun, ?_⟩
   refine .seq ?_
   obtain ⟨v8, hv8, hx1⟩ := bind_some hx1
   obtain ⟨v9, hv9, hx1⟩ := bind_some hx1
   obtain ⟨v10, hv10, hx1⟩ := bind_some hx1
   refine .rg Try.S [1, 3] ?_
   refine .rd 6 ?_
   refine .gcall (r := .imm 1 (v8.map (D.int .i64)) 12) rfl rfl rfl rfl rfl (fun hg => ⟨[], [.imm 3 (a0.Promises.map TPromise.d) 4], _, rfl, gd hg, rfl, (callP_attempt_nodes a0.Promises v8 (ite_lc hv8 hg))⟩) ?_
   refine .rd 0 ?_
   refine .gcall (r := .bool v9) rfl rfl rfl rfl rfl (fun hg => ⟨[], [.imm 1 (a0.Members.map (D.int .i64)) 4, .imm 1 (v8.map (D.int .i64)) 12], _, rfl, gd hg, rfl, (callP_attempt_most a0.Members v8 v9 (ite_lc hv9 hg))⟩) ?_
   refine .rd 6 ?_
   refine .rd 4 ?_
   refine .gcall (r := .bool v10) rfl rfl rfl rfl rfl (fun hg => ⟨[], [.imm 1 (a0.Members.map (D.int .i64)) 4, .imm 1 (a0.Accepted.map (D.int .i64)) 4], _, rfl, gd hg, rfl, (callP_attempt_most a0.Members a0.Accepted v10 (ite_lc hv10 hg))⟩) ?_
   refine .rd 6 ?_
   refine .nil ⟨fun _ => schedB_of (by kernel_rfl), ?_⟩
   obtain ⟨v11, hv11, hx1⟩ := bind_some hx1
   refine .rg Try.S [1, 3] ?_
   refine .rd 6 ?_
   refine .rd 6 ?_
   refine .gcall (r := .str v11) rfl rfl rfl rfl rfl (fun hg => ⟨[], [.imm 3 (a0.Promises.map TPromise.d) 4, .str a0.Wish], _, rfl, gd hg, rfl, (callP_attempt_Best a0.Promises a0.Wish v11 (ite_lc hv11 hg))⟩) ?_
   refine .rd 4 ?_
   refine .nil ⟨fun _ => schedB_of (by kernel_rfl), ?_⟩
   refine .exit ?_
   refine ⟨_, ?_, (Option.some.inj hx1).symm⟩
   exact .m [3] [] []
 ·skip
  rintro b1 hj3
  subst x1
  try dsimp only at h
  simp only [Try.St_attempt_Check_1]
  refine .seq ?_
  refine .seq ?_
  refine .pl Try.S [3] ?_
  refine .cond rfl rfl (fun hc5 => ?_) (fun hc5 => ?_)
  ·skip
   replace h := ite_lc h hc5
   refine .seq ?_
   refine .pl Try.S [] ?_
   have hq := Option.some.inj h
   subst r
   exact .ret ⟨.inr rfl, rsi⟩
  ·skip
   replace h := ite_rc h hc5
   refine .skip ?_
   refine .seq ?_
   refine .pl Try.S [] ?_
   have hq := Option.some.inj h
   subst r
   exact .ret ⟨.inr rfl, rsi⟩
end Go.Proofs
end
section
namespace Go.Proofs
open Go.Tm
set_option linter.unusedVariables false
def m_slices_Clone_int_int (a0 : List Int) : Option ((List Int)) :=
 if a0.length * 8 ≤ 140737488355328 then
 some a0
 else none
def m_slices_Clone_Promise_Promise (a0 : List TPromise) : Option ((List TPromise)) :=
 if a0.length * 32 ≤ 140737488355328 then
 some a0
 else none
def m_attempt_Twin (a0 : TAttempt) : Option TAttempt :=
 Option.bind (m_slices_Clone_int_int a0.Members) fun v1 =>
 Option.bind (m_slices_Clone_Promise_Promise a0.Promises) fun v2 =>
 Option.bind (m_slices_Clone_int_int a0.Accepted) fun v3 =>
 some (⟨a0.Phase, a0.Ballot, v1, a0.Wish, a0.Value, v2, v3⟩ : TAttempt)
def m_attempt_Begin (a0 : List Int) (a1 : Int) (a2 : List UInt8) : Option (TAttempt × Int) :=
 Option.bind (m_quorum_Check a0) fun v1 =>
 if ¬ (v1 = 0) then
 some ((⟨0, 0, [], [], [], [], []⟩ : TAttempt), v1)
 else
 Option.bind (m_ballot_Check a1) fun v2 =>
 if ¬ (v2 = 0) then
 some ((⟨0, 0, [], [], [], [], []⟩ : TAttempt), v2)
 else
 if (a2.length : Int) > 1024 then
 some ((⟨0, 0, [], [], [], [], []⟩ : TAttempt), 3)
 else
 Option.bind (m_slices_Clone_int_int a0) fun v3 =>
 some ((⟨1, a1, v3, a2, [], [], []⟩ : TAttempt), 0)
end Go.Proofs
end
section
namespace Go.Proofs
open Go.Tm Go.RowKit Go.WideShapes
set_option maxRecDepth 100000
set_option maxHeartbeats 4000000
set_option linter.unusedSimpArgs false
set_option linter.unusedVariables false
attribute [local go_sem] argVars runE runK isCallV stepE aop opd opdsL opds opdO ev ofVal keep List.any natbeq Bool.false_or Bool.true_or aggEq cond_true cond_false Bool.cond_false_right Bool.cond_true_left beq_true beq_false imp_self implies_true getR getL put St.app effL del nwB blt_dec Nat.lt_irrefl Nat.lt_add_one ble_dec Nat.le_refl Nat.beq_refl roomNZ appendIn capS capK mkZ_zero mkZL_zero zeroEl D.ids D.idsL bin arith sarith binT dpick Tm.part splice fillD oneD loadD storeD srcD sliceD idxOk decide_true gval dstAt D.cells List.map_cons List.map_nil List.take List.drop List.length_map List.append Int.toNat_natCast and_true true_and decide_false List.length_cons List.length_nil List.append_nil List.nil_append Bool.and_true Bool.true_and Bool.not_false Bool.not_true ne_eq not_false_eq_true BEq.rfl List.getElem?_cons_zero List.getElem?_cons_succ List.getElem?_nil Nat.zero_add List.all_cons List.all_nil List.isEmpty_cons List.isEmpty_nil Option.getD_some Option.getD_none List.any_cons List.any_nil List.drop_succ_cons List.drop_zero unfL unf okM okML low3 List.cons_append true_or or_true Nat.zero_mul Nat.zero_le findD_int findD_str  getD_int getD_str getD_bool Option.isSome_map keyD List.length_replicate List.map_replicate setEl List.length_set bytesD_map map_ub mx_len mkZ_one mkZL_one mkM mkML mk1_int mk1_str mk1_bool drop_map take_map take_map_len List.take_length Int.toNat_zero toNat_pred fpOf metIds opIds mvV mvH mvF pickL D.ren D.renL Blk.ren List.map_append List.length_append Bool.not_not Bool.or_not_self Bool.not_or_self Bool.or_true
attribute [local go_sem] Try.tm_1 Try.tm_2 Try.tm_3 Try.tm_4 Try.tm_5 Try.tm_6 Try.tm_7 Try.tm_8 Try.tm_9 Try.tm_10 Try.tm_11 Try.tm_12 Try.tm_13 Try.tm_14 Try.tm_15 Try.tm_16 Try.tm_17 Try.tm_18 Try.tm_19 Try.tm_20 Try.tm_21 Try.tm_22 Try.tm_23 Try.tm_24 Try.tm_25 Try.tm_26 Try.tm_27 Try.tm_28 Try.tm_29 Try.tm_30 Try.tm_31 Try.tm_32 Try.tm_34 Try.tm_35 Try.tm_36 Try.tm_37 Try.tm_38 Try.tm_39 Try.tm_40 Try.tm_41 Try.tm_42 Try.tm_43 Try.tm_44 Try.tm_45 Try.tm_46 Try.tm_47 Try.tm_48 Try.tm_49 Try.tm_50 Try.tm_51 Try.tm_52 Try.tm_53 Try.tm_54 Try.tm_55 Try.tm_56 Try.tm_57 Try.tm_59 Try.tm_60 Try.tm_61 Try.tm_62 Try.tm_63 Try.tm_64 Try.tm_65 Try.tm_66 Try.tm_67 Try.tm_68 Try.tm_69 Try.tm_70 Try.tm_71 Try.tm_72 Try.tm_73 Try.tm_74 Try.tm_75 Try.tm_76 Try.tm_77 Try.tm_78 Try.tm_79 Try.tm_80 Try.tm_81 Try.tm_82 Try.tm_83 Try.tm_84 Try.tm_85 Try.tm_87 Try.tm_89 Try.tm_91 Try.tm_92 Try.tm_93 Try.tm_94 Try.tm_95 Try.tm_96 Try.tm_97 Try.tm_99 Try.tm_100 Try.tm_101 Try.tm_102 Try.tm_103 Try.tm_104 Try.tm_105 Try.tm_106 Try.tm_107 Try.tm_108 Try.tm_109 Try.tm_110 Try.tm_111 Try.tm_112 Try.tm_113 Try.tm_114 Try.tm_115 Try.tm_116 Try.tm_117 Try.tm_118 Try.tm_119 Try.tm_120 Try.tm_121 Try.tm_122 Try.tm_123 Try.tm_126 Try.tm_127 Try.tm_128 Try.tm_129 Try.tm_130 Try.tm_131 Try.tm_132 Try.tm_133 Try.tm_134 TPromise.d TAttempt.d TAttempt.n mk1_TPromise mk1_TAttempt Try.f27 Try.f54 Try.f42 Try.f45
def Try.Re_slices_Clone_int_int (r : (List Int)) : St := ⟨[(2, .ref 0 1 0 r.length (some unkC))], [(0, .arr 3 1 true (r.map (D.int .i64)))], 1⟩
attribute [local go_sem] Try.Re_slices_Clone_int_int
theorem callH_slices_Clone_int_int (a0 : List Int) (r : (List Int)) (h : m_slices_Clone_int_int a0 = some r) : CallH Try.prog 27 [.imm 1 (a0.map (D.int .i64)) 4] [] (.ref 0 1 0 r.length (some unkC)) [(0, some (.arr 3 1 true (r.map (D.int .i64))))] (0, 3) := by
 refine callH_intro' Try.tmOk Try.func27 rfl (by decide) (Nat.le_of_ble_eq_true rfl) (by simp) ?_
 intro hwf
 unfold m_slices_Clone_int_int at h
 refine .ends 0 (Nat.le_refl _) ?_
 refine .nil4 0 1 (a0.map (D.int .i64)) rfl ?_ (fun hl => ?_)
 ·skip
  refine .seq ?_
  refine .pl Try.S [0] ?_
  refine .seq ?_
  refine .seq ?_
  refine .pl Try.S [0] ?_
  refine .cond rfl rfl (fun hc => by cases hc) (fun hc => ?_)
  refine .skip ?_
  obtain ⟨k1, h⟩ := ite_ck h
  refine .seqM 0 (fun (_ : Unit) => ⟨[(2, .ref 0 1 0 a0.length (some unkC))], [(0, .arr 3 1 true (a0.map (D.int .i64)))], 1⟩) (fun _ => True) (Nat.le_of_ble_eq_true rfl) ?_ (fun _ _ => ?_)
  ·skip
   rcases list_cases a0 with hE1 | ⟨y, ys, hE1⟩
   ·skip
    have hM1 : a0.map (D.int .i64) = [] := by rw [hE1]; simp
    refine .plain Try.tmOk Try.tmMixed [0] (by decide +kernel) (by intro q hq; simp only [go_sem, Nat.reduceSub, Int.reduceEq, Nat.reduceLT, Nat.reduceDiv, Nat.reduceAdd, Nat.reduceBEq, Nat.reduceLeDiff, reduceCtorEq, Nat.reduceEqDiff, Nat.reduceMod, Nat.reduceMul, Try.tm_22, appendD_nil hM1]; exact hq) (by first | rfl | (simp only [go_sem, Nat.reduceLeDiff]; done) | (simp only [go_sem, Nat.reduceLeDiff]; rfl) | (simp; done) | (simp [oneD] <;> omega) | (simp_all; done) | (simp_all [oneD] <;> omega)) (by first | exact Nat.le_refl _ | exact Nat.le_of_ble_eq_true rfl | (dsimp only; omega) | (simp <;> omega)) ?_
    refine ⟨(), ?_, trivial⟩
    refine Goes.new0 1 3 (Nat.le_of_ble_eq_true rfl) ?_
    refine Goes.wk 2 _ (.ref 0 1 0 0 (some unkC)) rfl (.own0 0 _ _ _ (by decide)) ?_
    exact .mx hE1 [2] [0] []
   ·skip
    have hM1 : a0.map (D.int .i64) ≠ [] := by rw [hE1]; simp
    refine .plain Try.tmOk Try.tmMixed [0] (by decide +kernel) (by intro q hq; simp only [go_sem, Nat.reduceSub, Int.reduceEq, Nat.reduceLT, Nat.reduceDiv, Nat.reduceAdd, Nat.reduceBEq, Nat.reduceLeDiff, reduceCtorEq, Nat.reduceEqDiff, Nat.reduceMod, Nat.reduceMul, Try.tm_22, appendD_cons hM1]; exact hq) (by first | rfl | (simp only [go_sem, Nat.reduceLeDiff]; done) | (simp only [go_sem, Nat.reduceLeDiff]; rfl) | (simp; done) | (simp [oneD] <;> omega) | (simp_all; done) | (simp_all [oneD] <;> omega)) (by first | exact Nat.le_refl _ | exact Nat.le_of_ble_eq_true rfl | (dsimp only; omega) | (simp <;> omega)) ?_
    refine ⟨(), ?_, trivial⟩
    refine Goes.wk 2 _ (.ref 0 1 0 a0.length (some unkC)) rfl (.unk _ _ _ _ _) ?_
    exact .mx hE1 [2] [0] []
  have hq := Option.some.inj h
  subst r
  refine .ret ⟨Try.Re_slices_Clone_int_int a0, ?_, .inr rfl, retH [0] ?_ ?_⟩
  ·skip
   exact .m [2] [0] []
  ·exact rsi0
  ·rfl
 ·skip
  have hE0 : a0 = [] := by simpa using hl
  obtain ⟨k1, h⟩ := ite_ck h
  refine .seq ?_
  refine .pl Try.S [0] ?_
  refine .seq ?_
  refine .seq ?_
  refine .pl Try.S [0] ?_
  refine .cond rfl rfl (fun hc => ?_) (fun hc => by cases hc)
  refine .seq ?_
  refine .pl Try.S [] ?_
  have hq := Option.some.inj h
  subst r
  refine .ret ⟨Try.Re_slices_Clone_int_int a0, ?_, .inr rfl, retH [0] ?_ ?_⟩
  ·skip
   refine Goes.new0 1 3 (Nat.le_of_ble_eq_true rfl) ?_
   refine Goes.wk 2 _ (.ref 0 1 0 0 (some unkC)) rfl (.own0 0 _ _ _ (by decide)) ?_
   exact .mx hE0 [2] [0] []
  ·exact rsi0
  ·rfl
def Try.Re_slices_Clone_Promise_Promise (r : (List TPromise)) : St := ⟨[(2, .ref 0 3 0 r.length (some unkC))], [(0, .arr 77 3 true (r.map TPromise.d))], 1⟩
attribute [local go_sem] Try.Re_slices_Clone_Promise_Promise
theorem callH_slices_Clone_Promise_Promise (a0 : List TPromise) (r : (List TPromise)) (h : m_slices_Clone_Promise_Promise a0 = some r) : CallH Try.prog 54 [.imm 3 (a0.map TPromise.d) 4] [] (.ref 0 3 0 r.length (some unkC)) [(0, some (.arr 77 3 true (r.map TPromise.d)))] (0, 3) := by
 refine callH_intro' Try.tmOk Try.func54 rfl (by decide) (Nat.le_of_ble_eq_true rfl) (by simp) ?_
 intro hwf
 unfold m_slices_Clone_Promise_Promise at h
 refine .ends 0 (Nat.le_refl _) ?_
 refine .nil4 0 3 (a0.map TPromise.d) rfl ?_ (fun hl => ?_)
 ·skip
  refine .seq ?_
  refine .pl Try.S [0] ?_
  refine .seq ?_
  refine .seq ?_
  refine .pl Try.S [0] ?_
  refine .cond rfl rfl (fun hc => by cases hc) (fun hc => ?_)
  refine .skip ?_
  obtain ⟨k1, h⟩ := ite_ck h
  refine .seqM 0 (fun (_ : Unit) => ⟨[(2, .ref 0 3 0 a0.length (some unkC))], [(0, .arr 77 3 true (a0.map TPromise.d))], 1⟩) (fun _ => True) (Nat.le_of_ble_eq_true rfl) ?_ (fun _ _ => ?_)
  ·skip
   rcases list_cases a0 with hE1 | ⟨y, ys, hE1⟩
   ·skip
    have hM1 : a0.map TPromise.d = [] := by rw [hE1]; simp
    refine .plain Try.tmOk Try.tmMixed [0] (by decide +kernel) (by intro q hq; simp only [go_sem, Nat.reduceSub, Int.reduceEq, Nat.reduceLT, Nat.reduceDiv, Nat.reduceAdd, Nat.reduceBEq, Nat.reduceLeDiff, reduceCtorEq, Nat.reduceEqDiff, Nat.reduceMod, Nat.reduceMul, Try.tm_43, appendD_nil hM1, TPromise.d]; exact hq) (by first | rfl | (simp only [go_sem, Nat.reduceLeDiff]; done) | (simp only [go_sem, Nat.reduceLeDiff]; rfl) | (simp; done) | (simp [oneD] <;> omega) | (simp_all; done) | (simp_all [oneD] <;> omega)) (by first | exact Nat.le_refl _ | exact Nat.le_of_ble_eq_true rfl | (dsimp only; omega) | (simp <;> omega)) ?_
    refine ⟨(), ?_, trivial⟩
    refine Goes.new0 3 77 (Nat.le_of_ble_eq_true rfl) ?_
    refine Goes.wk 2 _ (.ref 0 3 0 0 (some unkC)) rfl (.own0 0 _ _ _ (by decide)) ?_
    exact .mx hE1 [2] [0] []
   ·skip
    have hM1 : a0.map TPromise.d ≠ [] := by rw [hE1]; simp
    refine .plain Try.tmOk Try.tmMixed [0] (by decide +kernel) (by intro q hq; simp only [go_sem, Nat.reduceSub, Int.reduceEq, Nat.reduceLT, Nat.reduceDiv, Nat.reduceAdd, Nat.reduceBEq, Nat.reduceLeDiff, reduceCtorEq, Nat.reduceEqDiff, Nat.reduceMod, Nat.reduceMul, Try.tm_43, appendD_cons hM1, TPromise.d]; exact hq) (by first | rfl | (simp only [go_sem, Nat.reduceLeDiff]; done) | (simp only [go_sem, Nat.reduceLeDiff]; rfl) | (simp; done) | (simp [oneD] <;> omega) | (simp_all; done) | (simp_all [oneD] <;> omega)) (by first | exact Nat.le_refl _ | exact Nat.le_of_ble_eq_true rfl | (dsimp only; omega) | (simp <;> omega)) ?_
    refine ⟨(), ?_, trivial⟩
    refine Goes.wk 2 _ (.ref 0 3 0 a0.length (some unkC)) rfl (.unk _ _ _ _ _) ?_
    exact .mx hE1 [2] [0] []
  have hq := Option.some.inj h
  subst r
  refine .ret ⟨Try.Re_slices_Clone_Promise_Promise a0, ?_, .inr rfl, retH [0] ?_ ?_⟩
  ·skip
   exact .m [2] [0] []
  ·exact rsi0
  ·rfl
 ·skip
  have hE0 : a0 = [] := by simpa using hl
  obtain ⟨k1, h⟩ := ite_ck h
  refine .seq ?_
  refine .pl Try.S [0] ?_
  refine .seq ?_
  refine .seq ?_
  refine .pl Try.S [0] ?_
  refine .cond rfl rfl (fun hc => ?_) (fun hc => by cases hc)
  refine .seq ?_
  refine .pl Try.S [] ?_
  have hq := Option.some.inj h
  subst r
  refine .ret ⟨Try.Re_slices_Clone_Promise_Promise a0, ?_, .inr rfl, retH [0] ?_ ?_⟩
  ·skip
   refine Goes.new0 3 77 (Nat.le_of_ble_eq_true rfl) ?_
   refine Goes.wk 2 _ (.ref 0 3 0 0 (some unkC)) rfl (.own0 0 _ _ _ (by decide)) ?_
   exact .mx hE0 [2] [0] []
  ·exact rsi0
  ·rfl
def Try.Re_attempt_Twin (r : TAttempt) : St := ⟨[(2, .ptr 3 0)], [(0, .arr 3 1 true (r.Members.map (D.int .i64))), (1, .arr 77 3 true (r.Promises.map TPromise.d)), (2, .arr 3 1 true (r.Accepted.map (D.int .i64))), (3, .box [.int .u8 r.Phase, .int .i64 r.Ballot, .ref 0 1 0 r.Members.length (some unkC), .str r.Wish, .str r.Value, .ref 1 3 0 r.Promises.length (some unkC), .ref 2 1 0 r.Accepted.length (some unkC)])], 4⟩
attribute [local go_sem] Try.Re_attempt_Twin
theorem callH_attempt_Twin (a0 : TAttempt) (r : TAttempt) (h : m_attempt_Twin a0 = some r) : CallH Try.prog 42 [.agg [.int .u8 a0.Phase, .int .i64 a0.Ballot, .imm 1 (a0.Members.map (D.int .i64)) 4, .str a0.Wish, .str a0.Value, .imm 3 (a0.Promises.map TPromise.d) 4, .imm 1 (a0.Accepted.map (D.int .i64)) 4]] [] (.agg [.int .u8 r.Phase, .int .i64 r.Ballot, .ref 0 1 0 r.Members.length (some unkC), .str r.Wish, .str r.Value, .ref 1 3 0 r.Promises.length (some unkC), .ref 2 1 0 r.Accepted.length (some unkC)]) [(0, some (.arr 3 1 true (r.Members.map (D.int .i64)))), (1, some (.arr 77 3 true (r.Promises.map TPromise.d))), (2, some (.arr 3 1 true (r.Accepted.map (D.int .i64))))] (0, 14) := by
 refine callH_intro' Try.tmOk Try.func42 rfl (by decide) (Nat.le_of_ble_eq_true rfl) (by simp) ?_
 intro hwf
 unfold m_attempt_Twin at h
 refine .ends 0 (Nat.le_refl _) ?_
 refine .seq ?_
 refine .pl Try.S [0] ?_
 refine .seq ?_
 obtain ⟨v1, hv1, h⟩ := bind_some h
 obtain ⟨v2, hv2, h⟩ := bind_some h
 obtain ⟨v3, hv3, h⟩ := bind_some h
 refine .rg Try.S [1, 2] ?_
 refine .rd 2 ?_
 refine .ncall (r := .ref 3 1 0 v1.length (some unkC)) (eff := [(3, some (.arr 3 1 true (v1.map (D.int .i64))))]) (nw := (3, 6)) [] rfl rfl rfl rfl rfl (lend2s_cons rfl lend2s_nil) rfl (callH_at 3 (Nat.le_of_ble_eq_true rfl) (callH_slices_Clone_int_int a0.Members v1 hv1)) (newE_cons rfl rfl (newB_arr pl0_i64 _ _ _) newE_nil) (by intro i hi; simp [D.ids, D.idsL] at hi <;> omega) rfl ⟨Nat.le_of_ble_eq_true rfl, Nat.le_of_ble_eq_true rfl⟩ ?_
 refine .rd 2 ?_
 refine .ncall (r := .ref 6 3 0 v2.length (some unkC)) (eff := [(6, some (.arr 77 3 true (v2.map TPromise.d)))]) (nw := (6, 9)) [] rfl rfl rfl rfl rfl (lend2s_cons rfl lend2s_nil) rfl (callH_at 6 (Nat.le_of_ble_eq_true rfl) (callH_slices_Clone_Promise_Promise a0.Promises v2 hv2)) (newE_cons rfl rfl (newB_arr pl0_TPromise _ _ _) newE_nil) (by intro i hi; simp [D.ids, D.idsL] at hi <;> omega) rfl ⟨Nat.le_of_ble_eq_true rfl, Nat.le_of_ble_eq_true rfl⟩ ?_
 refine .rd 2 ?_
 refine .ncall (r := .ref 9 1 0 v3.length (some unkC)) (eff := [(9, some (.arr 3 1 true (v3.map (D.int .i64))))]) (nw := (9, 12)) [] rfl rfl rfl rfl rfl (lend2s_cons rfl lend2s_nil) rfl (callH_at 9 (Nat.le_of_ble_eq_true rfl) (callH_slices_Clone_int_int a0.Accepted v3 hv3)) (newE_cons rfl rfl (newB_arr pl0_i64 _ _ _) newE_nil) (by intro i hi; simp [D.ids, D.idsL] at hi <;> omega) rfl ⟨Nat.le_of_ble_eq_true rfl, Nat.le_of_ble_eq_true rfl⟩ ?_
 refine .rd 6 ?_
 refine .nil ⟨fun _ => schedB_of (by kernel_rfl), ?_⟩
 refine .seq ?_
 refine .pl Try.S [1, 2] ?_
 have hq := Option.some.inj h
 subst r
 refine .ret ⟨Try.Re_attempt_Twin (⟨a0.Phase, a0.Ballot, v1, a0.Wish, a0.Value, v2, v3⟩ : TAttempt), ?_, .inr rfl, retH [2, 1, 0] ?_ ?_⟩
 ·skip
  exact .m [2] [3, 6, 9, 1] [(3, 0), (6, 1), (9, 2), (1, 3)]
 ·exact rsi0
 ·rfl
theorem callP_attempt_Twin (a0 : TAttempt) (r : TAttempt) (h : m_attempt_Twin a0 = some r) : CallP Try.prog 42 [.agg [.int .u8 a0.Phase, .int .i64 a0.Ballot, .imm 1 (a0.Members.map (D.int .i64)) 4, .str a0.Wish, .str a0.Value, .imm 3 (a0.Promises.map TPromise.d) 4, .imm 1 (a0.Accepted.map (D.int .i64)) 4]] (.agg [.int .u8 r.Phase, .int .i64 r.Ballot, .imm 1 (r.Members.map (D.int .i64)) 12, .str r.Wish, .str r.Value, .imm 3 (r.Promises.map TPromise.d) 12, .imm 1 (r.Accepted.map (D.int .i64)) 12]) :=
 callP_frz (frz_agg (frzs_cons rfl (frzs_cons rfl (frzs_cons (frz_ref0 pl0_i64 rfl rfl) (frzs_cons rfl (frzs_cons rfl (frzs_cons (frz_ref0 pl0_TPromise rfl rfl) (frzs_cons (frz_ref0 pl0_i64 rfl rfl) frzs_nil)))))))) (callH_attempt_Twin a0 r h)
def Try.Re_attempt_Begin (r : TAttempt × Int) : St := ⟨[(6, .ptr 3 0), (7, .int .i64 r.2)], [(0, .arr 3 1 true (r.1.Members.map (D.int .i64))), (1, .arr 77 3 true (r.1.Promises.map TPromise.d)), (2, .arr 3 1 true (r.1.Accepted.map (D.int .i64))), (3, .box [.int .u8 r.1.Phase, .int .i64 r.1.Ballot, .ref 0 1 0 r.1.Members.length (some unkC), .str r.1.Wish, .str r.1.Value, .ref 1 3 0 r.1.Promises.length (some unkC), .ref 2 1 0 r.1.Accepted.length (some unkC)])], 4⟩
attribute [local go_sem] Try.Re_attempt_Begin
theorem callH_attempt_Begin (a0 : List Int) (a1 : Int) (a2 : List UInt8) (r : TAttempt × Int) (h : m_attempt_Begin a0 a1 a2 = some r) : CallH Try.prog 45 [.imm 1 (a0.map (D.int .i64)) 4, .int .i64 a1, .str a2] [] (.tuple [.agg [.int .u8 r.1.Phase, .int .i64 r.1.Ballot, .ref 0 1 0 r.1.Members.length (some unkC), .str r.1.Wish, .str r.1.Value, .ref 1 3 0 r.1.Promises.length (some unkC), .ref 2 1 0 r.1.Accepted.length (some unkC)], .int .i64 r.2]) [(0, some (.arr 3 1 true (r.1.Members.map (D.int .i64)))), (1, some (.arr 77 3 true (r.1.Promises.map TPromise.d))), (2, some (.arr 3 1 true (r.1.Accepted.map (D.int .i64))))] (0, 10) := by
 refine callH_intro' Try.tmOk Try.func45 rfl (by decide) (Nat.le_of_ble_eq_true rfl) (by simp) ?_
 intro hwf
 unfold m_attempt_Begin at h
 refine .ends 0 (Nat.le_refl _) ?_
 refine .seq ?_
 refine .pl Try.S [0, 1, 2] ?_
 refine .seq ?_
 refine .seq ?_
 obtain ⟨v1, hv1, h⟩ := bind_some h
 refine .rg Try.S [0, 1, 2, 6] ?_
 refine .rn 1 ?_
 refine .call (r := .int .i64 v1) rfl rfl rfl rfl rfl rfl (callP_quorum_Check a0 v1 hv1) ?_
 refine .rn 1 ?_
 refine .nil ⟨nofun, ?_⟩
 refine .seq ?_
 refine .pl Try.S [0, 1, 2, 6, 8] ?_
 refine .cond rfl rfl (fun hc1 => ?_) (fun hc1 => ?_)
 ·skip
  replace h := ite_lc h hc1
  refine .seq ?_
  refine .pl Try.S [6, 8] ?_
  have hq := Option.some.inj h
  subst r
  refine .ret ⟨Try.Re_attempt_Begin ((⟨0, 0, [], [], [], [], []⟩ : TAttempt), v1), ?_, .inr rfl, retH [2, 1, 0] ?_ ?_⟩
  ·skip
   refine Goes.new0 1 3 (Nat.le_of_ble_eq_true rfl) ?_
   refine Goes.new0 3 77 (Nat.le_of_ble_eq_true rfl) ?_
   refine Goes.new0 1 3 (Nat.le_of_ble_eq_true rfl) ?_
   refine Goes.boxs 0 _ [.int .u8 0, .int .i64 0, .ref 1 1 0 0 (some unkC), .str [], .str [], .ref 2 3 0 0 (some unkC), .ref 3 1 0 0 (some unkC)] rfl (.keep (.keep (.cons (.own0 1 _ _ _ (by decide)) (.keep (.keep (.cons (.own0 2 _ _ _ (by decide)) (.cons (.own0 3 _ _ _ (by decide)) (.refl _)))))))) ?_
   exact .m [6, 7] [1, 2, 3, 0] [(1, 0), (2, 1), (3, 2), (0, 3)]
  ·exact rsi0
  ·rfl
 ·skip
  replace h := ite_rc h hc1
  refine .skip ?_
  refine .seq ?_
  refine .seq ?_
  obtain ⟨v2, hv2, h⟩ := bind_some h
  refine .rg Try.S [0, 1, 2, 6] ?_
  refine .rn 1 ?_
  refine .call (r := .int .i64 v2) rfl rfl rfl rfl rfl rfl (callP_ballot_Check a1 v2 hv2) ?_
  refine .rn 1 ?_
  refine .nil ⟨nofun, ?_⟩
  refine .seq ?_
  refine .pl Try.S [0, 1, 2, 6, 9] ?_
  refine .cond rfl rfl (fun hc2 => ?_) (fun hc2 => ?_)
  ·skip
   replace h := ite_lc h hc2
   refine .seq ?_
   refine .pl Try.S [6, 9] ?_
   have hq := Option.some.inj h
   subst r
   refine .ret ⟨Try.Re_attempt_Begin ((⟨0, 0, [], [], [], [], []⟩ : TAttempt), v2), ?_, .inr rfl, retH [2, 1, 0] ?_ ?_⟩
   ·skip
    refine Goes.new0 1 3 (Nat.le_of_ble_eq_true rfl) ?_
    refine Goes.new0 3 77 (Nat.le_of_ble_eq_true rfl) ?_
    refine Goes.new0 1 3 (Nat.le_of_ble_eq_true rfl) ?_
    refine Goes.boxs 0 _ [.int .u8 0, .int .i64 0, .ref 1 1 0 0 (some unkC), .str [], .str [], .ref 2 3 0 0 (some unkC), .ref 3 1 0 0 (some unkC)] rfl (.keep (.keep (.cons (.own0 1 _ _ _ (by decide)) (.keep (.keep (.cons (.own0 2 _ _ _ (by decide)) (.cons (.own0 3 _ _ _ (by decide)) (.refl _)))))))) ?_
    exact .m [6, 7] [1, 2, 3, 0] [(1, 0), (2, 1), (3, 2), (0, 3)]
   ·exact rsi0
   ·rfl
  ·skip
   replace h := ite_rc h hc2
   refine .skip ?_
   refine .seq ?_
   refine .seq ?_
   refine .pl Try.S [0, 1, 2, 6] ?_
   refine .cond rfl rfl (fun hc3 => ?_) (fun hc3 => ?_)
   ·skip
    replace h := ite_lc h hc3
    refine .seq ?_
    refine .pl Try.S [6] ?_
    have hq := Option.some.inj h
    subst r
    refine .ret ⟨Try.Re_attempt_Begin ((⟨0, 0, [], [], [], [], []⟩ : TAttempt), 3), ?_, .inr rfl, retH [2, 1, 0] ?_ ?_⟩
    ·skip
     refine Goes.new0 1 3 (Nat.le_of_ble_eq_true rfl) ?_
     refine Goes.new0 3 77 (Nat.le_of_ble_eq_true rfl) ?_
     refine Goes.new0 1 3 (Nat.le_of_ble_eq_true rfl) ?_
     refine Goes.boxs 0 _ [.int .u8 0, .int .i64 0, .ref 1 1 0 0 (some unkC), .str [], .str [], .ref 2 3 0 0 (some unkC), .ref 3 1 0 0 (some unkC)] rfl (.keep (.keep (.cons (.own0 1 _ _ _ (by decide)) (.keep (.keep (.cons (.own0 2 _ _ _ (by decide)) (.cons (.own0 3 _ _ _ (by decide)) (.refl _)))))))) ?_
     exact .m [6, 7] [1, 2, 3, 0] [(1, 0), (2, 1), (3, 2), (0, 3)]
    ·exact rsi0
    ·rfl
   ·skip
    replace h := ite_rc h hc3
    refine .skip ?_
    refine .seq ?_
    obtain ⟨v3, hv3, h⟩ := bind_some h
    refine .rg Try.S [0, 1, 2, 6] ?_
    refine .rn 2 ?_
    refine .ncall (r := .ref 3 1 0 v3.length (some unkC)) (eff := [(3, some (.arr 3 1 true (v3.map (D.int .i64))))]) (nw := (3, 6)) [] rfl rfl rfl rfl rfl (lend2s_cons rfl lend2s_nil) rfl (callH_at 3 (Nat.le_of_ble_eq_true rfl) (callH_slices_Clone_int_int a0 v3 hv3)) (newE_cons rfl rfl (newB_arr pl0_i64 _ _ _) newE_nil) (by intro i hi; simp [D.ids, D.idsL] at hi <;> omega) rfl ⟨Nat.le_of_ble_eq_true rfl, Nat.le_of_ble_eq_true rfl⟩ ?_
    refine .rn 4 ?_
    refine .nil ⟨nofun, ?_⟩
    have hq := Option.some.inj h
    subst r
    refine .ret ⟨Try.Re_attempt_Begin ((⟨1, a1, v3, a2, [], [], []⟩ : TAttempt), 0), ?_, .inr rfl, retH [2, 1, 0] ?_ ?_⟩
    ·skip
     refine Goes.new0 3 77 (Nat.le_of_ble_eq_true rfl) ?_
     refine Goes.new0 1 3 (Nat.le_of_ble_eq_true rfl) ?_
     refine Goes.boxs 0 _ [.int .u8 1, .int .i64 a1, .ref 3 1 0 v3.length (some unkC), .str a2, .str [], .ref 6 3 0 0 (some unkC), .ref 7 1 0 0 (some unkC)] rfl (.keep (.keep (.keep (.keep (.keep (.cons (.own0 6 _ _ _ (by decide)) (.cons (.own0 7 _ _ _ (by decide)) (.refl _)))))))) ?_
     exact .m [6, 7] [3, 6, 7, 0] [(3, 0), (6, 1), (7, 2), (0, 3)]
    ·exact rsi0
    ·rfl
theorem callP_attempt_Begin (a0 : List Int) (a1 : Int) (a2 : List UInt8) (r : TAttempt × Int) (h : m_attempt_Begin a0 a1 a2 = some r) : CallP Try.prog 45 [.imm 1 (a0.map (D.int .i64)) 4, .int .i64 a1, .str a2] (.tuple [.agg [.int .u8 r.1.Phase, .int .i64 r.1.Ballot, .imm 1 (r.1.Members.map (D.int .i64)) 12, .str r.1.Wish, .str r.1.Value, .imm 3 (r.1.Promises.map TPromise.d) 12, .imm 1 (r.1.Accepted.map (D.int .i64)) 12], .int .i64 r.2]) :=
 callP_frz (frz_tup (frzs_cons (frz_agg (frzs_cons rfl (frzs_cons rfl (frzs_cons (frz_ref0 pl0_i64 rfl rfl) (frzs_cons rfl (frzs_cons rfl (frzs_cons (frz_ref0 pl0_TPromise rfl rfl) (frzs_cons (frz_ref0 pl0_i64 rfl rfl) frzs_nil)))))))) (frzs_cons rfl frzs_nil))) (callH_attempt_Begin a0 a1 a2 r h)
end Go.Proofs
end
section
namespace Go.Tm
open Go.RowKit Go.WideShapes
theorem overs_of {P : Program} {K : FuncId} {fn : Func} {t r : TypeId} (hf : P.funcs[K]? = some fn) (hname : (fn.name == "runtime.NumGoroutine") = false) (hb : fn.body.isNone = true) (hn : Extern.findNext fn = none)
  (he : Extern.find fn = some (Extern.SlicesOverlaps.overlaps #[t, t] #[r])) {ti : TI} (ht : tiChk P t ti = true) (hk : ti.kind = 3) : Overs P K := by
 intro w x y la ca lb cb cx cy Tx Ty hne hs hx hy hz
 obtain ⟨el, j, hu, hj, hj1, hj2, hj3, hj4, _, hel'⟩ := ti_slice ht hk
 subst hel'
 have hsz : ∀ w : World, (sizeOf ti.el).run P w = .ok j.size w := fun w => by simp [sizeOf, typeInfo, hj]
 obtain ⟨xb, xo, xs⟩ := x
 simp only at hs hx hne
 subst hs
 rw [run_callFunc_extern hf hname hb hn he, Go.Lib.run_overlaps_apart w t r ti.el hu j.size hsz ⟨xb, xo, none⟩ y la ca lb cb hne Tx Ty cx.size cy.size (by simp [World.shape?, hx]) (by simp [World.shape?, hy]) hz (by simp [World.frozen?, hx]) (by simp [World.frozen?, hx])]
 rfl
theorem callH_capW {P : Program} {K : FuncId} {i k s n m : Nat} {e s' : Nat} {p p' : Bool} {l l' : List D} {post : List D} {H : List (Nat × Blk)} (hE : Enters P K) (hH : getL H i = some (.arr e s p l)) (hik : i ≠ k) (hm0 : 0 < m ∨ 0 < n)
  (hin : ∀ c, capK c = true → n ≤ c → m ≤ c → CallH P K (.ref i s 0 n (some c) :: post) H (.ref i s 0 m (some c)) [(i, some (.arr e s' p' l'))] (k, k))
  (hout : ∀ c, capK c = true → n ≤ c → c < m → CallH P K (.ref i s 0 n (some c) :: post) H (.ref k s 0 m none) [(k, some (.arr e s' p' l')), (i, none)] (k, k + 1)) :
  CallH P K (.ref i s 0 n (some unkC) :: post) H (.ref k s 0 m (some unkC)) [(k, some (.arr e s' p' l')), (i, none)] (k, k + 1) := by
 refine ⟨hE, fun fr w g hp nu vs hM hHs hnw hvs => ?_⟩
 simp only [reps] at hvs
 obtain ⟨v0, vs, rfl, h0, hvs⟩ := hvs
 have h0' := h0
 simp only [rep] at h0
 obtain ⟨q1, ad, cap, rfl, q2, q3, q4, q5, q6⟩ := h0
 have hc : rep (cx w g hp) (.ref i s 0 n (some cap)) (.slice ad n cap) := by
  simp only [rep]
  exact ⟨q1, ad, cap, rfl, q2, q3, q4, ⟨fun c h _ => by cases h; rfl, fun h => by cases h⟩, q6⟩
 have hargs : reps (cx w g hp) (.ref i s 0 n (some cap) :: post) (.slice ad n cap :: vs) := by
  simp only [reps]
  exact ⟨_, _, rfl, hc, hvs⟩
 have hck : capK cap = true := Nat.ble_eq_true_of_le (by omega)
 by_cases hcase : cap < m
 ·refine ((hout cap hck q2 hcase).2 fr w g hp nu _ hM hHs hnw hargs).mono ?_
  rintro ee w' ⟨v, g', he, ha⟩
  exact ⟨v, g', he, ha.gz, ha.gs, ha.keep, ha.mem, ha.own, rep_unk ha.res rfl⟩
 ·have hq6 := q6
  rcases q6 with q6 | ⟨b1, T1, n1, z1, _, z2, z3⟩
  ·omega
  refine ((hin cap hck q2 (by omega)).2 fr w g hp nu _ hM hHs (fun id h1 h2 => by have h1 : k ≤ id := h1; have h2 : id < k := h2; omega) hargs).mono ?_
  rintro ee w' ⟨v, g', he, ha⟩
  have hki : Nat.beq k i = false := beq_ne fun e => hik e.symm
  have hnk : nu k = true := hnw k (Nat.le_refl _) (Nat.lt_succ_self _)
  have hpi : hp i = some (.arr e s p l) := hHs i _ hH
  have hni : nu i = false := by
   cases h : nu i
   ·rfl
   ·rw [(hM.nw i h).2] at hpi; cases hpi
  have hσi : g'.σ i = some (b1, 0) := (ha.gs i hni).trans z1
  let E0 : En := ⟨w', fr, fun _ => True, g', effN nu (k, k)⟩
  let F0 : FrS := ⟨fun _ => .undef, effH hp [(i, some (.arr e s' p' l'))], effN nu (k, k)⟩
  let a0 : Act := ⟨#[], []⟩
  have hR0 : Rel E0 0 F0 a0 w' g' := ⟨Nat.zero_le _, rfl, fun _ => by simp only [F0, rep], ha.mem, fun _ _ _ _ _ => .inr trivial, Keep.refl _ _, ⟨rfl, rfl⟩, fun _ _ => rfl, fun _ h => h⟩
  have hpi' : effH hp [(i, some (.arr e s' p' l'))] i = some (.arr e s' p' l') := by simp [effH, getL]
  have hnk0 : F0.nu k = true := by
   show effN nu (k, k) k = true
   simp [effN, hnk]
  obtain ⟨r1, _⟩ := Rel.made hR0 (m := k) (blk := .arr e s' p' l') (loc := some (b1, 0)) (kl := some i) (w' := w') hnk0 ((Keep.refl _ w').mono fun _ _ h => h)
   (by rintro b o h; cases h; exact .inr ⟨i, 0, rfl, by show effH hp [(i, some (.arr e s' p' l'))] i ≠ none; rw [hpi']; simp, hσi⟩)
   (by
    intro C hC hle hrf hσ
    rcases ha.mem.hd i _ hpi' with ⟨_, h⟩ | ⟨b', cs, h1, h2, h3, h4⟩
    ·have h : g'.σ i = none := h
     rw [hσi] at h; cases h
    ·have h1 : g'.σ i = some (b', 0) := h1
     rw [hσi] at h1
     simp only [Option.some.injEq, Prod.mk.injEq] at h1
     obtain ⟨rfl, _⟩ := h1
     exact .inr ⟨b1, cs, hσ, by subst hC; exact h2, h3, elems_le (C := { cx w' g' (effH hp [(i, some (.arr e s' p' l'))]) with rf := !p' }) (C' := { C with rf := !p' }) (le_rf hle rfl _ _ id) _ _ _ _ (by subst hC; rfl) h4⟩)
  have hhp : effH (effH hp [(i, some (.arr e s' p' l'))]) ((k, some (.arr e s' p' l')) :: kill (some i)) = effH hp [(k, some (.arr e s' p' l')), (i, none)] := by
   funext x
   simp only [effH, kill, getL]
   cases h1 : Nat.beq k x
   ·cases h2 : Nat.beq i x <;> simp
   ·simp
  have hnn : effN (effN nu (k, k)) (k, k + 1) = effN nu (k, k + 1) := by
   funext x
   simp only [effN]
   have : (decide (k ≤ x) && decide (x < k)) = false := by
    cases hx : decide (k ≤ x) <;> simp at hx ⊢
    omega
   rw [this]; simp
  have hmem := r1.mem
  simp only [FrS.eff, F0] at hmem
  rw [hhp, hnn] at hmem
  have hpk : effH hp [(k, some (.arr e s' p' l')), (i, none)] i = none := by simp [effH, getL, hki]
  refine ⟨v, setσ g' k (some (b1, 0)), he, ha.gz, fun id hid => ?_, ha.keep, hmem, ?_, ?_⟩
  ·have : id ≠ k := by rintro rfl; rw [hnk] at hid; cases hid
   show (if id = k then _ else g'.σ id) = g.σ id
   rw [if_neg this]
   exact ha.gs id hid
  ·rintro b0 ⟨id, o, h1, h2⟩
   have h2 : (if id = k then some (b1, 0) else g'.σ id) = some (b0, o) := h2
   by_cases hidk : id = k
   ·rw [if_pos hidk] at h2
    simp only [Option.some.injEq, Prod.mk.injEq] at h2
    obtain ⟨rfl, rfl⟩ := h2
    exact ha.own b1 ⟨i, 0, by rw [hpi']; simp, hσi⟩
   ·rw [if_neg hidk] at h2
    by_cases hidi : id = i
    ·subst hidi
     rw [hpk] at h1
     exact absurd rfl h1
    ·refine ha.own b0 ⟨id, o, ?_, h2⟩
     have a1 : Nat.beq k id = false := beq_ne fun e => hidk e.symm
     have a2 : Nat.beq i id = false := beq_ne fun e => hidi e.symm
     simp only [effH, getL, a1, a2] at h1 ⊢
     exact h1
  ·have hres := ha.res
   simp only [rep] at hres ⊢
   obtain ⟨_, ad', cap', hv, k1, k2, k3, k4, k5⟩ := hres
   have hcc := k4.1 cap rfl (Nat.ble_eq_true_of_le (by omega))
   subst hcc
   have hsh : w'.shape? b1 = some (T1, n1) := by
    have := ha.keep.shp b1 (shape_lt (w := w) z2)
    rw [this]; exact z2
   refine ⟨by simp [cx], ad', cap', hv, k1, k2, k3, ⟨(fun c h hk => by cases h; cases hk), (fun h => by cases h)⟩, ?_⟩
   rcases k5 with k5 | ⟨b, T, nn, y1, y2, y3, y4⟩
   ·exact .inl k5
   ·have y1 : g'.σ i = some (b, 0) := y1
    rw [hσi] at y1
    simp only [Option.some.injEq, Prod.mk.injEq] at y1
    obtain ⟨rfl, _⟩ := y1
    exact .inr ⟨b1, T, nn, by simp [cx, setσ], y2, y3, y4⟩
end Go.Tm
end
section
namespace Go.Proofs
open Go.Tm Go.RowKit Go.WideShapes
set_option maxRecDepth 100000
set_option linter.unusedSimpArgs false
set_option linter.unusedVariables false
attribute [local go_sem] argVars runE runK isCallV stepE aop opd opdsL opds opdO ev ofVal keep List.any natbeq Bool.false_or Bool.true_or aggEq cond_true cond_false Bool.cond_false_right Bool.cond_true_left beq_true beq_false imp_self implies_true getR getL put St.app effL del nwB blt_dec Nat.lt_irrefl Nat.lt_add_one ble_dec Nat.le_refl Nat.beq_refl roomNZ appendIn capS mkZ_zero mkZL_zero zeroEl D.ids D.idsL bin arith sarith binT dpick Tm.part splice fillD oneD loadD storeD srcD sliceD idxOk decide_true gval dstAt D.cells List.map_cons List.map_nil List.take List.drop List.length_map List.append Int.toNat_natCast and_true true_and decide_false List.length_cons List.length_nil List.append_nil List.nil_append Bool.and_true Bool.true_and Bool.not_false Bool.not_true ne_eq not_false_eq_true BEq.rfl List.getElem?_cons_zero List.getElem?_cons_succ List.getElem?_nil Nat.zero_add List.all_cons List.all_nil List.isEmpty_cons List.isEmpty_nil Option.getD_some Option.getD_none List.any_cons List.any_nil List.drop_succ_cons List.drop_zero unfL unf okM okML low3 List.cons_append true_or or_true Nat.zero_mul Nat.zero_le fpOf opIds
theorem overs70 : Overs Try.prog 70 := overs_of (r := 4) Try.func70 (by kernel_rfl) (by kernel_rfl) (by kernel_rfl) (by kernel_rfl) (Try.tmOk.1 43 (by decide)) rfl
theorem ins64e (i j k : Nat) (hij : i ≠ j) (hik : i ≠ k) (hjk : j ≠ k) (L : List D) (x : D) (P Q : Bool) (hL : L.length < 1000000) :
  CallH Try.prog 64 [.ref i 3 0 L.length (some unkC), .int .i64 (L.length : Int), .ref j 3 0 1 (some 1)] [(i, .arr 77 3 P L), (j, .arr 77 3 Q [x])] (.ref k 3 0 (L.length + 1) (some unkC)) [(k, some (.arr 77 3 (P && Q) (L ++ [x]))), (i, none)] (k, k + 1) := by
 have bij : Nat.beq i j = false := beq_ne hij
 have bik : Nat.beq i k = false := beq_ne hik
 have bjk : Nat.beq j k = false := beq_ne hjk
 have bji : Nat.beq j i = false := beq_ne (Ne.symm hij)
 have bki : Nat.beq k i = false := beq_ne (Ne.symm hik)
 have bkj : Nat.beq k j = false := beq_ne (Ne.symm hjk)
 have n10 : ¬ ((1 : Int) = 0) := by omega
 have hx : (1 : Nat) ≤ 1 := Nat.le_refl _
 refine callH_intro' Try.tmOk Try.func64 rfl (by decide) (Nat.le_of_ble_eq_true rfl) (by simp) ?_
 intro hwf
 refine .seq ?_
 refine .plain Try.tmOk Try.tmMixed [0, 1, 2] (by decide +kernel) (by intro q hq; simp only [go_sem, appendD, Nat.reduceSub, Int.reduceEq, Nat.reduceLT, Nat.reduceDiv, Nat.reduceAdd, Nat.reduceBEq, Nat.reduceLeDiff, reduceCtorEq, Nat.reduceEqDiff, Nat.reduceMod, capK, bij, bik, bjk, bji, bki, bkj]; exact hq) (by first | rfl | (simp only [go_sem, Nat.reduceLeDiff]; done) | (simp only [go_sem, Nat.reduceLeDiff]; rfl) | (simp; done) | (simp [oneD] <;> omega) | (simp_all; done) | (simp_all [oneD] <;> omega)) (by first | exact Nat.le_refl _ | exact Nat.le_of_ble_eq_true rfl | (dsimp only; omega) | (simp <;> omega)) ?_
 refine .seq ?_
 refine .plain Try.tmOk Try.tmMixed [0, 1, 2] (by decide +kernel) (by intro q hq; simp only [go_sem, appendD, Nat.reduceSub, Int.reduceEq, Nat.reduceLT, Nat.reduceDiv, Nat.reduceAdd, Nat.reduceBEq, Nat.reduceLeDiff, reduceCtorEq, Nat.reduceEqDiff, Nat.reduceMod, capK, Try.tm_43, Try.tm_3, bij, bik, bjk, bji, bki, bkj]; exact hq) (by first | rfl | (simp only [go_sem, Nat.reduceLeDiff]; done) | (simp only [go_sem, Nat.reduceLeDiff]; rfl) | (simp; done) | (simp [oneD] <;> omega) | (simp_all; done) | (simp_all [oneD] <;> omega)) (by first | exact Nat.le_refl _ | exact Nat.le_of_ble_eq_true rfl | (dsimp only; omega) | (simp <;> omega)) ?_
 refine .seq ?_
 refine .plain Try.tmOk Try.tmMixed [0, 1, 2] (by decide +kernel) (by intro q hq; simp only [go_sem, appendD, Nat.reduceSub, Int.reduceEq, Nat.reduceLT, Nat.reduceDiv, Nat.reduceAdd, Nat.reduceBEq, Nat.reduceLeDiff, reduceCtorEq, Nat.reduceEqDiff, Nat.reduceMod, capK, Try.tm_43, Try.tm_3, bij, bik, bjk, bji, bki, bkj]; exact hq) (by first | rfl | (simp only [go_sem, Nat.reduceLeDiff]; done) | (simp only [go_sem, Nat.reduceLeDiff]; rfl) | (simp; done) | (simp [oneD] <;> omega) | (simp_all; done) | (simp_all [oneD] <;> omega)) (by first | exact Nat.le_refl _ | exact Nat.le_of_ble_eq_true rfl | (dsimp only; omega) | (simp <;> omega)) ?_
 refine .seq ?_
 refine .seq ?_
 refine .plain Try.tmOk Try.tmMixed [0, 1, 2, 7] (by decide +kernel) (by intro q hq; simp only [go_sem, appendD, Nat.reduceSub, Int.reduceEq, Nat.reduceLT, Nat.reduceDiv, Nat.reduceAdd, Nat.reduceBEq, Nat.reduceLeDiff, reduceCtorEq, Nat.reduceEqDiff, Nat.reduceMod, capK, Try.tm_43, Try.tm_3]; exact hq) (by first | rfl | (simp only [go_sem, Nat.reduceLeDiff]; done) | (simp only [go_sem, Nat.reduceLeDiff]; rfl) | (simp; done) | (simp [oneD] <;> omega) | (simp_all; done) | (simp_all [oneD] <;> omega)) (by first | exact Nat.le_refl _ | exact Nat.le_of_ble_eq_true rfl | (dsimp only; omega) | (simp <;> omega)) ?_
 refine .cond rfl rfl (fun hc => by simp at hc) (fun hc => ?_)
 refine .skip ?_
 refine .seq ?_
 refine .plain Try.tmOk Try.tmMixed [0, 1, 2, 7] (by decide +kernel) (by intro q hq; simp only [go_sem, appendD, Nat.reduceSub, Int.reduceEq, Nat.reduceLT, Nat.reduceDiv, Nat.reduceAdd, Nat.reduceBEq, Nat.reduceLeDiff, reduceCtorEq, Nat.reduceEqDiff, Nat.reduceMod, capK, Try.tm_43, Try.tm_3]; exact hq) (by first | rfl | (simp only [go_sem, Nat.reduceLeDiff]; done) | (simp only [go_sem, Nat.reduceLeDiff]; rfl) | (simp; done) | (simp [oneD] <;> omega) | (simp_all; done) | (simp_all [oneD] <;> omega)) (by first | exact Nat.le_refl _ | exact Nat.le_of_ble_eq_true rfl | (dsimp only; omega) | (simp <;> omega)) ?_
 refine .seq ?_
 refine .seq ?_
 refine .plain Try.tmOk Try.tmMixed [0, 1, 2, 7, 8] (by decide +kernel) (by intro q hq; simp only [go_sem, appendD, Nat.reduceSub, Int.reduceEq, Nat.reduceLT, Nat.reduceDiv, Nat.reduceAdd, Nat.reduceBEq, Nat.reduceLeDiff, reduceCtorEq, Nat.reduceEqDiff, Nat.reduceMod, capK, Try.tm_43, Try.tm_3]; exact hq) (by first | rfl | (simp only [go_sem, Nat.reduceLeDiff]; done) | (simp only [go_sem, Nat.reduceLeDiff]; rfl) | (simp; done) | (simp [oneD] <;> omega) | (simp_all; done) | (simp_all [oneD] <;> omega)) (by first | exact Nat.le_refl _ | exact Nat.le_of_ble_eq_true rfl | (dsimp only; omega) | (simp <;> omega)) ?_
 refine .cond rfl rfl (fun hc => ?_) (fun hc => by simp at hc)
 refine .seq ?_
 refine .plain Try.tmOk Try.tmMixed [0, 2] (by decide +kernel) (by intro q hq; simp only [go_sem, appendD, Nat.reduceSub, Int.reduceEq, Nat.reduceLT, Nat.reduceDiv, Nat.reduceAdd, Nat.reduceBEq, Nat.reduceLeDiff, reduceCtorEq, Nat.reduceEqDiff, Nat.reduceMod, capK, Try.tm_43, Try.tm_3, bij, bik, bjk, bji, bki, bkj]; exact hq) (by first | rfl | (simp only [go_sem, Nat.reduceLeDiff]; done) | (simp only [go_sem, Nat.reduceLeDiff]; rfl) | (simp; done) | (simp [oneD] <;> omega) | (simp_all; done) | (simp_all [oneD] <;> omega)) (by first | exact Nat.le_refl _ | exact Nat.le_of_ble_eq_true rfl | (dsimp only; omega) | (simp <;> omega)) ?_
 refine .ret ⟨.inr rfl, retH [j, k] ?_ ?_⟩
 ·simp only [ResIs, resL, resD, resT, go_sem, appendD, Nat.reduceSub, Int.reduceEq, Nat.reduceLT, Nat.reduceDiv, Nat.reduceAdd, Nat.reduceBEq, Nat.reduceLeDiff, reduceCtorEq, Nat.reduceEqDiff, Nat.reduceMod, Try.f64]
 ·simp only [pickL, getL, effL, put, del, Nat.beq_refl, cond_true, cond_false, bij, bik, bjk, bji, bki, bkj, List.take_length]
theorem ins64g (i j k : Nat) (hij : i ≠ j) (hik : i ≠ k) (hjk : j ≠ k) (L : List D) (x : D) (P Q : Bool) (at' c : Nat) (hck : capK c = true) (hat : at' < L.length) (hL : L.length < 1000000) (h1 : L.length ≤ c) (h2 : c < L.length + 1) :
  CallH Try.prog 64 [.ref i 3 0 L.length (some c), .int .i64 (at' : Int), .ref j 3 0 1 (some 1)] [(i, .arr 77 3 P L), (j, .arr 77 3 Q [x])] (.ref k 3 0 (L.length + 1) none) [(k, some (.arr 77 3 (P && Q) (L.take at' ++ x :: L.drop at'))), (i, none)] (k, k + 1) := by
 obtain rfl : c = L.length := by omega
 have hck2 := hck
 have bij : Nat.beq i j = false := beq_ne hij
 have bik : Nat.beq i k = false := beq_ne hik
 have bjk : Nat.beq j k = false := beq_ne hjk
 have bji : Nat.beq j i = false := beq_ne (Ne.symm hij)
 have bki : Nat.beq k i = false := beq_ne (Ne.symm hik)
 have bkj : Nat.beq k j = false := beq_ne (Ne.symm hjk)
 have hw : wr .i64 ((L.length : Int) + ((1 : Nat) : Int)) = ((L.length + 1 : Nat) : Int) := wr_eq _ _ (by show (-9223372036854775808 : Int) ≤ _; omega) (by show _ ≤ (9223372036854775807 : Int); omega)
 have hw2 : wr .i64 (((L.length + 1 : Nat) : Int) - (at' : Int)) = ((L.length + 1 - at' : Nat) : Int) := by
  rw [wr_eq _ _ (by show (-9223372036854775808 : Int) ≤ _; omega) (by show _ ≤ (9223372036854775807 : Int); omega)]
  omega
 have hw3 : wr .i64 ((at' : Int) + ((1 : Nat) : Int)) = ((at' + 1 : Nat) : Int) := wr_eq _ _ (by show (-9223372036854775808 : Int) ≤ _; omega) (by show _ ≤ (9223372036854775807 : Int); omega)
 have ha : at' + (L.length + 1 - at') = L.length + 1 := by omega
 have pq : (P && Q && P) = (P && Q) := by cases P <;> cases Q <;> rfl
 have hm1 : Nat.min 1 (L.length + 1 - at') = 1 := by show min 1 (L.length + 1 - at') = 1; omega
 have hm2 : Nat.min (L.length - at') (L.length + 1 - (at' + 1)) = L.length - at' := by show min (L.length - at') (L.length + 1 - (at' + 1)) = L.length - at'; omega
 have tk : (L.take at').length = at' := by simp; omega
 have e1 : List.take at' (List.take at' L ++ List.replicate (L.length + 1 - at') (D.agg [D.int .i64 0, D.int .i64 0, D.str []])) = List.take at' L := by
  rw [List.take_append_of_le_length (by omega), List.take_of_length_le (by omega)]
 have e2 : List.drop (at' + 1) (List.take at' L ++ List.replicate (L.length + 1 - at') (D.agg [D.int .i64 0, D.int .i64 0, D.str []])) = List.replicate (L.length - at') (D.agg [D.int .i64 0, D.int .i64 0, D.str []]) := by
  rw [List.drop_append, List.drop_eq_nil_of_le (by omega), tk, List.nil_append, List.drop_replicate]
  congr 1; omega
 have e3 : List.take (at' + 1) (List.take at' L ++ [x] ++ List.replicate (L.length - at') (D.agg [D.int .i64 0, D.int .i64 0, D.str []])) = List.take at' L ++ [x] := by
  rw [List.take_append_of_le_length (by simp; omega), List.take_of_length_le (by simp; omega)]
 have e4 : List.drop (at' + 1 + (L.length - at')) (List.take at' L ++ [x] ++ List.replicate (L.length - at') (D.agg [D.int .i64 0, D.int .i64 0, D.str []])) = [] := List.drop_eq_nil_of_le (by simp; omega)
 have e5 : List.take (L.length - at') (List.drop at' L) = List.drop at' L := List.take_of_length_le (by simp)
 have l1 : (List.take at' L ++ List.replicate (L.length + 1 - at') (D.agg [D.int .i64 0, D.int .i64 0, D.str []])).length = L.length + 1 := by simp; omega
 have l2 : (List.take at' L ++ [x] ++ List.replicate (L.length - at') (D.agg [D.int .i64 0, D.int .i64 0, D.str []])).length = L.length + 1 := by simp; omega
 refine callH_intro' Try.tmOk Try.func64 rfl (by decide) (Nat.le_of_ble_eq_true rfl) (by simp) ?_
 intro hwf
 refine .seq ?_
 refine .plain Try.tmOk Try.tmMixed [0, 1, 2] (by decide +kernel) (by intro q hq; simp only [go_sem, appendD, Nat.reduceSub, Int.reduceEq, Nat.reduceLT, Nat.reduceDiv, Nat.reduceAdd, Nat.reduceBEq, Nat.reduceLeDiff, reduceCtorEq, Nat.reduceEqDiff, Nat.reduceMod, hck]; exact hq) (by first | rfl | (simp only [go_sem, Nat.reduceLeDiff]; done) | (simp only [go_sem, Nat.reduceLeDiff]; rfl) | (simp; done) | (simp [oneD] <;> omega) | (simp_all; done) | (simp_all [oneD] <;> omega)) (by first | exact Nat.le_refl _ | exact Nat.le_of_ble_eq_true rfl | (dsimp only; omega) | (simp <;> omega)) ?_
 refine .seq ?_
 refine .plain Try.tmOk Try.tmMixed [0, 1, 2] (by decide +kernel) (by intro q hq; simp only [go_sem, appendD, Nat.reduceSub, Int.reduceEq, Nat.reduceLT, Nat.reduceDiv, Nat.reduceAdd, Nat.reduceBEq, Nat.reduceLeDiff, reduceCtorEq, Nat.reduceEqDiff, Nat.reduceMod, Try.tm_43, Try.tm_3, hck]; exact hq) (by first | rfl | (simp only [go_sem, Nat.reduceLeDiff]; done) | (simp only [go_sem, Nat.reduceLeDiff]; rfl) | (simp; done) | (simp [oneD] <;> omega) | (simp_all; done) | (simp_all [oneD] <;> omega)) (by first | exact Nat.le_refl _ | exact Nat.le_of_ble_eq_true rfl | (dsimp only; omega) | (simp <;> omega)) ?_
 refine .seq ?_
 refine .plain Try.tmOk Try.tmMixed [0, 1, 2] (by decide +kernel) (by intro q hq; simp only [go_sem, appendD, Nat.reduceSub, Int.reduceEq, Nat.reduceLT, Nat.reduceDiv, Nat.reduceAdd, Nat.reduceBEq, Nat.reduceLeDiff, reduceCtorEq, Nat.reduceEqDiff, Nat.reduceMod, Try.tm_43, Try.tm_3, hck]; exact hq) (by first | rfl | (simp only [go_sem, Nat.reduceLeDiff]; done) | (simp only [go_sem, Nat.reduceLeDiff]; rfl) | (simp; done) | (simp [oneD] <;> omega) | (simp_all; done) | (simp_all [oneD] <;> omega)) (by first | exact Nat.le_refl _ | exact Nat.le_of_ble_eq_true rfl | (dsimp only; omega) | (simp <;> omega)) ?_
 refine .seq ?_
 refine .seq ?_
 refine .plain Try.tmOk Try.tmMixed [0, 1, 2, 7] (by decide +kernel) (by intro q hq; simp only [go_sem, appendD, Nat.reduceSub, Int.reduceEq, Nat.reduceLT, Nat.reduceDiv, Nat.reduceAdd, Nat.reduceBEq, Nat.reduceLeDiff, reduceCtorEq, Nat.reduceEqDiff, Nat.reduceMod, Try.tm_43, Try.tm_3, hck]; exact hq) (by first | rfl | (simp only [go_sem, Nat.reduceLeDiff]; done) | (simp only [go_sem, Nat.reduceLeDiff]; rfl) | (simp; done) | (simp [oneD] <;> omega) | (simp_all; done) | (simp_all [oneD] <;> omega)) (by first | exact Nat.le_refl _ | exact Nat.le_of_ble_eq_true rfl | (dsimp only; omega) | (simp <;> omega)) ?_
 refine .cond rfl rfl (fun hc => by simp at hc) (fun hc => ?_)
 refine .skip ?_
 refine .seq ?_
 refine .plain Try.tmOk Try.tmMixed [0, 1, 2, 7] (by decide +kernel) (by intro q hq; simp only [go_sem, appendD, Nat.reduceSub, Int.reduceEq, Nat.reduceLT, Nat.reduceDiv, Nat.reduceAdd, Nat.reduceBEq, Nat.reduceLeDiff, reduceCtorEq, Nat.reduceEqDiff, Nat.reduceMod, Try.tm_43, Try.tm_3, hck]; exact hq) (by first | rfl | (simp only [go_sem, Nat.reduceLeDiff]; done) | (simp only [go_sem, Nat.reduceLeDiff]; rfl) | (simp; done) | (simp [oneD] <;> omega) | (simp_all; done) | (simp_all [oneD] <;> omega)) (by first | exact Nat.le_refl _ | exact Nat.le_of_ble_eq_true rfl | (dsimp only; omega) | (simp <;> omega)) ?_
 refine .seq ?_
 refine .seq ?_
 refine .plain Try.tmOk Try.tmMixed [0, 1, 2, 7, 8] (by decide +kernel) (by intro q hq; simp only [go_sem, appendD, Nat.reduceSub, Int.reduceEq, Nat.reduceLT, Nat.reduceDiv, Nat.reduceAdd, Nat.reduceBEq, Nat.reduceLeDiff, reduceCtorEq, Nat.reduceEqDiff, Nat.reduceMod, Try.tm_43, Try.tm_3, hck]; exact hq) (by first | rfl | (simp only [go_sem, Nat.reduceLeDiff]; done) | (simp only [go_sem, Nat.reduceLeDiff]; rfl) | (simp; done) | (simp [oneD] <;> omega) | (simp_all; done) | (simp_all [oneD] <;> omega)) (by first | exact Nat.le_refl _ | exact Nat.le_of_ble_eq_true rfl | (dsimp only; omega) | (simp <;> omega)) ?_
 refine .cond rfl rfl (fun hc => by simp at hc; omega) (fun hc => ?_)
 refine .skip ?_
 refine .seq ?_
 refine .seq ?_
 refine .plain Try.tmOk Try.tmMixed [0, 1, 2, 7, 8] (by decide +kernel) (by intro q hq; simp only [go_sem, appendD, Nat.reduceSub, Int.reduceEq, Nat.reduceLT, Nat.reduceDiv, Nat.reduceAdd, Nat.reduceBEq, Nat.reduceLeDiff, reduceCtorEq, Nat.reduceEqDiff, Nat.reduceMod, Try.tm_43, Try.tm_3, hck, hw]; exact hq) (by first | rfl | (simp only [go_sem, Nat.reduceLeDiff]; done) | (simp only [go_sem, Nat.reduceLeDiff]; rfl) | (simp; done) | (simp [oneD] <;> omega) | (simp_all; done) | (simp_all [oneD] <;> omega)) (by first | exact Nat.le_refl _ | exact Nat.le_of_ble_eq_true rfl | (dsimp only; omega) | (simp <;> omega)) ?_
 refine .cond rfl rfl (fun hc => ?_) (fun hc => by simp at hc; omega)
 refine .seq ?_
 refine .plain Try.tmOk Try.tmMixed [0, 1, 2, 7, 8] (by decide +kernel) (by intro q hq; simp only [go_sem, appendD, Nat.reduceSub, Int.reduceEq, Nat.reduceLT, Nat.reduceDiv, Nat.reduceAdd, Nat.reduceBEq, Nat.reduceLeDiff, reduceCtorEq, Nat.reduceEqDiff, Nat.reduceMod, Try.tm_43, Try.tm_3, hck, hw, hw2, ha, appendZ, Int.sub_zero, Int.toNat_zero, Int.toNat_sub, bij, bik, bjk, bji, bki, bkj]; exact hq) (by first | rfl | (simp only [go_sem, Nat.reduceLeDiff]; done) | (simp only [go_sem, Nat.reduceLeDiff]; rfl) | (simp; done) | (simp [oneD] <;> omega) | (simp_all; done) | (simp_all [oneD] <;> omega)) (by first | exact Nat.le_refl _ | exact Nat.le_of_ble_eq_true rfl | (dsimp only; omega) | (simp <;> omega)) ?_
 refine .seq ?_
 refine .plain Try.tmOk Try.tmMixed [0, 1, 2, 7, 8, 9] (by decide +kernel) (by intro q hq; simp only [go_sem, appendD, Nat.reduceSub, Int.reduceEq, Nat.reduceLT, Nat.reduceDiv, Nat.reduceAdd, Nat.reduceBEq, Nat.reduceLeDiff, reduceCtorEq, Nat.reduceEqDiff, Nat.reduceMod, Try.tm_43, Try.tm_3, hck, hw, hw2, ha, appendZ, Int.sub_zero, Int.toNat_zero, Int.toNat_sub, bij, bik, bjk, bji, bki, bkj, Int.toNat_sub, hm1, e1, e2, List.take_one, List.take_succ_cons]; exact hq) (by first | rfl | (simp only [go_sem, Nat.reduceLeDiff]; done) | (simp only [go_sem, Nat.reduceLeDiff]; rfl) | (simp; done) | (simp [oneD] <;> omega) | (simp_all; done) | (simp_all [oneD] <;> omega)) (by first | exact Nat.le_refl _ | exact Nat.le_of_ble_eq_true rfl | (dsimp only; omega) | (simp <;> omega)) ?_
 refine .seq ?_
 refine .drawn Try.tmOk Try.tmMixed [0, 1, 2, 7, 8, 9] (by decide +kernel) (by intro q hq; simp only [go_sem, appendD, Nat.reduceSub, Int.reduceEq, Nat.reduceLT, Nat.reduceDiv, Nat.reduceAdd, Nat.reduceBEq, Nat.reduceLeDiff, reduceCtorEq, Nat.reduceEqDiff, Nat.reduceMod, Try.tm_43, Try.tm_3, hck, hw, hw2, hw3, ha, appendZ, capS, bij, bik, bjk, bji, bki, bkj, Int.toNat_sub, hm1, hm2, e3, e4, e5]; exact hq) (schedB_of (by kernel_rfl)) (by first | rfl | (simp only [go_sem, Nat.reduceLeDiff]; done) | (simp only [go_sem, Nat.reduceLeDiff]; rfl) | (simp; done) | (simp [oneD] <;> omega) | (simp_all; done) | (simp_all [oneD] <;> omega)) (by first | exact Nat.le_refl _ | exact Nat.le_of_ble_eq_true rfl | (dsimp only; omega) | (simp <;> omega)) ?_
 refine .seq ?_
 refine .plain Try.tmOk Try.tmMixed [9] (by decide +kernel) (by intro q hq; simp only [go_sem, appendD, Nat.reduceSub, Int.reduceEq, Nat.reduceLT, Nat.reduceDiv, Nat.reduceAdd, Nat.reduceBEq, Nat.reduceLeDiff, reduceCtorEq, Nat.reduceEqDiff, Nat.reduceMod, Try.tm_43, Try.tm_3, hck]; exact hq) (by first | rfl | (simp only [go_sem, Nat.reduceLeDiff]; done) | (simp only [go_sem, Nat.reduceLeDiff]; rfl) | (simp; done) | (simp [oneD] <;> omega) | (simp_all; done) | (simp_all [oneD] <;> omega)) (by first | exact Nat.le_refl _ | exact Nat.le_of_ble_eq_true rfl | (dsimp only; omega) | (simp <;> omega)) ?_
 refine .ret ⟨.inr rfl, retH [j, k] ?_ ?_⟩
 ·simp only [ResIs, resL, resD, resT, go_sem, appendD, Nat.reduceSub, Int.reduceEq, Nat.reduceLT, Nat.reduceDiv, Nat.reduceAdd, Nat.reduceBEq, Nat.reduceLeDiff, reduceCtorEq, Nat.reduceEqDiff, Nat.reduceMod, Try.f64]
 ·simp only [pickL, getL, effL, put, del, Nat.beq_refl, cond_true, cond_false, bij, bik, bjk, bji, bki, bkj, pq, List.append_assoc, List.singleton_append, List.append_nil]
theorem ins64r (i j k : Nat) (hij : i ≠ j) (L : List D) (x : D) (P Q : Bool) (at' c : Nat) (hck : capK c = true) (hat : at' < L.length) (hL : L.length < 1000000) (h1 : L.length + 1 ≤ c) :
  CallH Try.prog 64 [.ref i 3 0 L.length (some c), .int .i64 (at' : Int), .ref j 3 0 1 (some 1)] [(i, .arr 77 3 P L), (j, .arr 77 3 Q [x])] (.ref i 3 0 (L.length + 1) (some c)) [(i, some (.arr 77 3 (P && Q) (L.take at' ++ x :: L.drop at')))] (k, k) := by
 have bij : Nat.beq i j = false := beq_ne hij
 have bji : Nat.beq j i = false := beq_ne (Ne.symm hij)
 have hw : wr .i64 ((L.length : Int) + ((1 : Nat) : Int)) = ((L.length + 1 : Nat) : Int) := wr_eq _ _ (by show (-9223372036854775808 : Int) ≤ _; omega) (by show _ ≤ (9223372036854775807 : Int); omega)
 have hw3 : wr .i64 ((at' : Int) + ((1 : Nat) : Int)) = ((at' + 1 : Nat) : Int) := wr_eq _ _ (by show (-9223372036854775808 : Int) ≤ _; omega) (by show _ ≤ (9223372036854775807 : Int); omega)
 have hm1 : Nat.min 1 (L.length + 1 - at') = 1 := by show min 1 (L.length + 1 - at') = 1; omega
 have hm2 : Nat.min (L.length + 1 - at') (L.length + 1 - (at' + 1)) = L.length - at' := by show min (L.length + 1 - at') (L.length + 1 - (at' + 1)) = L.length - at'; omega
 have hn1 : L.length + 1 - (at' + 1) = (L.length - at' - 1) + 1 := by omega
 have tk : (L.take at').length = at' := by simp; omega
 have tk1 : (L.take (at' + 1)).length = at' + 1 := by simp; omega
 have e5 : List.take (L.length - at') (List.drop at' L) = List.drop at' L := List.take_of_length_le (by simp)
 have e4 : List.drop (at' + 1 + (L.length - at')) L = [] := List.drop_eq_nil_of_le (by omega)
 have e1 : List.take at' (List.take (at' + 1) L ++ List.drop at' L) = List.take at' L := by
  rw [List.take_append_of_le_length (by omega), List.take_take]
  congr 1; omega
 have e2 : List.drop (at' + 1) (List.take (at' + 1) L ++ List.drop at' L) = List.drop at' L := by
  rw [List.drop_append, List.drop_eq_nil_of_le (by omega), tk1, Nat.sub_self, List.drop_zero, List.nil_append]
 refine callH_intro' Try.tmOk Try.func64 rfl (by decide) (Nat.le_of_ble_eq_true rfl) (by simp) ?_
 intro hwf
 refine .seq ?_
 refine .plain Try.tmOk Try.tmMixed [0, 1, 2] (by decide +kernel) (by intro q hq; simp only [go_sem, appendD, Nat.reduceSub, Int.reduceEq, Nat.reduceLT, Nat.reduceDiv, Nat.reduceAdd, Nat.reduceBEq, Nat.reduceLeDiff, reduceCtorEq, Nat.reduceEqDiff, Nat.reduceMod, hck]; exact hq) (by first | rfl | (simp only [go_sem, Nat.reduceLeDiff]; done) | (simp only [go_sem, Nat.reduceLeDiff]; rfl) | (simp; done) | (simp [oneD] <;> omega) | (simp_all; done) | (simp_all [oneD] <;> omega)) (by first | exact Nat.le_refl _ | exact Nat.le_of_ble_eq_true rfl | (dsimp only; omega) | (simp <;> omega)) ?_
 refine .seq ?_
 refine .plain Try.tmOk Try.tmMixed [0, 1, 2] (by decide +kernel) (by intro q hq; simp only [go_sem, appendD, Nat.reduceSub, Int.reduceEq, Nat.reduceLT, Nat.reduceDiv, Nat.reduceAdd, Nat.reduceBEq, Nat.reduceLeDiff, reduceCtorEq, Nat.reduceEqDiff, Nat.reduceMod, Try.tm_43, Try.tm_3, hck]; exact hq) (by first | rfl | (simp only [go_sem, Nat.reduceLeDiff]; done) | (simp only [go_sem, Nat.reduceLeDiff]; rfl) | (simp; done) | (simp [oneD] <;> omega) | (simp_all; done) | (simp_all [oneD] <;> omega)) (by first | exact Nat.le_refl _ | exact Nat.le_of_ble_eq_true rfl | (dsimp only; omega) | (simp <;> omega)) ?_
 refine .seq ?_
 refine .plain Try.tmOk Try.tmMixed [0, 1, 2] (by decide +kernel) (by intro q hq; simp only [go_sem, appendD, Nat.reduceSub, Int.reduceEq, Nat.reduceLT, Nat.reduceDiv, Nat.reduceAdd, Nat.reduceBEq, Nat.reduceLeDiff, reduceCtorEq, Nat.reduceEqDiff, Nat.reduceMod, Try.tm_43, Try.tm_3, hck]; exact hq) (by first | rfl | (simp only [go_sem, Nat.reduceLeDiff]; done) | (simp only [go_sem, Nat.reduceLeDiff]; rfl) | (simp; done) | (simp [oneD] <;> omega) | (simp_all; done) | (simp_all [oneD] <;> omega)) (by first | exact Nat.le_refl _ | exact Nat.le_of_ble_eq_true rfl | (dsimp only; omega) | (simp <;> omega)) ?_
 refine .seq ?_
 refine .seq ?_
 refine .plain Try.tmOk Try.tmMixed [0, 1, 2, 7] (by decide +kernel) (by intro q hq; simp only [go_sem, appendD, Nat.reduceSub, Int.reduceEq, Nat.reduceLT, Nat.reduceDiv, Nat.reduceAdd, Nat.reduceBEq, Nat.reduceLeDiff, reduceCtorEq, Nat.reduceEqDiff, Nat.reduceMod, Try.tm_43, Try.tm_3, hck]; exact hq) (by first | rfl | (simp only [go_sem, Nat.reduceLeDiff]; done) | (simp only [go_sem, Nat.reduceLeDiff]; rfl) | (simp; done) | (simp [oneD] <;> omega) | (simp_all; done) | (simp_all [oneD] <;> omega)) (by first | exact Nat.le_refl _ | exact Nat.le_of_ble_eq_true rfl | (dsimp only; omega) | (simp <;> omega)) ?_
 refine .cond rfl rfl (fun hc => by simp at hc) (fun hc => ?_)
 refine .skip ?_
 refine .seq ?_
 refine .plain Try.tmOk Try.tmMixed [0, 1, 2, 7] (by decide +kernel) (by intro q hq; simp only [go_sem, appendD, Nat.reduceSub, Int.reduceEq, Nat.reduceLT, Nat.reduceDiv, Nat.reduceAdd, Nat.reduceBEq, Nat.reduceLeDiff, reduceCtorEq, Nat.reduceEqDiff, Nat.reduceMod, Try.tm_43, Try.tm_3, hck]; exact hq) (by first | rfl | (simp only [go_sem, Nat.reduceLeDiff]; done) | (simp only [go_sem, Nat.reduceLeDiff]; rfl) | (simp; done) | (simp [oneD] <;> omega) | (simp_all; done) | (simp_all [oneD] <;> omega)) (by first | exact Nat.le_refl _ | exact Nat.le_of_ble_eq_true rfl | (dsimp only; omega) | (simp <;> omega)) ?_
 refine .seq ?_
 refine .seq ?_
 refine .plain Try.tmOk Try.tmMixed [0, 1, 2, 7, 8] (by decide +kernel) (by intro q hq; simp only [go_sem, appendD, Nat.reduceSub, Int.reduceEq, Nat.reduceLT, Nat.reduceDiv, Nat.reduceAdd, Nat.reduceBEq, Nat.reduceLeDiff, reduceCtorEq, Nat.reduceEqDiff, Nat.reduceMod, Try.tm_43, Try.tm_3, hck]; exact hq) (by first | rfl | (simp only [go_sem, Nat.reduceLeDiff]; done) | (simp only [go_sem, Nat.reduceLeDiff]; rfl) | (simp; done) | (simp [oneD] <;> omega) | (simp_all; done) | (simp_all [oneD] <;> omega)) (by first | exact Nat.le_refl _ | exact Nat.le_of_ble_eq_true rfl | (dsimp only; omega) | (simp <;> omega)) ?_
 refine .cond rfl rfl (fun hc => by simp at hc; omega) (fun hc => ?_)
 refine .skip ?_
 refine .seq ?_
 refine .seq ?_
 refine .plain Try.tmOk Try.tmMixed [0, 1, 2, 7, 8] (by decide +kernel) (by intro q hq; simp only [go_sem, appendD, Nat.reduceSub, Int.reduceEq, Nat.reduceLT, Nat.reduceDiv, Nat.reduceAdd, Nat.reduceBEq, Nat.reduceLeDiff, reduceCtorEq, Nat.reduceEqDiff, Nat.reduceMod, Try.tm_43, Try.tm_3, hck, hw]; exact hq) (by first | rfl | (simp only [go_sem, Nat.reduceLeDiff]; done) | (simp only [go_sem, Nat.reduceLeDiff]; rfl) | (simp; done) | (simp [oneD] <;> omega) | (simp_all; done) | (simp_all [oneD] <;> omega)) (by first | exact Nat.le_refl _ | exact Nat.le_of_ble_eq_true rfl | (dsimp only; omega) | (simp <;> omega)) ?_
 refine .cond rfl rfl (fun hc => by simp at hc; omega) (fun hc => ?_)
 refine .skip ?_
 refine .seq ?_
 refine .plain Try.tmOk Try.tmMixed [0, 1, 2, 7, 8] (by decide +kernel) (by intro q hq; simp only [go_sem, appendD, Nat.reduceSub, Int.reduceEq, Nat.reduceLT, Nat.reduceDiv, Nat.reduceAdd, Nat.reduceBEq, Nat.reduceLeDiff, reduceCtorEq, Nat.reduceEqDiff, Nat.reduceMod, Try.tm_43, Try.tm_3, hck, hw, roomV, Option.isSome, Int.sub_zero, Int.toNat_zero, Nat.sub_zero, bij, bji]; exact hq) (by first | rfl | (simp only [go_sem, Nat.reduceLeDiff]; done) | (simp only [go_sem, Nat.reduceLeDiff]; rfl) | (simp; done) | (simp [oneD] <;> omega) | (simp_all; done) | (simp_all [oneD] <;> omega)) (by first | exact Nat.le_refl _ | exact Nat.le_of_ble_eq_true rfl | (dsimp only; omega) | (simp <;> omega)) ?_
 refine .seq ?_
 refine .seq ?_
 refine .reg Try.tmOk Try.tmMixed [0, 1, 2, 7] (by decide +kernel) ?_
 refine .R (dr := false) (.inr fun _ _ _ h => ⟨nofun, h.2⟩) (by intro q hq; simp only [go_sem, appendD, Nat.reduceSub, Int.reduceEq, Nat.reduceLT, Nat.reduceDiv, Nat.reduceAdd, Nat.reduceBEq, Nat.reduceLeDiff, reduceCtorEq, Nat.reduceEqDiff, Nat.reduceMod, Try.tm_43, Try.tm_3, hck, hw3, Int.toNat_sub, bij, bji]; exact hq) (by first | rfl | (simp only [go_sem, Nat.reduceLeDiff]; done) | (simp only [go_sem, Nat.reduceLeDiff]; rfl) | (simp; done) | (simp [oneD] <;> omega) | (simp_all; done) | (simp_all [oneD] <;> omega)) (by first | exact Nat.le_refl _ | exact Nat.le_of_ble_eq_true rfl | (dsimp only; omega) | (simp <;> omega)) ?_
 refine .overs (i := j) (j := i) rfl rfl rfl rfl rfl overs70 ⟨3, 0, 0, some 1, 3 - 1, at' + 1, L.length - at' - 1, some (c - (at' + 1)), 77, 3, Q, [x], 77, 3, P, L, by
  show [D.ref j 3 0 1 (some 1), D.ref i 3 (at' + 1) (L.length + 1 - (at' + 1)) (some (c - (at' + 1)))] = _
  rw [hn1], by simp only [getL, bij, cond_false, Nat.beq_refl, cond_true], by simp only [getL, Nat.beq_refl, cond_true], Ne.symm hij⟩ ?_
 refine .R (dr := false) (.inr fun _ _ _ h => ⟨nofun, h.2⟩) (by intro q hq; simp only [go_sem, appendD, Nat.reduceSub, Int.reduceEq, Nat.reduceLT, Nat.reduceDiv, Nat.reduceAdd, Nat.reduceBEq, Nat.reduceLeDiff, reduceCtorEq, Nat.reduceEqDiff, Nat.reduceMod, Try.tm_43, Try.tm_3, hck]; exact hq) (by first | rfl | (simp only [go_sem, Nat.reduceLeDiff]; done) | (simp only [go_sem, Nat.reduceLeDiff]; rfl) | (simp; done) | (simp [oneD] <;> omega) | (simp_all; done) | (simp_all [oneD] <;> omega)) (by first | exact Nat.le_refl _ | exact Nat.le_of_ble_eq_true rfl | (dsimp only; omega) | (simp <;> omega)) ?_
 refine .nil ⟨nofun, ?_⟩
 refine .cond rfl rfl (fun hc => ?_) (fun hc => by cases hc)
 refine .seq ?_
 refine .drawn Try.tmOk Try.tmMixed [0, 1, 2, 7] (by decide +kernel) (by intro q hq; simp only [go_sem, appendD, Nat.reduceSub, Int.reduceEq, Nat.reduceLT, Nat.reduceDiv, Nat.reduceAdd, Nat.reduceBEq, Nat.reduceLeDiff, reduceCtorEq, Nat.reduceEqDiff, Nat.reduceMod, Try.tm_43, Try.tm_3, hck, hw3, Int.toNat_sub, hm2, e4, e5, bij, bji, Bool.and_self, List.append_nil]; exact hq) (schedB_of (by kernel_rfl)) (by first | rfl | (simp only [go_sem, Nat.reduceLeDiff]; done) | (simp only [go_sem, Nat.reduceLeDiff]; rfl) | (simp; done) | (simp [oneD] <;> omega) | (simp_all; done) | (simp_all [oneD] <;> omega)) (by first | exact Nat.le_refl _ | exact Nat.le_of_ble_eq_true rfl | (dsimp only; omega) | (simp <;> omega)) ?_
 refine .seq ?_
 refine .plain Try.tmOk Try.tmMixed [0, 1, 2] (by decide +kernel) (by intro q hq; simp only [go_sem, appendD, Nat.reduceSub, Int.reduceEq, Nat.reduceLT, Nat.reduceDiv, Nat.reduceAdd, Nat.reduceBEq, Nat.reduceLeDiff, reduceCtorEq, Nat.reduceEqDiff, Nat.reduceMod, Try.tm_43, Try.tm_3, hck, Int.toNat_sub, hm1, e1, e2, bij, bji, List.take_succ_cons]; exact hq) (by first | rfl | (simp only [go_sem, Nat.reduceLeDiff]; done) | (simp only [go_sem, Nat.reduceLeDiff]; rfl) | (simp; done) | (simp [oneD] <;> omega) | (simp_all; done) | (simp_all [oneD] <;> omega)) (by first | exact Nat.le_refl _ | exact Nat.le_of_ble_eq_true rfl | (dsimp only; omega) | (simp <;> omega)) ?_
 refine .seq ?_
 refine .plain Try.tmOk Try.tmMixed [0] (by decide +kernel) (by intro q hq; simp only [go_sem, appendD, Nat.reduceSub, Int.reduceEq, Nat.reduceLT, Nat.reduceDiv, Nat.reduceAdd, Nat.reduceBEq, Nat.reduceLeDiff, reduceCtorEq, Nat.reduceEqDiff, Nat.reduceMod, Try.tm_43, Try.tm_3, hck]; exact hq) (by first | rfl | (simp only [go_sem, Nat.reduceLeDiff]; done) | (simp only [go_sem, Nat.reduceLeDiff]; rfl) | (simp; done) | (simp [oneD] <;> omega) | (simp_all; done) | (simp_all [oneD] <;> omega)) (by first | exact Nat.le_refl _ | exact Nat.le_of_ble_eq_true rfl | (dsimp only; omega) | (simp <;> omega)) ?_
 refine .ret ⟨.inr rfl, retH [i, j] ?_ ?_⟩
 ·simp only [ResIs, resL, resD, resT, go_sem, appendD, Nat.reduceSub, Int.reduceEq, Nat.reduceLT, Nat.reduceDiv, Nat.reduceAdd, Nat.reduceBEq, Nat.reduceLeDiff, reduceCtorEq, Nat.reduceEqDiff, Nat.reduceMod, Try.f64]
 ·simp only [pickL, getL, effL, put, del, Nat.beq_refl, cond_true, cond_false, bij, bji, List.append_assoc, List.singleton_append, List.append_nil]
theorem ins64 (i j k : Nat) (hij : i ≠ j) (hik : i ≠ k) (hjk : j ≠ k) (L : List D) (x : D) (P Q : Bool) (at' : Nat) (hat : at' ≤ L.length) (hL : L.length < 1000000) :
  CallH Try.prog 64 [.ref i 3 0 L.length (some unkC), .int .i64 (at' : Int), .ref j 3 0 1 (some 1)] [(i, .arr 77 3 P L), (j, .arr 77 3 Q [x])] (.ref k 3 0 (L.length + 1) (some unkC)) [(k, some (.arr 77 3 (P && Q) (L.take at' ++ x :: L.drop at'))), (i, none)] (k, k + 1) := by
 by_cases h : at' = L.length
 ·subst h
  have := ins64e i j k hij hik hjk L x P Q hL
  rw [List.take_length, List.drop_length]
  exact this
 ·exact callH_capW (l := L) (p := P) (ins64e i j k hij hik hjk L x P Q hL).1 (by simp only [getL, Nat.beq_refl, cond_true]) hik (by omega)
   (fun c hc _ h2 => ins64r i j k hij L x P Q at' c hc (by omega) hL h2)
   (fun c hc h1 h2 => ins64g i j k hij hik hjk L x P Q at' c hc (by omega) hL h1 h2)
end Go.Proofs
end
section
namespace Go.Proofs
open Go.Tm Go.RowKit Go.WideShapes
set_option maxRecDepth 100000
set_option linter.unusedSimpArgs false
set_option linter.unusedVariables false
attribute [local go_sem] argVars runE runK isCallV stepE aop opd opdsL opds opdO ev ofVal keep List.any natbeq Bool.false_or Bool.true_or aggEq cond_true cond_false Bool.cond_false_right Bool.cond_true_left beq_true beq_false imp_self implies_true getR getL put St.app effL del nwB blt_dec Nat.lt_irrefl Nat.lt_add_one ble_dec Nat.le_refl Nat.beq_refl roomNZ appendIn capS mkZ_zero mkZL_zero zeroEl D.ids D.idsL bin arith sarith binT dpick Tm.part splice fillD oneD loadD storeD srcD sliceD idxOk decide_true gval dstAt D.cells List.map_cons List.map_nil List.take List.drop List.length_map List.append Int.toNat_natCast and_true true_and decide_false List.length_cons List.length_nil List.append_nil List.nil_append Bool.and_true Bool.true_and Bool.not_false Bool.not_true ne_eq not_false_eq_true BEq.rfl List.getElem?_cons_zero List.getElem?_cons_succ List.getElem?_nil Nat.zero_add List.all_cons List.all_nil List.isEmpty_cons List.isEmpty_nil Option.getD_some Option.getD_none List.any_cons List.any_nil List.drop_succ_cons List.drop_zero unfL unf okM okML low3 List.cons_append true_or or_true Nat.zero_mul Nat.zero_le fpOf opIds
theorem overs73 : Overs Try.prog 73 := overs_of (r := 4) Try.func73 (by kernel_rfl) (by kernel_rfl) (by kernel_rfl) (by kernel_rfl) (Try.tmOk.1 22 (by decide)) rfl
theorem ins66e (i j k : Nat) (hij : i ≠ j) (hik : i ≠ k) (hjk : j ≠ k) (L : List D) (x : D) (P Q : Bool) (hL : L.length < 1000000) :
  CallH Try.prog 66 [.ref i 1 0 L.length (some unkC), .int .i64 (L.length : Int), .ref j 1 0 1 (some 1)] [(i, .arr 3 1 P L), (j, .arr 3 1 Q [x])] (.ref k 1 0 (L.length + 1) (some unkC)) [(k, some (.arr 3 1 (P && Q) (L ++ [x]))), (i, none)] (k, k + 1) := by
 have bij : Nat.beq i j = false := beq_ne hij
 have bik : Nat.beq i k = false := beq_ne hik
 have bjk : Nat.beq j k = false := beq_ne hjk
 have bji : Nat.beq j i = false := beq_ne (Ne.symm hij)
 have bki : Nat.beq k i = false := beq_ne (Ne.symm hik)
 have bkj : Nat.beq k j = false := beq_ne (Ne.symm hjk)
 have n10 : ¬ ((1 : Int) = 0) := by omega
 have hx : (1 : Nat) ≤ 1 := Nat.le_refl _
 refine callH_intro' Try.tmOk Try.func66 rfl (by decide) (Nat.le_of_ble_eq_true rfl) (by simp) ?_
 intro hwf
 refine .seq ?_
 refine .plain Try.tmOk Try.tmMixed [0, 1, 2] (by decide +kernel) (by intro q hq; simp only [go_sem, appendD, Nat.reduceSub, Int.reduceEq, Nat.reduceLT, Nat.reduceDiv, Nat.reduceAdd, Nat.reduceBEq, Nat.reduceLeDiff, reduceCtorEq, Nat.reduceEqDiff, Nat.reduceMod, capK, bij, bik, bjk, bji, bki, bkj]; exact hq) (by first | rfl | (simp only [go_sem, Nat.reduceLeDiff]; done) | (simp only [go_sem, Nat.reduceLeDiff]; rfl) | (simp; done) | (simp [oneD] <;> omega) | (simp_all; done) | (simp_all [oneD] <;> omega)) (by first | exact Nat.le_refl _ | exact Nat.le_of_ble_eq_true rfl | (dsimp only; omega) | (simp <;> omega)) ?_
 refine .seq ?_
 refine .plain Try.tmOk Try.tmMixed [0, 1, 2] (by decide +kernel) (by intro q hq; simp only [go_sem, appendD, Nat.reduceSub, Int.reduceEq, Nat.reduceLT, Nat.reduceDiv, Nat.reduceAdd, Nat.reduceBEq, Nat.reduceLeDiff, reduceCtorEq, Nat.reduceEqDiff, Nat.reduceMod, capK, Try.tm_22, Try.tm_3, bij, bik, bjk, bji, bki, bkj]; exact hq) (by first | rfl | (simp only [go_sem, Nat.reduceLeDiff]; done) | (simp only [go_sem, Nat.reduceLeDiff]; rfl) | (simp; done) | (simp [oneD] <;> omega) | (simp_all; done) | (simp_all [oneD] <;> omega)) (by first | exact Nat.le_refl _ | exact Nat.le_of_ble_eq_true rfl | (dsimp only; omega) | (simp <;> omega)) ?_
 refine .seq ?_
 refine .plain Try.tmOk Try.tmMixed [0, 1, 2] (by decide +kernel) (by intro q hq; simp only [go_sem, appendD, Nat.reduceSub, Int.reduceEq, Nat.reduceLT, Nat.reduceDiv, Nat.reduceAdd, Nat.reduceBEq, Nat.reduceLeDiff, reduceCtorEq, Nat.reduceEqDiff, Nat.reduceMod, capK, Try.tm_22, Try.tm_3, bij, bik, bjk, bji, bki, bkj]; exact hq) (by first | rfl | (simp only [go_sem, Nat.reduceLeDiff]; done) | (simp only [go_sem, Nat.reduceLeDiff]; rfl) | (simp; done) | (simp [oneD] <;> omega) | (simp_all; done) | (simp_all [oneD] <;> omega)) (by first | exact Nat.le_refl _ | exact Nat.le_of_ble_eq_true rfl | (dsimp only; omega) | (simp <;> omega)) ?_
 refine .seq ?_
 refine .seq ?_
 refine .plain Try.tmOk Try.tmMixed [0, 1, 2, 7] (by decide +kernel) (by intro q hq; simp only [go_sem, appendD, Nat.reduceSub, Int.reduceEq, Nat.reduceLT, Nat.reduceDiv, Nat.reduceAdd, Nat.reduceBEq, Nat.reduceLeDiff, reduceCtorEq, Nat.reduceEqDiff, Nat.reduceMod, capK, Try.tm_22, Try.tm_3]; exact hq) (by first | rfl | (simp only [go_sem, Nat.reduceLeDiff]; done) | (simp only [go_sem, Nat.reduceLeDiff]; rfl) | (simp; done) | (simp [oneD] <;> omega) | (simp_all; done) | (simp_all [oneD] <;> omega)) (by first | exact Nat.le_refl _ | exact Nat.le_of_ble_eq_true rfl | (dsimp only; omega) | (simp <;> omega)) ?_
 refine .cond rfl rfl (fun hc => by simp at hc) (fun hc => ?_)
 refine .skip ?_
 refine .seq ?_
 refine .plain Try.tmOk Try.tmMixed [0, 1, 2, 7] (by decide +kernel) (by intro q hq; simp only [go_sem, appendD, Nat.reduceSub, Int.reduceEq, Nat.reduceLT, Nat.reduceDiv, Nat.reduceAdd, Nat.reduceBEq, Nat.reduceLeDiff, reduceCtorEq, Nat.reduceEqDiff, Nat.reduceMod, capK, Try.tm_22, Try.tm_3]; exact hq) (by first | rfl | (simp only [go_sem, Nat.reduceLeDiff]; done) | (simp only [go_sem, Nat.reduceLeDiff]; rfl) | (simp; done) | (simp [oneD] <;> omega) | (simp_all; done) | (simp_all [oneD] <;> omega)) (by first | exact Nat.le_refl _ | exact Nat.le_of_ble_eq_true rfl | (dsimp only; omega) | (simp <;> omega)) ?_
 refine .seq ?_
 refine .seq ?_
 refine .plain Try.tmOk Try.tmMixed [0, 1, 2, 7, 8] (by decide +kernel) (by intro q hq; simp only [go_sem, appendD, Nat.reduceSub, Int.reduceEq, Nat.reduceLT, Nat.reduceDiv, Nat.reduceAdd, Nat.reduceBEq, Nat.reduceLeDiff, reduceCtorEq, Nat.reduceEqDiff, Nat.reduceMod, capK, Try.tm_22, Try.tm_3]; exact hq) (by first | rfl | (simp only [go_sem, Nat.reduceLeDiff]; done) | (simp only [go_sem, Nat.reduceLeDiff]; rfl) | (simp; done) | (simp [oneD] <;> omega) | (simp_all; done) | (simp_all [oneD] <;> omega)) (by first | exact Nat.le_refl _ | exact Nat.le_of_ble_eq_true rfl | (dsimp only; omega) | (simp <;> omega)) ?_
 refine .cond rfl rfl (fun hc => ?_) (fun hc => by simp at hc)
 refine .seq ?_
 refine .plain Try.tmOk Try.tmMixed [0, 2] (by decide +kernel) (by intro q hq; simp only [go_sem, appendD, Nat.reduceSub, Int.reduceEq, Nat.reduceLT, Nat.reduceDiv, Nat.reduceAdd, Nat.reduceBEq, Nat.reduceLeDiff, reduceCtorEq, Nat.reduceEqDiff, Nat.reduceMod, capK, Try.tm_22, Try.tm_3, bij, bik, bjk, bji, bki, bkj]; exact hq) (by first | rfl | (simp only [go_sem, Nat.reduceLeDiff]; done) | (simp only [go_sem, Nat.reduceLeDiff]; rfl) | (simp; done) | (simp [oneD] <;> omega) | (simp_all; done) | (simp_all [oneD] <;> omega)) (by first | exact Nat.le_refl _ | exact Nat.le_of_ble_eq_true rfl | (dsimp only; omega) | (simp <;> omega)) ?_
 refine .ret ⟨.inr rfl, retH [j, k] ?_ ?_⟩
 ·simp only [ResIs, resL, resD, resT, go_sem, appendD, Nat.reduceSub, Int.reduceEq, Nat.reduceLT, Nat.reduceDiv, Nat.reduceAdd, Nat.reduceBEq, Nat.reduceLeDiff, reduceCtorEq, Nat.reduceEqDiff, Nat.reduceMod, Try.f66]
 ·simp only [pickL, getL, effL, put, del, Nat.beq_refl, cond_true, cond_false, bij, bik, bjk, bji, bki, bkj, List.take_length]
theorem ins66g (i j k : Nat) (hij : i ≠ j) (hik : i ≠ k) (hjk : j ≠ k) (L : List D) (x : D) (P Q : Bool) (at' c : Nat) (hck : capK c = true) (hat : at' < L.length) (hL : L.length < 1000000) (h1 : L.length ≤ c) (h2 : c < L.length + 1) :
  CallH Try.prog 66 [.ref i 1 0 L.length (some c), .int .i64 (at' : Int), .ref j 1 0 1 (some 1)] [(i, .arr 3 1 P L), (j, .arr 3 1 Q [x])] (.ref k 1 0 (L.length + 1) none) [(k, some (.arr 3 1 (P && Q) (L.take at' ++ x :: L.drop at'))), (i, none)] (k, k + 1) := by
 obtain rfl : c = L.length := by omega
 have hck2 := hck
 have bij : Nat.beq i j = false := beq_ne hij
 have bik : Nat.beq i k = false := beq_ne hik
 have bjk : Nat.beq j k = false := beq_ne hjk
 have bji : Nat.beq j i = false := beq_ne (Ne.symm hij)
 have bki : Nat.beq k i = false := beq_ne (Ne.symm hik)
 have bkj : Nat.beq k j = false := beq_ne (Ne.symm hjk)
 have hw : wr .i64 ((L.length : Int) + ((1 : Nat) : Int)) = ((L.length + 1 : Nat) : Int) := wr_eq _ _ (by show (-9223372036854775808 : Int) ≤ _; omega) (by show _ ≤ (9223372036854775807 : Int); omega)
 have hw2 : wr .i64 (((L.length + 1 : Nat) : Int) - (at' : Int)) = ((L.length + 1 - at' : Nat) : Int) := by
  rw [wr_eq _ _ (by show (-9223372036854775808 : Int) ≤ _; omega) (by show _ ≤ (9223372036854775807 : Int); omega)]
  omega
 have hw3 : wr .i64 ((at' : Int) + ((1 : Nat) : Int)) = ((at' + 1 : Nat) : Int) := wr_eq _ _ (by show (-9223372036854775808 : Int) ≤ _; omega) (by show _ ≤ (9223372036854775807 : Int); omega)
 have ha : at' + (L.length + 1 - at') = L.length + 1 := by omega
 have pq : (P && Q && P) = (P && Q) := by cases P <;> cases Q <;> rfl
 have hm1 : Nat.min 1 (L.length + 1 - at') = 1 := by show min 1 (L.length + 1 - at') = 1; omega
 have hm2 : Nat.min (L.length - at') (L.length + 1 - (at' + 1)) = L.length - at' := by show min (L.length - at') (L.length + 1 - (at' + 1)) = L.length - at'; omega
 have tk : (L.take at').length = at' := by simp; omega
 have e1 : List.take at' (List.take at' L ++ List.replicate (L.length + 1 - at') (D.int .i64 0)) = List.take at' L := by
  rw [List.take_append_of_le_length (by omega), List.take_of_length_le (by omega)]
 have e2 : List.drop (at' + 1) (List.take at' L ++ List.replicate (L.length + 1 - at') (D.int .i64 0)) = List.replicate (L.length - at') (D.int .i64 0) := by
  rw [List.drop_append, List.drop_eq_nil_of_le (by omega), tk, List.nil_append, List.drop_replicate]
  congr 1; omega
 have e3 : List.take (at' + 1) (List.take at' L ++ [x] ++ List.replicate (L.length - at') (D.int .i64 0)) = List.take at' L ++ [x] := by
  rw [List.take_append_of_le_length (by simp; omega), List.take_of_length_le (by simp; omega)]
 have e4 : List.drop (at' + 1 + (L.length - at')) (List.take at' L ++ [x] ++ List.replicate (L.length - at') (D.int .i64 0)) = [] := List.drop_eq_nil_of_le (by simp; omega)
 have e5 : List.take (L.length - at') (List.drop at' L) = List.drop at' L := List.take_of_length_le (by simp)
 have l1 : (List.take at' L ++ List.replicate (L.length + 1 - at') (D.int .i64 0)).length = L.length + 1 := by simp; omega
 have l2 : (List.take at' L ++ [x] ++ List.replicate (L.length - at') (D.int .i64 0)).length = L.length + 1 := by simp; omega
 refine callH_intro' Try.tmOk Try.func66 rfl (by decide) (Nat.le_of_ble_eq_true rfl) (by simp) ?_
 intro hwf
 refine .seq ?_
 refine .plain Try.tmOk Try.tmMixed [0, 1, 2] (by decide +kernel) (by intro q hq; simp only [go_sem, appendD, Nat.reduceSub, Int.reduceEq, Nat.reduceLT, Nat.reduceDiv, Nat.reduceAdd, Nat.reduceBEq, Nat.reduceLeDiff, reduceCtorEq, Nat.reduceEqDiff, Nat.reduceMod, hck]; exact hq) (by first | rfl | (simp only [go_sem, Nat.reduceLeDiff]; done) | (simp only [go_sem, Nat.reduceLeDiff]; rfl) | (simp; done) | (simp [oneD] <;> omega) | (simp_all; done) | (simp_all [oneD] <;> omega)) (by first | exact Nat.le_refl _ | exact Nat.le_of_ble_eq_true rfl | (dsimp only; omega) | (simp <;> omega)) ?_
 refine .seq ?_
 refine .plain Try.tmOk Try.tmMixed [0, 1, 2] (by decide +kernel) (by intro q hq; simp only [go_sem, appendD, Nat.reduceSub, Int.reduceEq, Nat.reduceLT, Nat.reduceDiv, Nat.reduceAdd, Nat.reduceBEq, Nat.reduceLeDiff, reduceCtorEq, Nat.reduceEqDiff, Nat.reduceMod, Try.tm_22, Try.tm_3, hck]; exact hq) (by first | rfl | (simp only [go_sem, Nat.reduceLeDiff]; done) | (simp only [go_sem, Nat.reduceLeDiff]; rfl) | (simp; done) | (simp [oneD] <;> omega) | (simp_all; done) | (simp_all [oneD] <;> omega)) (by first | exact Nat.le_refl _ | exact Nat.le_of_ble_eq_true rfl | (dsimp only; omega) | (simp <;> omega)) ?_
 refine .seq ?_
 refine .plain Try.tmOk Try.tmMixed [0, 1, 2] (by decide +kernel) (by intro q hq; simp only [go_sem, appendD, Nat.reduceSub, Int.reduceEq, Nat.reduceLT, Nat.reduceDiv, Nat.reduceAdd, Nat.reduceBEq, Nat.reduceLeDiff, reduceCtorEq, Nat.reduceEqDiff, Nat.reduceMod, Try.tm_22, Try.tm_3, hck]; exact hq) (by first | rfl | (simp only [go_sem, Nat.reduceLeDiff]; done) | (simp only [go_sem, Nat.reduceLeDiff]; rfl) | (simp; done) | (simp [oneD] <;> omega) | (simp_all; done) | (simp_all [oneD] <;> omega)) (by first | exact Nat.le_refl _ | exact Nat.le_of_ble_eq_true rfl | (dsimp only; omega) | (simp <;> omega)) ?_
 refine .seq ?_
 refine .seq ?_
 refine .plain Try.tmOk Try.tmMixed [0, 1, 2, 7] (by decide +kernel) (by intro q hq; simp only [go_sem, appendD, Nat.reduceSub, Int.reduceEq, Nat.reduceLT, Nat.reduceDiv, Nat.reduceAdd, Nat.reduceBEq, Nat.reduceLeDiff, reduceCtorEq, Nat.reduceEqDiff, Nat.reduceMod, Try.tm_22, Try.tm_3, hck]; exact hq) (by first | rfl | (simp only [go_sem, Nat.reduceLeDiff]; done) | (simp only [go_sem, Nat.reduceLeDiff]; rfl) | (simp; done) | (simp [oneD] <;> omega) | (simp_all; done) | (simp_all [oneD] <;> omega)) (by first | exact Nat.le_refl _ | exact Nat.le_of_ble_eq_true rfl | (dsimp only; omega) | (simp <;> omega)) ?_
 refine .cond rfl rfl (fun hc => by simp at hc) (fun hc => ?_)
 refine .skip ?_
 refine .seq ?_
 refine .plain Try.tmOk Try.tmMixed [0, 1, 2, 7] (by decide +kernel) (by intro q hq; simp only [go_sem, appendD, Nat.reduceSub, Int.reduceEq, Nat.reduceLT, Nat.reduceDiv, Nat.reduceAdd, Nat.reduceBEq, Nat.reduceLeDiff, reduceCtorEq, Nat.reduceEqDiff, Nat.reduceMod, Try.tm_22, Try.tm_3, hck]; exact hq) (by first | rfl | (simp only [go_sem, Nat.reduceLeDiff]; done) | (simp only [go_sem, Nat.reduceLeDiff]; rfl) | (simp; done) | (simp [oneD] <;> omega) | (simp_all; done) | (simp_all [oneD] <;> omega)) (by first | exact Nat.le_refl _ | exact Nat.le_of_ble_eq_true rfl | (dsimp only; omega) | (simp <;> omega)) ?_
 refine .seq ?_
 refine .seq ?_
 refine .plain Try.tmOk Try.tmMixed [0, 1, 2, 7, 8] (by decide +kernel) (by intro q hq; simp only [go_sem, appendD, Nat.reduceSub, Int.reduceEq, Nat.reduceLT, Nat.reduceDiv, Nat.reduceAdd, Nat.reduceBEq, Nat.reduceLeDiff, reduceCtorEq, Nat.reduceEqDiff, Nat.reduceMod, Try.tm_22, Try.tm_3, hck]; exact hq) (by first | rfl | (simp only [go_sem, Nat.reduceLeDiff]; done) | (simp only [go_sem, Nat.reduceLeDiff]; rfl) | (simp; done) | (simp [oneD] <;> omega) | (simp_all; done) | (simp_all [oneD] <;> omega)) (by first | exact Nat.le_refl _ | exact Nat.le_of_ble_eq_true rfl | (dsimp only; omega) | (simp <;> omega)) ?_
 refine .cond rfl rfl (fun hc => by simp at hc; omega) (fun hc => ?_)
 refine .skip ?_
 refine .seq ?_
 refine .seq ?_
 refine .plain Try.tmOk Try.tmMixed [0, 1, 2, 7, 8] (by decide +kernel) (by intro q hq; simp only [go_sem, appendD, Nat.reduceSub, Int.reduceEq, Nat.reduceLT, Nat.reduceDiv, Nat.reduceAdd, Nat.reduceBEq, Nat.reduceLeDiff, reduceCtorEq, Nat.reduceEqDiff, Nat.reduceMod, Try.tm_22, Try.tm_3, hck, hw]; exact hq) (by first | rfl | (simp only [go_sem, Nat.reduceLeDiff]; done) | (simp only [go_sem, Nat.reduceLeDiff]; rfl) | (simp; done) | (simp [oneD] <;> omega) | (simp_all; done) | (simp_all [oneD] <;> omega)) (by first | exact Nat.le_refl _ | exact Nat.le_of_ble_eq_true rfl | (dsimp only; omega) | (simp <;> omega)) ?_
 refine .cond rfl rfl (fun hc => ?_) (fun hc => by simp at hc; omega)
 refine .seq ?_
 refine .plain Try.tmOk Try.tmMixed [0, 1, 2, 7, 8] (by decide +kernel) (by intro q hq; simp only [go_sem, appendD, Nat.reduceSub, Int.reduceEq, Nat.reduceLT, Nat.reduceDiv, Nat.reduceAdd, Nat.reduceBEq, Nat.reduceLeDiff, reduceCtorEq, Nat.reduceEqDiff, Nat.reduceMod, Try.tm_22, Try.tm_3, hck, hw, hw2, ha, appendZ, Int.sub_zero, Int.toNat_zero, Int.toNat_sub, bij, bik, bjk, bji, bki, bkj]; exact hq) (by first | rfl | (simp only [go_sem, Nat.reduceLeDiff]; done) | (simp only [go_sem, Nat.reduceLeDiff]; rfl) | (simp; done) | (simp [oneD] <;> omega) | (simp_all; done) | (simp_all [oneD] <;> omega)) (by first | exact Nat.le_refl _ | exact Nat.le_of_ble_eq_true rfl | (dsimp only; omega) | (simp <;> omega)) ?_
 refine .seq ?_
 refine .plain Try.tmOk Try.tmMixed [0, 1, 2, 7, 8, 9] (by decide +kernel) (by intro q hq; simp only [go_sem, appendD, Nat.reduceSub, Int.reduceEq, Nat.reduceLT, Nat.reduceDiv, Nat.reduceAdd, Nat.reduceBEq, Nat.reduceLeDiff, reduceCtorEq, Nat.reduceEqDiff, Nat.reduceMod, Try.tm_22, Try.tm_3, hck, hw, hw2, ha, appendZ, Int.sub_zero, Int.toNat_zero, Int.toNat_sub, bij, bik, bjk, bji, bki, bkj, Int.toNat_sub, hm1, e1, e2, List.take_one, List.take_succ_cons]; exact hq) (by first | rfl | (simp only [go_sem, Nat.reduceLeDiff]; done) | (simp only [go_sem, Nat.reduceLeDiff]; rfl) | (simp; done) | (simp [oneD] <;> omega) | (simp_all; done) | (simp_all [oneD] <;> omega)) (by first | exact Nat.le_refl _ | exact Nat.le_of_ble_eq_true rfl | (dsimp only; omega) | (simp <;> omega)) ?_
 refine .seq ?_
 refine .drawn Try.tmOk Try.tmMixed [0, 1, 2, 7, 8, 9] (by decide +kernel) (by intro q hq; simp only [go_sem, appendD, Nat.reduceSub, Int.reduceEq, Nat.reduceLT, Nat.reduceDiv, Nat.reduceAdd, Nat.reduceBEq, Nat.reduceLeDiff, reduceCtorEq, Nat.reduceEqDiff, Nat.reduceMod, Try.tm_22, Try.tm_3, hck, hw, hw2, hw3, ha, appendZ, capS, bij, bik, bjk, bji, bki, bkj, Int.toNat_sub, hm1, hm2, e3, e4, e5]; exact hq) (schedB_of (by kernel_rfl)) (by first | rfl | (simp only [go_sem, Nat.reduceLeDiff]; done) | (simp only [go_sem, Nat.reduceLeDiff]; rfl) | (simp; done) | (simp [oneD] <;> omega) | (simp_all; done) | (simp_all [oneD] <;> omega)) (by first | exact Nat.le_refl _ | exact Nat.le_of_ble_eq_true rfl | (dsimp only; omega) | (simp <;> omega)) ?_
 refine .seq ?_
 refine .plain Try.tmOk Try.tmMixed [9] (by decide +kernel) (by intro q hq; simp only [go_sem, appendD, Nat.reduceSub, Int.reduceEq, Nat.reduceLT, Nat.reduceDiv, Nat.reduceAdd, Nat.reduceBEq, Nat.reduceLeDiff, reduceCtorEq, Nat.reduceEqDiff, Nat.reduceMod, Try.tm_22, Try.tm_3, hck]; exact hq) (by first | rfl | (simp only [go_sem, Nat.reduceLeDiff]; done) | (simp only [go_sem, Nat.reduceLeDiff]; rfl) | (simp; done) | (simp [oneD] <;> omega) | (simp_all; done) | (simp_all [oneD] <;> omega)) (by first | exact Nat.le_refl _ | exact Nat.le_of_ble_eq_true rfl | (dsimp only; omega) | (simp <;> omega)) ?_
 refine .ret ⟨.inr rfl, retH [j, k] ?_ ?_⟩
 ·simp only [ResIs, resL, resD, resT, go_sem, appendD, Nat.reduceSub, Int.reduceEq, Nat.reduceLT, Nat.reduceDiv, Nat.reduceAdd, Nat.reduceBEq, Nat.reduceLeDiff, reduceCtorEq, Nat.reduceEqDiff, Nat.reduceMod, Try.f66]
 ·simp only [pickL, getL, effL, put, del, Nat.beq_refl, cond_true, cond_false, bij, bik, bjk, bji, bki, bkj, pq, List.append_assoc, List.singleton_append, List.append_nil]
theorem ins66r (i j k : Nat) (hij : i ≠ j) (L : List D) (x : D) (P Q : Bool) (at' c : Nat) (hck : capK c = true) (hat : at' < L.length) (hL : L.length < 1000000) (h1 : L.length + 1 ≤ c) :
  CallH Try.prog 66 [.ref i 1 0 L.length (some c), .int .i64 (at' : Int), .ref j 1 0 1 (some 1)] [(i, .arr 3 1 P L), (j, .arr 3 1 Q [x])] (.ref i 1 0 (L.length + 1) (some c)) [(i, some (.arr 3 1 (P && Q) (L.take at' ++ x :: L.drop at')))] (k, k) := by
 have bij : Nat.beq i j = false := beq_ne hij
 have bji : Nat.beq j i = false := beq_ne (Ne.symm hij)
 have hw : wr .i64 ((L.length : Int) + ((1 : Nat) : Int)) = ((L.length + 1 : Nat) : Int) := wr_eq _ _ (by show (-9223372036854775808 : Int) ≤ _; omega) (by show _ ≤ (9223372036854775807 : Int); omega)
 have hw3 : wr .i64 ((at' : Int) + ((1 : Nat) : Int)) = ((at' + 1 : Nat) : Int) := wr_eq _ _ (by show (-9223372036854775808 : Int) ≤ _; omega) (by show _ ≤ (9223372036854775807 : Int); omega)
 have hm1 : Nat.min 1 (L.length + 1 - at') = 1 := by show min 1 (L.length + 1 - at') = 1; omega
 have hm2 : Nat.min (L.length + 1 - at') (L.length + 1 - (at' + 1)) = L.length - at' := by show min (L.length + 1 - at') (L.length + 1 - (at' + 1)) = L.length - at'; omega
 have hn1 : L.length + 1 - (at' + 1) = (L.length - at' - 1) + 1 := by omega
 have tk : (L.take at').length = at' := by simp; omega
 have tk1 : (L.take (at' + 1)).length = at' + 1 := by simp; omega
 have e5 : List.take (L.length - at') (List.drop at' L) = List.drop at' L := List.take_of_length_le (by simp)
 have e4 : List.drop (at' + 1 + (L.length - at')) L = [] := List.drop_eq_nil_of_le (by omega)
 have e1 : List.take at' (List.take (at' + 1) L ++ List.drop at' L) = List.take at' L := by
  rw [List.take_append_of_le_length (by omega), List.take_take]
  congr 1; omega
 have e2 : List.drop (at' + 1) (List.take (at' + 1) L ++ List.drop at' L) = List.drop at' L := by
  rw [List.drop_append, List.drop_eq_nil_of_le (by omega), tk1, Nat.sub_self, List.drop_zero, List.nil_append]
 refine callH_intro' Try.tmOk Try.func66 rfl (by decide) (Nat.le_of_ble_eq_true rfl) (by simp) ?_
 intro hwf
 refine .seq ?_
 refine .plain Try.tmOk Try.tmMixed [0, 1, 2] (by decide +kernel) (by intro q hq; simp only [go_sem, appendD, Nat.reduceSub, Int.reduceEq, Nat.reduceLT, Nat.reduceDiv, Nat.reduceAdd, Nat.reduceBEq, Nat.reduceLeDiff, reduceCtorEq, Nat.reduceEqDiff, Nat.reduceMod, hck]; exact hq) (by first | rfl | (simp only [go_sem, Nat.reduceLeDiff]; done) | (simp only [go_sem, Nat.reduceLeDiff]; rfl) | (simp; done) | (simp [oneD] <;> omega) | (simp_all; done) | (simp_all [oneD] <;> omega)) (by first | exact Nat.le_refl _ | exact Nat.le_of_ble_eq_true rfl | (dsimp only; omega) | (simp <;> omega)) ?_
 refine .seq ?_
 refine .plain Try.tmOk Try.tmMixed [0, 1, 2] (by decide +kernel) (by intro q hq; simp only [go_sem, appendD, Nat.reduceSub, Int.reduceEq, Nat.reduceLT, Nat.reduceDiv, Nat.reduceAdd, Nat.reduceBEq, Nat.reduceLeDiff, reduceCtorEq, Nat.reduceEqDiff, Nat.reduceMod, Try.tm_22, Try.tm_3, hck]; exact hq) (by first | rfl | (simp only [go_sem, Nat.reduceLeDiff]; done) | (simp only [go_sem, Nat.reduceLeDiff]; rfl) | (simp; done) | (simp [oneD] <;> omega) | (simp_all; done) | (simp_all [oneD] <;> omega)) (by first | exact Nat.le_refl _ | exact Nat.le_of_ble_eq_true rfl | (dsimp only; omega) | (simp <;> omega)) ?_
 refine .seq ?_
 refine .plain Try.tmOk Try.tmMixed [0, 1, 2] (by decide +kernel) (by intro q hq; simp only [go_sem, appendD, Nat.reduceSub, Int.reduceEq, Nat.reduceLT, Nat.reduceDiv, Nat.reduceAdd, Nat.reduceBEq, Nat.reduceLeDiff, reduceCtorEq, Nat.reduceEqDiff, Nat.reduceMod, Try.tm_22, Try.tm_3, hck]; exact hq) (by first | rfl | (simp only [go_sem, Nat.reduceLeDiff]; done) | (simp only [go_sem, Nat.reduceLeDiff]; rfl) | (simp; done) | (simp [oneD] <;> omega) | (simp_all; done) | (simp_all [oneD] <;> omega)) (by first | exact Nat.le_refl _ | exact Nat.le_of_ble_eq_true rfl | (dsimp only; omega) | (simp <;> omega)) ?_
 refine .seq ?_
 refine .seq ?_
 refine .plain Try.tmOk Try.tmMixed [0, 1, 2, 7] (by decide +kernel) (by intro q hq; simp only [go_sem, appendD, Nat.reduceSub, Int.reduceEq, Nat.reduceLT, Nat.reduceDiv, Nat.reduceAdd, Nat.reduceBEq, Nat.reduceLeDiff, reduceCtorEq, Nat.reduceEqDiff, Nat.reduceMod, Try.tm_22, Try.tm_3, hck]; exact hq) (by first | rfl | (simp only [go_sem, Nat.reduceLeDiff]; done) | (simp only [go_sem, Nat.reduceLeDiff]; rfl) | (simp; done) | (simp [oneD] <;> omega) | (simp_all; done) | (simp_all [oneD] <;> omega)) (by first | exact Nat.le_refl _ | exact Nat.le_of_ble_eq_true rfl | (dsimp only; omega) | (simp <;> omega)) ?_
 refine .cond rfl rfl (fun hc => by simp at hc) (fun hc => ?_)
 refine .skip ?_
 refine .seq ?_
 refine .plain Try.tmOk Try.tmMixed [0, 1, 2, 7] (by decide +kernel) (by intro q hq; simp only [go_sem, appendD, Nat.reduceSub, Int.reduceEq, Nat.reduceLT, Nat.reduceDiv, Nat.reduceAdd, Nat.reduceBEq, Nat.reduceLeDiff, reduceCtorEq, Nat.reduceEqDiff, Nat.reduceMod, Try.tm_22, Try.tm_3, hck]; exact hq) (by first | rfl | (simp only [go_sem, Nat.reduceLeDiff]; done) | (simp only [go_sem, Nat.reduceLeDiff]; rfl) | (simp; done) | (simp [oneD] <;> omega) | (simp_all; done) | (simp_all [oneD] <;> omega)) (by first | exact Nat.le_refl _ | exact Nat.le_of_ble_eq_true rfl | (dsimp only; omega) | (simp <;> omega)) ?_
 refine .seq ?_
 refine .seq ?_
 refine .plain Try.tmOk Try.tmMixed [0, 1, 2, 7, 8] (by decide +kernel) (by intro q hq; simp only [go_sem, appendD, Nat.reduceSub, Int.reduceEq, Nat.reduceLT, Nat.reduceDiv, Nat.reduceAdd, Nat.reduceBEq, Nat.reduceLeDiff, reduceCtorEq, Nat.reduceEqDiff, Nat.reduceMod, Try.tm_22, Try.tm_3, hck]; exact hq) (by first | rfl | (simp only [go_sem, Nat.reduceLeDiff]; done) | (simp only [go_sem, Nat.reduceLeDiff]; rfl) | (simp; done) | (simp [oneD] <;> omega) | (simp_all; done) | (simp_all [oneD] <;> omega)) (by first | exact Nat.le_refl _ | exact Nat.le_of_ble_eq_true rfl | (dsimp only; omega) | (simp <;> omega)) ?_
 refine .cond rfl rfl (fun hc => by simp at hc; omega) (fun hc => ?_)
 refine .skip ?_
 refine .seq ?_
 refine .seq ?_
 refine .plain Try.tmOk Try.tmMixed [0, 1, 2, 7, 8] (by decide +kernel) (by intro q hq; simp only [go_sem, appendD, Nat.reduceSub, Int.reduceEq, Nat.reduceLT, Nat.reduceDiv, Nat.reduceAdd, Nat.reduceBEq, Nat.reduceLeDiff, reduceCtorEq, Nat.reduceEqDiff, Nat.reduceMod, Try.tm_22, Try.tm_3, hck, hw]; exact hq) (by first | rfl | (simp only [go_sem, Nat.reduceLeDiff]; done) | (simp only [go_sem, Nat.reduceLeDiff]; rfl) | (simp; done) | (simp [oneD] <;> omega) | (simp_all; done) | (simp_all [oneD] <;> omega)) (by first | exact Nat.le_refl _ | exact Nat.le_of_ble_eq_true rfl | (dsimp only; omega) | (simp <;> omega)) ?_
 refine .cond rfl rfl (fun hc => by simp at hc; omega) (fun hc => ?_)
 refine .skip ?_
 refine .seq ?_
 refine .plain Try.tmOk Try.tmMixed [0, 1, 2, 7, 8] (by decide +kernel) (by intro q hq; simp only [go_sem, appendD, Nat.reduceSub, Int.reduceEq, Nat.reduceLT, Nat.reduceDiv, Nat.reduceAdd, Nat.reduceBEq, Nat.reduceLeDiff, reduceCtorEq, Nat.reduceEqDiff, Nat.reduceMod, Try.tm_22, Try.tm_3, hck, hw, roomV, Option.isSome, Int.sub_zero, Int.toNat_zero, Nat.sub_zero, bij, bji]; exact hq) (by first | rfl | (simp only [go_sem, Nat.reduceLeDiff]; done) | (simp only [go_sem, Nat.reduceLeDiff]; rfl) | (simp; done) | (simp [oneD] <;> omega) | (simp_all; done) | (simp_all [oneD] <;> omega)) (by first | exact Nat.le_refl _ | exact Nat.le_of_ble_eq_true rfl | (dsimp only; omega) | (simp <;> omega)) ?_
 refine .seq ?_
 refine .seq ?_
 refine .reg Try.tmOk Try.tmMixed [0, 1, 2, 7] (by decide +kernel) ?_
 refine .R (dr := false) (.inr fun _ _ _ h => ⟨nofun, h.2⟩) (by intro q hq; simp only [go_sem, appendD, Nat.reduceSub, Int.reduceEq, Nat.reduceLT, Nat.reduceDiv, Nat.reduceAdd, Nat.reduceBEq, Nat.reduceLeDiff, reduceCtorEq, Nat.reduceEqDiff, Nat.reduceMod, Try.tm_22, Try.tm_3, hck, hw3, Int.toNat_sub, bij, bji]; exact hq) (by first | rfl | (simp only [go_sem, Nat.reduceLeDiff]; done) | (simp only [go_sem, Nat.reduceLeDiff]; rfl) | (simp; done) | (simp [oneD] <;> omega) | (simp_all; done) | (simp_all [oneD] <;> omega)) (by first | exact Nat.le_refl _ | exact Nat.le_of_ble_eq_true rfl | (dsimp only; omega) | (simp <;> omega)) ?_
 refine .overs (i := j) (j := i) rfl rfl rfl rfl rfl overs73 ⟨1, 0, 0, some 1, 1 - 1, at' + 1, L.length - at' - 1, some (c - (at' + 1)), 3, 1, Q, [x], 3, 1, P, L, by
  show [D.ref j 1 0 1 (some 1), D.ref i 1 (at' + 1) (L.length + 1 - (at' + 1)) (some (c - (at' + 1)))] = _
  rw [hn1], by simp only [getL, bij, cond_false, Nat.beq_refl, cond_true], by simp only [getL, Nat.beq_refl, cond_true], Ne.symm hij⟩ ?_
 refine .R (dr := false) (.inr fun _ _ _ h => ⟨nofun, h.2⟩) (by intro q hq; simp only [go_sem, appendD, Nat.reduceSub, Int.reduceEq, Nat.reduceLT, Nat.reduceDiv, Nat.reduceAdd, Nat.reduceBEq, Nat.reduceLeDiff, reduceCtorEq, Nat.reduceEqDiff, Nat.reduceMod, Try.tm_22, Try.tm_3, hck]; exact hq) (by first | rfl | (simp only [go_sem, Nat.reduceLeDiff]; done) | (simp only [go_sem, Nat.reduceLeDiff]; rfl) | (simp; done) | (simp [oneD] <;> omega) | (simp_all; done) | (simp_all [oneD] <;> omega)) (by first | exact Nat.le_refl _ | exact Nat.le_of_ble_eq_true rfl | (dsimp only; omega) | (simp <;> omega)) ?_
 refine .nil ⟨nofun, ?_⟩
 refine .cond rfl rfl (fun hc => ?_) (fun hc => by cases hc)
 refine .seq ?_
 refine .drawn Try.tmOk Try.tmMixed [0, 1, 2, 7] (by decide +kernel) (by intro q hq; simp only [go_sem, appendD, Nat.reduceSub, Int.reduceEq, Nat.reduceLT, Nat.reduceDiv, Nat.reduceAdd, Nat.reduceBEq, Nat.reduceLeDiff, reduceCtorEq, Nat.reduceEqDiff, Nat.reduceMod, Try.tm_22, Try.tm_3, hck, hw3, Int.toNat_sub, hm2, e4, e5, bij, bji, Bool.and_self, List.append_nil]; exact hq) (schedB_of (by kernel_rfl)) (by first | rfl | (simp only [go_sem, Nat.reduceLeDiff]; done) | (simp only [go_sem, Nat.reduceLeDiff]; rfl) | (simp; done) | (simp [oneD] <;> omega) | (simp_all; done) | (simp_all [oneD] <;> omega)) (by first | exact Nat.le_refl _ | exact Nat.le_of_ble_eq_true rfl | (dsimp only; omega) | (simp <;> omega)) ?_
 refine .seq ?_
 refine .plain Try.tmOk Try.tmMixed [0, 1, 2] (by decide +kernel) (by intro q hq; simp only [go_sem, appendD, Nat.reduceSub, Int.reduceEq, Nat.reduceLT, Nat.reduceDiv, Nat.reduceAdd, Nat.reduceBEq, Nat.reduceLeDiff, reduceCtorEq, Nat.reduceEqDiff, Nat.reduceMod, Try.tm_22, Try.tm_3, hck, Int.toNat_sub, hm1, e1, e2, bij, bji, List.take_succ_cons]; exact hq) (by first | rfl | (simp only [go_sem, Nat.reduceLeDiff]; done) | (simp only [go_sem, Nat.reduceLeDiff]; rfl) | (simp; done) | (simp [oneD] <;> omega) | (simp_all; done) | (simp_all [oneD] <;> omega)) (by first | exact Nat.le_refl _ | exact Nat.le_of_ble_eq_true rfl | (dsimp only; omega) | (simp <;> omega)) ?_
 refine .seq ?_
 refine .plain Try.tmOk Try.tmMixed [0] (by decide +kernel) (by intro q hq; simp only [go_sem, appendD, Nat.reduceSub, Int.reduceEq, Nat.reduceLT, Nat.reduceDiv, Nat.reduceAdd, Nat.reduceBEq, Nat.reduceLeDiff, reduceCtorEq, Nat.reduceEqDiff, Nat.reduceMod, Try.tm_22, Try.tm_3, hck]; exact hq) (by first | rfl | (simp only [go_sem, Nat.reduceLeDiff]; done) | (simp only [go_sem, Nat.reduceLeDiff]; rfl) | (simp; done) | (simp [oneD] <;> omega) | (simp_all; done) | (simp_all [oneD] <;> omega)) (by first | exact Nat.le_refl _ | exact Nat.le_of_ble_eq_true rfl | (dsimp only; omega) | (simp <;> omega)) ?_
 refine .ret ⟨.inr rfl, retH [i, j] ?_ ?_⟩
 ·simp only [ResIs, resL, resD, resT, go_sem, appendD, Nat.reduceSub, Int.reduceEq, Nat.reduceLT, Nat.reduceDiv, Nat.reduceAdd, Nat.reduceBEq, Nat.reduceLeDiff, reduceCtorEq, Nat.reduceEqDiff, Nat.reduceMod, Try.f66]
 ·simp only [pickL, getL, effL, put, del, Nat.beq_refl, cond_true, cond_false, bij, bji, List.append_assoc, List.singleton_append, List.append_nil]
theorem ins66 (i j k : Nat) (hij : i ≠ j) (hik : i ≠ k) (hjk : j ≠ k) (L : List D) (x : D) (P Q : Bool) (at' : Nat) (hat : at' ≤ L.length) (hL : L.length < 1000000) :
  CallH Try.prog 66 [.ref i 1 0 L.length (some unkC), .int .i64 (at' : Int), .ref j 1 0 1 (some 1)] [(i, .arr 3 1 P L), (j, .arr 3 1 Q [x])] (.ref k 1 0 (L.length + 1) (some unkC)) [(k, some (.arr 3 1 (P && Q) (L.take at' ++ x :: L.drop at'))), (i, none)] (k, k + 1) := by
 by_cases h : at' = L.length
 ·subst h
  have := ins66e i j k hij hik hjk L x P Q hL
  rw [List.take_length, List.drop_length]
  exact this
 ·exact callH_capW (l := L) (p := P) (ins66e i j k hij hik hjk L x P Q hL).1 (by simp only [getL, Nat.beq_refl, cond_true]) hik (by omega)
   (fun c hc _ h2 => ins66r i j k hij L x P Q at' c hc (by omega) hL h2)
   (fun c hc h1 h2 => ins66g i j k hij hik hjk L x P Q at' c hc (by omega) hL h1 h2)
end Go.Proofs
end
section
namespace Go.Proofs
open Go.Tm
theorem insT64 (i j k : Nat) (hij : i ≠ j) (hik : i ≠ k) (hjk : j ≠ k) (l : List TPromise) (x : TPromise) (at' : Int) (h : 0 ≤ at' ∧ at' ≤ (l.length : Int)) (hl : l.length < 1000000) :
  CallH Try.prog 64 [.ref i 3 0 l.length (some unkC), .int .i64 at', .ref j 3 0 1 (some 1)] [(i, .arr 77 3 true (l.map TPromise.d)), (j, .arr 77 3 true [x.d])] (.ref k 3 0 (l.take at'.toNat ++ x :: l.drop at'.toNat).length (some unkC)) [(k, some (.arr 77 3 true ((l.take at'.toNat ++ x :: l.drop at'.toNat).map TPromise.d))), (i, none)] (k, k + 1) := by
 have t := ins64 i j k hij hik hjk (l.map TPromise.d) x.d true true at'.toNat (by rw [List.length_map]; omega) (by rw [List.length_map]; exact hl)
 rw [Int.toNat_of_nonneg h.1, List.length_map, take_map, drop_map, ← List.map_cons, ← List.map_append] at t
 have e : l.length + 1 = (l.take at'.toNat ++ x :: l.drop at'.toNat).length := by simp; omega
 rw [e] at t
 exact t
theorem insT66 (i j k : Nat) (hij : i ≠ j) (hik : i ≠ k) (hjk : j ≠ k) (l : List Int) (x : Int) (at' : Int) (h : 0 ≤ at' ∧ at' ≤ (l.length : Int)) (hl : l.length < 1000000) :
  CallH Try.prog 66 [.ref i 1 0 l.length (some unkC), .int .i64 at', .ref j 1 0 1 (some 1)] [(i, .arr 3 1 true (l.map (D.int .i64))), (j, .arr 3 1 true [(D.int .i64 x)])] (.ref k 1 0 (l.take at'.toNat ++ x :: l.drop at'.toNat).length (some unkC)) [(k, some (.arr 3 1 true ((l.take at'.toNat ++ x :: l.drop at'.toNat).map (D.int .i64)))), (i, none)] (k, k + 1) := by
 have t := ins66 i j k hij hik hjk (l.map (D.int .i64)) (D.int .i64 x) true true at'.toNat (by rw [List.length_map]; omega) (by rw [List.length_map]; exact hl)
 rw [Int.toNat_of_nonneg h.1, List.length_map, take_map, drop_map, ← List.map_cons, ← List.map_append] at t
 have e : l.length + 1 = (l.take at'.toNat ++ x :: l.drop at'.toNat).length := by simp; omega
 rw [e] at t
 exact t
end Go.Proofs
end
section
namespace Go.Proofs
open Go.Tm
set_option linter.unusedVariables false
def m_attempt_Promised_1 (a0 : Int) (c0 : TAttempt) (c1 : TPromise) : Option Bool :=
 if (0 ≤ a0 ∧ a0 < (c0.Promises.length : Int)) then
 some (decide ((c0.Promises.getD a0.toNat default).Node ≥ c1.Node))
 else none
def m_attempt_Promised (a : TAttempt) (b : Int) (p : TPromise) : Option (TAttempt × Int) :=
 Option.bind (m_attempt_Check a) fun v1 =>
 if ¬ (v1 = 0) then
 some ((⟨0, 0, [], [], [], [], []⟩ : TAttempt), v1)
 else
 Option.bind (if ¬ ((¬ (a.Phase = 1)) ∨ (¬ (b = a.Ballot))) then m_quorum_Has a.Members p.Node else some default) fun v2 =>
 if ((¬ (a.Phase = 1)) ∨ (¬ (b = a.Ballot))) ∨ (¬ (v2 = true)) then
 some ((⟨0, 0, [], [], [], [], []⟩ : TAttempt), 6)
 else
 Option.bind (m_attempt_may p b) fun v3 =>
 if ¬ (v3 = true) then
 some ((⟨0, 0, [], [], [], [], []⟩ : TAttempt), 8)
 else
 Option.bind (m_attempt_Twin a) fun v4 =>
 Option.bind (m_sort_Search (v4.Promises.length : Int) (fun x0 => m_attempt_Promised_1 x0 v4 p)) fun v5 =>
 if (v5 < (v4.Promises.length : Int)) → (0 ≤ v5 ∧ v5 < (v4.Promises.length : Int)) then
 if (v5 < (v4.Promises.length : Int)) ∧ ((v4.Promises.getD v5.toNat default).Node = p.Node) then
 some (v4, 0)
 else
 if 0 ≤ v5 ∧ v5 ≤ (v4.Promises.length : Int) then
 if v4.Promises.length < 1000000 then
 Option.bind (α := Int × (List UInt8)) (Option.bind (m_attempt_nodes ((v4.Promises.take v5.toNat) ++ (p :: (v4.Promises.drop v5.toNat)))) fun v6 =>
 Option.bind (m_attempt_most v4.Members v6) fun v7 =>
 if v7 = true then
 Option.bind (m_attempt_Best ((v4.Promises.take v5.toNat) ++ (p :: (v4.Promises.drop v5.toNat))) v4.Wish) fun v8 =>
 some (2, v8)
 else
 some (v4.Phase, v4.Value)) fun (n1, s1) =>
 some ((⟨n1, v4.Ballot, v4.Members, v4.Wish, s1, ((v4.Promises.take v5.toNat) ++ (p :: (v4.Promises.drop v5.toNat))), v4.Accepted⟩ : TAttempt), 0)
 else none
 else none
 else none
def m_attempt_Accepted (a : TAttempt) (b : Int) (node : Int) : Option (TAttempt × Int) :=
 Option.bind (m_attempt_Check a) fun v1 =>
 if ¬ (v1 = 0) then
 some ((⟨0, 0, [], [], [], [], []⟩ : TAttempt), v1)
 else
 Option.bind (if ¬ ((a.Phase < 2) ∨ (¬ (b = a.Ballot))) then m_quorum_Has a.Members node else some default) fun v2 =>
 if ((a.Phase < 2) ∨ (¬ (b = a.Ballot))) ∨ (¬ (v2 = true)) then
 some ((⟨0, 0, [], [], [], [], []⟩ : TAttempt), 6)
 else
 Option.bind (m_attempt_Twin a) fun v3 =>
 Option.bind (m_sort_SearchInts v3.Accepted node) fun v4 =>
 Option.bind (α := (List Int)) (if (¬ (v4 = (v3.Accepted.length : Int))) → (0 ≤ v4 ∧ v4 < (v3.Accepted.length : Int)) then
 if (v4 = (v3.Accepted.length : Int)) ∨ (¬ ((v3.Accepted.getD v4.toNat default) = node)) then
 if 0 ≤ v4 ∧ v4 ≤ (v3.Accepted.length : Int) then
 if v3.Accepted.length < 1000000 then
 some ((v3.Accepted.take v4.toNat) ++ (node :: (v3.Accepted.drop v4.toNat)))
 else none
 else none
 else
 some v3.Accepted
 else none) fun l1 =>
 Option.bind (α := Int) (Option.bind (m_attempt_most v3.Members l1) fun v5 =>
 if v5 = true then
 some 3
 else
 some v3.Phase) fun n1 =>
 some ((⟨n1, v3.Ballot, v3.Members, v3.Wish, v3.Value, v3.Promises, l1⟩ : TAttempt), 0)
end Go.Proofs
end
