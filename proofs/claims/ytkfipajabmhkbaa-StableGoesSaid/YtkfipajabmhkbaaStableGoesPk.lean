/- Texts of the proof. -/
import Derived.WideKeyArgs
import Derived.ChangeSame
import Derived.ChangeArms
import Derived.OpenShut
import Derived.Carry
import Derived.Test.YtkfipajabmhkbaaRows
import Derived.WalkKit
import Derived.ProofKit
import Derived.Test.YtkfipajabmhkbaaStableGoesPg
import Derived.Test.YtkfipajabmhkbaaStableGoesPh
import Derived.Test.YtkfipajabmhkbaaStableGoesPj
import Derived.Test.YtkfipajabmhkbaaStableGoesPf
section
namespace Go.Proofs
open Go.Tm Go.RowKit Go.WideShapes
set_option maxRecDepth 100000
set_option maxHeartbeats 4000000
set_option linter.unusedSimpArgs false
set_option linter.unusedVariables false
attribute [local go_sem] argVars runE runK isCallV stepE aop opd opdsL opds opdO ev ofVal keep List.any natbeq Bool.false_or Bool.true_or aggEq cond_true cond_false Bool.cond_false_right Bool.cond_true_left beq_true beq_false imp_self implies_true getR getL put St.app effL del nwB blt_dec Nat.lt_irrefl Nat.lt_add_one ble_dec Nat.le_refl Nat.beq_refl roomNZ appendIn capS capK mkZ_zero mkZL_zero zeroEl D.ids D.idsL bin arith sarith binT dpick Tm.part splice fillD oneD loadD storeD srcD sliceD idxOk decide_true gval dstAt D.cells List.map_cons List.map_nil List.take List.drop List.length_map List.append Int.toNat_natCast and_true true_and decide_false List.length_cons List.length_nil List.append_nil List.nil_append Bool.and_true Bool.true_and Bool.not_false Bool.not_true ne_eq not_false_eq_true BEq.rfl List.getElem?_cons_zero List.getElem?_cons_succ List.getElem?_nil Nat.zero_add List.all_cons List.all_nil List.isEmpty_cons List.isEmpty_nil Option.getD_some Option.getD_none List.any_cons List.any_nil List.drop_succ_cons List.drop_zero unfL unf okM okML low3 List.cons_append true_or or_true Nat.zero_mul Nat.zero_le findD_int findD_str  getD_int getD_str getD_bool Option.isSome_map keyD List.length_replicate List.map_replicate setEl List.length_set bytesD_map map_ub mx_len mkZ_one mkZL_one mkM mkML mk1_int mk1_str mk1_bool drop_map take_map take_map_len List.take_length Int.toNat_zero toNat_pred fpOf metIds opIds mvV mvH mvF pickL D.ren D.renL Blk.ren List.map_append List.length_append Bool.not_not Bool.or_not_self Bool.not_or_self Bool.or_true
attribute [local go_sem] Try.tm_1 Try.tm_2 Try.tm_3 Try.tm_4 Try.tm_5 Try.tm_6 Try.tm_7 Try.tm_8 Try.tm_9 Try.tm_10 Try.tm_11 Try.tm_12 Try.tm_13 Try.tm_14 Try.tm_15 Try.tm_16 Try.tm_17 Try.tm_18 Try.tm_19 Try.tm_20 Try.tm_21 Try.tm_22 Try.tm_23 Try.tm_24 Try.tm_25 Try.tm_26 Try.tm_27 Try.tm_28 Try.tm_29 Try.tm_30 Try.tm_32 Try.tm_33 Try.tm_34 Try.tm_35 Try.tm_36 Try.tm_37 Try.tm_39 Try.tm_40 Try.tm_41 Try.tm_43 Try.tm_45 Try.tm_46 Try.tm_47 Try.tm_48 Try.tm_49 Try.tm_50 Try.tm_51 Try.tm_52 Try.tm_53 Try.tm_55 Try.tm_57 Try.tm_58 Try.tm_60 Try.tm_61 Try.tm_63 Try.tm_64 Try.tm_65 Try.tm_66 Try.tm_67 Try.tm_68 Try.tm_69 Try.tm_70 Try.tm_71 Try.tm_72 Try.tm_73 Try.tm_74 Try.tm_76 Try.tm_77 Try.tm_78 Try.tm_79 Try.tm_80 Try.tm_81 Try.tm_82 Try.tm_83 Try.tm_84 Try.tm_85 Try.tm_86 Try.tm_87 Try.tm_89 Try.tm_91 Try.tm_92 Try.tm_93 Try.tm_94 Try.tm_95 Try.tm_96 Try.tm_98 Try.tm_99 Try.tm_101 Try.tm_103 Try.tm_104 Try.tm_105 Try.tm_106 Try.tm_107 Try.tm_108 Try.tm_109 Try.tm_110 Try.tm_111 Try.tm_112 Try.tm_113 Try.tm_114 Try.tm_115 Try.tm_116 Try.tm_117 Try.tm_118 Try.tm_119 Try.tm_120 Try.tm_121 Try.tm_123 Try.tm_124 Try.tm_125 Try.tm_126 Try.tm_127 Try.tm_128 Try.tm_129 Try.tm_130 Try.tm_132 Try.tm_134 Try.tm_135 Try.tm_136 Try.tm_137 Try.tm_138 Try.tm_139 Try.tm_140 Try.tm_143 Try.tm_144 Try.tm_145 Try.tm_146 Try.tm_147 Try.tm_148 Try.tm_149 Try.tm_150 Try.tm_151 dL_str nL_str TVote.d TSeen.d TStable.d TStable.n TRecord.d mk1_dL_str mk1_TVote mk1_TSeen mk1_TStable mk1_TRecord Try.f3
def Try.St_towncrierlaw11_StableGoes_1 (a0 : TStable) (a1 : TRecord) (a2 : Int) (a3 : Int) (v2 : TStable × Int) : St := ⟨[(2, .int .i64 a2), (3, .int .i64 a3), (4, .ptr 0 0), (5, .ptr 1 0), (9, .bool true), (10, .ptr 2 0)], [(0, .box [.imm 1 (a0.Logs.map dL_str) 4, .imm 5 (a0.Votes.map TSeen.d) 4]), (1, .box [.int .u8 a1.Kind, .int .i64 a1.Group, .int .i64 a1.Slot, .int .i64 a1.Ballot, .str a1.Value]), (2, .box [.imm 1 (v2.1.Logs.map dL_str) 12, .imm 5 (v2.1.Votes.map TSeen.d) 12])], 3⟩
attribute [local go_sem] Try.St_towncrierlaw11_StableGoes_1
def Try.St_towncrierlaw11_StableGoes_3 (a0 : TStable) (a1 : TRecord) (a2 : Int) (a3 : Int) (v2 : TStable × Int) (n1 : Nat) : St := ⟨[(2, .int .i64 a2), (3, .int .i64 a3), (4, .ptr 0 0), (5, .ptr 1 0), (9, .bool true), (10, .ptr 2 0), (12, .int .i64 (n1 : Int))], [(0, .box [.imm 1 (a0.Logs.map dL_str) 4, .imm 5 (a0.Votes.map TSeen.d) 4]), (1, .box [.int .u8 a1.Kind, .int .i64 a1.Group, .int .i64 a1.Slot, .int .i64 a1.Ballot, .str a1.Value]), (2, .box [.imm 1 (v2.1.Logs.map dL_str) 12, .imm 5 (v2.1.Votes.map TSeen.d) 12])], 3⟩
attribute [local go_sem] Try.St_towncrierlaw11_StableGoes_3
def Try.St_towncrierlaw11_StableGoes_5 (a0 : TStable) (a1 : TRecord) (a2 : Int) (a3 : Int) (v2 : TStable × Int) (n1 : Nat) (yq0 : List (List UInt8)) (n2 : Int) : St := ⟨[(2, .int .i64 a2), (3, .int .i64 a3), (4, .ptr 0 0), (5, .ptr 1 0), (9, .bool true), (10, .ptr 2 0), (12, .int .i64 (n1 : Int)), (13, .int .i64 ((yq0).length : Int)), (14, .int .i64 n2)], [(0, .box [.imm 1 (a0.Logs.map dL_str) 4, .imm 5 (a0.Votes.map TSeen.d) 4]), (1, .box [.int .u8 a1.Kind, .int .i64 a1.Group, .int .i64 a1.Slot, .int .i64 a1.Ballot, .str a1.Value]), (2, .box [.imm 1 (v2.1.Logs.map dL_str) 12, .imm 5 (v2.1.Votes.map TSeen.d) 12])], 3⟩
attribute [local go_sem] Try.St_towncrierlaw11_StableGoes_5
theorem callP_towncrierlaw11_StableGoes (a0 : TStable) (a1 : TRecord) (a2 : Int) (a3 : Int) (r : Bool) (h : m_towncrierlaw11_StableGoes a0 a1 a2 a3 = some r) : CallP Try.prog 3 [.agg [.imm 1 (a0.Logs.map dL_str) 4, .imm 5 (a0.Votes.map TSeen.d) 4], .agg [.int .u8 a1.Kind, .int .i64 a1.Group, .int .i64 a1.Slot, .int .i64 a1.Ballot, .str a1.Value], .int .i64 a2, .int .i64 a3] (.bool r) := by
 refine callP_intro Try.tmOk 7 Try.func3 rfl (by decide) rfl rfl (Nat.le_of_ble_eq_true rfl) ?_
 intro hwf
 unfold m_towncrierlaw11_StableGoes at h
 refine .seq ?_
 refine .pl Try.S [0, 1, 2, 3] ?_
 refine .seq ?_
 refine .rg Try.S [2, 3, 4, 5] ?_
 refine .call (r := .bool true) rfl rfl rfl rfl rfl rfl Try.namesSG ?_
 refine .rn 1 ?_
 refine .nil ⟨nofun, ?_⟩
 refine .seq ?_
 refine .seq ?_
 refine .pl Try.S [2, 3, 4, 5, 9] ?_
 refine .cond rfl rfl (fun hc => by cases hc) (fun hc => ?_)
 refine .skip ?_
 refine .seq ?_
 refine .seq ?_
 obtain ⟨v1, hv1, h⟩ := bind_some h
 refine .rg Try.S [2, 3, 4, 5, 9] ?_
 refine .rn 1 ?_
 refine .call (r := .bool v1) rfl rfl rfl rfl rfl rfl (callP_towncrierref11_Great a0 v1 hv1) ?_
 refine .rn 6 ?_
 refine .nil ⟨nofun, ?_⟩
 refine .cond rfl rfl (fun hc1 => ?_) (fun hc1 => ?_)
 ·skip
  replace h := ite_lc h hc1
  refine .seq ?_
  refine .pl Try.S [9] ?_
  have hq := Option.some.inj h
  subst r
  exact .ret ⟨.inr rfl, rsi⟩
 ·skip
  replace h := ite_rc h hc1
  refine .skip ?_
  refine .seq ?_
  obtain ⟨v2, hv2, h⟩ := bind_some h
  refine .rg Try.S [2, 3, 4, 5, 9] ?_
  refine .rn 2 ?_
  refine .call (r := .tuple [.agg [.imm 1 (v2.1.Logs.map dL_str) 12, .imm 5 (v2.1.Votes.map TSeen.d) 12], .int .i64 v2.2]) rfl rfl rfl rfl rfl rfl (callP_stable_Apply a0 a1 v2 hv2) ?_
  refine .rn 6 ?_
  refine .nil ⟨nofun, ?_⟩
  refine .seq ?_
  refine .seq ?_
  refine .pl Try.S [2, 3, 4, 5, 9, 10, 11] ?_
  refine .cond rfl rfl (fun hc2 => ?_) (fun hc2 => ?_)
  ·skip
   replace h := ite_lc h hc2
   refine .seq ?_
   refine .pl Try.S [9, 10] ?_
   have hq := Option.some.inj h
   subst r
   exact .ret ⟨.inr rfl, rsi⟩
  ·skip
   replace h := ite_rc h hc2
   refine .skip ?_
   refine .seq ?_
   refine .seq ?_
   obtain ⟨v3, hv3, h⟩ := bind_some h
   refine .rg Try.S [2, 3, 4, 5, 9, 10] ?_
   refine .rn 1 ?_
   refine .call (r := .int .i64 v3) rfl rfl rfl rfl rfl rfl (callP_stable_Check v2.1 v3 hv3) ?_
   refine .rn 6 ?_
   refine .rn 4 ?_
   refine .nil ⟨nofun, ?_⟩
   refine .cond rfl rfl (fun hc3 => ?_) (fun hc3 => ?_)
   ·skip
    replace h := ite_lc h hc3
    refine .seq ?_
    refine .pl Try.S [] ?_
    have hq := Option.some.inj h
    subst r
    exact .ret ⟨.inr rfl, rsi⟩
   ·skip
    replace h := ite_rc h hc3
    refine .skip ?_
    obtain ⟨x1, hx1, h⟩ := bind_some h
    refine .seqM 3 (fun (j : Unit) => Try.St_towncrierlaw11_StableGoes_1 a0 a1 a2 a3 v2) (fun j => x1 = (.inr j)) (Nat.le_of_ble_eq_true rfl) ?_ ?_
    ·skip
     refine .seq ?_
     refine .pl Try.S [2, 3, 4, 5, 9, 10] ?_
     refine .block ?_
     refine .loopG 3 (fun (j : Nat) => Try.St_towncrierlaw11_StableGoes_3 a0 a1 a2 a3 v2 j) (fun j => j ≤ a0.Logs.length ∧ m_towncrierlaw11_StableGoes_loop1 a1 v2 (a0.Logs.drop j) j  = some x1) (fun j => a0.Logs.length - j) (0) (Nat.le_of_ble_eq_true rfl) ?_ ⟨Nat.zero_le _, hx1⟩ ?_
     ·skip
      exact .m [2, 3, 4, 5, 9, 10, 12] [0, 1, 2] []
     rintro n1 ⟨hi1, hx1⟩
     simp only [Try.St_towncrierlaw11_StableGoes_3]
     refine .wfb 0 [.imm 1 (a0.Logs.map dL_str) 4, .imm 5 (a0.Votes.map TSeen.d) 4] rfl ?_
     intro hln1
     replace hln1 : (a0.Logs.length : Int) ≤ 9223372036854775807 := by simp only [wf, wfL, IntKind.max, IntKind.min, IntKind.signed, IntKind.bits, List.length_map] at hln1; first | exact hln1.2 | exact hln1.1 | (simp at hln1; omega)
     refine .seq ?_
     refine .seq ?_
     refine .pl Try.S [2, 3, 4, 5, 9, 10, 12] ?_
     refine .cond rfl rfl (fun hc4 => ?_) (fun hc4 => ?_)
     ·skip
      have h1 : n1 < a0.Logs.length := by simpa using hc4
      have hwn1 : wr .i64 ((n1 : Int) + 1) = ((n1 + 1 : Nat) : Int) := wr_succ h1 hln1
      have hpn1 : wr .i64 ((n1 : Int) - 1) = (n1 : Int) - 1 := wr_pred h1 hln1
      rw [List.drop_eq_getElem_cons h1, m_towncrierlaw11_StableGoes_loop1] at hx1
      refine .skip ?_
      refine .seq ?_
      refine .block ?_
      refine .seq ?_
      have e1 := nth_map dL_str a0.Logs n1 h1
      refine .plx Try.S (And.intro e1 hwn1) [2, 3, 4, 5, 9, 10, 12] ?_
      refine .seq ?_
      refine .plx Try.S hwn1 [2, 3, 4, 5, 9, 10, 12, 13] ?_
      obtain ⟨x2, hx2, hx1⟩ := bind_some hx1
      refine .seqM 3 (fun (j : Int) => Try.St_towncrierlaw11_StableGoes_5 a0 a1 a2 a3 v2 n1 (a0.Logs[n1]) j) (fun j => x2 = j) (Nat.le_of_ble_eq_true rfl) ?_ ?_
      ·skip
       refine .seq ?_
       refine .rg Try.S [2, 3, 4, 5, 9, 10, 12, 13, 14] ?_
       refine .rnx 6 hwn1 ?_
       refine .rnx 3 hwn1 ?_
       refine .nil ⟨nofun, ?_⟩
       refine .cond rfl rfl (fun hc5 => ?_) (fun hc5 => ?_)
       ·skip
        replace hx2 := ite_lc hx2 hc5
        refine .plx Try.S hwn1 [2, 3, 4, 5, 9, 10, 12, 13] ?_
        refine ⟨_, ?_, (Option.some.inj hx2).symm⟩
        exact .m [2, 3, 4, 5, 9, 10, 12, 13, 14] [0, 1, 2] []
       ·skip
        replace hx2 := ite_rc hx2 hc5
        refine .skip ?_
        refine ⟨_, ?_, (Option.some.inj hx2).symm⟩
        exact .m [2, 3, 4, 5, 9, 10, 12, 13, 14] [0, 1, 2] []
      ·skip
       rintro n2 hj1
       subst x2
       try dsimp only at hx1
       simp only [Try.St_towncrierlaw11_StableGoes_5]
       obtain ⟨k1, hx1⟩ := ite_ck hx1
       obtain ⟨k2, hx1⟩ := ite_ck hx1
       obtain ⟨k3, hx1⟩ := ite_ck hx1
       obtain ⟨v4, hv4, hx1⟩ := bind_some hx1
       refine .seqM 3 (fun (_ : Unit) => ⟨[(2, .int .i64 a2), (3, .int .i64 a3), (4, .ptr 0 0), (5, .ptr 1 0), (9, .bool true), (10, .ptr 2 0), (12, .int .i64 (n1 : Int)), (105, .bool ((((v2.1.Logs.getD n1 default).length : Int) != (wr .i64 (((a0.Logs[n1]).length : Int) + n2))) || (!v4)))], [(0, .box [.imm 1 (a0.Logs.map dL_str) 4, .imm 5 (a0.Votes.map TSeen.d) 4]), (1, .box [.int .u8 a1.Kind, .int .i64 a1.Group, .int .i64 a1.Slot, .int .i64 a1.Ballot, .str a1.Value]), (2, .box [.imm 1 (v2.1.Logs.map dL_str) 12, .imm 5 (v2.1.Votes.map TSeen.d) 12])], 3⟩) (fun _ => True) (Nat.le_of_ble_eq_true rfl) ?_ (fun _ _ => ?_)
       ·skip
        by_cases hgd : ¬ (¬ (((v2.1.Logs.getD n1 default).length : Int) = (wr .i64 (((a0.Logs[n1]).length : Int) + n2))))
        ·skip
         have eg10 := nth_mapD dL_str v2.1.Logs n1 (k2 hgd)
         have e2 := nth_mapD dL_str v2.1.Logs n1
         have e3 := nth_map dL_str a0.Logs n1 h1
         replace e2 := e2 k1
         refine .rg Try.S [2, 3, 4, 5, 9, 10, 12, 13, 14] ?_
         refine .rdx 6 (And.intro e2 (And.intro e3 (And.intro eg10 hwn1))) ?_
         refine .rdx 6 (And.intro e2 (And.intro e3 (And.intro eg10 hwn1))) ?_
         refine .rdx 6 (And.intro e2 (And.intro e3 (And.intro eg10 hwn1))) ?_
         refine .rdx 5 (And.intro e2 (And.intro e3 (And.intro eg10 hwn1))) ?_
         refine .gcall (r := .bool v4) rfl rfl rfl rfl rfl (fun hg => ⟨[], [.imm 1 (((v2.1.Logs.getD n1 default).take ((a0.Logs[n1]).length : Int).toNat).map D.str) 12, .imm 1 ((a0.Logs[n1]).map D.str) 4], _, rfl, gd hg, rfl, (callP_towncrierref01_SameTexts ((v2.1.Logs.getD n1 default).take ((a0.Logs[n1]).length : Int).toNat) (a0.Logs[n1]) v4 (ite_lc hv4 hg))⟩) ?_
         refine .rdx 2 (And.intro e2 (And.intro e3 (And.intro eg10 hwn1))) ?_
         refine .nil ⟨fun _ => schedB_of (by kernel_rfl), ?_⟩
         refine ⟨(), ?_, trivial⟩
         exact .m [2, 3, 4, 5, 9, 10, 12, 105] [0, 1, 2] []
        ·skip
         have hgf1 : (!(((v2.1.Logs.getD n1 default).length : Int) != (wr .i64 (((a0.Logs[n1]).length : Int) + n2)))) = false := by first | simpa using hgd | (simp at hgd ⊢; omega) | grind
         have hgf1t : (((v2.1.Logs.getD n1 default).length : Int) != (wr .i64 (((a0.Logs[n1]).length : Int) + n2))) = true := by first | simpa using hgf1 | grind
         rcases nth_or dL_str v2.1.Logs n1 with eg10 | eg10
         ·skip
          have e2 := nth_mapD dL_str v2.1.Logs n1
          have e3 := nth_map dL_str a0.Logs n1 h1
          replace e2 := e2 k1
          refine .rg Try.S [2, 3, 4, 5, 9, 10, 12, 13, 14] ?_
          refine .rdx 6 (And.intro e2 (And.intro e3 (And.intro eg10 (And.intro hgf1 (And.intro hgf1t hwn1))))) ?_
          refine .rdx 6 (And.intro e2 (And.intro e3 (And.intro eg10 (And.intro hgf1 (And.intro hgf1t hwn1))))) ?_
          refine .rdx 6 (And.intro e2 (And.intro e3 (And.intro eg10 (And.intro hgf1 (And.intro hgf1t hwn1))))) ?_
          refine .rdx 5 (And.intro e2 (And.intro e3 (And.intro eg10 (And.intro hgf1 (And.intro hgf1t hwn1))))) ?_
          refine .gcall (r := .bool v4) rfl rfl rfl rfl rfl (fun hg => ⟨[], [.imm 1 (((v2.1.Logs.getD n1 default).take ((a0.Logs[n1]).length : Int).toNat).map D.str) 12, .imm 1 ((a0.Logs[n1]).map D.str) 4], _, rfl, gd hg, rfl, (callP_towncrierref01_SameTexts ((v2.1.Logs.getD n1 default).take ((a0.Logs[n1]).length : Int).toNat) (a0.Logs[n1]) v4 (ite_lc hv4 hg))⟩) ?_
          refine .rdx 2 (And.intro e2 (And.intro e3 (And.intro eg10 (And.intro hgf1 (And.intro hgf1t hwn1))))) ?_
          refine .nil ⟨fun _ => schedB_of (by kernel_rfl), ?_⟩
          refine ⟨(), ?_, trivial⟩
          exact .mx (And.intro hgf1 hgf1t) [2, 3, 4, 5, 9, 10, 12, 105] [0, 1, 2] []
         ·skip
          have e2 := nth_mapD dL_str v2.1.Logs n1
          have e3 := nth_map dL_str a0.Logs n1 h1
          replace e2 := e2 k1
          refine .rg Try.S [2, 3, 4, 5, 9, 10, 12, 13, 14] ?_
          refine .rdx 6 (And.intro e2 (And.intro e3 (And.intro eg10 (And.intro hgf1 (And.intro hgf1t hwn1))))) ?_
          refine .rdx 6 (And.intro e2 (And.intro e3 (And.intro eg10 (And.intro hgf1 (And.intro hgf1t hwn1))))) ?_
          refine .rdx 6 (And.intro e2 (And.intro e3 (And.intro eg10 (And.intro hgf1 (And.intro hgf1t hwn1))))) ?_
          refine .rdx 5 (And.intro e2 (And.intro e3 (And.intro eg10 (And.intro hgf1 (And.intro hgf1t hwn1))))) ?_
          refine .gcall (r := .bool v4) rfl rfl rfl rfl rfl (fun hg => ⟨[], [.imm 1 (((v2.1.Logs.getD n1 default).take ((a0.Logs[n1]).length : Int).toNat).map D.str) 12, .imm 1 ((a0.Logs[n1]).map D.str) 4], _, rfl, gd hg, rfl, (callP_towncrierref01_SameTexts ((v2.1.Logs.getD n1 default).take ((a0.Logs[n1]).length : Int).toNat) (a0.Logs[n1]) v4 (ite_lc hv4 hg))⟩) ?_
          refine .rdx 2 (And.intro e2 (And.intro e3 (And.intro eg10 (And.intro hgf1 (And.intro hgf1t hwn1))))) ?_
          refine .nil ⟨fun _ => schedB_of (by kernel_rfl), ?_⟩
          refine ⟨(), ?_, trivial⟩
          exact .mx (And.intro hgf1 hgf1t) [2, 3, 4, 5, 9, 10, 12, 105] [0, 1, 2] []
       refine .cond rfl rfl (fun hc6 => ?_) (fun hc6 => ?_)
       ·skip
        replace hx1 := ite_lc hx1 hc6
        refine .seq ?_
        refine .plx Try.S hwn1 [] ?_
        have hq := Option.some.inj hx1
        subst x1
        try dsimp only at h
        have hq := Option.some.inj h
        subst r
        exact .ret ⟨.inr rfl, rsi⟩
       ·skip
        replace hx1 := ite_rc hx1 hc6
        refine .skip ?_
        refine .plx Try.S hwn1 [2, 3, 4, 5, 9, 10, 12] ?_
        refine ⟨n1 + 1, ?_, ⟨by omega, hx1⟩, by dsimp only; omega⟩
        exact .m [2, 3, 4, 5, 9, 10, 12] [0, 1, 2] []
     ·skip
      have h2 : n1 = a0.Logs.length := by have h2b := of_decide_eq_false hc4; omega
      rw [List.drop_of_length_le (by omega), m_towncrierlaw11_StableGoes_loop1] at hx1
      refine .exit ?_
      refine ⟨_, ?_, (Option.some.inj hx1).symm⟩
      exact .m [2, 3, 4, 5, 9, 10] [0, 1, 2] []
    ·skip
     rintro ⟨⟩ hj2
     subst x1
     try dsimp only at h
     simp only [Try.St_towncrierlaw11_StableGoes_1]
     refine .seq ?_
     obtain ⟨v5, hv5, h⟩ := bind_some h
     refine .rg Try.S [2, 3, 4, 5, 9, 10] ?_
     refine .rn 3 ?_
     refine .call (r := .tuple [.agg [.int .i64 v5.1.Promised, .int .i64 v5.1.Ballot, .str v5.1.Value], .int .i64 v5.2]) rfl rfl rfl rfl rfl rfl (callP_stable_At a0 a2 a3 v5 hv5) ?_
     refine .rn 6 ?_
     refine .nil ⟨nofun, ?_⟩
     refine .seq ?_
     obtain ⟨v6, hv6, h⟩ := bind_some h
     refine .rg Try.S [2, 3, 5, 9, 10, 15, 16] ?_
     refine .rn 3 ?_
     refine .call (r := .tuple [.agg [.int .i64 v6.1.Promised, .int .i64 v6.1.Ballot, .str v6.1.Value], .int .i64 v6.2]) rfl rfl rfl rfl rfl rfl (callP_stable_At v2.1 a2 a3 v6 hv6) ?_
     refine .rn 6 ?_
     refine .nil ⟨nofun, ?_⟩
     refine .seq ?_
     refine .seq ?_
     refine .pl Try.S [2, 3, 5, 9, 15, 16, 17, 18] ?_
     refine .cond rfl rfl (fun hc7 => ?_) (fun hc7 => ?_)
     ·skip
      replace h := ite_lc h hc7
      refine .seq ?_
      refine .pl Try.S [9, 16, 18] ?_
      have hq := Option.some.inj h
      subst r
      exact .ret ⟨.inr rfl, rsi⟩
     ·skip
      replace h := ite_rc h hc7
      refine .skip ?_
      refine .seq ?_
      refine .seq ?_
      refine .rg Try.S [2, 3, 5, 9, 15, 17] ?_
      refine .rn 6 ?_
      refine .rn 4 ?_
      refine .nil ⟨nofun, ?_⟩
      refine .cond rfl rfl (fun hc8 => ?_) (fun hc8 => ?_)
      ·skip
       replace h := ite_lc h hc8
       refine .seq ?_
       refine .pl Try.S [9, 15, 17] ?_
       have hq := Option.some.inj h
       subst r
       exact .ret ⟨.inr rfl, rsi⟩
      ·skip
       replace h := ite_rc h hc8
       refine .skip ?_
       refine .seq ?_
       refine .rg Try.S [5, 9, 15, 17] ?_
       refine .rn 6 ?_
       refine .rn 6 ?_
       refine .rn 6 ?_
       refine .rn 6 ?_
       refine .rn 6 ?_
       refine .rn 3 ?_
       refine .nil ⟨nofun, ?_⟩
       have hq := Option.some.inj h
       subst r
       exact .ret ⟨.inr rfl, rsi⟩
end Go.Proofs
end
section
namespace Go.Proofs
open Go.Tm
set_option linter.unusedSimpArgs false
def voteAt (l : List TSeen) (g k : Int) : TVote := ((l.find? fun y => decide (y.Group = g ∧ y.Slot = k)).map TSeen.Vote).getD zV
def withV (l : List TSeen) (x : TSeen) : List TSeen := bef x l ++ ((if x.Vote = zV then [] else [x]) ++ aft x l)
def logAt (s : TStable) (g : Int) : Txts := s.Logs.getD g.toNat default
def newV (s : TStable) (r : TRecord) : TVote × Int :=
 if r.Kind = 1 then (if askE (voteAt s.Votes r.Group r.Slot) r.Ballot [] = 0 then ⟨r.Ballot, (voteAt s.Votes r.Group r.Slot).Ballot, (voteAt s.Votes r.Group r.Slot).Value⟩ else zV, askE (voteAt s.Votes r.Group r.Slot) r.Ballot [])
 else if r.Kind = 2 then (if askE (voteAt s.Votes r.Group r.Slot) r.Ballot r.Value = 0 then ⟨r.Ballot, r.Ballot, r.Value⟩ else zV, askE (voteAt s.Votes r.Group r.Slot) r.Ballot r.Value)
 else (zV, 0)
def putE (s : TStable) (r : TRecord) : Int := if r.Group ≥ (s.Logs.length : Int) then 6 else if r.Slot ≤ ((logAt s r.Group).length : Int) ∨ (r.Kind = 3 ∧ r.Slot ≠ ((logAt s r.Group).length : Int) + 1) then 8 else (newV s r).2
def putS (s : TStable) (r : TRecord) : TStable := ⟨if r.Kind = 3 then s.Logs.set r.Group.toNat (logAt s r.Group ++ [r.Value]) else s.Logs, withV s.Votes ⟨r.Group, r.Slot, (newV s r).1⟩⟩
theorem find_bef (l : List TSeen) (x : TSeen) : (bef x l).find? (fun y => decide (y.Group = x.Group ∧ y.Slot = x.Slot)) = none := by
 rw [List.find?_eq_none]
 intro y hy
 have := (bef_lt hy).2
 simp only [decide_eq_true_eq]
 unfold ltP at this
 omega
theorem find_aft (l : List TSeen) (x : TSeen) : (aft x l).find? (fun y => decide (y.Group = x.Group ∧ y.Slot = x.Slot)) = none := by
 rw [List.find?_eq_none]
 intro y hy
 have := (aft_lt hy).2
 simp only [decide_eq_true_eq]
 unfold ltP at this
 omega
theorem voteAt_no {l : List TSeen} {x : TSeen} (e : l = bef x l ++ aft x l) : voteAt l x.Group x.Slot = zV := by
 unfold voteAt
 rw [e, List.find?_append, find_bef, find_aft]
 rfl
theorem voteAt_yes {l : List TSeen} {x y : TSeen} (hy : sameP y x) (e : l = bef x l ++ y :: aft x l) : voteAt l x.Group x.Slot = y.Vote := by
 unfold voteAt
 rw [e, List.find?_append, find_bef, List.find?_cons_of_pos (by simpa [sameP] using hy)]
 rfl
theorem voteAt_with (l : List TSeen) (x : TSeen) : voteAt (withV l x) x.Group x.Slot = x.Vote := by
 unfold voteAt withV
 rw [List.find?_append, find_bef]
 by_cases h : x.Vote = zV
 ·rw [if_pos h, List.nil_append, find_aft, h]; rfl
 ·rw [if_neg h, List.singleton_append, List.find?_cons_of_pos (by simp)]; rfl
theorem voteAt_else {l : List TSeen} (hu : Up l) (x : TSeen) (g k : Int) (h : ¬ (g = x.Group ∧ k = x.Slot)) : voteAt (withV l x) g k = voteAt l g k := by
 have hn : ∀ y : TSeen, sameP y x → ¬ (decide (y.Group = g ∧ y.Slot = k)) = true := by
  intro y hy
  simp only [decide_eq_true_eq]
  unfold sameP at hy
  omega
 unfold voteAt withV
 congr 2
 have e1 : (bef x l ++ ((if x.Vote = zV then [] else [x]) ++ aft x l)).find? (fun y => decide (y.Group = g ∧ y.Slot = k)) = (bef x l ++ aft x l).find? (fun y => decide (y.Group = g ∧ y.Slot = k)) := by
  rw [List.find?_append, List.find?_append, List.find?_append]
  congr 1
  split
  ·rfl
  ·rw [List.find?_cons_of_neg (p := fun y : TSeen => decide (y.Group = g ∧ y.Slot = k)) (hn x ⟨rfl, rfl⟩)]; rfl
 rw [e1]
 rcases split_at x l hu with e | ⟨y, hy, e⟩
 ·rw [← e]
 ·conv => rhs; rw [e]
  rw [List.find?_append, List.find?_append, List.find?_cons_of_neg (p := fun y : TSeen => decide (y.Group = g ∧ y.Slot = k)) (hn y hy)]
theorem getD_at {l A B : List TSeen} {y : TSeen} (e : l = A ++ y :: B) : l.getD A.length default = y := by
 rw [e, List.getD_eq_getElem?_getD, List.getElem?_append_right (Nat.le_refl _), Nat.sub_self]; rfl
theorem wr_i {n : Int} (h1 : -9223372036854775808 ≤ n) (h2 : n ≤ 9223372036854775807) : wr .i64 n = n := wr_eq _ _ (by show (-9223372036854775808 : Int) ≤ _; omega) (by show _ ≤ (9223372036854775807 : Int); omega)
theorem SOk.log {s : TStable} (h : SOk s) {g : Int} (h1 : 0 ≤ g) (h2 : g < (s.Logs.length : Int)) : LogOk (logAt s g) := by
 unfold logAt
 rw [List.getD_eq_getElem?_getD, List.getElem?_eq_getElem (by omega)]
 exact h.l _ (List.getElem_mem _)
theorem put_eq (s : TStable) (r : TRecord) (hs : SOk s) (hr : RecOk r) (hl : s.Votes.length < 900000) : m_stable_put s r = some (putE s r, if putE s r = 0 then putS s r else s) := by
 obtain ⟨hg, hsl, hvl, hk⟩ := hr
 rw [m_stable_put]
 by_cases h1 : r.Group ≥ (s.Logs.length : Int)
 ·have e : putE s r = 6 := by unfold putE; rw [if_pos h1]
  rw [if_pos h1, e]; rfl
 have hlog := hs.log hg.1 (by omega)
 have hll := hlog.1
 have ew : wr .i64 (((s.Logs.getD r.Group.toNat default).length : Int) + 1) = ((logAt s r.Group).length : Int) + 1 := by
  rw [wr_i (by omega) (by unfold logAt at hll; omega)]; rfl
 rw [if_neg h1, if_pos ⟨hg.1, by omega⟩, ew]
 by_cases h2 : r.Slot ≤ ((logAt s r.Group).length : Int) ∨ (r.Kind = 3 ∧ r.Slot ≠ ((logAt s r.Group).length : Int) + 1)
 ·have e : putE s r = 8 := by unfold putE; rw [if_neg h1, if_pos h2]
  rw [e]; exact if_pos h2
 have eE : putE s r = (newV s r).2 := by unfold putE; rw [if_neg h1, if_neg h2]
 refine (if_neg h2).trans ?_
 rw [eE]
 have hx : ∀ v : TVote, bef ⟨r.Group, r.Slot, v⟩ s.Votes = bef ⟨r.Group, r.Slot, zV⟩ s.Votes ∧ aft ⟨r.Group, r.Slot, v⟩ s.Votes = aft ⟨r.Group, r.Slot, zV⟩ s.Votes := fun _ => ⟨rfl, rfl⟩
 -- what the search tells, and what stands there
 obtain ⟨b, V, hfind, hvote, hrest⟩ : ∃ (b : Bool) (R : List TSeen), m_slices_BinarySearchFunc_Seen_Seen_Seen s.Votes (⟨r.Group, r.Slot, ⟨0, 0, []⟩⟩ : TSeen) m_stable_place = some (((bef ⟨r.Group, r.Slot, zV⟩ s.Votes).length : Int), b) ∧
   (if b = true then (if (0 ≤ ((bef ⟨r.Group, r.Slot, zV⟩ s.Votes).length : Int) ∧ ((bef ⟨r.Group, r.Slot, zV⟩ s.Votes).length : Int) < (s.Votes.length : Int)) then some ((s.Votes.getD (((bef ⟨r.Group, r.Slot, zV⟩ s.Votes).length : Int)).toNat default).Group, (s.Votes.getD (((bef ⟨r.Group, r.Slot, zV⟩ s.Votes).length : Int)).toNat default).Slot, (s.Votes.getD (((bef ⟨r.Group, r.Slot, zV⟩ s.Votes).length : Int)).toNat default).Vote.Promised, (s.Votes.getD (((bef ⟨r.Group, r.Slot, zV⟩ s.Votes).length : Int)).toNat default).Vote.Ballot, (s.Votes.getD (((bef ⟨r.Group, r.Slot, zV⟩ s.Votes).length : Int)).toNat default).Vote.Value) else none) else some (r.Group, r.Slot, 0, 0, [])) = some (r.Group, r.Slot, (voteAt s.Votes r.Group r.Slot).Promised, (voteAt s.Votes r.Group r.Slot).Ballot, (voteAt s.Votes r.Group r.Slot).Value) ∧
   s.Votes = bef ⟨r.Group, r.Slot, zV⟩ s.Votes ++ R ∧ (if b = true then ∃ y, R = y :: aft ⟨r.Group, r.Slot, zV⟩ s.Votes else R = aft ⟨r.Group, r.Slot, zV⟩ s.Votes) := by
  rcases find_eq s.Votes ⟨r.Group, r.Slot, zV⟩ (by omega) hs.p with ⟨e, hf⟩ | ⟨y, hy, e, hf⟩
  ·refine ⟨false, _, hf, ?_, e, ?_⟩
   ·have := voteAt_no e
    simp only at this
    rw [this]; rfl
   ·rfl
  ·refine ⟨true, _, hf, ?_, e, ⟨y, rfl⟩⟩
   have := voteAt_yes hy e
   simp only at this
   rw [this, if_pos rfl, Int.toNat_natCast, getD_at e]
   have hlen : (bef ⟨r.Group, r.Slot, zV⟩ s.Votes).length < s.Votes.length := by
    have := congrArg List.length e
    simp only [List.length_append, List.length_cons] at this
    omega
   rw [if_pos ⟨by omega, by omega⟩]
   obtain ⟨y1, y2⟩ := hy
   simp only at y1 y2
   rw [y1, y2]
 rw [hfind]
 simp only [Option.bind_some]
 obtain ⟨hsp, hV⟩ := hrest
 have hlen : (bef ⟨r.Group, r.Slot, zV⟩ s.Votes).length ≤ s.Votes.length := bef_len _ _
 -- the three kinds
 have upd : ∀ (v : TVote), v ≠ zV → (Option.bind (α := (List TSeen)) (if ¬ (b = true) then
   if 0 ≤ ((bef ⟨r.Group, r.Slot, zV⟩ s.Votes).length : Int) ∧ ((bef ⟨r.Group, r.Slot, zV⟩ s.Votes).length : Int) ≤ (s.Votes.length : Int) then
   if s.Votes.length < 1000000 then
   some ((s.Votes.take ((bef ⟨r.Group, r.Slot, zV⟩ s.Votes).length : Int).toNat) ++ ((⟨r.Group, r.Slot, (⟨v.Promised, v.Ballot, v.Value⟩ : TVote)⟩ : TSeen) :: (s.Votes.drop ((bef ⟨r.Group, r.Slot, zV⟩ s.Votes).length : Int).toNat)))
   else none else none else some s.Votes) fun l2 =>
   if (0 ≤ ((bef ⟨r.Group, r.Slot, zV⟩ s.Votes).length : Int) ∧ ((bef ⟨r.Group, r.Slot, zV⟩ s.Votes).length : Int) < (l2.length : Int)) then
   some (0, (⟨s.Logs, (l2.set ((bef ⟨r.Group, r.Slot, zV⟩ s.Votes).length : Int).toNat (⟨r.Group, r.Slot, (⟨v.Promised, v.Ballot, v.Value⟩ : TVote)⟩ : TSeen))⟩ : TStable))
   else none) = some ((0 : Int), (⟨s.Logs, withV s.Votes ⟨r.Group, r.Slot, v⟩⟩ : TStable)) := by
  intro v hv
  have hw : withV s.Votes ⟨r.Group, r.Slot, v⟩ = bef ⟨r.Group, r.Slot, zV⟩ s.Votes ++ ⟨r.Group, r.Slot, v⟩ :: aft ⟨r.Group, r.Slot, zV⟩ s.Votes := by
   unfold withV
   rw [if_neg hv]; rfl
  rw [Int.toNat_natCast]
  cases b with
  | false =>
   simp only [Bool.false_eq_true, if_false] at hV
   subst hV
   rw [if_pos (by simp), if_pos ⟨by omega, by omega⟩, if_pos (by omega)]
   have ht : s.Votes.take (bef ⟨r.Group, r.Slot, zV⟩ s.Votes).length = bef ⟨r.Group, r.Slot, zV⟩ s.Votes := by
    have : ∀ l A B : List TSeen, l = A ++ B → l.take A.length = A := by rintro _ A B rfl; exact List.take_left
    exact this _ _ _ hsp
   have hd : s.Votes.drop (bef ⟨r.Group, r.Slot, zV⟩ s.Votes).length = aft ⟨r.Group, r.Slot, zV⟩ s.Votes := by
    have : ∀ l A B : List TSeen, l = A ++ B → l.drop A.length = B := by rintro _ A B rfl; exact List.drop_left
    exact this _ _ _ hsp
   rw [ht, hd, Option.bind_some, if_pos ⟨by omega, by simp; omega⟩, hw]
   simp
  | true =>
   simp only [if_true] at hV
   obtain ⟨y, rfl⟩ := hV
   rw [if_neg (by simp), Option.bind_some]
   have hlt : (bef ⟨r.Group, r.Slot, zV⟩ s.Votes).length < s.Votes.length := by
    have := congrArg List.length hsp
    simp only [List.length_append, List.length_cons] at this
    omega
   rw [if_pos ⟨by omega, by omega⟩, hw]
   have : ∀ (l A B : List TSeen) (z w : TSeen), l = A ++ z :: B → l.set A.length w = A ++ w :: B := by rintro _ A B z w rfl; simp
   rw [this _ _ _ _ _ hsp]
 have hvv : (⟨(voteAt s.Votes r.Group r.Slot).Promised, (voteAt s.Votes r.Group r.Slot).Ballot, (voteAt s.Votes r.Group r.Slot).Value⟩ : TVote) = voteAt s.Votes r.Group r.Slot := rfl
 refine (congrArg (fun o => Option.bind o _) hvote).trans ?_
 rw [Option.bind_some]
 simp only
 rw [hvv, prepare_eq, accept_eq]
 simp only [Option.bind_some]
 rcases hk with ⟨k, kb, kv⟩ | ⟨k, kb⟩ | ⟨k, kb⟩
 ·have hn : newV s r = (if askE (voteAt s.Votes r.Group r.Slot) r.Ballot [] = 0 then ⟨r.Ballot, (voteAt s.Votes r.Group r.Slot).Ballot, (voteAt s.Votes r.Group r.Slot).Value⟩ else zV, askE (voteAt s.Votes r.Group r.Slot) r.Ballot []) := by unfold newV; rw [if_pos k]
  rw [if_pos k]
  simp only [Option.bind_some]
  by_cases ha : askE (voteAt s.Votes r.Group r.Slot) r.Ballot [] = 0
  ·rw [if_pos ha, if_neg (by simpa using ha)]
   refine (upd ⟨r.Ballot, (voteAt s.Votes r.Group r.Slot).Ballot, (voteAt s.Votes r.Group r.Slot).Value⟩ (fun e => kb.ne (congrArg TVote.Promised e))).trans ?_
   rw [hn]
   simp only
   unfold putS
   rw [hn, if_neg (by omega : ¬ r.Kind = 3)]
   simp only
   rw [if_pos ha, if_pos ha, ha]
  ·rw [if_neg ha, if_pos (by simpa using ha), hn]
   simp only
   rw [if_neg ha]
 ·have hn : newV s r = (if askE (voteAt s.Votes r.Group r.Slot) r.Ballot r.Value = 0 then ⟨r.Ballot, r.Ballot, r.Value⟩ else zV, askE (voteAt s.Votes r.Group r.Slot) r.Ballot r.Value) := by unfold newV; rw [if_neg (by omega), if_pos k]
  rw [if_neg (by omega), if_pos k]
  simp only [Option.bind_some]
  by_cases ha : askE (voteAt s.Votes r.Group r.Slot) r.Ballot r.Value = 0
  ·rw [if_pos ha, if_neg (by simpa using ha)]
   refine (upd ⟨r.Ballot, r.Ballot, r.Value⟩ (fun e => kb.ne (congrArg TVote.Promised e))).trans ?_
   rw [hn]
   simp only
   unfold putS
   rw [hn, if_neg (by omega : ¬ r.Kind = 3)]
   simp only
   rw [if_pos ha, if_pos ha, ha]
  ·rw [if_neg ha, if_pos (by simpa using ha), hn]
   simp only
   rw [if_neg ha]
 ·have hn : newV s r = (zV, 0) := by unfold newV; rw [if_neg (by omega), if_neg (by omega)]
  have hw : withV s.Votes ⟨r.Group, r.Slot, zV⟩ = bef ⟨r.Group, r.Slot, zV⟩ s.Votes ++ aft ⟨r.Group, r.Slot, zV⟩ s.Votes := by
   unfold withV
   rw [if_pos rfl]; rfl
  rw [if_neg (by omega), if_neg (by omega), Int.toNat_natCast]
  have hp : putS s r = ⟨s.Logs.set r.Group.toNat (logAt s r.Group ++ [r.Value]), withV s.Votes ⟨r.Group, r.Slot, zV⟩⟩ := by
   unfold putS
   rw [hn, if_pos k]
  have hE : (if b = true then if 0 ≤ ((bef ⟨r.Group, r.Slot, zV⟩ s.Votes).length : Int) ∧ ((bef ⟨r.Group, r.Slot, zV⟩ s.Votes).length : Int) < (s.Votes.length : Int) then
    if s.Votes.length < 1000000 then some (s.Votes.eraseIdx (bef ⟨r.Group, r.Slot, zV⟩ s.Votes).length) else none else none else some s.Votes) = some (withV s.Votes ⟨r.Group, r.Slot, zV⟩) := by
   cases b with
   | false =>
    simp only [Bool.false_eq_true, if_false] at hV ⊢
    subst hV
    rw [hw, ← hsp]
   | true =>
    simp only [if_true] at hV ⊢
    obtain ⟨y, rfl⟩ := hV
    have hlt : (bef ⟨r.Group, r.Slot, zV⟩ s.Votes).length < s.Votes.length := by
     have := congrArg List.length hsp
     simp only [List.length_append, List.length_cons] at this
     omega
    rw [if_pos ⟨by omega, by omega⟩, if_pos (by omega), hw]
    have : ∀ (l A B : List TSeen) (z : TSeen), l = A ++ z :: B → l.eraseIdx A.length = A ++ B := by
     rintro _ A B z rfl
     rw [List.eraseIdx_append_of_length_le (Nat.le_refl _), Nat.sub_self]; rfl
    rw [this _ _ _ _ hsp]
  rw [hE, hn, hp]
  rfl
end Go.Proofs
end
section
namespace Go.Proofs
open Go.Tm
set_option linter.unusedSimpArgs false
theorem BOk.pos {b : Int} (h : BOk b) (h1 : -9223372036854775808 ≤ b) (h2 : b ≤ 9223372036854775807) : 8 ≤ b := by
 have h3 := h.1
 by_cases h0 : 0 ≤ b
 ·rw [Int.tdiv_eq_ediv_of_nonneg h0, wr_i (by omega) (by omega)] at h3
  omega
 ·have e : b.tdiv 8 = -((-b) / 8) := by
   rw [← Int.tdiv_eq_ediv_of_nonneg (by omega : 0 ≤ -b), Int.neg_tdiv, Int.neg_neg]
  rw [e, wr_i (by omega) (by omega)] at h3
  omega
theorem Up.app {A B : List TSeen} (h : Up A) (k : Up B) (hab : ∀ a ∈ A, ∀ b ∈ B, ltP a b) : Up (A ++ B) := List.pairwise_append.2 ⟨h, k, hab⟩
theorem Up.bef {l : List TSeen} (h : Up l) (x : TSeen) : Up (bef x l) := List.Pairwise.filter _ h
theorem Up.aft {l : List TSeen} (h : Up l) (x : TSeen) : Up (aft x l) := List.Pairwise.filter _ h
theorem mem_with {l : List TSeen} {x y : TSeen} (h : y ∈ withV l x) : (y = x ∧ x.Vote ≠ zV) ∨ (y ∈ l ∧ ¬ sameP y x) := by
 unfold withV at h
 rw [List.mem_append, List.mem_append] at h
 rcases h with h | h | h
 ·have := bef_lt h; exact .inr ⟨this.1, ltP_ns this.2⟩
 ·split at h
  ·cases h
  ·rename_i hz
   rw [List.mem_singleton] at h
   exact .inl ⟨h, hz⟩
 ·have := aft_lt h; exact .inr ⟨this.1, ltP_ns' this.2⟩
theorem Up.with {l : List TSeen} (h : Up l) (x : TSeen) : Up (withV l x) := by
 unfold withV
 refine (h.bef x).app (Up.app ?_ (h.aft x) ?_) ?_
 ·split
  ·exact List.Pairwise.nil
  ·exact List.pairwise_singleton _ _
 ·intro a ha b hb
  split at ha
  ·cases ha
  ·rw [List.mem_singleton] at ha; subst ha; exact (aft_lt hb).2
 ·intro a ha b hb
  rcases List.mem_append.1 hb with hb | hb
  ·split at hb
   ·cases hb
   ·rw [List.mem_singleton] at hb; subst hb; exact (bef_lt ha).2
  ·exact ltP_trans (bef_lt ha).2 (aft_lt hb).2
theorem len_with (l : List TSeen) (x : TSeen) : (withV l x).length ≤ 2 * l.length + 1 := by
 unfold withV
 have h1 := bef_len x l
 have h2 : (aft x l).length ≤ l.length := List.length_filter_le ..
 simp only [List.length_append]
 split <;> simp <;> omega
theorem VOk.at {s : TStable} (h : SOk s) (g k : Int) : VOk (voteAt s.Votes g k) := by
 unfold voteAt
 cases hf : s.Votes.find? fun y => decide (y.Group = g ∧ y.Slot = k) with
 | none => exact ⟨.inl rfl, by rfl⟩
 | some y => exact (h.v y (List.mem_of_find?_eq_some hf)).2.2.2.2
theorem newV_ok {s : TStable} (_ : SOk s) {r : TRecord} (hr : RecOk r) (h : (newV s r).2 = 0) (hz : (newV s r).1 ≠ zV) : (newV s r).1.Promised ≠ 0 ∧ VOk (newV s r).1 := by
 unfold newV at h hz ⊢
 obtain ⟨_, _, _, h3⟩ := hr
 rcases h3 with ⟨k, b, _⟩ | ⟨k, b⟩ | ⟨k, _⟩
 ·rw [if_pos k] at h ⊢
  simp only at h ⊢
  rw [if_pos h]
  exact ⟨b.ne, VOk.prep (askE_0.1 h)⟩
 ·rw [if_neg (by omega), if_pos k] at h ⊢
  simp only at h ⊢
  rw [if_pos h]
  exact ⟨b.ne, VOk.acc (askE_0.1 h)⟩
 ·rw [if_neg (by omega), if_neg (by omega)] at hz
  exact absurd rfl hz
theorem putE_0 {s : TStable} {r : TRecord} (h : putE s r = 0) : r.Group < (s.Logs.length : Int) ∧ ((logAt s r.Group).length : Int) < r.Slot ∧ (r.Kind = 3 → r.Slot = ((logAt s r.Group).length : Int) + 1) ∧ (newV s r).2 = 0 := by
 unfold putE at h
 split at h
 ·cases h
 ·split at h
  ·cases h
  ·exact ⟨by omega, by omega, fun k => by omega, h⟩
theorem logs_put (s : TStable) (r : TRecord) : (putS s r).Logs.length = s.Logs.length := by
 unfold putS
 simp only
 split
 ·rw [List.length_set]
 ·rfl
theorem getD_set (L : List Txts) (k j : Nat) (x : Txts) (h : k < L.length) : (L.set k x).getD j default = if k = j then x else L.getD j default := by
 rw [List.getD_eq_getElem?_getD, List.getElem?_set]
 split
 ·rename_i e; subst e; simp [h]
 ·rw [List.getD_eq_getElem?_getD]
theorem SOk.put {s : TStable} {r : TRecord} (hs : SOk s) (hr : RecOk r) (h0 : putE s r = 0) : SOk (putS s r) := by
 obtain ⟨h1, h2, h3, h4⟩ := putE_0 h0
 have hl := logs_put s r
 have hg := hr.1
 have hlog := hs.log hg.1 h1
 have hlk : ∀ g : Int, 0 ≤ g → g < (s.Logs.length : Int) → (((putS s r).Logs.getD g.toNat default).length : Int) = ((s.Logs.getD g.toNat default).length : Int) + (if r.Kind = 3 ∧ g = r.Group then 1 else 0) := by
  intro g a b
  unfold putS
  simp only
  by_cases k : r.Kind = 3
  ·rw [if_pos k, getD_set _ _ _ _ (by omega)]
   by_cases e : g = r.Group
   ·rw [if_pos (by rw [e]), if_pos ⟨k, e⟩, e, List.length_append]
    unfold logAt
    simp
   ·rw [if_neg (by omega), if_neg (fun h => e h.2)]; omega
  ·rw [if_neg k, if_neg (fun h => k h.1)]; omega
 refine ⟨by rw [hl]; exact hs.n, ?_, ?_, hs.p.with _⟩
 ·intro l hlm
  unfold putS at hlm
  simp only at hlm
  split at hlm
  ·rename_i k
   rcases List.mem_or_eq_of_mem_set hlm with h | h
   ·exact hs.l l h
   ·subst h
    refine ⟨?_, fun v hv => ?_⟩
    ·have := h3 k
     have := hr.2.1.2
     rw [List.length_append, List.length_singleton]
     omega
    ·rcases List.mem_append.1 hv with h | h
     ·exact hlog.2 v h
     ·rw [List.mem_singleton] at h; subst h; exact hr.2.2.1
  ·exact hs.l l hlm
 ·intro v hv
  rcases mem_with (show v ∈ withV s.Votes _ from hv) with ⟨rfl, hz⟩ | ⟨hm, hns⟩
  ·have hk : r.Kind ≠ 3 := by
    intro k
    refine hz ?_
    show (newV s r).1 = zV
    unfold newV
    rw [if_neg (by omega), if_neg (by omega)]
   obtain ⟨n1, n2⟩ := newV_ok hs hr h4 hz
   refine ⟨⟨hg.1, by rw [hl]; exact h1⟩, ?_, hr.2.1.2, n1, n2⟩
   rw [hlk _ hg.1 h1, if_neg (fun h => hk h.1)]
   have : ((s.Logs.getD r.Group.toNat default).length : Int) < r.Slot := h2
   simp only
   omega
  ·obtain ⟨v1, v2, v3, v4, v5⟩ := hs.v v hm
   refine ⟨⟨v1.1, by rw [hl]; exact v1.2⟩, ?_, v3, v4, v5⟩
   rw [hlk _ v1.1 v1.2]
   split
   ·rename_i k
    have e3 := h3 k.1
    have e4 : ((s.Logs.getD v.Group.toNat default).length : Int) = ((logAt s r.Group).length : Int) := by rw [k.2]; rfl
    have : ¬ (v.Group = r.Group ∧ v.Slot = r.Slot) := hns
    omega
   ·omega
def eStb : TStable := ⟨[], []⟩
theorem apply_eq (s : TStable) (r : TRecord) (hl : s.Votes.length < 900000) : m_stable_Apply s r = some (if SOk s then if RecOk r then if putE s r = 0 then (putS s r, 0) else (eStb, putE s r) else (eStb, 8) else (eStb, 8)) := by
 rw [m_stable_Apply, check_eq]
 simp only [Option.bind_some]
 by_cases hs : SOk s
 ·rw [if_pos hs, if_pos hs, if_neg (by simp), rcheck_eq]
  simp only [Option.bind_some]
  by_cases hr : RecOk r
  ·rw [if_pos hr, if_pos hr, if_neg (by simp), twin_eq s hs hl]
   simp only [Option.bind_some]
   rw [put_eq s r hs hr hl]
   simp only [Option.bind_some]
   by_cases h0 : putE s r = 0
   ·rw [if_pos h0, if_pos h0, if_neg (by simpa using h0)]
   ·rw [if_neg h0, if_neg h0, if_pos (by simpa using h0)]; rfl
  ·rw [if_neg hr, if_neg hr, if_pos (by decide)]; rfl
 ·rw [if_neg hs, if_neg hs, if_pos (by decide)]; rfl
theorem at_eq (s : TStable) (g k : Int) (hl : s.Votes.length < 900000) : m_stable_At s g k = some (if SOk s then if 0 ≤ g ∧ g < (s.Logs.length : Int) then if 1 ≤ k ∧ k ≤ 200 then (voteAt s.Votes g k, 0) else (zV, 2) else (zV, 6) else (zV, 8)) := by
 rw [m_stable_At, check_eq]
 simp only [Option.bind_some]
 by_cases hs : SOk s
 ·rw [if_pos hs, if_pos hs, if_neg (by simp)]
  by_cases h1 : 0 ≤ g ∧ g < (s.Logs.length : Int)
  ·rw [if_neg (by omega), if_pos h1]
   by_cases h2 : 1 ≤ k ∧ k ≤ 200
   ·rw [if_neg (by omega), if_pos h2]
    rcases find_eq s.Votes ⟨g, k, ⟨0, 0, []⟩⟩ (by omega) hs.p with ⟨e, hf⟩ | ⟨y, hy, e, hf⟩
    ·have := voteAt_no e
     simp only at this
     rw [hf, this]
     rfl
    ·have := voteAt_yes hy e
     simp only at this
     rw [hf, this]
     simp only [Option.bind_some, if_true]
     have hlen : (bef ⟨g, k, ⟨0, 0, []⟩⟩ s.Votes).length < s.Votes.length := by
      have := congrArg List.length e
      simp only [List.length_append, List.length_cons] at this
      omega
     rw [if_pos ⟨by omega, by omega⟩, Int.toNat_natCast, getD_at e]
   ·rw [if_pos (by omega), if_neg h2]; rfl
  ·rw [if_pos (by omega), if_neg h1]; rfl
 ·rw [if_neg hs, if_neg hs, if_pos (by decide)]; rfl
theorem gt_loop (l : List Txts) : ∀ n, ∃ r, m_towncrierref11_Great_loop1 l n = some r ∧ ∀ b, r = .inl b → b = true := by
 induction l with
 | nil => intro n; exact ⟨_, rfl, fun b h => by cases h⟩
 | cons y l ih =>
  intro n
  have hg : ∃ b, m_towncrierref01_Great y = some b := by
   have : ∀ (l : Txts) (a : Nat) (b : Int), ∃ c, m_towncrierref01_Great_loop1 l a b = some c := by
    intro l
    induction l with
    | nil => intro a b; exact ⟨_, m_towncrierref01_Great_loop1_n a b⟩
    | cons z l ih =>
     intro a b
     rw [m_towncrierref01_Great_loop1_c]
     split
     ·exact ih _ _
     ·exact ⟨_, rfl⟩
   obtain ⟨c, hc⟩ := this y 0 0
   rw [m_towncrierref01_Great, hc]
   exact ⟨_, rfl⟩
  obtain ⟨b, hb⟩ := hg
  rw [m_towncrierref11_Great_loop1]
  split
  ·rw [hb]
   simp only [Option.bind_some]
   split
   ·exact ⟨_, rfl, fun b h => by cases h; rfl⟩
   ·exact ih _
  ·exact ⟨_, rfl, fun b h => by cases h⟩
theorem great_eq (s : TStable) : ∃ b, m_towncrierref11_Great s = some b ∧ (b = false → s.Votes.length ≤ 1000 ∧ s.Logs.length ≤ 10) := by
 rw [m_towncrierref11_Great]
 obtain ⟨r, hr, hb⟩ := gt_loop s.Logs 0
 rw [hr]
 cases r with
 | inl b => exact ⟨b, rfl, fun h => by rw [hb b rfl] at h; cases h⟩
 | inr u =>
  simp only [Option.bind_some]
  have : ∀ (l : List TSeen) (a : Nat) (b : Int), ∃ c, m_towncrierref11_Great_loop2 l a b = some c := by
   intro l
   induction l with
   | nil => intro a b; exact ⟨_, m_towncrierref11_Great_loop2_n a b⟩
   | cons z l ih =>
    intro a b
    rw [m_towncrierref11_Great_loop2_c]
    split
    ·exact ih _ _
    ·exact ⟨_, rfl⟩
  obtain ⟨c, hc⟩ := this s.Votes 0 0
  rw [hc]
  refine ⟨_, rfl, fun h => ?_⟩
  simp only [Bool.or_eq_false_iff, decide_eq_false_iff_not] at h
  exact ⟨by omega, by omega⟩
theorem st_loop (b : Txts) : ∀ (l : Txts) (n : Nat), b.drop n = l → n + l.length = b.length → m_towncrierref01_SameTexts_loop1 b l n = some (.inr ())
 | [], n, _, _ => by rw [m_towncrierref01_SameTexts_loop1]
 | y :: l, n, h, hl => by
  simp only [List.length_cons] at hl
  have hn : n < b.length := by omega
  have hd := h
  rw [List.drop_eq_getElem_cons hn] at hd
  obtain ⟨hy, hr⟩ := List.cons.inj hd
  have e : b.getD n default = y := by rw [List.getD_eq_getElem?_getD, List.getElem?_eq_getElem hn, hy]; rfl
  rw [m_towncrierref01_SameTexts_loop1, if_pos hn, e, if_neg (by simp), st_loop b l (n + 1) hr (by omega)]
theorem same_refl (l : Txts) : m_towncrierref01_SameTexts l l = some true := by
 rw [m_towncrierref01_SameTexts, if_neg (by simp), st_loop l l 0 rfl (by simp)]
 rfl
theorem goes_loop (s : TStable) (r : TRecord) (hs : SOk s) (hr : RecOk r) (h0 : putE s r = 0) (e : Int) : ∀ (l : List Txts) (n : Nat), s.Logs.drop n = l → m_towncrierlaw11_StableGoes_loop1 r (putS s r, e) l n = some (.inr ())
 | [], n, _ => by rw [m_towncrierlaw11_StableGoes_loop1]
 | y :: l, n, h => by
  have hn : n < s.Logs.length := by
   rcases Nat.lt_or_ge n s.Logs.length with h' | h'
   ·exact h'
   ·rw [List.drop_of_length_le h'] at h; cases h
  have hd := h
  rw [List.drop_eq_getElem_cons hn] at hd
  obtain ⟨hy, hrest⟩ := List.cons.inj hd
  have ey : s.Logs.getD n default = y := by rw [List.getD_eq_getElem?_getD, List.getElem?_eq_getElem hn, hy]; rfl
  have hly := (hs.l y (by rw [← hy]; exact List.getElem_mem hn)).1
  obtain ⟨h1, h2, h3, h4⟩ := putE_0 h0
  have hg := hr.1.1
  have ex : (putS s r).Logs.getD n default = if r.Kind = 3 ∧ (n : Int) = r.Group then y ++ [r.Value] else y := by
   unfold putS
   simp only
   by_cases k : r.Kind = 3
   ·rw [if_pos k, getD_set _ _ _ _ (by omega)]
    by_cases e : (n : Int) = r.Group
    ·rw [if_pos (by omega), if_pos ⟨k, e⟩]
     have : logAt s r.Group = y := by unfold logAt; rw [← e, Int.toNat_natCast, ey]
     rw [this]
    ·rw [if_neg (by omega), if_neg (fun h => e h.2), ey]
   ·rw [if_neg k, if_neg (fun h => k h.1), ey]
  have ih := goes_loop s r hs hr h0 e l (n + 1) hrest
  rw [m_towncrierlaw11_StableGoes_loop1]
  simp only [ex, logs_put]
  by_cases c : r.Kind = 3 ∧ (n : Int) = r.Group
  ·rw [if_pos c, if_pos c]
   simp only [Option.bind_some]
   have ew : wr .i64 ((y.length : Int) + 1) = (y.length : Int) + 1 := wr_i (by omega) (by omega)
   rw [if_pos hn, if_pos (fun _ => hn), if_pos (fun _ => ⟨by omega, by simp; omega⟩), ew, if_pos (by simp), Int.toNat_natCast, List.take_left, same_refl]
   simp only [Option.bind_some]
   rw [if_neg (by simp)]
   exact ih
  ·rw [if_neg c, if_neg c]
   simp only [Option.bind_some]
   have ew : wr .i64 ((y.length : Int) + 0) = (y.length : Int) := by rw [Int.add_zero]; exact wr_i (by omega) (by omega)
   rw [if_pos hn, if_pos (fun _ => hn), if_pos (fun _ => ⟨by omega, by omega⟩), ew, if_pos (by simp), Int.toNat_natCast, List.take_length, same_refl]
   simp only [Option.bind_some]
   rw [if_neg (by simp)]
   exact ih
theorem goes_law (a0 : TStable) (a1 : TRecord) (a2 a3 : Int) (hw : wfL [a0.d, a1.d, .int .i64 a2, .int .i64 a3]) : m_towncrierlaw11_StableGoes a0 a1 a2 a3 = some true := by
 have hwb : -9223372036854775808 ≤ a1.Ballot ∧ a1.Ballot ≤ 9223372036854775807 := by
  simp only [wfL, TRecord.d, wf] at hw
  exact hw.2.1.2.2.2.1
 obtain ⟨hb1, hb2⟩ := hwb
 obtain ⟨b, hb, hgr⟩ := great_eq a0
 rw [m_towncrierlaw11_StableGoes, hb]
 simp only [Option.bind_some]
 by_cases hc : b = true ∨ (a1.Value.length : Int) > 5000
 ·rw [if_pos hc]
 rw [if_neg hc]
 have hb0 : b = false := by cases b with
  | true => exact absurd (.inl rfl) hc
  | false => rfl
 obtain ⟨hv, _⟩ := hgr hb0
 rw [apply_eq a0 a1 (by omega)]
 simp only [Option.bind_some]
 by_cases hs : SOk a0
 ·rw [if_pos hs]
  by_cases hr : RecOk a1
  ·rw [if_pos hr]
   by_cases h0 : putE a0 a1 = 0
   ·rw [if_pos h0]
    have hs' := hs.put hr h0
    have hlv : (putS a0 a1).Votes.length < 900000 := by have := len_with a0.Votes ⟨a1.Group, a1.Slot, (newV a0 a1).1⟩; show (withV _ _).length < _; omega
    simp only
    rw [if_neg (by simp), check_eq, if_pos hs']
    simp only [Option.bind_some]
    rw [if_neg (by rw [logs_put]; simp), goes_loop a0 a1 hs hr h0 0 a0.Logs 0 rfl]
    simp only [Option.bind_some]
    rw [at_eq a0 a2 a3 (by omega), at_eq _ a2 a3 hlv, if_pos hs, if_pos hs', logs_put]
    simp only [Option.bind_some]
    by_cases k1 : 0 ≤ a2 ∧ a2 < (a0.Logs.length : Int)
    ·rw [if_pos k1, if_pos k1]
     by_cases k2 : 1 ≤ a3 ∧ a3 ≤ 200
     ·rw [if_pos k2, if_pos k2]
      simp only
      rw [if_neg (by simp)]
      show (if ¬ a1.Group = a2 ∨ ¬ a1.Slot = a3 then _ else _) = _
      have hvt : voteAt (putS a0 a1).Votes a2 a3 = if a2 = a1.Group ∧ a3 = a1.Slot then (newV a0 a1).1 else voteAt a0.Votes a2 a3 := by
       show voteAt (withV a0.Votes ⟨a1.Group, a1.Slot, (newV a0 a1).1⟩) a2 a3 = _
       by_cases e : a2 = a1.Group ∧ a3 = a1.Slot
       ·rw [if_pos e, e.1, e.2]; exact voteAt_with a0.Votes ⟨a1.Group, a1.Slot, (newV a0 a1).1⟩
       ·rw [if_neg e]; exact voteAt_else hs.p _ _ _ e
      rw [hvt]
      by_cases e : a2 = a1.Group ∧ a3 = a1.Slot
      ·obtain ⟨rfl, rfl⟩ := e
       rw [if_neg (by simp), if_pos ⟨rfl, rfl⟩]
       have h4 := (putE_0 h0).2.2.2
       have hvo := VOk.at hs a1.Group a1.Slot
       unfold newV at h4 ⊢
       obtain ⟨_, _, _, h3⟩ := hr
       rcases h3 with ⟨k, kb, _⟩ | ⟨k, kb⟩ | ⟨k, _⟩
       ·rw [if_pos k] at h4 ⊢
        simp only at h4 ⊢
        rw [if_pos h4]
        have := (askE_0.1 h4).2.2.2
        simp [k, this]
       ·rw [if_neg (by omega), if_pos k] at h4 ⊢
        simp only at h4 ⊢
        rw [if_pos h4]
        have h5 := (askE_0.1 h4).2.2.2
        have h6 : (voteAt a0.Votes a1.Group a1.Slot).Ballot ≤ a1.Ballot := by
         have := hvo.2
         by_cases z : (voteAt a0.Votes a1.Group a1.Slot).Ballot = 0
         ·have := kb.pos hb1 hb2
          omega
         ·rw [if_neg z] at this
          omega
        simp [k, h5, h6]
       ·rw [if_neg (by omega), if_neg (by omega)]
        simp [k, zV]
      ·rw [if_pos (by omega), if_neg e]
       simp
     ·rw [if_neg k2, if_neg k2]
      simp
    ·rw [if_neg k1, if_neg k1]
     simp
   ·rw [if_neg h0]
    simp only
    rw [if_pos (by simpa using h0)]
    rfl
  ·rw [if_neg hr]; rfl
 ·rw [if_neg hs]; rfl
end Go.Proofs
end
section
namespace Go.Tm
open Go.RowKit Go.WideShapes Go.ChangeShapes
def aggT (P : Program) (t : TypeId) : Bool := match P.underlying t with
 | some (.struct _) => true
 | _ => false
def mkD (P : Program) (t : TypeId) (l : List D) : D := bif aggT P t then .agg l else l.headD .undef
def fieldsIn (P : Program) (chk : TypeId → Bool) : Nat → List Field → Nat → Bool
 | off, [], tot => Nat.beq off tot
 | off, f :: fs, tot => Nat.beq f.offset off && chk f.type && fieldsIn P chk (off + P.cellsOf f.type) fs tot
def dataT (P : Program) : Nat → TypeId → Bool
 | 0, _ => false
 | n + 1, t => match P.underlying t with
  | some .bool => true
  | some (.int _) => true
  | some .string => true
  | some (.slice e) => dataT P n e && Nat.blt 0 (P.cellsOf e) && (aggT P e || Nat.beq (P.cellsOf e) 1)
  | some (.struct fs) => fieldsIn P (dataT P n) 0 fs.toList (P.cellsOf t)
  | _ => false
def typedL (p : TypeId → List D → Prop) : List TypeId → List D → Prop
 | [], l => l = []
 | t :: ts, l => ∃ l1 l2, l = l1 ++ l2 ∧ p t l1 ∧ typedL p ts l2
def typed (P : Program) : Nat → TypeId → List D → Prop
 | 0, _, _ => False
 | n + 1, t, l => match P.underlying t with
  | some .bool => ∃ b, l = [.bool b]
  | some (.int k) => ∃ m, l = [.int k m]
  | some .string => ∃ s, l = [.str s]
  | some (.slice e) => ∃ xs : List (List D), l = [.imm (P.cellsOf e) (xs.map (mkD P e)) 4] ∧ ∀ x ∈ xs, typed P n e x
  | some (.struct fs) => typedL (typed P n) (fs.toList.map (·.type)) l
  | _ => False
theorem reps_append' {C : Cx} : ∀ {l1 l2 : List D} {v1 v2 : List Value}, reps C l1 v1 → reps C l2 v2 → reps C (l1 ++ l2) (v1 ++ v2)
 | [], l2, v1, v2, h1, h2 => by simp only [reps] at h1; subst h1; simpa using h2
 | d :: ds, l2, v1, v2, h1, h2 => by
  simp only [reps] at h1
  obtain ⟨v, vs, rfl, hd, h1⟩ := h1
  simp only [List.cons_append, reps]
  exact ⟨v, vs ++ v2, rfl, hd, reps_append' h1 h2⟩
theorem elems_of {C : Cx} {b s : Nat} {p : List D → Prop} {f : List D → D} : ∀ (n o : Nat), (∀ i, i < n → ∃ l v, p l ∧ rep C (f l) v ∧ v.cells.size = s ∧ v.cells.toList.all (·.oneCell') = true ∧ C.w.rangeAt b (o + i * s) v.cells.toList) →
  ∃ xs : List (List D), xs.length = n ∧ elems C (xs.map f) b o s ∧ ∀ x ∈ xs, p x
 | 0, o, _ => ⟨[], rfl, by simp only [List.map_nil, elems], by simp⟩
 | n + 1, o, h => by
  obtain ⟨l, v, h1, h2, h3, h4, h5⟩ := h 0 (by omega)
  obtain ⟨xs, g1, g2, g3⟩ := elems_of n (o + s) (fun i hi => by
   obtain ⟨l, v, h1, h2, h3, h4, h5⟩ := h (i + 1) (by omega)
   exact ⟨l, v, h1, h2, h3, h4, by rwa [show o + (i + 1) * s = o + s + i * s by rw [Nat.add_mul]; omega] at h5⟩)
  refine ⟨l :: xs, by simp [g1], ?_, by simpa using ⟨h1, g3⟩⟩
  simp only [List.map_cons, elems]
  exact ⟨⟨v, h2, h3, h4, by simpa using h5⟩, g2⟩
theorem fieldsIn_le {P : Program} {chk : TypeId → Bool} : ∀ (fs : List Field) (off tot : Nat), fieldsIn P chk off fs tot = true → off ≤ tot
 | [], off, tot, h => Nat.le_of_eq (Nat.eq_of_beq_eq_true h)
 | f :: fs, off, tot, h => by
  simp only [fieldsIn, Bool.and_eq_true] at h
  have := fieldsIn_le fs _ _ h.2
  omega
section
variable {H : Type} {enc : TypeId × Value → H} {P : Program} {w : World} {sp : Nat → Bool}
theorem trod_reps : ∀ (n fuel : Nat) (t : TypeId) (cs : List Value) (x : DataW H × List MemPlace) (C : Cx), C.w = w → (∀ b, ¬ C.M b) → (∀ b, C.Z b) → dataT P n t = true → DataW.trod enc P w 0 sp true fuel t cs = some x →
  ∃ l, reps C l cs ∧ typed P n t l ∧ cs.all (·.oneCell') = true
 | 0, _, _, _, _, _, _, _, _, h, _ => by simp [dataT] at h
 | n + 1, fuel, t, cs, x, C, hw, hM, hlo, hd, h => by
  unfold dataT at hd
  split at hd
  ·rename_i ht
   simp only [typed, ht]
   obtain ⟨b, rfl, _⟩ := DataW.trod_bool ht h
   exact ⟨[.bool b], by simp only [reps, rep]; exact ⟨_, _, rfl, rfl, rfl⟩, ⟨b, rfl⟩, rfl⟩
  ·rename_i k ht
   simp only [typed, ht]
   obtain ⟨m, rfl, _, hwf⟩ := DataW.trod_int ht h
   simp only [Lit.wf, Bool.and_eq_true, decide_eq_true_eq] at hwf
   exact ⟨[.int k m], by simp only [reps, rep]; exact ⟨_, _, rfl, ⟨rfl, hwf⟩, rfl⟩, ⟨m, rfl⟩, rfl⟩
  ·rename_i ht
   simp only [typed, ht]
   obtain ⟨s, rfl, _, hs⟩ := DataW.trod_string ht h
   refine ⟨[.str s.data.toList], ?_, ⟨_, rfl⟩, rfl⟩
   simp only [reps, rep]
   refine ⟨_, _, rfl, ⟨by rw [Array.toArray_toList], ?_⟩, rfl⟩
   have h1 : s.data.toList.length = s.size := by rw [Array.length_toList]; rfl
   have h2 : s.size ≤ 9223372036854775807 := hs
   rw [h1]; omega
  ·rename_i e ht
   simp only [typed, ht]
   simp only [Bool.and_eq_true, Bool.or_eq_true] at hd
   obtain ⟨⟨hde, hpos⟩, hone⟩ := hd
   have hpos : 0 < P.cellsOf e := Nat.le_of_ble_eq_true hpos
   rcases DataW.trod_slice ht h with ⟨rfl, _⟩ | ⟨a, len, cap, els, rest, m, _, rfl, _, hb, hl, hc, hlen, hel, _⟩
   ·refine ⟨[.imm (P.cellsOf e) (([] : List (List D)).map (mkD P e)) 4], ?_, ⟨[], rfl, fun _ h => by cases h⟩, rfl⟩
    simp only [reps, rep, List.map_nil, List.length_nil]
    exact ⟨_, _, rfl, ⟨none, 0, rfl, by simp, by simp, by simp, by simp, by simp, by simp, by simp, .inl trivial⟩, rfl⟩
   ·have hc : cap ≤ 9223372036854775807 := hc
    have key : ∀ i, i < len → ∃ l v, typed P n e l ∧ rep (C.at C.Z) (mkD P e l) v ∧ v.cells.size = P.cellsOf e ∧ v.cells.toList.all (·.oneCell') = true ∧ (i = 0 → a.spot = none) ∧ a.block < w.heap.size ∧ w.rangeAt a.block (a.off + i * P.cellsOf e) v.cells.toList := by
     intro i hi
     have hi' := hel i hi
     have hsome : els[i]? = some els[i] := List.getElem?_eq_getElem (by omega)
     rw [hsome, Option.bind_eq_some_iff] at hi'
     obtain ⟨cs', hcs, htr⟩ := hi'
     obtain ⟨_, hclen, hcell⟩ := World.cells?_some hcs
     obtain ⟨l, g1, g2, g3⟩ := trod_reps n m e cs' _ (C.at C.Z) (by simpa [Cx.at] using hw) (by simpa [Cx.at] using hM) (by simpa [Cx.at] using hlo) hde htr
     have h0 := hcell 0 hpos
     have hc0 : cs'[0]? = some cs'[0] := List.getElem?_eq_getElem (by omega)
     rw [hc0] at h0
     have hadd : ∀ j, ((a.add (i * P.cellsOf e)).add j).block = a.block := by intro j; unfold Addr.add; split <;> split <;> rfl
     have hblk : a.block < w.heap.size ∧ ((a.add (i * P.cellsOf e)).add 0).spot = none := by
      unfold World.cell? at h0
      rw [hadd] at h0
      split at h0
      ·rename_i c T fz hh
       have := (Array.getElem?_eq_some_iff.1 hh).1
       split at h0
       ·cases h0
       ·rename_i hs; exact ⟨this, by simpa using hs⟩
      ·cases h0
     have hspot0 : (a.add (i * P.cellsOf e)).spot = none := by simpa [Addr.add] using hblk.2
     have hae : ∀ j, j < P.cellsOf e → (a.add (i * P.cellsOf e)).add j = ⟨a.block, a.off + i * P.cellsOf e + j, none⟩ := by
      intro j _
      unfold Addr.add at hspot0 ⊢
      split at hspot0
      ·rename_i hz
       simp only [hz, if_true, Nat.add_zero]
       split
       ·rename_i hj; subst hj; cases a; simp_all
       ·rfl
      ·rename_i hz
       simp only [hz, if_false]
       split
       ·rename_i hj; subst hj; rfl
       ·rfl
     have hrange : w.rangeAt a.block (a.off + i * P.cellsOf e) cs' := by
      intro j v hj
      have hjl := (List.getElem?_eq_some_iff.1 hj).1
      have := hcell j (by omega)
      rw [hae j (by omega), hj] at this
      exact this
     cases hag : aggT P e with
     | true =>
      refine ⟨l, .agg cs'.toArray, g2, ?_, by simp [Value.cells, hclen], by simpa [Value.cells] using g3, ?_, hblk.1, by simpa [Value.cells] using hrange⟩
      ·simp only [mkD, hag, cond_true, rep]
       exact ⟨cs', rfl, g1⟩
      ·rintro rfl; simpa [Addr.add] using hspot0
     | false =>
      rw [hag] at hone
      have h1 : P.cellsOf e = 1 := by simpa using hone
      rw [h1] at hclen
      obtain ⟨v, rfl⟩ := List.length_eq_one_iff.1 hclen
      obtain ⟨d, rfl⟩ : ∃ d, l = [d] := List.length_eq_one_iff.1 ((reps_length _ _ g1).symm.trans rfl)
      simp only [reps] at g1
      obtain ⟨v', vs', hv, hd, rfl⟩ := g1
      obtain rfl : v = v' := (List.cons.inj hv).1
      have hcv : v.cells = #[v] := by
       simp only [List.all_cons, List.all_nil, Bool.and_true] at g3
       cases v <;> first | rfl | simp [Value.oneCell'] at g3
      refine ⟨[d], v, g2, by simpa [mkD, hag] using hd, by simp [hcv, h1], by simpa [hcv] using g3, ?_, hblk.1, by simpa [hcv] using hrange⟩
      rintro rfl; simpa [Addr.add] using hspot0
    obtain ⟨xs, g1, g2, g3⟩ := elems_of (C := C.at C.Z) (b := a.block) (s := P.cellsOf e) (p := typed P n e) (f := mkD P e) len a.off (fun i hi => by
     obtain ⟨l, v, h1, h2, h3, h4, _, _, h5⟩ := key i hi
     exact ⟨l, v, h1, h2, h3, h4, by subst hw; exact h5⟩)
    refine ⟨[.imm (P.cellsOf e) (xs.map (mkD P e)) 4], ?_, ⟨xs, rfl, g3⟩, rfl⟩
    simp only [reps, rep, List.length_map, g1]
    refine ⟨_, _, rfl, ⟨some a, cap, rfl, hl, by omega, by simp, by simp, by simp, by simp, by simp, ?_⟩, rfl⟩
    rcases Nat.eq_zero_or_pos len with h0 | h0
    ·left; subst h0; have := List.length_eq_zero_iff.1 g1; simp [this]
    ·right
     obtain ⟨_, _, _, _, _, _, k1, k2, _⟩ := key 0 h0
     intro Z hZ
     have hZ : C.Z = Z := by simpa [Cx.zone] using hZ
     subst hZ
     exact ⟨a, rfl, k1 rfl, hM _, hlo _, by rw [hw]; exact k2, g2⟩
  ·rename_i fs ht
   simp only [typed, ht]
   obtain ⟨xs, m, _, _, hcl, hxl, hf⟩ := DataW.trod_struct ht h
   have key : ∀ (gs : List Field) (k : Nat), (∀ i f, gs[i]? = some f → fs[k + i]? = some f) → ∀ off, fieldsIn P (dataT P n) off gs (P.cellsOf t) = true → off ≤ cs.length → 
     ∃ l, reps C l (cs.drop off) ∧ typedL (typed P n) (gs.map (·.type)) l ∧ (cs.drop off).all (·.oneCell') = true := by
    intro gs
    induction gs with
    | nil =>
     intro k _ off ho _
     simp only [fieldsIn] at ho
     have ho := Nat.eq_of_beq_eq_true ho
     have : cs.drop off = [] := by rw [ho, ← hcl]; simp
     rw [this]
     exact ⟨[], by simp only [reps], rfl, rfl⟩
    | cons f gs ih =>
     intro k hk off ho hle
     simp only [fieldsIn, Bool.and_eq_true] at ho
     obtain ⟨⟨h1, h2⟩, h3⟩ := ho
     have h1 := Nat.eq_of_beq_eq_true h1
     have hfk := hf k f (by simpa using hk 0 f rfl)
     have hkl : k < xs.length := by
      have := hk 0 f rfl
      rw [hxl]
      exact (Array.getElem?_eq_some_iff.1 (by simpa using this)).1
     rw [List.getElem?_eq_getElem hkl, h1] at hfk
     obtain ⟨l1, g1, g2, g3⟩ := trod_reps n m f.type _ _ C hw hM hlo h2 hfk
     have hl1 : ((cs.drop off).take (P.cellsOf f.type)).length = P.cellsOf f.type := by
      have := fieldsIn_le _ _ _ h3
      simp
      omega
     obtain ⟨l2, k1, k2, k3⟩ := ih (k + 1) (fun i f' hi => by have := hk (i + 1) f' (by simpa using hi); rwa [show k + (i + 1) = k + 1 + i by omega] at this) (off + P.cellsOf f.type) h3 (by
      simp at hl1; omega)
     have e : cs.drop off = (cs.drop off).take (P.cellsOf f.type) ++ cs.drop (off + P.cellsOf f.type) := by
      rw [← List.drop_drop, List.take_append_drop]
     refine ⟨l1 ++ l2, by rw [e]; exact reps_append' g1 k1, ⟨l1, l2, rfl, g2, k2⟩, by rw [e, List.all_append, g3, k3]; rfl⟩
   simpa using key fs.toList 0 (fun i f hi => by simpa using hi) 0 hd (Nat.zero_le _)
  ·cases hd
theorem trod_rep {r : Reach} {b0 n : Nat} {t : TypeId} {v : Value} {d : DataW H} {ps : List MemPlace} {fr : Nat} (hd : dataT P n t = true) (hval : Value.okWide P w r b0 t v) (h : DataW.Trod enc P w 0 sp true t v d ps) :
  ∃ l, typed P n t l ∧ rep (cx0 w fr) (mkD P t l) v := by
 obtain ⟨fuel, h⟩ := h
 obtain ⟨l, h1, h2, h3⟩ := trod_reps n fuel t _ _ (cx0 w fr) rfl (fun _ h => h) (fun _ => trivial) hd h
 refine ⟨l, h2, ?_⟩
 unfold mkD aggT
 cases n with
 | zero => simp [dataT] at hd
 | succ n =>
  unfold dataT at hd
  unfold Value.okWide at hval
  split at hd
  case h_5 fs ht =>
   rw [ht] at hval ⊢
   obtain ⟨cs, rfl, _⟩ := hval
   simp only [cond_true, rep]
   exact ⟨cs.toList, by simp, by simpa [Value.cells] using h1⟩
  case h_6 => cases hd
  all_goals
   rename_i ht
   rw [ht] at hval ⊢
   simp only [cond_false]
   have hcv : v.cells = #[v] := by
    cases v with
    | agg cs => simp [Cell.okWide, Cell.ok, ht] at hval
    | _ => rfl
   rw [hcv] at h1
   have hl : ∃ d, l = [d] := List.length_eq_one_iff.1 ((reps_length _ _ h1).symm.trans rfl)
   obtain ⟨d, rfl⟩ := hl
   simp only [reps] at h1
   obtain ⟨v', vs', hv, hd', _⟩ := h1
   obtain rfl : v = v' := by simpa using (List.cons.inj hv).1
   exact hd'
def typedAll (P : Program) (n : Nat) : List TypeId → List D → Prop
 | [], l => l = []
 | t :: ts, l => ∃ c r, l = mkD P t c :: r ∧ typed P n t c ∧ typedAll P n ts r
theorem trodAll_reps {r : Reach} {b0 n fr : Nat} : ∀ {ts : List TypeId} {vs : List Value} {ds : List (DataW H)} {ps : List MemPlace}, ts.all (dataT P n) = true → (∀ (j : Nat) t v, ts[j]? = some t → vs[j]? = some v → Value.okWide P w r b0 t v) →
  DataW.TrodAll enc P w 0 sp true ts vs ds ps → ∃ l, typedAll P n ts l ∧ reps (cx0 w fr) l vs
 | [], [], [], _, _, _, _ => ⟨[], rfl, by simp only [reps]⟩
 | t :: ts, v :: vs, d :: ds, ps, hd, hval, h => by
  obtain ⟨p, q, h1, h2, _⟩ := h
  simp only [List.all_cons, Bool.and_eq_true] at hd
  obtain ⟨c, g1, g2⟩ := trod_rep (fr := fr) hd.1 (hval 0 t v rfl rfl) h1
  obtain ⟨l, k1, k2⟩ := trodAll_reps hd.2 (fun j t v h h' => hval (j + 1) t v h h') h2
  exact ⟨_ :: l, ⟨c, l, rfl, g1, k1⟩, by simp only [reps]; exact ⟨_, _, rfl, g2, k2⟩⟩
 | [], _ :: _, _, _, _, _, h => h.elim
 | [], [], _ :: _, _, _, _, h => h.elim
 | _ :: _, [], _, _, _, _, h => h.elim
 | _ :: _, _ :: _, [], _, _, _, h => h.elim
theorem trodAll_stays (hl : laidOutB P = true) {W W' : World} (hB : Below W.heap.size W W') {sp' : Nat → Bool} : ∀ {ts : List TypeId} {vs : List Value} {ds : List (DataW H)} {ps : List MemPlace}, (ts.all fun t => P.readableRec t && Nat.blt t P.types.size) = true →
  DataW.TrodAll enc P W 0 (fun _ => true) true ts vs ds ps → (∀ p ∈ ps, p.block < W.heap.size ∧ sp' p.block = true) → DataW.TrodAll enc P W' 0 sp' true ts vs ds ps
 | [], [], [], _, _, h, _ => h
 | t :: ts, v :: vs, d :: ds, ps, hr, h, hp => by
  obtain ⟨p, q, h1, h2, rfl⟩ := h
  simp only [List.all_cons, Bool.and_eq_true] at hr
  refine ⟨p, q, WideElems.Trod_stays hl hr.1.1 (Nat.le_of_ble_eq_true hr.1.2) h1 (fun x hx => hB.same (hp x (by simp [hx])).1) (fun x hx => (hp x (by simp [hx])).2), ?_, rfl⟩
  exact trodAll_stays hl hB hr.2 h2 fun x hx => hp x (by simp [hx])
 | [], _ :: _, _, _, _, h, _ => h.elim
 | [], [], _ :: _, _, _, h, _ => h.elim
 | _ :: _, [], _, _, _, h, _ => h.elim
 | _ :: _, _ :: _, [], _, _, h, _ => h.elim
theorem law_contract {K : FuncId} {f : Func} {s : ChangeSpec} {apart fresh : Bool} {n : Nat} {tb : TypeId} (hl : laidOutB P = true) (hr : (f.params.toList.all fun t => P.readableRec t && Nat.blt t P.types.size) = true)
  (hd : f.params.toList.all (dataT P n) = true) (hvars : s.vars = []) (hres : f.resultTypes = #[tb]) (hb : P.underlying tb = some .bool)
  (hfn : ∀ ds : List (DataW H), ds.length = f.params.size → s.fn H ds = { results := [.lit (.bool true)], args := ds })
  (hK : ∀ l, typedAll P n f.params.toList l → CallP P K l (.bool true)) {W : World} {base : Nat} {args : Array Value} {ds gs : List (DataW H)} {before : List MemPlace}
  (hval : ∀ (j : Nat) t v, f.params[j]? = some t → args[j]? = some v → Value.okWide P W .any base t v) (hW : DataW.Whole enc P f.params.toList s.vars apart W args.toList ds gs before) :
  Calls P K args W fun e W' => ∃ v, e = .returned v ∧ s.post enc P f apart fresh false false W args v W' := by
 have hW' := hW
 obtain ⟨p, q, hA, hV, rfl, hfz, hnd⟩ := hW
 rw [hvars] at hV
 have hlen : ds.length = f.params.size := by
  have : ∀ {ts : List TypeId} {vs : List Value} {ds : List (DataW H)} {ps : List MemPlace}, DataW.TrodAll enc P W 0 (fun _ => true) true ts vs ds ps → ds.length = ts.length := by
   intro ts
   induction ts with
   | nil => intro vs ds ps h; cases vs <;> cases ds <;> first | rfl | exact h.elim
   | cons t ts ih => intro vs ds ps h; cases vs <;> cases ds <;> first | (obtain ⟨_, _, _, h2, _⟩ := h; simp [ih h2]) | exact h.elim
  simpa using this hA
 have hgs : gs = [] ∧ q = [] := by
  cases gs with
  | nil => exact ⟨rfl, hV⟩
  | cons g gs => exact hV.elim
 obtain ⟨rfl, rfl⟩ := hgs
 obtain ⟨l, h1, h2⟩ := trodAll_reps (fr := W.heap.size) hd (fun j t v h h' => hval j t v (by simpa using h) (by simpa using h')) hA
 refine ((hK l h1).2 W _ h2).mono fun e W' ⟨v, he, hk, _, hv⟩ => ⟨v, he, ?_⟩
 simp only [rep] at hv
 subst hv
 have hB := hk.below
 have hlt := hW'.lt
 have hf := hfn ds hlen
 refine ⟨ds, [], p ++ [], [], p, [], hW', ?_, ?_, ?_, ?_, fun h => by cases h⟩
 ·rw [List.append_nil, hf, hres]
  exact ⟨[], [], ⟨1, by simp [DataW.trod, Value.cells, hb]⟩, rfl, rfl⟩
 ·rw [List.append_nil, hf]
  exact trodAll_stays hl hB hr hA fun x hx => ⟨hlt x (by simp [hx]), by simpa using hlt x (by simp [hx])⟩
 ·rw [List.append_nil, hf, hvars]
  rfl
 ·exact hB.frame _
end
theorem list_of {α : Type} {f : α → D} {g : List D → D} : ∀ (xs : List (List D)), (∀ x ∈ xs, ∃ y, g x = f y) → ∃ l : List α, xs.map g = l.map f
 | [], _ => ⟨[], rfl⟩
 | x :: xs, h => by
  obtain ⟨y, hy⟩ := h x (by simp)
  obtain ⟨l, hl⟩ := list_of xs fun x hx => h x (by simp [hx])
  exact ⟨y :: l, by simp only [List.map_cons, hy, hl]⟩
section
variable {P : Program} {n : Nat} {t : TypeId} {l : List D}
theorem mkD_one {d : D} (ha : aggT P t = false) : mkD P t [d] = d := by simp only [mkD, ha, cond_false, List.headD_cons]
theorem mkD_agg (ha : aggT P t = true) : mkD P t l = .agg l := by simp only [mkD, ha, cond_true]
theorem typed_int {k : IntKind} (hu : P.underlying t = some (.int k)) (h : typed P (n + 1) t l) : ∃ m, l = [.int k m] := by
 rw [typed, hu] at h; exact h
theorem typed_str (hu : P.underlying t = some .string) (h : typed P (n + 1) t l) : ∃ s, l = [.str s] := by
 rw [typed, hu] at h; exact h
theorem typed_list {α : Type} (f : α → D) {e : TypeId} {s : Nat} (hu : P.underlying t = some (.slice e)) (ha : aggT P t = false) (hc : P.cellsOf e = s) (hx : ∀ x, typed P n e x → ∃ y, mkD P e x = f y) (h : typed P (n + 1) t l) :
  ∃ m : List α, mkD P t l = .imm s (m.map f) 4 := by
 rw [typed, hu] at h
 obtain ⟨xs, rfl, hxs⟩ := h
 obtain ⟨m, hm⟩ := list_of (f := f) (g := mkD P e) xs fun x hx' => hx x (hxs x hx')
 exact ⟨m, by rw [mkD_one ha, hm, hc]⟩
theorem typed_one {e : TypeId} (hu : P.underlying t = some (.slice e)) (h : typed P (n + 1) t l) : ∃ d, l = [d] := by
 rw [typed, hu] at h
 obtain ⟨xs, rfl, _⟩ := h
 exact ⟨_, rfl⟩
theorem typed_struct {fs : Array Field} (hu : P.underlying t = some (.struct fs)) (h : typed P (n + 1) t l) : typedL (typed P n) (fs.toList.map (·.type)) l := by
 rw [typed, hu] at h; exact h
theorem typedL_cons {p : TypeId → List D → Prop} {ts : List TypeId} (h : typedL p (t :: ts) l) : ∃ l1 l2, l = l1 ++ l2 ∧ p t l1 ∧ typedL p ts l2 := h
theorem typedL_nil {p : TypeId → List D → Prop} (h : typedL p [] l) : l = [] := h
theorem typedAll_cons {ts : List TypeId} (h : typedAll P n (t :: ts) l) : ∃ c r, l = mkD P t c :: r ∧ typed P n t c ∧ typedAll P n ts r := h
theorem typedAll_nil (h : typedAll P n [] l) : l = [] := h
end
end Go.Tm
end
section
namespace Go.Proofs.Ytkfipajabmhkbaa.stableGoes
open Go.ChangeShapes Go.WideShapes Go.RowKit Go.Tm
set_option maxRecDepth 100000
theorem own : ownKnob Try.prog.godebug = none := by kernel_rfl
theorem agg25 : aggT Try.prog 25 = true := by kernel_rfl
theorem agg22 : aggT Try.prog 22 = false := by kernel_rfl
theorem agg34 : aggT Try.prog 34 = false := by kernel_rfl
theorem agg9 : aggT Try.prog 9 = false := by kernel_rfl
theorem cells9 : Try.prog.cellsOf 9 = 1 := by kernel_rfl
theorem tc34 {n : Nat} {l : List D} (h : typed Try.prog (n + 2) 34 l) : ∃ m : List (List UInt8), l = [.imm 1 (m.map D.str) 4] := by
 obtain ⟨d, hd⟩ := typed_one Try.underlying34 h
 obtain ⟨m, hm⟩ := typed_list D.str Try.underlying34 agg34 cells9 (fun x hx => by
  obtain ⟨a, ha⟩ := typed_str Try.underlying9 hx
  exact ⟨a, ha ▸ mkD_one agg9⟩) h
 rw [hd, mkD_one agg34] at hm
 exact ⟨m, by rw [hd, hm]⟩
theorem cells34 : Try.prog.cellsOf 34 = 1 := by kernel_rfl
theorem tc22 {n : Nat} {l : List D} (h : typed Try.prog (n + 3) 22 l) : ∃ m : List (List (List UInt8)), l = [.imm 1 (m.map dL_str) 4] := by
 obtain ⟨d, hd⟩ := typed_one Try.underlying22 h
 obtain ⟨m, hm⟩ := typed_list dL_str Try.underlying22 agg22 cells34 (fun x hx => by
  obtain ⟨a, ha⟩ := tc34 (n := n) hx
  exact ⟨a, ha ▸ mkD_one agg34⟩) h
 rw [hd, mkD_one agg22] at hm
 exact ⟨m, by rw [hd, hm]⟩
theorem agg23 : aggT Try.prog 23 = false := by kernel_rfl
theorem agg67 : aggT Try.prog 67 = true := by kernel_rfl
theorem tc37 {n : Nat} {l : List D} (h : typed Try.prog (n + 2) 37 l) : ∃ x : TVote, l = [.int .i64 x.Promised, .int .i64 x.Ballot, .str x.Value] := by
 replace h := typed_struct Try.underlying37 h
 obtain ⟨l0, r0, e0, h0, h⟩ := typedL_cons h
 obtain ⟨l1, r1, e1, h1, h⟩ := typedL_cons h
 obtain ⟨l2, r2, e2, h2, h⟩ := typedL_cons h
 have ez := typedL_nil h
 obtain ⟨a0, f0⟩ := typed_int Try.underlying3 h0
 obtain ⟨a1, f1⟩ := typed_int Try.underlying3 h1
 obtain ⟨a2, f2⟩ := typed_str Try.underlying9 h2
 refine ⟨⟨a0, a1, a2⟩, ?_⟩
 rw [e0, e1, e2, ez, f0, f1, f2]
 exact rfl
theorem tc67 {n : Nat} {l : List D} (h : typed Try.prog (n + 3) 67 l) : ∃ x : TSeen, l = [.int .i64 x.Group, .int .i64 x.Slot, .int .i64 x.Vote.Promised, .int .i64 x.Vote.Ballot, .str x.Vote.Value] := by
 replace h := typed_struct Try.underlying67 h
 obtain ⟨l0, r0, e0, h0, h⟩ := typedL_cons h
 obtain ⟨l1, r1, e1, h1, h⟩ := typedL_cons h
 obtain ⟨l2, r2, e2, h2, h⟩ := typedL_cons h
 have ez := typedL_nil h
 obtain ⟨a0, f0⟩ := typed_int Try.underlying3 h0
 obtain ⟨a1, f1⟩ := typed_int Try.underlying3 h1
 obtain ⟨a2, f2⟩ := tc37 (n := n + 0) h2
 refine ⟨⟨a0, a1, a2⟩, ?_⟩
 rw [e0, e1, e2, ez, f0, f1, f2]
 exact rfl
theorem cells67 : Try.prog.cellsOf 67 = 5 := by kernel_rfl
theorem tc23 {n : Nat} {l : List D} (h : typed Try.prog (n + 4) 23 l) : ∃ m : List TSeen, l = [.imm 5 (m.map TSeen.d) 4] := by
 obtain ⟨d, hd⟩ := typed_one Try.underlying23 h
 obtain ⟨m, hm⟩ := typed_list TSeen.d Try.underlying23 agg23 cells67 (fun x hx => by
  obtain ⟨a, ha⟩ := tc67 (n := n) hx
  exact ⟨a, (mkD_agg agg67).trans (by rw [ha]; rfl)⟩) h
 rw [hd, mkD_one agg23] at hm
 exact ⟨m, by rw [hd, hm]⟩
theorem tc25 {n : Nat} {l : List D} (h : typed Try.prog (n + 5) 25 l) : ∃ x : TStable, l = [.imm 1 (x.Logs.map dL_str) 4, .imm 5 (x.Votes.map TSeen.d) 4] := by
 replace h := typed_struct Try.underlying25 h
 obtain ⟨l0, r0, e0, h0, h⟩ := typedL_cons h
 obtain ⟨l1, r1, e1, h1, h⟩ := typedL_cons h
 have ez := typedL_nil h
 obtain ⟨a0, f0⟩ := tc22 (n := n + 1) h0
 obtain ⟨a1, f1⟩ := tc23 (n := n + 0) h1
 refine ⟨⟨a0, a1⟩, ?_⟩
 rw [e0, e1, ez, f0, f1]
 exact rfl
theorem agg27 : aggT Try.prog 27 = true := by kernel_rfl
theorem tc27 {n : Nat} {l : List D} (h : typed Try.prog (n + 2) 27 l) : ∃ x : TRecord, l = [.int .u8 x.Kind, .int .i64 x.Group, .int .i64 x.Slot, .int .i64 x.Ballot, .str x.Value] := by
 replace h := typed_struct Try.underlying27 h
 obtain ⟨l0, r0, e0, h0, h⟩ := typedL_cons h
 obtain ⟨l1, r1, e1, h1, h⟩ := typedL_cons h
 obtain ⟨l2, r2, e2, h2, h⟩ := typedL_cons h
 obtain ⟨l3, r3, e3, h3, h⟩ := typedL_cons h
 obtain ⟨l4, r4, e4, h4, h⟩ := typedL_cons h
 have ez := typedL_nil h
 obtain ⟨a0, f0⟩ := typed_int Try.underlying5 h0
 obtain ⟨a1, f1⟩ := typed_int Try.underlying3 h1
 obtain ⟨a2, f2⟩ := typed_int Try.underlying3 h2
 obtain ⟨a3, f3⟩ := typed_int Try.underlying3 h3
 obtain ⟨a4, f4⟩ := typed_str Try.underlying9 h4
 refine ⟨⟨a0, a1, a2, a3, a4⟩, ?_⟩
 rw [e0, e1, e2, e3, e4, ez, f0, f1, f2, f3, f4]
 exact rfl
theorem agg3 : aggT Try.prog 3 = false := by kernel_rfl
theorem params3 : Try.f3.params.toList = [25, 27, 3, 3] := by kernel_rfl
theorem hK (l : List D) (h : typedAll Try.prog 8 Try.f3.params.toList l) : CallP Try.prog 3 l (.bool true) := by
 rw [params3] at h
 obtain ⟨c0, r0, e0, h0, h⟩ := typedAll_cons h
 obtain ⟨c1, r1, e1, h1, h⟩ := typedAll_cons h
 obtain ⟨c2, r2, e2, h2, h⟩ := typedAll_cons h
 obtain ⟨c3, r3, e3, h3, h⟩ := typedAll_cons h
 have ez := typedAll_nil h
 obtain ⟨a0, f0⟩ := tc25 (n := 3) h0
 obtain ⟨a1, f1⟩ := tc27 (n := 6) h1
 obtain ⟨a2, f2⟩ := typed_int Try.underlying3 h2
 obtain ⟨a3, f3⟩ := typed_int Try.underlying3 h3
 rw [e0, e1, e2, e3, ez, f0, f1, f2, f3, mkD_agg agg25, mkD_agg agg27, mkD_one agg3]
 exact callP_wf ⟨Try.f3, Try.func3, by decide, rfl⟩ fun hw => callP_towncrierlaw11_StableGoes a0 a1 a2 a3 _ (goes_law a0 a1 a2 a3 hw)
set_option maxRecDepth 100000 in
theorem lifted (os : Os) (started : os.Started) (H : Type) (enc : TypeId × Value → H) :
  ReturnsInHanded {} Try.checked os 3 .any (Rows.stableGoesSpec.pre6 enc Try.prog Try.f3 Rows.stableGoesRow.domain false) (Rows.stableGoesSpec.post enc Try.prog Try.f3 false true false false) := by
 refine returnsInHanded_of_change (C := Try.checked) own started (by kernel_rfl) Try.func3
  (ChangeSpec.witness6 (enc := enc) (C := Try.checked) false ⟨#[], #[.agg #[.slice none 0 0, .slice none 0 0], .agg #[.int .u8 0, .int .i64 0, .int .i64 0, .int .i64 0, .string ⟨#[]⟩], .int .i64 0, .int .i64 0], []⟩ 8 (by kernel_rfl) (by kernel_rfl) (by kernel_rfl) (by kernel_rfl)) ?_
 intro W base args ds gs before hval hW _ _
 exact law_contract (K := 3) (n := 8) (tb := 4) (by kernel_rfl) (by kernel_rfl) (by kernel_rfl) rfl rfl Try.underlying4 (fun ds h => by
  match ds, h with
  | [_, _, _, _], _ => rfl) hK hval hW
end Go.Proofs.Ytkfipajabmhkbaa.stableGoes
end
