/- The walks of functions, printed by gw.py. -/
import Derived.Test.YtiikjgnpbgngaaaNodeNewsPf
import Derived.Test.YtiikjgnpbgngaaaNodeNewsPg
section
namespace Go.Proofs
open Go.Tm Go.RowKit Go.WideShapes
set_option maxRecDepth 100000
set_option maxHeartbeats 4000000
set_option linter.unusedSimpArgs false
set_option linter.unusedVariables false
attribute [local go_sem] argVars runE runK isCallV stepE aop opd opdsL opds opdO ev ofVal keep List.any Nat.beq Bool.false_or Bool.true_or aggEq cond_true cond_false Bool.cond_false_right Bool.cond_true_left beq_true beq_false imp_self implies_true getR getL put St.app effL del nwB blt_dec Nat.lt_irrefl Nat.lt_add_one ble_dec Nat.le_refl Nat.beq_refl roomNZ appendIn capS capK mkZ_zero mkZL_zero zeroEl D.ids D.idsL Option.getD bin arith sarith binT dpick Tm.part splice fillD oneD loadD storeD srcD sliceD idxOk decide_true gval dstAt D.cells List.map_cons List.map_nil List.take List.drop List.length_map List.append Int.toNat_natCast and_true true_and decide_false List.length_cons List.length_nil List.append_nil List.nil_append Bool.and_true Bool.true_and Bool.not_false Bool.not_true ne_eq not_false_eq_true BEq.rfl List.getElem?_cons_zero List.getElem?_cons_succ List.getElem?_nil Nat.zero_add List.all_cons List.all_nil List.isEmpty_cons List.isEmpty_nil List.any_cons List.any_nil List.drop_succ_cons List.drop_zero unfL unf okM okML low3 List.cons_append true_or or_true Nat.zero_mul Nat.zero_le bytesD_map map_ub mkZ_one mkZL_one mkM mkML mk1_int mk1_str mk1_bool drop_map take_map take_map_len List.take_length Int.toNat_zero toNat_pred fpOf metIds opIds mvV mvH mvF pickL D.ren D.renL Blk.ren List.map_append List.length_append Bool.not_not Bool.or_not_self Bool.not_or_self Bool.or_true
attribute [local go_sem] Try.tm_1 Try.tm_2 Try.tm_3 Try.tm_4 Try.tm_5 Try.tm_6 Try.tm_7 Try.tm_8 Try.tm_9 Try.tm_10 Try.tm_11 Try.tm_12 Try.tm_13 Try.tm_14 Try.tm_15 Try.tm_16 Try.tm_17 Try.tm_18 Try.tm_19 Try.tm_20 Try.tm_21 Try.tm_22 Try.tm_23 Try.tm_24 Try.tm_25 Try.tm_26 Try.tm_27 Try.tm_28 Try.tm_29 Try.tm_30 Try.tm_31 Try.tm_32 Try.tm_33 Try.tm_34 Try.tm_35 Try.tm_37 Try.tm_39 Try.tm_40 Try.tm_41 Try.tm_42 Try.tm_43 Try.tm_44 Try.tm_45 Try.tm_46 Try.tm_47 Try.tm_48 Try.tm_49 Try.tm_50 Try.tm_51 Try.tm_52 Try.tm_54 Try.tm_56 Try.tm_57 Try.tm_58 Try.tm_59 Try.tm_60 Try.tm_61 Try.tm_62 Try.tm_63 Try.tm_64 Try.tm_65 Try.tm_66 Try.tm_67 Try.tm_68 Try.tm_69 Try.tm_70 Try.tm_71 Try.tm_72 Try.tm_74 Try.tm_75 Try.tm_76 Try.tm_78 Try.tm_79 Try.tm_80 Try.tm_81 Try.tm_82 Try.tm_83 Try.tm_84 Try.tm_85 Try.tm_86 Try.tm_87 Try.tm_88 Try.tm_89 Try.tm_90 Try.tm_91 Try.tm_92 Try.tm_93 Try.tm_94 Try.tm_95 Try.tm_96 Try.tm_97 Try.tm_98 Try.tm_99 Try.tm_100 Try.tm_101 Try.tm_102 Try.tm_103 Try.tm_104 Try.tm_105 Try.tm_106 Try.tm_107 Try.tm_108 Try.tm_109 Try.tm_110 Try.tm_111 Try.tm_112 Try.tm_113 Try.tm_114 Try.tm_115 Try.tm_118 Try.tm_119 Try.tm_120 Try.tm_121 Try.tm_122 Try.tm_123 Try.tm_124 Try.tm_125 Try.tm_126 Try.tm_127 Try.tm_128 Try.tm_129 TGroup.d TGroup.n TVote.d TSeen.d TPromise.d TAttempt.d TAttempt.n TSeat.d TSeat.n TTime.d TBell.d TBell.n TPut.d TPut.n TDisk.d TDisk.n TMail.d TNode.d TNode.n TRecord.d Tbell_bell.d Tbell_bell.n mk1_TGroup mk1_TVote mk1_TSeen mk1_TPromise mk1_TAttempt mk1_TSeat mk1_TTime mk1_TBell mk1_TPut mk1_TDisk mk1_TMail mk1_TNode mk1_TRecord mk1_Tbell_bell Try.f50 Try.f37 Try.f14 Try.f52 Try.f45 Try.f31 Try.f40 Try.f41 Try.f35 Try.f54 Try.f53 Try.f46 Try.f49 Try.f36 Try.f47 Try.f32 Try.f20 Try.f27 Try.f38 Try.f39 Try.f15 Try.f12 Try.f13 Try.f26 Try.f8 Try.f25

def Try.St_towncrierref01_SameInts_1 : St := ⟨[], [], 0⟩
attribute [local go_sem] Try.St_towncrierref01_SameInts_1
def Try.St_towncrierref01_SameInts_3 (a : List Int) (b : List Int) (n1 : Nat) : St := ⟨[(0, .imm 1 (a.map (D.int .i64)) 4), (1, .imm 1 (b.map (D.int .i64)) 4), (5, .int .i64 (n1 : Int))], [], 0⟩
attribute [local go_sem] Try.St_towncrierref01_SameInts_3
theorem callP_towncrierref01_SameInts (a : List Int) (b : List Int) (r : Bool) (h : m_towncrierref01_SameInts a b = some r) : CallP Try.prog 50 [.imm 1 (a.map (D.int .i64)) 4, .imm 1 (b.map (D.int .i64)) 4] (.bool r) := by
  refine callP_intro Try.tmOk 2 Try.func50 rfl (by decide) rfl rfl (Nat.le_of_ble_eq_true rfl) ?_
  intro hwf
  unfold m_towncrierref01_SameInts at h
  refine .seq ?_
  refine .pl Try.S [0, 1] ?_
  refine .seq ?_
  refine .seq ?_
  refine .pl Try.S [0, 1] ?_
  refine .cond rfl rfl (fun hc1 => ?_) (fun hc1 => ?_)
  · skip
    replace h := ite_lc h hc1
    refine .seq ?_
    refine .pl Try.S [] ?_
    have hq := Option.some.inj h
    subst r
    exact .ret ⟨.inr rfl, rsi⟩
  · skip
    replace h := ite_rc h hc1
    refine .skip ?_
    obtain ⟨x1, hx1, h⟩ := bind_some h
    refine .seqM 0 (fun (j : Unit) => Try.St_towncrierref01_SameInts_1) (fun j => x1 = (.inr j)) (Nat.le_of_ble_eq_true rfl) ?_ ?_
    · skip
      refine .seq ?_
      refine .pl Try.S [0, 1] ?_
      refine .block ?_
      refine .loopG 0 (fun (j : Nat) => Try.St_towncrierref01_SameInts_3 a b j) (fun j => j ≤ a.length ∧ m_towncrierref01_SameInts_loop1 b (a.drop j) j  = some x1) (fun j => a.length - j) (0) (Nat.le_of_ble_eq_true rfl) ?_ ⟨Nat.zero_le _, hx1⟩ ?_
      · skip
        exact .m [0, 1, 5] [] []
      rintro n1 ⟨hi1, hx1⟩
      simp only [Try.St_towncrierref01_SameInts_3]
      refine .wf 0 (.imm 1 (a.map (D.int .i64)) 4) rfl ?_
      intro hln1
      replace hln1 : (a.length : Int) ≤ 9223372036854775807 := by simp only [wf, wfL, IntKind.max, IntKind.min, IntKind.signed, IntKind.bits, List.length_map] at hln1; first | exact hln1.2 | exact hln1.1 | (simp at hln1; omega)
      refine .seq ?_
      refine .seq ?_
      refine .pl Try.S [0, 1, 5] ?_
      refine .cond rfl rfl (fun hc2 => ?_) (fun hc2 => ?_)
      · skip
        have h1 : n1 < a.length := by simpa using hc2
        have hwn1 : wr .i64 ((n1 : Int) + 1) = ((n1 + 1 : Nat) : Int) := wr_succ h1 hln1
        have hpn1 : wr .i64 ((n1 : Int) - 1) = (n1 : Int) - 1 := wr_pred h1 hln1
        rw [List.drop_eq_getElem_cons h1, m_towncrierref01_SameInts_loop1] at hx1
        refine .skip ?_
        refine .seq ?_
        refine .block ?_
        refine .seq ?_
        obtain ⟨k1, hx1⟩ := ite_ck hx1
        have e1 := nth_map (D.int .i64) a n1 h1
        have e2 := nth_mapD (D.int .i64) b n1
        replace e2 := e2 k1
        refine .rg Try.S [0, 1, 5] ?_
        refine .rdx 6 (And.intro e1 (And.intro e2 hwn1)) ?_
        refine .rdx 3 (And.intro e1 (And.intro e2 hwn1)) ?_
        refine .nil ⟨fun _ => schedB_of (by kernel_rfl), ?_⟩
        refine .cond rfl rfl (fun hc3 => ?_) (fun hc3 => ?_)
        · skip
          replace hx1 := ite_lc hx1 hc3
          refine .seq ?_
          refine .plx Try.S hwn1 [] ?_
          have hq := Option.some.inj hx1
          subst x1
          try dsimp only at h
          have hq := Option.some.inj h
          subst r
          exact .ret ⟨.inr rfl, rsi⟩
        · skip
          replace hx1 := ite_rc hx1 hc3
          refine .skip ?_
          refine .plx Try.S hwn1 [0, 1, 5] ?_
          refine ⟨n1 + 1, ?_, ⟨by omega, hx1⟩, by dsimp only; omega⟩
          exact .m [0, 1, 5] [] []
      · skip
        have h2 : n1 = a.length := by have h2b := of_decide_eq_false hc2; omega
        rw [List.drop_of_length_le (by omega), m_towncrierref01_SameInts_loop1] at hx1
        refine .exit ?_
        refine ⟨_, ?_, (Option.some.inj hx1).symm⟩
        exact .m [] [] []
    · skip
      rintro ⟨⟩ hj1
      subst x1
      try dsimp only at h
      simp only [Try.St_towncrierref01_SameInts_1]
      refine .seq ?_
      refine .pl Try.S [] ?_
      have hq := Option.some.inj h
      subst r
      exact .ret ⟨.inr rfl, rsi⟩

def Try.St_towncrierref01_SameTexts_1 : St := ⟨[], [], 0⟩
attribute [local go_sem] Try.St_towncrierref01_SameTexts_1
def Try.St_towncrierref01_SameTexts_3 (a : List (List UInt8)) (b : List (List UInt8)) (n1 : Nat) : St := ⟨[(0, .imm 1 (a.map D.str) 4), (1, .imm 1 (b.map D.str) 4), (5, .int .i64 (n1 : Int))], [], 0⟩
attribute [local go_sem] Try.St_towncrierref01_SameTexts_3
theorem callP_towncrierref01_SameTexts (a : List (List UInt8)) (b : List (List UInt8)) (r : Bool) (h : m_towncrierref01_SameTexts a b = some r) : CallP Try.prog 37 [.imm 1 (a.map D.str) 4, .imm 1 (b.map D.str) 4] (.bool r) := by
  refine callP_intro Try.tmOk 2 Try.func37 rfl (by decide) rfl rfl (Nat.le_of_ble_eq_true rfl) ?_
  intro hwf
  unfold m_towncrierref01_SameTexts at h
  refine .seq ?_
  refine .pl Try.S [0, 1] ?_
  refine .seq ?_
  refine .seq ?_
  refine .pl Try.S [0, 1] ?_
  refine .cond rfl rfl (fun hc1 => ?_) (fun hc1 => ?_)
  · skip
    replace h := ite_lc h hc1
    refine .seq ?_
    refine .pl Try.S [] ?_
    have hq := Option.some.inj h
    subst r
    exact .ret ⟨.inr rfl, rsi⟩
  · skip
    replace h := ite_rc h hc1
    refine .skip ?_
    obtain ⟨x1, hx1, h⟩ := bind_some h
    refine .seqM 0 (fun (j : Unit) => Try.St_towncrierref01_SameTexts_1) (fun j => x1 = (.inr j)) (Nat.le_of_ble_eq_true rfl) ?_ ?_
    · skip
      refine .seq ?_
      refine .pl Try.S [0, 1] ?_
      refine .block ?_
      refine .loopG 0 (fun (j : Nat) => Try.St_towncrierref01_SameTexts_3 a b j) (fun j => j ≤ a.length ∧ m_towncrierref01_SameTexts_loop1 b (a.drop j) j  = some x1) (fun j => a.length - j) (0) (Nat.le_of_ble_eq_true rfl) ?_ ⟨Nat.zero_le _, hx1⟩ ?_
      · skip
        exact .m [0, 1, 5] [] []
      rintro n1 ⟨hi1, hx1⟩
      simp only [Try.St_towncrierref01_SameTexts_3]
      refine .wf 0 (.imm 1 (a.map D.str) 4) rfl ?_
      intro hln1
      replace hln1 : (a.length : Int) ≤ 9223372036854775807 := by simp only [wf, wfL, IntKind.max, IntKind.min, IntKind.signed, IntKind.bits, List.length_map] at hln1; first | exact hln1.2 | exact hln1.1 | (simp at hln1; omega)
      refine .seq ?_
      refine .seq ?_
      refine .pl Try.S [0, 1, 5] ?_
      refine .cond rfl rfl (fun hc2 => ?_) (fun hc2 => ?_)
      · skip
        have h1 : n1 < a.length := by simpa using hc2
        have hwn1 : wr .i64 ((n1 : Int) + 1) = ((n1 + 1 : Nat) : Int) := wr_succ h1 hln1
        have hpn1 : wr .i64 ((n1 : Int) - 1) = (n1 : Int) - 1 := wr_pred h1 hln1
        rw [List.drop_eq_getElem_cons h1, m_towncrierref01_SameTexts_loop1] at hx1
        refine .skip ?_
        refine .seq ?_
        refine .block ?_
        refine .seq ?_
        obtain ⟨k1, hx1⟩ := ite_ck hx1
        have e1 := nth_map D.str a n1 h1
        have e2 := nth_mapD D.str b n1
        replace e2 := e2 k1
        refine .rg Try.S [0, 1, 5] ?_
        refine .rdx 6 (And.intro e1 (And.intro e2 hwn1)) ?_
        refine .rdx 3 (And.intro e1 (And.intro e2 hwn1)) ?_
        refine .nil ⟨fun _ => schedB_of (by kernel_rfl), ?_⟩
        refine .cond rfl rfl (fun hc3 => ?_) (fun hc3 => ?_)
        · skip
          replace hx1 := ite_lc hx1 hc3
          refine .seq ?_
          refine .plx Try.S hwn1 [] ?_
          have hq := Option.some.inj hx1
          subst x1
          try dsimp only at h
          have hq := Option.some.inj h
          subst r
          exact .ret ⟨.inr rfl, rsi⟩
        · skip
          replace hx1 := ite_rc hx1 hc3
          refine .skip ?_
          refine .plx Try.S hwn1 [0, 1, 5] ?_
          refine ⟨n1 + 1, ?_, ⟨by omega, hx1⟩, by dsimp only; omega⟩
          exact .m [0, 1, 5] [] []
      · skip
        have h2 : n1 = a.length := by have h2b := of_decide_eq_false hc2; omega
        rw [List.drop_of_length_le (by omega), m_towncrierref01_SameTexts_loop1] at hx1
        refine .exit ?_
        refine ⟨_, ?_, (Option.some.inj hx1).symm⟩
        exact .m [] [] []
    · skip
      rintro ⟨⟩ hj1
      subst x1
      try dsimp only at h
      simp only [Try.St_towncrierref01_SameTexts_1]
      refine .seq ?_
      refine .pl Try.S [] ?_
      have hq := Option.some.inj h
      subst r
      exact .ret ⟨.inr rfl, rsi⟩

def Try.St_towncrierref01_Great_1 (l : List (List UInt8)) (n1 : Int) : St := ⟨[(0, .imm 1 (l.map D.str) 4), (3, .int .i64 n1)], [], 0⟩
attribute [local go_sem] Try.St_towncrierref01_Great_1
def Try.St_towncrierref01_Great_3 (l : List (List UInt8)) (n3 : Nat) (n2 : Int) : St := ⟨[(0, .imm 1 (l.map D.str) 4), (3, .int .i64 n2), (4, .int .i64 (n3 : Int))], [], 0⟩
attribute [local go_sem] Try.St_towncrierref01_Great_3
theorem callP_towncrierref01_Great (l : List (List UInt8)) (r : Bool) (h : m_towncrierref01_Great l = some r) : CallP Try.prog 14 [.imm 1 (l.map D.str) 4] (.bool r) := by
  refine callP_intro Try.tmOk 2 Try.func14 rfl (by decide) rfl rfl (Nat.le_of_ble_eq_true rfl) ?_
  intro hwf
  unfold m_towncrierref01_Great at h
  refine .seq ?_
  refine .pl Try.S [0] ?_
  refine .seq ?_
  refine .pl Try.S [0] ?_
  obtain ⟨x1, hx1, h⟩ := bind_some h
  refine .seqM 0 (fun (j : Int) => Try.St_towncrierref01_Great_1 l j) (fun j => x1 = j) (Nat.le_of_ble_eq_true rfl) ?_ ?_
  · skip
    refine .seq ?_
    refine .pl Try.S [0, 3] ?_
    refine .block ?_
    refine .loopG 0 (fun (j : Nat × Int) => Try.St_towncrierref01_Great_3 l j.1 j.2) (fun j => j.1 ≤ l.length ∧ m_towncrierref01_Great_loop1 (l.drop j.1) j.1 j.2 = some x1) (fun j => l.length - j.1) (0, 0) (Nat.le_of_ble_eq_true rfl) ?_ ⟨Nat.zero_le _, hx1⟩ ?_
    · skip
      exact .m [0, 3, 4] [] []
    rintro ⟨n3, n2⟩ ⟨hi1, hx1⟩
    simp only [Try.St_towncrierref01_Great_3]
    simp only at hi1 hx1
    refine .wf 0 (.imm 1 (l.map D.str) 4) rfl ?_
    intro hln3
    replace hln3 : (l.length : Int) ≤ 9223372036854775807 := by simp only [wf, wfL, IntKind.max, IntKind.min, IntKind.signed, IntKind.bits, List.length_map] at hln3; first | exact hln3.2 | exact hln3.1 | (simp at hln3; omega)
    refine .seq ?_
    refine .seq ?_
    refine .pl Try.S [0, 3, 4] ?_
    refine .cond rfl rfl (fun hc1 => ?_) (fun hc1 => ?_)
    · skip
      have h1 : n3 < l.length := by have hq := hc1; simp at hq; omega
      have hwn3 : wr .i64 ((n3 : Int) + 1) = ((n3 + 1 : Nat) : Int) := wr_succ h1 hln3
      have hpn3 : wr .i64 ((n3 : Int) - 1) = (n3 : Int) - 1 := wr_pred h1 hln3
      rw [List.drop_eq_getElem_cons h1, m_towncrierref01_Great_loop1_c] at hx1
      replace hx1 := ite_lc hx1 hc1
      refine .skip ?_
      refine .seq ?_
      refine .block ?_
      have e1 := nth_map D.str l n3 h1
      refine .rg Try.S [0, 3, 4] ?_
      refine .rnx 6 (And.intro e1 hwn3) ?_
      refine .rnx 3 (And.intro e1 hwn3) ?_
      refine .nil ⟨nofun, ?_⟩
      refine .plx Try.S hwn3 [0, 3, 4] ?_
      refine ⟨(n3 + 1, _), ?_, ⟨by omega, hx1⟩, by dsimp only; omega⟩
      exact .m [0, 3, 4] [] []
    · skip
      by_cases h2 : n3 < l.length
      · skip
        rw [List.drop_eq_getElem_cons h2, m_towncrierref01_Great_loop1_c] at hx1
        replace hx1 := ite_r hx1 (by have hq := hc1; simp at hq ⊢; first | exact hq (by omega) | omega | grind)
        refine .exit ?_
        refine ⟨_, ?_, (Option.some.inj hx1).symm⟩
        exact .m [0, 3] [] []
      · skip
        rw [List.drop_of_length_le (by omega), m_towncrierref01_Great_loop1_n] at hx1
        refine .exit ?_
        refine ⟨_, ?_, (Option.some.inj hx1).symm⟩
        exact .m [0, 3] [] []
  · skip
    rintro n1 hj1
    subst x1
    try dsimp only at h
    simp only [Try.St_towncrierref01_Great_1]
    refine .seq ?_
    refine .pl Try.S [0, 3] ?_
    have hq := Option.some.inj h
    subst r
    exact .ret ⟨.inr rfl, rsi⟩

def Try.St_slices_Index_int_int_1 : St := ⟨[], [], 0⟩
attribute [local go_sem] Try.St_slices_Index_int_int_1
def Try.St_slices_Index_int_int_3 (s : List Int) (v : Int) (n1 : Nat) : St := ⟨[(0, .imm 1 (s.map (D.int .i64)) 4), (1, .int .i64 v), (7, .int .i64 (s.length : Int)), (8, .int .i64 (n1 : Int))], [], 0⟩
attribute [local go_sem] Try.St_slices_Index_int_int_3
theorem callP_slices_Index_int_int (s : List Int) (v : Int) (r : Int) (h : m_slices_Index_int_int s v = some r) : CallP Try.prog 52 [.imm 1 (s.map (D.int .i64)) 4, .int .i64 v] (.int .i64 r) := by
  refine callP_intro Try.tmOk 2 Try.func52 rfl (by decide) rfl rfl (Nat.le_of_ble_eq_true rfl) ?_
  intro hwf
  unfold m_slices_Index_int_int at h
  refine .seq ?_
  refine .pl Try.S [0, 1] ?_
  obtain ⟨x1, hx1, h⟩ := bind_some h
  refine .seqM 0 (fun (j : Unit) => Try.St_slices_Index_int_int_1) (fun j => x1 = (.inr j)) (Nat.le_of_ble_eq_true rfl) ?_ ?_
  · skip
    refine .seq ?_
    refine .pl Try.S [0, 1] ?_
    refine .block ?_
    refine .loopG 0 (fun (j : Nat) => Try.St_slices_Index_int_int_3 s v j) (fun j => j ≤ s.length ∧ m_slices_Index_int_int_loop1 v (s.drop j) j  = some x1) (fun j => s.length - j) (0) (Nat.le_of_ble_eq_true rfl) ?_ ⟨Nat.zero_le _, hx1⟩ ?_
    · skip
      exact .m [0, 1, 7, 8] [] []
    rintro n1 ⟨hi1, hx1⟩
    simp only [Try.St_slices_Index_int_int_3]
    refine .wf 7 (.int .i64 (s.length : Int)) rfl ?_
    intro hln1
    replace hln1 : (s.length : Int) ≤ 9223372036854775807 := by simp only [wf, wfL, IntKind.max, IntKind.min, IntKind.signed, IntKind.bits, List.length_map] at hln1; first | exact hln1.2 | exact hln1.1 | (simp at hln1; omega)
    refine .seq ?_
    refine .pl Try.S [0, 1, 7, 8] ?_
    refine .seq ?_
    refine .cond rfl rfl (fun hc1 => ?_) (fun hc1 => ?_)
    · skip
      have h1 : n1 < s.length := by simpa using hc1
      have hwn1 : wr .i64 ((n1 : Int) + 1) = ((n1 + 1 : Nat) : Int) := wr_succ h1 hln1
      have hpn1 : wr .i64 ((n1 : Int) - 1) = (n1 : Int) - 1 := wr_pred h1 hln1
      rw [List.drop_eq_getElem_cons h1, m_slices_Index_int_int_loop1] at hx1
      refine .skip ?_
      refine .seq ?_
      refine .block ?_
      refine .seq ?_
      refine .plx Try.S hwn1 [0, 1, 7, 8] ?_
      refine .seq ?_
      have e1 := nth_map (D.int .i64) s n1 h1
      refine .plx Try.S (And.intro e1 hwn1) [0, 1, 5, 7, 8] ?_
      refine .cond rfl rfl (fun hc2 => ?_) (fun hc2 => ?_)
      · skip
        replace hx1 := ite_lc hx1 hc2
        refine .seq ?_
        refine .plx Try.S hwn1 [5] ?_
        have hq := Option.some.inj hx1
        subst x1
        try dsimp only at h
        have hq := Option.some.inj h
        subst r
        exact .ret ⟨.inr rfl, rsi⟩
      · skip
        replace hx1 := ite_rc hx1 hc2
        refine .skip ?_
        refine .plx Try.S hwn1 [0, 1, 7, 8] ?_
        refine ⟨n1 + 1, ?_, ⟨by omega, hx1⟩, by dsimp only; omega⟩
        exact .m [0, 1, 7, 8] [] []
    · skip
      have h2 : n1 = s.length := by have h2b := of_decide_eq_false hc1; omega
      rw [List.drop_of_length_le (by omega), m_slices_Index_int_int_loop1] at hx1
      refine .exit ?_
      refine ⟨_, ?_, (Option.some.inj hx1).symm⟩
      exact .m [] [] []
  · skip
    rintro ⟨⟩ hj1
    subst x1
    try dsimp only at h
    simp only [Try.St_slices_Index_int_int_1]
    refine .seq ?_
    refine .pl Try.S [] ?_
    have hq := Option.some.inj h
    subst r
    exact .ret ⟨.inr rfl, rsi⟩


theorem callP_slices_Contains_int_int (a0 : List Int) (a1 : Int) (r : Bool) (h : m_slices_Contains_int_int a0 a1 = some r) : CallP Try.prog 45 [.imm 1 (a0.map (D.int .i64)) 4, .int .i64 a1] (.bool r) := by
  refine callP_intro Try.tmOk 2 Try.func45 rfl (by decide) rfl rfl (Nat.le_of_ble_eq_true rfl) ?_
  intro hwf
  unfold m_slices_Contains_int_int at h
  refine .seq ?_
  refine .pl Try.S [0, 1] ?_
  refine .seq ?_
  obtain ⟨v1, hv1, h⟩ := bind_some h
  refine .rg Try.S [0, 1] ?_
  refine .rn 2 ?_
  refine .call (r := .int .i64 v1) rfl rfl rfl rfl rfl rfl (callP_slices_Index_int_int a0 a1 v1 hv1) ?_
  refine .rn 2 ?_
  refine .nil ⟨nofun, ?_⟩
  have hq := Option.some.inj h
  subst r
  exact .ret ⟨.inr rfl, rsi⟩


theorem callP_quorum_Has (a0 : List Int) (a1 : Int) (r : Bool) (h : m_quorum_Has a0 a1 = some r) : CallP Try.prog 31 [.imm 1 (a0.map (D.int .i64)) 4, .int .i64 a1] (.bool r) := by
  refine callP_intro Try.tmOk 2 Try.func31 rfl (by decide) rfl rfl (Nat.le_of_ble_eq_true rfl) ?_
  intro hwf
  unfold m_quorum_Has at h
  refine .seq ?_
  refine .pl Try.S [0, 1] ?_
  refine .seq ?_
  obtain ⟨v1, hv1, h⟩ := bind_some h
  refine .rg Try.S [0, 1] ?_
  refine .rn 2 ?_
  refine .call (r := .bool v1) rfl rfl rfl rfl rfl rfl (callP_slices_Contains_int_int a0 a1 v1 hv1) ?_
  refine .rn 1 ?_
  refine .nil ⟨nofun, ?_⟩
  have hq := Option.some.inj h
  subst r
  exact .ret ⟨.inr rfl, rsi⟩

def Try.St_quorum_Check_1 (n1 : Int) : St := ⟨[(3, .int .i64 n1)], [], 0⟩
attribute [local go_sem] Try.St_quorum_Check_1
def Try.St_quorum_Check_3 (a0 : List Int) (n3 : Nat) (n2 : Int) : St := ⟨[(3, .int .i64 n2), (9, .imm 1 (a0.map (D.int .i64)) 4), (10, .int .i64 (a0.length : Int)), (11, .int .i64 (n3 : Int))], [], 0⟩
attribute [local go_sem] Try.St_quorum_Check_3
theorem callP_quorum_Check (a0 : List Int) (r : Int) (h : m_quorum_Check a0 = some r) : CallP Try.prog 40 [.imm 1 (a0.map (D.int .i64)) 4] (.int .i64 r) := by
  refine callP_intro Try.tmOk 2 Try.func40 rfl (by decide) rfl rfl (Nat.le_of_ble_eq_true rfl) ?_
  intro hwf
  unfold m_quorum_Check at h
  refine .seq ?_
  refine .pl Try.S [0] ?_
  refine .seq ?_
  refine .seq ?_
  refine .pl Try.S [0] ?_
  refine .cond rfl rfl (fun hc1 => ?_) (fun hc1 => ?_)
  · skip
    replace h := ite_lc h hc1
    refine .seq ?_
    refine .pl Try.S [] ?_
    have hq := Option.some.inj h
    subst r
    exact .ret ⟨.inr rfl, rsi⟩
  · skip
    replace h := ite_rc h hc1
    refine .skip ?_
    refine .seq ?_
    refine .pl Try.S [0] ?_
    obtain ⟨x1, hx1, h⟩ := bind_some h
    refine .seqM 0 (fun (j : Int) => Try.St_quorum_Check_1 j) (fun j => x1 = (.inr j)) (Nat.le_of_ble_eq_true rfl) ?_ ?_
    · skip
      refine .seq ?_
      refine .pl Try.S [0, 3] ?_
      refine .block ?_
      refine .loopG 0 (fun (j : Nat × Int) => Try.St_quorum_Check_3 a0 j.1 j.2) (fun j => j.1 ≤ a0.length ∧ m_quorum_Check_loop1 (a0.drop j.1) j.2 = some x1) (fun j => a0.length - j.1) (0, (-1)) (Nat.le_of_ble_eq_true rfl) ?_ ⟨Nat.zero_le _, hx1⟩ ?_
      · skip
        exact .m [3, 9, 10, 11] [] []
      rintro ⟨n3, n2⟩ ⟨hi1, hx1⟩
      simp only [Try.St_quorum_Check_3]
      simp only at hi1 hx1
      refine .wf 10 (.int .i64 (a0.length : Int)) rfl ?_
      intro hln3
      replace hln3 : (a0.length : Int) ≤ 9223372036854775807 := by simp only [wf, wfL, IntKind.max, IntKind.min, IntKind.signed, IntKind.bits, List.length_map] at hln3; first | exact hln3.2 | exact hln3.1 | (simp at hln3; omega)
      refine .seq ?_
      refine .pl Try.S [3, 9, 10, 11] ?_
      refine .seq ?_
      refine .cond rfl rfl (fun hc2 => ?_) (fun hc2 => ?_)
      · skip
        have h1 : n3 < a0.length := by simpa using hc2
        have hwn3 : wr .i64 ((n3 : Int) + 1) = ((n3 + 1 : Nat) : Int) := wr_succ h1 hln3
        have hpn3 : wr .i64 ((n3 : Int) - 1) = (n3 : Int) - 1 := wr_pred h1 hln3
        rw [List.drop_eq_getElem_cons h1, m_quorum_Check_loop1] at hx1
        refine .skip ?_
        refine .seq ?_
        refine .block ?_
        refine .seq ?_
        have e1 := nth_map (D.int .i64) a0 n3 h1
        refine .plx Try.S (And.intro e1 hwn3) [3, 9, 10, 11] ?_
        refine .seq ?_
        refine .seq ?_
        refine .plx Try.S hwn3 [3, 5, 9, 10, 11] ?_
        refine .cond rfl rfl (fun hc3 => ?_) (fun hc3 => ?_)
        · skip
          replace hx1 := ite_lc hx1 hc3
          refine .seq ?_
          refine .plx Try.S hwn3 [] ?_
          have hq := Option.some.inj hx1
          subst x1
          try dsimp only at h
          have hq := Option.some.inj h
          subst r
          exact .ret ⟨.inr rfl, rsi⟩
        · skip
          replace hx1 := ite_rc hx1 hc3
          refine .skip ?_
          refine .plx Try.S hwn3 [5, 9, 10, 11] ?_
          refine .plx Try.S hwn3 [3, 9, 10, 11] ?_
          refine ⟨(n3 + 1, _), ?_, ⟨by omega, hx1⟩, by dsimp only; omega⟩
          exact .m [3, 9, 10, 11] [] []
      · skip
        have h2 : n3 = a0.length := by have h2b := of_decide_eq_false hc2; omega
        rw [List.drop_of_length_le (by omega), m_quorum_Check_loop1] at hx1
        refine .exit ?_
        refine ⟨_, ?_, (Option.some.inj hx1).symm⟩
        exact .m [3] [] []
    · skip
      rintro n1 hj1
      subst x1
      try dsimp only at h
      simp only [Try.St_quorum_Check_1]
      refine .seq ?_
      refine .seq ?_
      refine .pl Try.S [3] ?_
      refine .cond rfl rfl (fun hc4 => ?_) (fun hc4 => ?_)
      · skip
        replace h := ite_lc h hc4
        refine .seq ?_
        refine .pl Try.S [] ?_
        have hq := Option.some.inj h
        subst r
        exact .ret ⟨.inr rfl, rsi⟩
      · skip
        replace h := ite_rc h hc4
        refine .skip ?_
        refine .seq ?_
        refine .pl Try.S [] ?_
        have hq := Option.some.inj h
        subst r
        exact .ret ⟨.inr rfl, rsi⟩

def Try.St_quorum_set_1 (n1 : Int) : St := ⟨[(2, .int .u64 n1)], [], 0⟩
attribute [local go_sem] Try.St_quorum_set_1
def Try.St_quorum_set_3 (a0 : List Int) (n3 : Nat) (n2 : Int) : St := ⟨[(2, .int .u64 n2), (5, .imm 1 (a0.map (D.int .i64)) 4), (6, .int .i64 (a0.length : Int)), (7, .int .i64 (n3 : Int))], [], 0⟩
attribute [local go_sem] Try.St_quorum_set_3
def Try.St_quorum_set_5 (a0 : List Int) (n3 : Nat) (n4 : Int) : St := ⟨[(2, .int .u64 n4), (5, .imm 1 (a0.map (D.int .i64)) 4), (6, .int .i64 (a0.length : Int)), (7, .int .i64 (n3 : Int))], [], 0⟩
attribute [local go_sem] Try.St_quorum_set_5
theorem callP_quorum_set (a0 : List Int) (r : Int) (h : m_quorum_set a0 = some r) : CallP Try.prog 41 [.imm 1 (a0.map (D.int .i64)) 4] (.int .u64 r) := by
  refine callP_intro Try.tmOk 2 Try.func41 rfl (by decide) rfl rfl (Nat.le_of_ble_eq_true rfl) ?_
  intro hwf
  unfold m_quorum_set at h
  refine .seq ?_
  refine .pl Try.S [0] ?_
  obtain ⟨x1, hx1, h⟩ := bind_some h
  refine .seqM 0 (fun (j : Int) => Try.St_quorum_set_1 j) (fun j => x1 = j) (Nat.le_of_ble_eq_true rfl) ?_ ?_
  · skip
    refine .seq ?_
    refine .pl Try.S [0, 2] ?_
    refine .block ?_
    refine .loopG 0 (fun (j : Nat × Int) => Try.St_quorum_set_3 a0 j.1 j.2) (fun j => j.1 ≤ a0.length ∧ m_quorum_set_loop1 (a0.drop j.1) j.2 = some x1) (fun j => a0.length - j.1) (0, 0) (Nat.le_of_ble_eq_true rfl) ?_ ⟨Nat.zero_le _, hx1⟩ ?_
    · skip
      exact .m [2, 5, 6, 7] [] []
    rintro ⟨n3, n2⟩ ⟨hi1, hx1⟩
    simp only [Try.St_quorum_set_3]
    simp only at hi1 hx1
    refine .wf 6 (.int .i64 (a0.length : Int)) rfl ?_
    intro hln3
    replace hln3 : (a0.length : Int) ≤ 9223372036854775807 := by simp only [wf, wfL, IntKind.max, IntKind.min, IntKind.signed, IntKind.bits, List.length_map] at hln3; first | exact hln3.2 | exact hln3.1 | (simp at hln3; omega)
    refine .seq ?_
    refine .pl Try.S [2, 5, 6, 7] ?_
    refine .seq ?_
    refine .cond rfl rfl (fun hc1 => ?_) (fun hc1 => ?_)
    · skip
      have h1 : n3 < a0.length := by simpa using hc1
      have hwn3 : wr .i64 ((n3 : Int) + 1) = ((n3 + 1 : Nat) : Int) := wr_succ h1 hln3
      have hpn3 : wr .i64 ((n3 : Int) - 1) = (n3 : Int) - 1 := wr_pred h1 hln3
      rw [List.drop_eq_getElem_cons h1, m_quorum_set_loop1] at hx1
      refine .skip ?_
      obtain ⟨x2, hx2, hx1⟩ := bind_some hx1
      refine .seqM 0 (fun (j : Int) => Try.St_quorum_set_5 a0 n3 j) (fun j => x2 = j) (Nat.le_of_ble_eq_true rfl) ?_ ?_
      · skip
        refine .block ?_
        refine .seq ?_
        have e1 := nth_map (D.int .i64) a0 n3 h1
        refine .plx Try.S (And.intro e1 hwn3) [2, 5, 6, 7] ?_
        refine .seq ?_
        refine .plx Try.S hwn3 [2, 4, 5, 6, 7] ?_
        refine .cond rfl rfl (fun hc2 => ?_) (fun hc2 => ?_)
        · skip
          replace hx2 := ite_lc hx2 hc2
          obtain ⟨k1, hx2⟩ := ite_ck hx2
          refine .plx Try.S hwn3 [2, 4, 5, 6, 7] ?_
          refine ⟨_, ?_, (Option.some.inj hx2).symm⟩
          exact .m [2, 5, 6, 7] [] []
        · skip
          replace hx2 := ite_rc hx2 hc2
          refine .skip ?_
          refine ⟨_, ?_, (Option.some.inj hx2).symm⟩
          exact .m [2, 5, 6, 7] [] []
      · skip
        rintro n4 hj1
        subst x2
        try dsimp only at hx1
        simp only [Try.St_quorum_set_5]
        refine .plx Try.S hwn3 [2, 5, 6, 7] ?_
        refine ⟨(n3 + 1, _), ?_, ⟨by omega, hx1⟩, by dsimp only; omega⟩
        exact .m [2, 5, 6, 7] [] []
    · skip
      have h2 : n3 = a0.length := by have h2b := of_decide_eq_false hc1; omega
      rw [List.drop_of_length_le (by omega), m_quorum_set_loop1] at hx1
      refine .exit ?_
      refine ⟨_, ?_, (Option.some.inj hx1).symm⟩
      exact .m [2] [] []
  · skip
    rintro n1 hj2
    subst x1
    try dsimp only at h
    simp only [Try.St_quorum_set_1]
    refine .seq ?_
    refine .pl Try.S [2] ?_
    have hq := Option.some.inj h
    subst r
    exact .ret ⟨.inr rfl, rsi⟩

def Try.St_towncrierref06_Has_1 : St := ⟨[], [], 0⟩
attribute [local go_sem] Try.St_towncrierref06_Has_1
def Try.St_towncrierref06_Has_3 (a0 : List Int) (a1 : Int) (n1 : Nat) : St := ⟨[(0, .imm 1 (a0.map (D.int .i64)) 4), (1, .int .i64 a1), (5, .int .i64 (n1 : Int))], [], 0⟩
attribute [local go_sem] Try.St_towncrierref06_Has_3
theorem callP_towncrierref06_Has (a0 : List Int) (a1 : Int) (r : Bool) (h : m_towncrierref06_Has a0 a1 = some r) : CallP Try.prog 35 [.imm 1 (a0.map (D.int .i64)) 4, .int .i64 a1] (.bool r) := by
  refine callP_intro Try.tmOk 2 Try.func35 rfl (by decide) rfl rfl (Nat.le_of_ble_eq_true rfl) ?_
  intro hwf
  unfold m_towncrierref06_Has at h
  refine .seq ?_
  refine .pl Try.S [0, 1] ?_
  obtain ⟨x1, hx1, h⟩ := bind_some h
  refine .seqM 0 (fun (j : Unit) => Try.St_towncrierref06_Has_1) (fun j => x1 = (.inr j)) (Nat.le_of_ble_eq_true rfl) ?_ ?_
  · skip
    refine .seq ?_
    refine .pl Try.S [0, 1] ?_
    refine .block ?_
    refine .loopG 0 (fun (j : Nat) => Try.St_towncrierref06_Has_3 a0 a1 j) (fun j => j ≤ a0.length ∧ m_towncrierref06_Has_loop1 a1 (a0.drop j)  = some x1) (fun j => a0.length - j) (0) (Nat.le_of_ble_eq_true rfl) ?_ ⟨Nat.zero_le _, hx1⟩ ?_
    · skip
      exact .m [0, 1, 5] [] []
    rintro n1 ⟨hi1, hx1⟩
    simp only [Try.St_towncrierref06_Has_3]
    refine .wf 0 (.imm 1 (a0.map (D.int .i64)) 4) rfl ?_
    intro hln1
    replace hln1 : (a0.length : Int) ≤ 9223372036854775807 := by simp only [wf, wfL, IntKind.max, IntKind.min, IntKind.signed, IntKind.bits, List.length_map] at hln1; first | exact hln1.2 | exact hln1.1 | (simp at hln1; omega)
    refine .seq ?_
    refine .seq ?_
    refine .pl Try.S [0, 1, 5] ?_
    refine .cond rfl rfl (fun hc1 => ?_) (fun hc1 => ?_)
    · skip
      have h1 : n1 < a0.length := by simpa using hc1
      have hwn1 : wr .i64 ((n1 : Int) + 1) = ((n1 + 1 : Nat) : Int) := wr_succ h1 hln1
      have hpn1 : wr .i64 ((n1 : Int) - 1) = (n1 : Int) - 1 := wr_pred h1 hln1
      rw [List.drop_eq_getElem_cons h1, m_towncrierref06_Has_loop1] at hx1
      refine .skip ?_
      refine .seq ?_
      refine .block ?_
      refine .seq ?_
      have e1 := nth_map (D.int .i64) a0 n1 h1
      refine .plx Try.S (And.intro e1 hwn1) [0, 1, 5] ?_
      refine .cond rfl rfl (fun hc2 => ?_) (fun hc2 => ?_)
      · skip
        replace hx1 := ite_lc hx1 hc2
        refine .seq ?_
        refine .plx Try.S hwn1 [] ?_
        have hq := Option.some.inj hx1
        subst x1
        try dsimp only at h
        have hq := Option.some.inj h
        subst r
        exact .ret ⟨.inr rfl, rsi⟩
      · skip
        replace hx1 := ite_rc hx1 hc2
        refine .skip ?_
        refine .plx Try.S hwn1 [0, 1, 5] ?_
        refine ⟨n1 + 1, ?_, ⟨by omega, hx1⟩, by dsimp only; omega⟩
        exact .m [0, 1, 5] [] []
    · skip
      have h2 : n1 = a0.length := by have h2b := of_decide_eq_false hc1; omega
      rw [List.drop_of_length_le (by omega), m_towncrierref06_Has_loop1] at hx1
      refine .exit ?_
      refine ⟨_, ?_, (Option.some.inj hx1).symm⟩
      exact .m [] [] []
  · skip
    rintro ⟨⟩ hj1
    subst x1
    try dsimp only at h
    simp only [Try.St_towncrierref06_Has_1]
    refine .seq ?_
    refine .pl Try.S [] ?_
    have hq := Option.some.inj h
    subst r
    exact .ret ⟨.inr rfl, rsi⟩

def Try.St_towncrierref06_Within_1 : St := ⟨[], [], 0⟩
attribute [local go_sem] Try.St_towncrierref06_Within_1
def Try.St_towncrierref06_Within_3 (a0 : List Int) (a1 : List Int) (n1 : Nat) : St := ⟨[(0, .imm 1 (a0.map (D.int .i64)) 4), (1, .imm 1 (a1.map (D.int .i64)) 4), (5, .int .i64 (n1 : Int))], [], 0⟩
attribute [local go_sem] Try.St_towncrierref06_Within_3
theorem callP_towncrierref06_Within (a0 : List Int) (a1 : List Int) (r : Bool) (h : m_towncrierref06_Within a0 a1 = some r) : CallP Try.prog 54 [.imm 1 (a0.map (D.int .i64)) 4, .imm 1 (a1.map (D.int .i64)) 4] (.bool r) := by
  refine callP_intro Try.tmOk 2 Try.func54 rfl (by decide) rfl rfl (Nat.le_of_ble_eq_true rfl) ?_
  intro hwf
  unfold m_towncrierref06_Within at h
  refine .seq ?_
  refine .pl Try.S [0, 1] ?_
  obtain ⟨x1, hx1, h⟩ := bind_some h
  refine .seqM 0 (fun (j : Unit) => Try.St_towncrierref06_Within_1) (fun j => x1 = (.inr j)) (Nat.le_of_ble_eq_true rfl) ?_ ?_
  · skip
    refine .seq ?_
    refine .pl Try.S [0, 1] ?_
    refine .block ?_
    refine .loopG 0 (fun (j : Nat) => Try.St_towncrierref06_Within_3 a0 a1 j) (fun j => j ≤ a0.length ∧ m_towncrierref06_Within_loop1 a1 (a0.drop j)  = some x1) (fun j => a0.length - j) (0) (Nat.le_of_ble_eq_true rfl) ?_ ⟨Nat.zero_le _, hx1⟩ ?_
    · skip
      exact .m [0, 1, 5] [] []
    rintro n1 ⟨hi1, hx1⟩
    simp only [Try.St_towncrierref06_Within_3]
    refine .wf 0 (.imm 1 (a0.map (D.int .i64)) 4) rfl ?_
    intro hln1
    replace hln1 : (a0.length : Int) ≤ 9223372036854775807 := by simp only [wf, wfL, IntKind.max, IntKind.min, IntKind.signed, IntKind.bits, List.length_map] at hln1; first | exact hln1.2 | exact hln1.1 | (simp at hln1; omega)
    refine .seq ?_
    refine .seq ?_
    refine .pl Try.S [0, 1, 5] ?_
    refine .cond rfl rfl (fun hc1 => ?_) (fun hc1 => ?_)
    · skip
      have h1 : n1 < a0.length := by simpa using hc1
      have hwn1 : wr .i64 ((n1 : Int) + 1) = ((n1 + 1 : Nat) : Int) := wr_succ h1 hln1
      have hpn1 : wr .i64 ((n1 : Int) - 1) = (n1 : Int) - 1 := wr_pred h1 hln1
      rw [List.drop_eq_getElem_cons h1, m_towncrierref06_Within_loop1] at hx1
      refine .skip ?_
      refine .seq ?_
      refine .block ?_
      refine .seq ?_
      obtain ⟨v1, hv1, hx1⟩ := bind_some hx1
      have e1 := nth_map (D.int .i64) a0 n1 h1
      refine .rg Try.S [0, 1, 5] ?_
      refine .rnx 5 (And.intro e1 hwn1) ?_
      refine .call (r := .bool v1) rfl rfl rfl rfl rfl rfl (callP_towncrierref06_Has a1 (a0[n1]) v1 hv1) ?_
      refine .rnx 1 (And.intro e1 hwn1) ?_
      refine .nil ⟨nofun, ?_⟩
      refine .cond rfl rfl (fun hc2 => ?_) (fun hc2 => ?_)
      · skip
        replace hx1 := ite_lc hx1 hc2
        refine .seq ?_
        refine .plx Try.S hwn1 [] ?_
        have hq := Option.some.inj hx1
        subst x1
        try dsimp only at h
        have hq := Option.some.inj h
        subst r
        exact .ret ⟨.inr rfl, rsi⟩
      · skip
        replace hx1 := ite_rc hx1 hc2
        refine .skip ?_
        refine .plx Try.S hwn1 [0, 1, 5] ?_
        refine ⟨n1 + 1, ?_, ⟨by omega, hx1⟩, by dsimp only; omega⟩
        exact .m [0, 1, 5] [] []
    · skip
      have h2 : n1 = a0.length := by have h2b := of_decide_eq_false hc1; omega
      rw [List.drop_of_length_le (by omega), m_towncrierref06_Within_loop1] at hx1
      refine .exit ?_
      refine ⟨_, ?_, (Option.some.inj hx1).symm⟩
      exact .m [] [] []
  · skip
    rintro ⟨⟩ hj1
    subst x1
    try dsimp only at h
    simp only [Try.St_towncrierref06_Within_1]
    refine .seq ?_
    refine .pl Try.S [] ?_
    have hq := Option.some.inj h
    subst r
    exact .ret ⟨.inr rfl, rsi⟩

def Try.St_towncrierref06_May_1 (a0 : List Int) : St := ⟨[(0, .imm 1 (a0.map (D.int .i64)) 4)], [], 0⟩
attribute [local go_sem] Try.St_towncrierref06_May_1
def Try.St_towncrierref06_May_3 (a0 : List Int) (n1 : Nat) : St := ⟨[(0, .imm 1 (a0.map (D.int .i64)) 4), (3, .int .i64 (n1 : Int))], [], 0⟩
attribute [local go_sem] Try.St_towncrierref06_May_3
theorem callP_towncrierref06_May (a0 : List Int) (r : Bool) (h : m_towncrierref06_May a0 = some r) : CallP Try.prog 53 [.imm 1 (a0.map (D.int .i64)) 4] (.bool r) := by
  refine callP_intro Try.tmOk 2 Try.func53 rfl (by decide) rfl rfl (Nat.le_of_ble_eq_true rfl) ?_
  intro hwf
  unfold m_towncrierref06_May at h
  refine .seq ?_
  refine .pl Try.S [0] ?_
  obtain ⟨x1, hx1, h⟩ := bind_some h
  refine .seqM 0 (fun (j : Unit) => Try.St_towncrierref06_May_1 a0) (fun j => x1 = (.inr j)) (Nat.le_of_ble_eq_true rfl) ?_ ?_
  · skip
    refine .seq ?_
    refine .pl Try.S [0] ?_
    refine .block ?_
    refine .loopG 0 (fun (j : Nat) => Try.St_towncrierref06_May_3 a0 j) (fun j => j ≤ a0.length ∧ m_towncrierref06_May_loop1 a0 (a0.drop j) j  = some x1) (fun j => a0.length - j) (0) (Nat.le_of_ble_eq_true rfl) ?_ ⟨Nat.zero_le _, hx1⟩ ?_
    · skip
      exact .m [0, 3] [] []
    rintro n1 ⟨hi1, hx1⟩
    simp only [Try.St_towncrierref06_May_3]
    refine .wf 0 (.imm 1 (a0.map (D.int .i64)) 4) rfl ?_
    intro hln1
    replace hln1 : (a0.length : Int) ≤ 9223372036854775807 := by simp only [wf, wfL, IntKind.max, IntKind.min, IntKind.signed, IntKind.bits, List.length_map] at hln1; first | exact hln1.2 | exact hln1.1 | (simp at hln1; omega)
    refine .seq ?_
    refine .seq ?_
    refine .pl Try.S [0, 3] ?_
    refine .cond rfl rfl (fun hc1 => ?_) (fun hc1 => ?_)
    · skip
      have h1 : n1 < a0.length := by simpa using hc1
      have hwn1 : wr .i64 ((n1 : Int) + 1) = ((n1 + 1 : Nat) : Int) := wr_succ h1 hln1
      have hpn1 : wr .i64 ((n1 : Int) - 1) = (n1 : Int) - 1 := wr_pred h1 hln1
      rw [List.drop_eq_getElem_cons h1, m_towncrierref06_May_loop1] at hx1
      refine .skip ?_
      refine .seq ?_
      refine .block ?_
      refine .seq ?_
      have e1 := nth_map (D.int .i64) a0 n1 h1
      have e2 := nth_map (D.int .i64) a0 n1 h1
      have e3 := nth_map (D.int .i64) a0 n1 h1
      have e4 := nth_mapD (D.int .i64) a0 (n1 - 1) (by omega)
      refine .rg Try.S [0, 3] ?_
      refine .rdx 6 (And.intro e1 (And.intro e2 (And.intro e3 (And.intro e4 (And.intro hpn1 hwn1))))) ?_
      refine .rdx 6 (And.intro e1 (And.intro e2 (And.intro e3 (And.intro e4 (And.intro hpn1 hwn1))))) ?_
      refine .rdx 6 (And.intro e1 (And.intro e2 (And.intro e3 (And.intro e4 (And.intro hpn1 hwn1))))) ?_
      refine .rdx 6 (And.intro e1 (And.intro e2 (And.intro e3 (And.intro e4 (And.intro hpn1 hwn1))))) ?_
      refine .rdx 4 (And.intro e1 (And.intro e2 (And.intro e3 (And.intro e4 (And.intro hpn1 hwn1))))) ?_
      refine .nil ⟨fun _ => schedB_of (by kernel_rfl), ?_⟩
      refine .cond rfl rfl (fun hc2 => ?_) (fun hc2 => ?_)
      · skip
        replace hx1 := ite_lc hx1 hc2
        refine .seq ?_
        refine .plx Try.S hwn1 [] ?_
        have hq := Option.some.inj hx1
        subst x1
        try dsimp only at h
        have hq := Option.some.inj h
        subst r
        exact .ret ⟨.inr rfl, rsi⟩
      · skip
        replace hx1 := ite_rc hx1 hc2
        refine .skip ?_
        refine .plx Try.S hwn1 [0, 3] ?_
        refine ⟨n1 + 1, ?_, ⟨by omega, hx1⟩, by dsimp only; omega⟩
        exact .m [0, 3] [] []
    · skip
      have h2 : n1 = a0.length := by have h2b := of_decide_eq_false hc1; omega
      rw [List.drop_of_length_le (by omega), m_towncrierref06_May_loop1] at hx1
      refine .exit ?_
      refine ⟨_, ?_, (Option.some.inj hx1).symm⟩
      exact .m [0] [] []
  · skip
    rintro ⟨⟩ hj1
    subst x1
    try dsimp only at h
    simp only [Try.St_towncrierref06_May_1]
    refine .seq ?_
    refine .rg Try.S [0] ?_
    refine .rn 6 ?_
    refine .rn 3 ?_
    refine .nil ⟨nofun, ?_⟩
    have hq := Option.some.inj h
    subst r
    exact .ret ⟨.inr rfl, rsi⟩


theorem callP_towncrierref06_Check (a0 : List Int) (r : Int) (h : m_towncrierref06_Check a0 = some r) : CallP Try.prog 46 [.imm 1 (a0.map (D.int .i64)) 4] (.int .i64 r) := by
  refine callP_intro Try.tmOk 2 Try.func46 rfl (by decide) rfl rfl (Nat.le_of_ble_eq_true rfl) ?_
  intro hwf
  unfold m_towncrierref06_Check at h
  refine .seq ?_
  refine .pl Try.S [0] ?_
  refine .seq ?_
  refine .seq ?_
  refine .pl Try.S [0] ?_
  refine .cond rfl rfl (fun hc1 => ?_) (fun hc1 => ?_)
  · skip
    replace h := ite_lc h hc1
    refine .seq ?_
    refine .pl Try.S [] ?_
    have hq := Option.some.inj h
    subst r
    exact .ret ⟨.inr rfl, rsi⟩
  · skip
    replace h := ite_rc h hc1
    refine .skip ?_
    refine .seq ?_
    refine .seq ?_
    obtain ⟨v1, hv1, h⟩ := bind_some h
    refine .rg Try.S [0] ?_
    refine .rn 1 ?_
    refine .call (r := .bool v1) rfl rfl rfl rfl rfl rfl (callP_towncrierref06_May a0 v1 hv1) ?_
    refine .rn 1 ?_
    refine .nil ⟨nofun, ?_⟩
    refine .cond rfl rfl (fun hc2 => ?_) (fun hc2 => ?_)
    · skip
      replace h := ite_lc h hc2
      refine .seq ?_
      refine .pl Try.S [] ?_
      have hq := Option.some.inj h
      subst r
      exact .ret ⟨.inr rfl, rsi⟩
    · skip
      replace h := ite_rc h hc2
      refine .skip ?_
      refine .seq ?_
      refine .pl Try.S [] ?_
      have hq := Option.some.inj h
      subst r
      exact .ret ⟨.inr rfl, rsi⟩

def Try.St_towncrierref06_same_1 : St := ⟨[], [], 0⟩
attribute [local go_sem] Try.St_towncrierref06_same_1
def Try.St_towncrierref06_same_3 (a0 : List Int) (a1 : List Int) (n1 : Nat) : St := ⟨[(0, .imm 1 (a0.map (D.int .i64)) 4), (1, .imm 1 (a1.map (D.int .i64)) 4), (5, .int .i64 (n1 : Int))], [], 0⟩
attribute [local go_sem] Try.St_towncrierref06_same_3
theorem callP_towncrierref06_same (a0 : List Int) (a1 : List Int) (r : Bool) (h : m_towncrierref06_same a0 a1 = some r) : CallP Try.prog 49 [.imm 1 (a0.map (D.int .i64)) 4, .imm 1 (a1.map (D.int .i64)) 4] (.bool r) := by
  refine callP_intro Try.tmOk 2 Try.func49 rfl (by decide) rfl rfl (Nat.le_of_ble_eq_true rfl) ?_
  intro hwf
  unfold m_towncrierref06_same at h
  refine .seq ?_
  refine .pl Try.S [0, 1] ?_
  refine .seq ?_
  refine .seq ?_
  refine .pl Try.S [0, 1] ?_
  refine .cond rfl rfl (fun hc1 => ?_) (fun hc1 => ?_)
  · skip
    replace h := ite_lc h hc1
    refine .seq ?_
    refine .pl Try.S [] ?_
    have hq := Option.some.inj h
    subst r
    exact .ret ⟨.inr rfl, rsi⟩
  · skip
    replace h := ite_rc h hc1
    refine .skip ?_
    obtain ⟨x1, hx1, h⟩ := bind_some h
    refine .seqM 0 (fun (j : Unit) => Try.St_towncrierref06_same_1) (fun j => x1 = (.inr j)) (Nat.le_of_ble_eq_true rfl) ?_ ?_
    · skip
      refine .seq ?_
      refine .pl Try.S [0, 1] ?_
      refine .block ?_
      refine .loopG 0 (fun (j : Nat) => Try.St_towncrierref06_same_3 a0 a1 j) (fun j => j ≤ a0.length ∧ m_towncrierref06_same_loop1 a1 (a0.drop j) j  = some x1) (fun j => a0.length - j) (0) (Nat.le_of_ble_eq_true rfl) ?_ ⟨Nat.zero_le _, hx1⟩ ?_
      · skip
        exact .m [0, 1, 5] [] []
      rintro n1 ⟨hi1, hx1⟩
      simp only [Try.St_towncrierref06_same_3]
      refine .wf 0 (.imm 1 (a0.map (D.int .i64)) 4) rfl ?_
      intro hln1
      replace hln1 : (a0.length : Int) ≤ 9223372036854775807 := by simp only [wf, wfL, IntKind.max, IntKind.min, IntKind.signed, IntKind.bits, List.length_map] at hln1; first | exact hln1.2 | exact hln1.1 | (simp at hln1; omega)
      refine .seq ?_
      refine .seq ?_
      refine .pl Try.S [0, 1, 5] ?_
      refine .cond rfl rfl (fun hc2 => ?_) (fun hc2 => ?_)
      · skip
        have h1 : n1 < a0.length := by simpa using hc2
        have hwn1 : wr .i64 ((n1 : Int) + 1) = ((n1 + 1 : Nat) : Int) := wr_succ h1 hln1
        have hpn1 : wr .i64 ((n1 : Int) - 1) = (n1 : Int) - 1 := wr_pred h1 hln1
        rw [List.drop_eq_getElem_cons h1, m_towncrierref06_same_loop1] at hx1
        refine .skip ?_
        refine .seq ?_
        refine .block ?_
        refine .seq ?_
        obtain ⟨k1, hx1⟩ := ite_ck hx1
        have e1 := nth_map (D.int .i64) a0 n1 h1
        have e2 := nth_mapD (D.int .i64) a1 n1
        replace e2 := e2 k1
        refine .rg Try.S [0, 1, 5] ?_
        refine .rdx 6 (And.intro e1 (And.intro e2 hwn1)) ?_
        refine .rdx 3 (And.intro e1 (And.intro e2 hwn1)) ?_
        refine .nil ⟨fun _ => schedB_of (by kernel_rfl), ?_⟩
        refine .cond rfl rfl (fun hc3 => ?_) (fun hc3 => ?_)
        · skip
          replace hx1 := ite_lc hx1 hc3
          refine .seq ?_
          refine .plx Try.S hwn1 [] ?_
          have hq := Option.some.inj hx1
          subst x1
          try dsimp only at h
          have hq := Option.some.inj h
          subst r
          exact .ret ⟨.inr rfl, rsi⟩
        · skip
          replace hx1 := ite_rc hx1 hc3
          refine .skip ?_
          refine .plx Try.S hwn1 [0, 1, 5] ?_
          refine ⟨n1 + 1, ?_, ⟨by omega, hx1⟩, by dsimp only; omega⟩
          exact .m [0, 1, 5] [] []
      · skip
        have h2 : n1 = a0.length := by have h2b := of_decide_eq_false hc2; omega
        rw [List.drop_of_length_le (by omega), m_towncrierref06_same_loop1] at hx1
        refine .exit ?_
        refine ⟨_, ?_, (Option.some.inj hx1).symm⟩
        exact .m [] [] []
    · skip
      rintro ⟨⟩ hj1
      subst x1
      try dsimp only at h
      simp only [Try.St_towncrierref06_same_1]
      refine .seq ?_
      refine .pl Try.S [] ?_
      have hq := Option.some.inj h
      subst r
      exact .ret ⟨.inr rfl, rsi⟩


theorem callP_towncrierref06_SameGroup (a0 : TGroup) (a1 : TGroup) (r : Bool) (h : m_towncrierref06_SameGroup a0 a1 = some r) : CallP Try.prog 36 [.agg [.imm 1 (a0.Roster.map (D.int .i64)) 4, .imm 1 (a0.Members.map (D.int .i64)) 4], .agg [.imm 1 (a1.Roster.map (D.int .i64)) 4, .imm 1 (a1.Members.map (D.int .i64)) 4]] (.bool r) := by
  refine callP_intro Try.tmOk 4 Try.func36 rfl (by decide) rfl rfl (Nat.le_of_ble_eq_true rfl) ?_
  intro hwf
  unfold m_towncrierref06_SameGroup at h
  refine .seq ?_
  refine .pl Try.S [0, 1] ?_
  refine .seq ?_
  obtain ⟨v1, hv1, h⟩ := bind_some h
  obtain ⟨v2, hv2, h⟩ := bind_some h
  refine .rg Try.S [2, 3] ?_
  refine .rn 4 ?_
  refine .call (r := .bool v1) rfl rfl rfl rfl rfl rfl (callP_towncrierref06_same a0.Roster a1.Roster v1 hv1) ?_
  refine .rn 5 ?_
  refine .gcall (r := .bool v2) rfl rfl rfl rfl rfl (fun hg => ⟨[], [.imm 1 (a0.Members.map (D.int .i64)) 4, .imm 1 (a1.Members.map (D.int .i64)) 4], _, rfl, gd hg, rfl, (callP_towncrierref06_same a0.Members a1.Members v2 (ite_lc hv2 hg))⟩) ?_
  refine .rn 2 ?_
  refine .nil ⟨nofun, ?_⟩
  have hq := Option.some.inj h
  subst r
  exact .ret ⟨.inr rfl, rsi⟩


theorem callP_towncrierref06_MayGroup (a0 : TGroup) (r : Bool) (h : m_towncrierref06_MayGroup a0 = some r) : CallP Try.prog 47 [.agg [.imm 1 (a0.Roster.map (D.int .i64)) 4, .imm 1 (a0.Members.map (D.int .i64)) 4]] (.bool r) := by
  refine callP_intro Try.tmOk 3 Try.func47 rfl (by decide) rfl rfl (Nat.le_of_ble_eq_true rfl) ?_
  intro hwf
  unfold m_towncrierref06_MayGroup at h
  refine .seq ?_
  refine .pl Try.S [0] ?_
  refine .seq ?_
  obtain ⟨v1, hv1, h⟩ := bind_some h
  obtain ⟨v2, hv2, h⟩ := bind_some h
  obtain ⟨v3, hv3, h⟩ := bind_some h
  refine .rg Try.S [1] ?_
  refine .rn 2 ?_
  refine .call (r := .bool v1) rfl rfl rfl rfl rfl rfl (callP_towncrierref06_May a0.Roster v1 hv1) ?_
  refine .rn 3 ?_
  refine .gcall (r := .bool v2) rfl rfl rfl rfl rfl (fun hg => ⟨[], [.imm 1 (a0.Members.map (D.int .i64)) 4], _, rfl, gd hg, rfl, (callP_towncrierref06_May a0.Members v2 (ite_lc hv2 hg))⟩) ?_
  refine .rn 6 ?_
  refine .gcall (r := .bool v3) rfl rfl rfl rfl rfl (fun hg => ⟨[], [.imm 1 (a0.Members.map (D.int .i64)) 4, .imm 1 (a0.Roster.map (D.int .i64)) 4], _, rfl, gd hg, rfl, (callP_towncrierref06_Within a0.Members a0.Roster v3 (ite_lc hv3 hg))⟩) ?_
  refine .rn 2 ?_
  refine .nil ⟨nofun, ?_⟩
  have hq := Option.some.inj h
  subst r
  exact .ret ⟨.inr rfl, rsi⟩

def Try.St_towncrierref06_CheckGroup_1 (a0 : TGroup) (n1 : Int) : St := ⟨[(1, .ptr 0 0), (3, .int .i64 n1)], [(0, .box [.imm 1 (a0.Roster.map (D.int .i64)) 4, .imm 1 (a0.Members.map (D.int .i64)) 4])], 1⟩
attribute [local go_sem] Try.St_towncrierref06_CheckGroup_1
def Try.St_towncrierref06_CheckGroup_3 (n2 : Int) : St := ⟨[(3, .int .i64 n2)], [], 1⟩
attribute [local go_sem] Try.St_towncrierref06_CheckGroup_3
theorem callP_towncrierref06_CheckGroup (a0 : TGroup) (r : Int) (h : m_towncrierref06_CheckGroup a0 = some r) : CallP Try.prog 32 [.agg [.imm 1 (a0.Roster.map (D.int .i64)) 4, .imm 1 (a0.Members.map (D.int .i64)) 4]] (.int .i64 r) := by
  refine callP_intro Try.tmOk 3 Try.func32 rfl (by decide) rfl rfl (Nat.le_of_ble_eq_true rfl) ?_
  intro hwf
  unfold m_towncrierref06_CheckGroup at h
  refine .seq ?_
  refine .pl Try.S [0] ?_
  refine .seq ?_
  obtain ⟨v1, hv1, h⟩ := bind_some h
  refine .rg Try.S [1] ?_
  refine .rn 2 ?_
  refine .call (r := .int .i64 v1) rfl rfl rfl rfl rfl rfl (callP_towncrierref06_Check a0.Roster v1 hv1) ?_
  refine .rn 1 ?_
  refine .nil ⟨nofun, ?_⟩
  obtain ⟨x1, hx1, h⟩ := bind_some h
  refine .seqM 1 (fun (j : Int) => Try.St_towncrierref06_CheckGroup_1 a0 j) (fun j => x1 = j) (Nat.le_of_ble_eq_true rfl) ?_ ?_
  · skip
    refine .seq ?_
    refine .pl Try.S [1, 3] ?_
    refine .cond rfl rfl (fun hc1 => ?_) (fun hc1 => ?_)
    · skip
      replace hx1 := ite_lc hx1 hc1
      obtain ⟨v2, hv2, hx1⟩ := bind_some hx1
      refine .rg Try.S [1] ?_
      refine .rn 2 ?_
      refine .call (r := .int .i64 v2) rfl rfl rfl rfl rfl rfl (callP_towncrierref06_Check a0.Members v2 hv2) ?_
      refine .rn 1 ?_
      refine .nil ⟨nofun, ?_⟩
      refine ⟨_, ?_, (Option.some.inj hx1).symm⟩
      exact .m [1, 3] [0] []
    · skip
      replace hx1 := ite_rc hx1 hc1
      refine .skip ?_
      refine ⟨_, ?_, (Option.some.inj hx1).symm⟩
      exact .m [1, 3] [0] []
  · skip
    rintro n1 hj1
    subst x1
    try dsimp only at h
    simp only [Try.St_towncrierref06_CheckGroup_1]
    obtain ⟨x2, hx2, h⟩ := bind_some h
    refine .seqM 1 (fun (j : Int) => Try.St_towncrierref06_CheckGroup_3 j) (fun j => x2 = j) (Nat.le_of_ble_eq_true rfl) ?_ ?_
    · skip
      refine .seq ?_
      obtain ⟨v3, hv3, hx2⟩ := bind_some hx2
      refine .rg Try.S [1, 3] ?_
      refine .rn 4 ?_
      refine .gcall (r := .bool v3) rfl rfl rfl rfl rfl (fun hg => ⟨[], [.agg [.imm 1 (a0.Roster.map (D.int .i64)) 4, .imm 1 (a0.Members.map (D.int .i64)) 4]], _, rfl, gd hg, rfl, (callP_towncrierref06_MayGroup a0 v3 (ite_lc hv3 hg))⟩) ?_
      refine .rn 2 ?_
      refine .nil ⟨nofun, ?_⟩
      refine .cond rfl rfl (fun hc2 => ?_) (fun hc2 => ?_)
      · skip
        replace hx2 := ite_lc hx2 hc2
        refine .pl Try.S [] ?_
        refine ⟨_, ?_, (Option.some.inj hx2).symm⟩
        exact .m [3] [] []
      · skip
        replace hx2 := ite_rc hx2 hc2
        refine .skip ?_
        refine ⟨_, ?_, (Option.some.inj hx2).symm⟩
        exact .m [3] [] []
    · skip
      rintro n2 hj2
      subst x2
      try dsimp only at h
      simp only [Try.St_towncrierref06_CheckGroup_3]
      refine .seq ?_
      refine .pl Try.S [3] ?_
      have hq := Option.some.inj h
      subst r
      exact .ret ⟨.inr rfl, rsi⟩


theorem callP_towncrierref05_Node (a0 : Int) (r : Bool) (h : m_towncrierref05_Node a0 = some r) : CallP Try.prog 20 [.int .i64 a0] (.bool r) := by
  refine callP_intro Try.tmOk 2 Try.func20 rfl (by decide) rfl rfl (Nat.le_of_ble_eq_true rfl) ?_
  intro hwf
  unfold m_towncrierref05_Node at h
  refine .seq ?_
  refine .pl Try.S [0] ?_
  refine .seq ?_
  refine .pl Try.S [0] ?_
  have hq := Option.some.inj h
  subst r
  exact .ret ⟨.inr rfl, rsi⟩


theorem callP_quorum_CheckGroup (a0 : TGroup) (r : Int) (h : m_quorum_CheckGroup a0 = some r) : CallP Try.prog 27 [.agg [.imm 1 (a0.Roster.map (D.int .i64)) 4, .imm 1 (a0.Members.map (D.int .i64)) 4]] (.int .i64 r) := by
  refine callP_intro Try.tmOk 3 Try.func27 rfl (by decide) rfl rfl (Nat.le_of_ble_eq_true rfl) ?_
  intro hwf
  unfold m_quorum_CheckGroup at h
  refine .seq ?_
  refine .pl Try.S [0] ?_
  refine .seq ?_
  refine .seq ?_
  obtain ⟨v1, hv1, h⟩ := bind_some h
  refine .rg Try.S [1] ?_
  refine .rn 2 ?_
  refine .call (r := .int .i64 v1) rfl rfl rfl rfl rfl rfl (callP_quorum_Check a0.Roster v1 hv1) ?_
  refine .rn 1 ?_
  refine .nil ⟨nofun, ?_⟩
  refine .seq ?_
  refine .pl Try.S [1, 3] ?_
  refine .cond rfl rfl (fun hc1 => ?_) (fun hc1 => ?_)
  · skip
    replace h := ite_lc h hc1
    refine .seq ?_
    refine .pl Try.S [3] ?_
    have hq := Option.some.inj h
    subst r
    exact .ret ⟨.inr rfl, rsi⟩
  · skip
    replace h := ite_rc h hc1
    refine .skip ?_
    refine .seq ?_
    refine .seq ?_
    obtain ⟨v2, hv2, h⟩ := bind_some h
    refine .rg Try.S [1] ?_
    refine .rn 2 ?_
    refine .call (r := .int .i64 v2) rfl rfl rfl rfl rfl rfl (callP_quorum_Check a0.Members v2 hv2) ?_
    refine .rn 1 ?_
    refine .nil ⟨nofun, ?_⟩
    refine .seq ?_
    refine .pl Try.S [1, 4] ?_
    refine .cond rfl rfl (fun hc2 => ?_) (fun hc2 => ?_)
    · skip
      replace h := ite_lc h hc2
      refine .seq ?_
      refine .pl Try.S [4] ?_
      have hq := Option.some.inj h
      subst r
      exact .ret ⟨.inr rfl, rsi⟩
    · skip
      replace h := ite_rc h hc2
      refine .skip ?_
      refine .seq ?_
      refine .seq ?_
      obtain ⟨v3, hv3, h⟩ := bind_some h
      obtain ⟨v4, hv4, h⟩ := bind_some h
      refine .rg Try.S [1] ?_
      refine .rd 2 ?_
      refine .call (r := .int .u64 v3) rfl rfl rfl rfl rfl rfl (callP_quorum_set a0.Members v3 hv3) ?_
      refine .rd 2 ?_
      refine .call (r := .int .u64 v4) rfl rfl rfl rfl rfl rfl (callP_quorum_set a0.Roster v4 hv4) ?_
      refine .rd 2 ?_
      refine .nil ⟨fun _ => schedB_of (by kernel_rfl), ?_⟩
      refine .cond rfl rfl (fun hc3 => ?_) (fun hc3 => ?_)
      · skip
        replace h := ite_lc h hc3
        refine .seq ?_
        refine .pl Try.S [] ?_
        have hq := Option.some.inj h
        subst r
        exact .ret ⟨.inr rfl, rsi⟩
      · skip
        replace h := ite_rc h hc3
        refine .skip ?_
        refine .seq ?_
        refine .pl Try.S [] ?_
        have hq := Option.some.inj h
        subst r
        exact .ret ⟨.inr rfl, rsi⟩

def Try.St_towncrierref11_SameVotes_1 : St := ⟨[], [], 0⟩
attribute [local go_sem] Try.St_towncrierref11_SameVotes_1
def Try.St_towncrierref11_SameVotes_3 (a0 : List TSeen) (a1 : List TSeen) (n1 : Nat) : St := ⟨[(0, .imm 5 (a0.map TSeen.d) 4), (1, .imm 5 (a1.map TSeen.d) 4), (5, .int .i64 (n1 : Int))], [], 0⟩
attribute [local go_sem] Try.St_towncrierref11_SameVotes_3
theorem callP_towncrierref11_SameVotes (a0 : List TSeen) (a1 : List TSeen) (r : Bool) (h : m_towncrierref11_SameVotes a0 a1 = some r) : CallP Try.prog 38 [.imm 5 (a0.map TSeen.d) 4, .imm 5 (a1.map TSeen.d) 4] (.bool r) := by
  refine callP_intro Try.tmOk 2 Try.func38 rfl (by decide) rfl rfl (Nat.le_of_ble_eq_true rfl) ?_
  intro hwf
  unfold m_towncrierref11_SameVotes at h
  refine .seq ?_
  refine .pl Try.S [0, 1] ?_
  refine .seq ?_
  refine .seq ?_
  refine .pl Try.S [0, 1] ?_
  refine .cond rfl rfl (fun hc1 => ?_) (fun hc1 => ?_)
  · skip
    replace h := ite_lc h hc1
    refine .seq ?_
    refine .pl Try.S [] ?_
    have hq := Option.some.inj h
    subst r
    exact .ret ⟨.inr rfl, rsi⟩
  · skip
    replace h := ite_rc h hc1
    refine .skip ?_
    obtain ⟨x1, hx1, h⟩ := bind_some h
    refine .seqM 0 (fun (j : Unit) => Try.St_towncrierref11_SameVotes_1) (fun j => x1 = (.inr j)) (Nat.le_of_ble_eq_true rfl) ?_ ?_
    · skip
      refine .seq ?_
      refine .pl Try.S [0, 1] ?_
      refine .block ?_
      refine .loopG 0 (fun (j : Nat) => Try.St_towncrierref11_SameVotes_3 a0 a1 j) (fun j => j ≤ a0.length ∧ m_towncrierref11_SameVotes_loop1 a1 (a0.drop j) j  = some x1) (fun j => a0.length - j) (0) (Nat.le_of_ble_eq_true rfl) ?_ ⟨Nat.zero_le _, hx1⟩ ?_
      · skip
        exact .m [0, 1, 5] [] []
      rintro n1 ⟨hi1, hx1⟩
      simp only [Try.St_towncrierref11_SameVotes_3]
      refine .wf 0 (.imm 5 (a0.map TSeen.d) 4) rfl ?_
      intro hln1
      replace hln1 : (a0.length : Int) ≤ 9223372036854775807 := by simp only [wf, wfL, IntKind.max, IntKind.min, IntKind.signed, IntKind.bits, List.length_map] at hln1; first | exact hln1.2 | exact hln1.1 | (simp at hln1; omega)
      refine .seq ?_
      refine .seq ?_
      refine .pl Try.S [0, 1, 5] ?_
      refine .cond rfl rfl (fun hc2 => ?_) (fun hc2 => ?_)
      · skip
        have h1 : n1 < a0.length := by simpa using hc2
        have hwn1 : wr .i64 ((n1 : Int) + 1) = ((n1 + 1 : Nat) : Int) := wr_succ h1 hln1
        have hpn1 : wr .i64 ((n1 : Int) - 1) = (n1 : Int) - 1 := wr_pred h1 hln1
        rw [List.drop_eq_getElem_cons h1, m_towncrierref11_SameVotes_loop1] at hx1
        refine .skip ?_
        refine .seq ?_
        refine .block ?_
        refine .seq ?_
        obtain ⟨k1, hx1⟩ := ite_ck hx1
        have e1 := nth_map TSeen.d a0 n1 h1
        have e2 := nth_mapD TSeen.d a1 n1
        replace e2 := e2 k1
        refine .rg Try.S [0, 1, 5] ?_
        refine .rdx 6 (And.intro e1 (And.intro e2 hwn1)) ?_
        refine .rdx 3 (And.intro e1 (And.intro e2 hwn1)) ?_
        refine .nil ⟨fun _ => schedB_of (by kernel_rfl), ?_⟩
        refine .cond rfl rfl (fun hc3 => ?_) (fun hc3 => ?_)
        · skip
          replace hx1 := ite_lc hx1 hc3
          refine .seq ?_
          refine .plx Try.S hwn1 [] ?_
          have hq := Option.some.inj hx1
          subst x1
          try dsimp only at h
          have hq := Option.some.inj h
          subst r
          exact .ret ⟨.inr rfl, rsi⟩
        · skip
          replace hx1 := ite_rc hx1 hc3
          refine .skip ?_
          refine .plx Try.S hwn1 [0, 1, 5] ?_
          refine ⟨n1 + 1, ?_, ⟨by omega, hx1⟩, by dsimp only; omega⟩
          exact .m [0, 1, 5] [] []
      · skip
        have h2 : n1 = a0.length := by have h2b := of_decide_eq_false hc2; omega
        rw [List.drop_of_length_le (by omega), m_towncrierref11_SameVotes_loop1] at hx1
        refine .exit ?_
        refine ⟨_, ?_, (Option.some.inj hx1).symm⟩
        exact .m [] [] []
    · skip
      rintro ⟨⟩ hj1
      subst x1
      try dsimp only at h
      simp only [Try.St_towncrierref11_SameVotes_1]
      refine .seq ?_
      refine .pl Try.S [] ?_
      have hq := Option.some.inj h
      subst r
      exact .ret ⟨.inr rfl, rsi⟩

def Try.St_towncrierref08_Same_1 : St := ⟨[], [], 2⟩
attribute [local go_sem] Try.St_towncrierref08_Same_1
def Try.St_towncrierref08_Same_3 (a0 : TAttempt) (a1 : TAttempt) (n1 : Nat) : St := ⟨[(2, .ptr 0 0), (3, .ptr 1 0), (5, .int .i64 (n1 : Int))], [(0, .box [.int .u8 a0.Phase, .int .i64 a0.Ballot, .imm 1 (a0.Members.map (D.int .i64)) 4, .str a0.Wish, .str a0.Value, .imm 3 (a0.Promises.map TPromise.d) 4, .imm 1 (a0.Accepted.map (D.int .i64)) 4]), (1, .box [.int .u8 a1.Phase, .int .i64 a1.Ballot, .imm 1 (a1.Members.map (D.int .i64)) 4, .str a1.Wish, .str a1.Value, .imm 3 (a1.Promises.map TPromise.d) 4, .imm 1 (a1.Accepted.map (D.int .i64)) 4])], 2⟩
attribute [local go_sem] Try.St_towncrierref08_Same_3
theorem callP_towncrierref08_Same (a0 : TAttempt) (a1 : TAttempt) (r : Bool) (h : m_towncrierref08_Same a0 a1 = some r) : CallP Try.prog 39 [.agg [.int .u8 a0.Phase, .int .i64 a0.Ballot, .imm 1 (a0.Members.map (D.int .i64)) 4, .str a0.Wish, .str a0.Value, .imm 3 (a0.Promises.map TPromise.d) 4, .imm 1 (a0.Accepted.map (D.int .i64)) 4], .agg [.int .u8 a1.Phase, .int .i64 a1.Ballot, .imm 1 (a1.Members.map (D.int .i64)) 4, .str a1.Wish, .str a1.Value, .imm 3 (a1.Promises.map TPromise.d) 4, .imm 1 (a1.Accepted.map (D.int .i64)) 4]] (.bool r) := by
  refine callP_intro Try.tmOk 4 Try.func39 rfl (by decide) rfl rfl (Nat.le_of_ble_eq_true rfl) ?_
  intro hwf
  unfold m_towncrierref08_Same at h
  refine .seq ?_
  refine .pl Try.S [0, 1] ?_
  refine .seq ?_
  refine .seq ?_
  obtain ⟨v1, hv1, h⟩ := bind_some h
  obtain ⟨v2, hv2, h⟩ := bind_some h
  refine .rg Try.S [2, 3] ?_
  refine .rn 6 ?_
  refine .rn 6 ?_
  refine .rn 5 ?_
  refine .gcall (r := .bool v1) rfl rfl rfl rfl rfl (fun hg => ⟨[], [.imm 1 (a0.Members.map (D.int .i64)) 4, .imm 1 (a1.Members.map (D.int .i64)) 4], _, rfl, gd hg, rfl, (callP_towncrierref01_SameInts a0.Members a1.Members v1 (ite_lc hv1 hg))⟩) ?_
  refine .rn 6 ?_
  refine .rn 6 ?_
  refine .rn 6 ?_
  refine .rn 6 ?_
  refine .rn 6 ?_
  refine .gcall (r := .bool v2) rfl rfl rfl rfl rfl (fun hg => ⟨[], [.imm 1 (a0.Accepted.map (D.int .i64)) 4, .imm 1 (a1.Accepted.map (D.int .i64)) 4], _, rfl, gd hg, rfl, (callP_towncrierref01_SameInts a0.Accepted a1.Accepted v2 (ite_lc hv2 hg))⟩) ?_
  refine .rn 2 ?_
  refine .nil ⟨nofun, ?_⟩
  refine .cond rfl rfl (fun hc1 => ?_) (fun hc1 => ?_)
  · skip
    replace h := ite_lc h hc1
    refine .seq ?_
    refine .pl Try.S [] ?_
    have hq := Option.some.inj h
    subst r
    exact .ret ⟨.inr rfl, rsi⟩
  · skip
    replace h := ite_rc h hc1
    refine .skip ?_
    obtain ⟨x1, hx1, h⟩ := bind_some h
    refine .seqM 2 (fun (j : Unit) => Try.St_towncrierref08_Same_1) (fun j => x1 = (.inr j)) (Nat.le_of_ble_eq_true rfl) ?_ ?_
    · skip
      refine .seq ?_
      refine .pl Try.S [2, 3] ?_
      refine .block ?_
      refine .loopG 2 (fun (j : Nat) => Try.St_towncrierref08_Same_3 a0 a1 j) (fun j => j ≤ a0.Promises.length ∧ m_towncrierref08_Same_loop1 a1 (a0.Promises.drop j) j  = some x1) (fun j => a0.Promises.length - j) (0) (Nat.le_of_ble_eq_true rfl) ?_ ⟨Nat.zero_le _, hx1⟩ ?_
      · skip
        exact .m [2, 3, 5] [0, 1] []
      rintro n1 ⟨hi1, hx1⟩
      simp only [Try.St_towncrierref08_Same_3]
      refine .wfb 0 [.int .u8 a0.Phase, .int .i64 a0.Ballot, .imm 1 (a0.Members.map (D.int .i64)) 4, .str a0.Wish, .str a0.Value, .imm 3 (a0.Promises.map TPromise.d) 4, .imm 1 (a0.Accepted.map (D.int .i64)) 4] rfl ?_
      intro hln1
      replace hln1 : (a0.Promises.length : Int) ≤ 9223372036854775807 := by simp only [wf, wfL, IntKind.max, IntKind.min, IntKind.signed, IntKind.bits, List.length_map] at hln1; first | exact hln1.2 | exact hln1.1 | (simp at hln1; omega)
      refine .seq ?_
      refine .seq ?_
      refine .pl Try.S [2, 3, 5] ?_
      refine .cond rfl rfl (fun hc2 => ?_) (fun hc2 => ?_)
      · skip
        have h1 : n1 < a0.Promises.length := by simpa using hc2
        have hwn1 : wr .i64 ((n1 : Int) + 1) = ((n1 + 1 : Nat) : Int) := wr_succ h1 hln1
        have hpn1 : wr .i64 ((n1 : Int) - 1) = (n1 : Int) - 1 := wr_pred h1 hln1
        rw [List.drop_eq_getElem_cons h1, m_towncrierref08_Same_loop1] at hx1
        refine .skip ?_
        refine .seq ?_
        refine .block ?_
        refine .seq ?_
        obtain ⟨k1, hx1⟩ := ite_ck hx1
        have e1 := nth_map TPromise.d a0.Promises n1 h1
        have e2 := nth_mapD TPromise.d a1.Promises n1
        replace e2 := e2 k1
        refine .rg Try.S [2, 3, 5] ?_
        refine .rdx 6 (And.intro e1 (And.intro e2 hwn1)) ?_
        refine .rdx 5 (And.intro e1 (And.intro e2 hwn1)) ?_
        refine .nil ⟨fun _ => schedB_of (by kernel_rfl), ?_⟩
        refine .cond rfl rfl (fun hc3 => ?_) (fun hc3 => ?_)
        · skip
          replace hx1 := ite_lc hx1 hc3
          refine .seq ?_
          refine .plx Try.S hwn1 [] ?_
          have hq := Option.some.inj hx1
          subst x1
          try dsimp only at h
          have hq := Option.some.inj h
          subst r
          exact .ret ⟨.inr rfl, rsi⟩
        · skip
          replace hx1 := ite_rc hx1 hc3
          refine .skip ?_
          refine .plx Try.S hwn1 [2, 3, 5] ?_
          refine ⟨n1 + 1, ?_, ⟨by omega, hx1⟩, by dsimp only; omega⟩
          exact .m [2, 3, 5] [0, 1] []
      · skip
        have h2 : n1 = a0.Promises.length := by have h2b := of_decide_eq_false hc2; omega
        rw [List.drop_of_length_le (by omega), m_towncrierref08_Same_loop1] at hx1
        refine .exit ?_
        refine ⟨_, ?_, (Option.some.inj hx1).symm⟩
        exact .m [] [] []
    · skip
      rintro ⟨⟩ hj1
      subst x1
      try dsimp only at h
      simp only [Try.St_towncrierref08_Same_1]
      refine .seq ?_
      refine .pl Try.S [] ?_
      have hq := Option.some.inj h
      subst r
      exact .ret ⟨.inr rfl, rsi⟩

def Try.St_towncrierref08_Great_1 (a0 : TAttempt) (n1 : Int) : St := ⟨[(1, .ptr 0 0), (3, .int .i64 n1)], [(0, .box [.int .u8 a0.Phase, .int .i64 a0.Ballot, .imm 1 (a0.Members.map (D.int .i64)) 4, .str a0.Wish, .str a0.Value, .imm 3 (a0.Promises.map TPromise.d) 4, .imm 1 (a0.Accepted.map (D.int .i64)) 4])], 1⟩
attribute [local go_sem] Try.St_towncrierref08_Great_1
def Try.St_towncrierref08_Great_3 (a0 : TAttempt) (n3 : Nat) (n2 : Int) : St := ⟨[(1, .ptr 0 0), (3, .int .i64 n2), (4, .int .i64 (n3 : Int))], [(0, .box [.int .u8 a0.Phase, .int .i64 a0.Ballot, .imm 1 (a0.Members.map (D.int .i64)) 4, .str a0.Wish, .str a0.Value, .imm 3 (a0.Promises.map TPromise.d) 4, .imm 1 (a0.Accepted.map (D.int .i64)) 4])], 1⟩
attribute [local go_sem] Try.St_towncrierref08_Great_3
theorem callP_towncrierref08_Great (a0 : TAttempt) (r : Bool) (h : m_towncrierref08_Great a0 = some r) : CallP Try.prog 15 [.agg [.int .u8 a0.Phase, .int .i64 a0.Ballot, .imm 1 (a0.Members.map (D.int .i64)) 4, .str a0.Wish, .str a0.Value, .imm 3 (a0.Promises.map TPromise.d) 4, .imm 1 (a0.Accepted.map (D.int .i64)) 4]] (.bool r) := by
  refine callP_intro Try.tmOk 3 Try.func15 rfl (by decide) rfl rfl (Nat.le_of_ble_eq_true rfl) ?_
  intro hwf
  unfold m_towncrierref08_Great at h
  refine .seq ?_
  refine .pl Try.S [0] ?_
  refine .seq ?_
  refine .pl Try.S [1] ?_
  obtain ⟨x1, hx1, h⟩ := bind_some h
  refine .seqM 1 (fun (j : Int) => Try.St_towncrierref08_Great_1 a0 j) (fun j => x1 = j) (Nat.le_of_ble_eq_true rfl) ?_ ?_
  · skip
    refine .seq ?_
    refine .pl Try.S [1, 3] ?_
    refine .block ?_
    refine .loopG 1 (fun (j : Nat × Int) => Try.St_towncrierref08_Great_3 a0 j.1 j.2) (fun j => j.1 ≤ a0.Promises.length ∧ m_towncrierref08_Great_loop1 (a0.Promises.drop j.1) j.1 j.2 = some x1) (fun j => a0.Promises.length - j.1) (0, (wr .i64 ((a0.Wish.length : Int) + (a0.Value.length : Int)))) (Nat.le_of_ble_eq_true rfl) ?_ ⟨Nat.zero_le _, hx1⟩ ?_
    · skip
      exact .m [1, 3, 4] [0] []
    rintro ⟨n3, n2⟩ ⟨hi1, hx1⟩
    simp only [Try.St_towncrierref08_Great_3]
    simp only at hi1 hx1
    refine .wfb 0 [.int .u8 a0.Phase, .int .i64 a0.Ballot, .imm 1 (a0.Members.map (D.int .i64)) 4, .str a0.Wish, .str a0.Value, .imm 3 (a0.Promises.map TPromise.d) 4, .imm 1 (a0.Accepted.map (D.int .i64)) 4] rfl ?_
    intro hln3
    replace hln3 : (a0.Promises.length : Int) ≤ 9223372036854775807 := by simp only [wf, wfL, IntKind.max, IntKind.min, IntKind.signed, IntKind.bits, List.length_map] at hln3; first | exact hln3.2 | exact hln3.1 | (simp at hln3; omega)
    refine .seq ?_
    refine .seq ?_
    refine .rg Try.S [1, 3, 4] ?_
    refine .rn 6 ?_
    refine .rn 3 ?_
    refine .nil ⟨nofun, ?_⟩
    refine .cond rfl rfl (fun hc1 => ?_) (fun hc1 => ?_)
    · skip
      have h1 : n3 < a0.Promises.length := by have hq := hc1; simp at hq; omega
      have hwn3 : wr .i64 ((n3 : Int) + 1) = ((n3 + 1 : Nat) : Int) := wr_succ h1 hln3
      have hpn3 : wr .i64 ((n3 : Int) - 1) = (n3 : Int) - 1 := wr_pred h1 hln3
      rw [List.drop_eq_getElem_cons h1, m_towncrierref08_Great_loop1_c] at hx1
      replace hx1 := ite_lc hx1 hc1
      refine .skip ?_
      refine .seq ?_
      refine .block ?_
      have e1 := nth_map TPromise.d a0.Promises n3 h1
      refine .rg Try.S [1, 3, 4] ?_
      refine .rnx 6 (And.intro e1 hwn3) ?_
      refine .rnx 5 (And.intro e1 hwn3) ?_
      refine .nil ⟨nofun, ?_⟩
      refine .plx Try.S hwn3 [1, 3, 4] ?_
      refine ⟨(n3 + 1, _), ?_, ⟨by omega, hx1⟩, by dsimp only; omega⟩
      exact .m [1, 3, 4] [0] []
    · skip
      by_cases h2 : n3 < a0.Promises.length
      · skip
        rw [List.drop_eq_getElem_cons h2, m_towncrierref08_Great_loop1_c] at hx1
        replace hx1 := ite_r hx1 (by have hq := hc1; simp at hq ⊢; first | exact hq (by omega) | omega | grind)
        refine .exit ?_
        refine ⟨_, ?_, (Option.some.inj hx1).symm⟩
        exact .m [1, 3] [0] []
      · skip
        rw [List.drop_of_length_le (by omega), m_towncrierref08_Great_loop1_n] at hx1
        refine .exit ?_
        refine ⟨_, ?_, (Option.some.inj hx1).symm⟩
        exact .m [1, 3] [0] []
  · skip
    rintro n1 hj1
    subst x1
    try dsimp only at h
    simp only [Try.St_towncrierref08_Great_1]
    refine .seq ?_
    refine .rg Try.S [1, 3] ?_
    refine .rn 6 ?_
    refine .rn 6 ?_
    refine .rn 6 ?_
    refine .rn 3 ?_
    refine .nil ⟨nofun, ?_⟩
    have hq := Option.some.inj h
    subst r
    exact .ret ⟨.inr rfl, rsi⟩

def Try.St_towncrierref03_Same_1 : St := ⟨[], [], 2⟩
attribute [local go_sem] Try.St_towncrierref03_Same_1
def Try.St_towncrierref03_Same_3 (a0 : TDisk) (a1 : TDisk) (n1 : Nat) : St := ⟨[(2, .ptr 0 0), (3, .ptr 1 0), (5, .int .i64 (n1 : Int))], [(0, .box [.imm 1 (a0.Data.map (D.int .u8)) 4, .imm 2 (a0.Wait.map TPut.d) 4]), (1, .box [.imm 1 (a1.Data.map (D.int .u8)) 4, .imm 2 (a1.Wait.map TPut.d) 4])], 2⟩
attribute [local go_sem] Try.St_towncrierref03_Same_3
theorem callP_towncrierref03_Same (a0 : TDisk) (a1 : TDisk) (r : Bool) (h : m_towncrierref03_Same a0 a1 = some r) : CallP Try.prog 12 [.agg [.imm 1 (a0.Data.map (D.int .u8)) 4, .imm 2 (a0.Wait.map TPut.d) 4], .agg [.imm 1 (a1.Data.map (D.int .u8)) 4, .imm 2 (a1.Wait.map TPut.d) 4]] (.bool r) := by
  refine callP_intro Try.tmOk 4 Try.func12 rfl (by decide) rfl rfl (Nat.le_of_ble_eq_true rfl) ?_
  intro hwf
  unfold m_towncrierref03_Same at h
  refine .seq ?_
  refine .pl Try.S [0, 1] ?_
  refine .seq ?_
  refine .seq ?_
  refine .rg Try.S [2, 3] ?_
  refine .rn 6 ?_
  refine .rn 6 ?_
  refine .rn 4 ?_
  refine .nil ⟨nofun, ?_⟩
  refine .cond rfl rfl (fun hc1 => ?_) (fun hc1 => ?_)
  · skip
    replace h := ite_lc h hc1
    refine .seq ?_
    refine .pl Try.S [] ?_
    have hq := Option.some.inj h
    subst r
    exact .ret ⟨.inr rfl, rsi⟩
  · skip
    replace h := ite_rc h hc1
    refine .skip ?_
    obtain ⟨x1, hx1, h⟩ := bind_some h
    refine .seqM 2 (fun (j : Unit) => Try.St_towncrierref03_Same_1) (fun j => x1 = (.inr j)) (Nat.le_of_ble_eq_true rfl) ?_ ?_
    · skip
      refine .seq ?_
      refine .pl Try.S [2, 3] ?_
      refine .block ?_
      refine .loopG 2 (fun (j : Nat) => Try.St_towncrierref03_Same_3 a0 a1 j) (fun j => j ≤ a0.Wait.length ∧ m_towncrierref03_Same_loop1 a1 (a0.Wait.drop j) j  = some x1) (fun j => a0.Wait.length - j) (0) (Nat.le_of_ble_eq_true rfl) ?_ ⟨Nat.zero_le _, hx1⟩ ?_
      · skip
        exact .m [2, 3, 5] [0, 1] []
      rintro n1 ⟨hi1, hx1⟩
      simp only [Try.St_towncrierref03_Same_3]
      refine .wfb 0 [.imm 1 (a0.Data.map (D.int .u8)) 4, .imm 2 (a0.Wait.map TPut.d) 4] rfl ?_
      intro hln1
      replace hln1 : (a0.Wait.length : Int) ≤ 9223372036854775807 := by simp only [wf, wfL, IntKind.max, IntKind.min, IntKind.signed, IntKind.bits, List.length_map] at hln1; first | exact hln1.2 | exact hln1.1 | (simp at hln1; omega)
      refine .seq ?_
      refine .seq ?_
      refine .pl Try.S [2, 3, 5] ?_
      refine .cond rfl rfl (fun hc2 => ?_) (fun hc2 => ?_)
      · skip
        have h1 : n1 < a0.Wait.length := by simpa using hc2
        have hwn1 : wr .i64 ((n1 : Int) + 1) = ((n1 + 1 : Nat) : Int) := wr_succ h1 hln1
        have hpn1 : wr .i64 ((n1 : Int) - 1) = (n1 : Int) - 1 := wr_pred h1 hln1
        rw [List.drop_eq_getElem_cons h1, m_towncrierref03_Same_loop1] at hx1
        refine .skip ?_
        refine .seq ?_
        refine .block ?_
        obtain ⟨k1, hx1⟩ := ite_ck hx1
        obtain ⟨k2, hx1⟩ := ite_ck hx1
        refine .seqM 2 (fun (_ : Unit) => ⟨[(2, .ptr 0 0), (3, .ptr 1 0), (5, .int .i64 (n1 : Int)), (58, .bool ((!(a0.Wait[n1].Swap == (a1.Wait.getD n1 default).Swap)) || (!((toBytes (a0.Wait[n1].Data)) == (toBytes ((a1.Wait.getD n1 default).Data))))))], [(0, .box [.imm 1 (a0.Data.map (D.int .u8)) 4, .imm 2 (a0.Wait.map TPut.d) 4]), (1, .box [.imm 1 (a1.Data.map (D.int .u8)) 4, .imm 2 (a1.Wait.map TPut.d) 4])], 2⟩) (fun _ => True) (Nat.le_of_ble_eq_true rfl) ?_ (fun _ _ => ?_)
        · skip
          by_cases hgd : ¬ ((!(a0.Wait[n1].Swap == (a1.Wait.getD n1 default).Swap)) = true)
          · skip
            have eg10 := nth_mapD TPut.d a1.Wait n1 (k2 hgd)
            have e1 := nth_map TPut.d a0.Wait n1 h1
            have e2 := nth_mapD TPut.d a1.Wait n1
            have e3 := nth_map TPut.d a0.Wait n1 h1
            replace e2 := e2 k1
            refine .rg Try.S [2, 3, 5] ?_
            refine .rdx 6 (And.intro e1 (And.intro e2 (And.intro e3 (And.intro eg10 hwn1)))) ?_
            refine .rdx 6 (And.intro e1 (And.intro e2 (And.intro e3 (And.intro eg10 hwn1)))) ?_
            refine .rdx 6 (And.intro e1 (And.intro e2 (And.intro e3 (And.intro eg10 hwn1)))) ?_
            refine .rdx 6 (And.intro e1 (And.intro e2 (And.intro e3 (And.intro eg10 hwn1)))) ?_
            refine .rdx 6 (And.intro e1 (And.intro e2 (And.intro e3 (And.intro eg10 hwn1)))) ?_
            refine .nil ⟨fun _ => schedB_of (by kernel_rfl), ?_⟩
            refine ⟨(), ?_, trivial⟩
            exact .m [2, 3, 5, 58] [0, 1] []
          · skip
            have hgf1 : (!(!(a0.Wait[n1].Swap == (a1.Wait.getD n1 default).Swap))) = false := by first | simpa using hgd | (simp at hgd ⊢; omega) | grind
            have hgf1t : (!(a0.Wait[n1].Swap == (a1.Wait.getD n1 default).Swap)) = true := by simpa using hgf1
            rcases nth_or TPut.d a1.Wait n1 with eg10 | eg10
            · skip
              have e1 := nth_map TPut.d a0.Wait n1 h1
              have e2 := nth_mapD TPut.d a1.Wait n1
              have e3 := nth_map TPut.d a0.Wait n1 h1
              replace e2 := e2 k1
              refine .rg Try.S [2, 3, 5] ?_
              refine .rdx 6 (And.intro e1 (And.intro e2 (And.intro e3 (And.intro eg10 (And.intro hgf1 (And.intro hgf1t hwn1)))))) ?_
              refine .rdx 6 (And.intro e1 (And.intro e2 (And.intro e3 (And.intro eg10 (And.intro hgf1 (And.intro hgf1t hwn1)))))) ?_
              refine .rdx 6 (And.intro e1 (And.intro e2 (And.intro e3 (And.intro eg10 (And.intro hgf1 (And.intro hgf1t hwn1)))))) ?_
              refine .rdx 6 (And.intro e1 (And.intro e2 (And.intro e3 (And.intro eg10 (And.intro hgf1 (And.intro hgf1t hwn1)))))) ?_
              refine .rdx 6 (And.intro e1 (And.intro e2 (And.intro e3 (And.intro eg10 (And.intro hgf1 (And.intro hgf1t hwn1)))))) ?_
              refine .nil ⟨fun _ => schedB_of (by kernel_rfl), ?_⟩
              refine ⟨(), ?_, trivial⟩
              exact .mx (And.intro hgf1 hgf1t) [2, 3, 5, 58] [0, 1] []
            · skip
              have e1 := nth_map TPut.d a0.Wait n1 h1
              have e2 := nth_mapD TPut.d a1.Wait n1
              have e3 := nth_map TPut.d a0.Wait n1 h1
              replace e2 := e2 k1
              refine .rg Try.S [2, 3, 5] ?_
              refine .rdx 6 (And.intro e1 (And.intro e2 (And.intro e3 (And.intro eg10 (And.intro hgf1 (And.intro hgf1t hwn1)))))) ?_
              refine .rdx 6 (And.intro e1 (And.intro e2 (And.intro e3 (And.intro eg10 (And.intro hgf1 (And.intro hgf1t hwn1)))))) ?_
              refine .rdx 6 (And.intro e1 (And.intro e2 (And.intro e3 (And.intro eg10 (And.intro hgf1 (And.intro hgf1t hwn1)))))) ?_
              refine .rdx 6 (And.intro e1 (And.intro e2 (And.intro e3 (And.intro eg10 (And.intro hgf1 (And.intro hgf1t hwn1)))))) ?_
              refine .rdx 6 (And.intro e1 (And.intro e2 (And.intro e3 (And.intro eg10 (And.intro hgf1 (And.intro hgf1t hwn1)))))) ?_
              refine .nil ⟨fun _ => schedB_of (by kernel_rfl), ?_⟩
              refine ⟨(), ?_, trivial⟩
              exact .mx (And.intro hgf1 hgf1t) [2, 3, 5, 58] [0, 1] []
        refine .cond rfl rfl (fun hc3 => ?_) (fun hc3 => ?_)
        · skip
          replace hx1 := ite_lc hx1 hc3
          refine .seq ?_
          refine .plx Try.S hwn1 [] ?_
          have hq := Option.some.inj hx1
          subst x1
          try dsimp only at h
          have hq := Option.some.inj h
          subst r
          exact .ret ⟨.inr rfl, rsi⟩
        · skip
          replace hx1 := ite_rc hx1 hc3
          refine .skip ?_
          refine .plx Try.S hwn1 [2, 3, 5] ?_
          refine ⟨n1 + 1, ?_, ⟨by omega, hx1⟩, by dsimp only; omega⟩
          exact .m [2, 3, 5] [0, 1] []
      · skip
        have h2 : n1 = a0.Wait.length := by have h2b := of_decide_eq_false hc2; omega
        rw [List.drop_of_length_le (by omega), m_towncrierref03_Same_loop1] at hx1
        refine .exit ?_
        refine ⟨_, ?_, (Option.some.inj hx1).symm⟩
        exact .m [] [] []
    · skip
      rintro ⟨⟩ hj1
      subst x1
      try dsimp only at h
      simp only [Try.St_towncrierref03_Same_1]
      refine .seq ?_
      refine .pl Try.S [] ?_
      have hq := Option.some.inj h
      subst r
      exact .ret ⟨.inr rfl, rsi⟩

def Try.St_towncrierref25_SameMail_1 : St := ⟨[], [], 0⟩
attribute [local go_sem] Try.St_towncrierref25_SameMail_1
def Try.St_towncrierref25_SameMail_3 (a0 : List TMail) (a1 : List TMail) (n1 : Nat) : St := ⟨[(0, .imm 10 (a0.map TMail.d) 4), (1, .imm 10 (a1.map TMail.d) 4), (5, .int .i64 (n1 : Int))], [], 0⟩
attribute [local go_sem] Try.St_towncrierref25_SameMail_3
theorem callP_towncrierref25_SameMail (a0 : List TMail) (a1 : List TMail) (r : Bool) (h : m_towncrierref25_SameMail a0 a1 = some r) : CallP Try.prog 13 [.imm 10 (a0.map TMail.d) 4, .imm 10 (a1.map TMail.d) 4] (.bool r) := by
  refine callP_intro Try.tmOk 2 Try.func13 rfl (by decide) rfl rfl (Nat.le_of_ble_eq_true rfl) ?_
  intro hwf
  unfold m_towncrierref25_SameMail at h
  refine .seq ?_
  refine .pl Try.S [0, 1] ?_
  refine .seq ?_
  refine .seq ?_
  refine .pl Try.S [0, 1] ?_
  refine .cond rfl rfl (fun hc1 => ?_) (fun hc1 => ?_)
  · skip
    replace h := ite_lc h hc1
    refine .seq ?_
    refine .pl Try.S [] ?_
    have hq := Option.some.inj h
    subst r
    exact .ret ⟨.inr rfl, rsi⟩
  · skip
    replace h := ite_rc h hc1
    refine .skip ?_
    obtain ⟨x1, hx1, h⟩ := bind_some h
    refine .seqM 0 (fun (j : Unit) => Try.St_towncrierref25_SameMail_1) (fun j => x1 = (.inr j)) (Nat.le_of_ble_eq_true rfl) ?_ ?_
    · skip
      refine .seq ?_
      refine .pl Try.S [0, 1] ?_
      refine .block ?_
      refine .loopG 0 (fun (j : Nat) => Try.St_towncrierref25_SameMail_3 a0 a1 j) (fun j => j ≤ a0.length ∧ m_towncrierref25_SameMail_loop1 a1 (a0.drop j) j  = some x1) (fun j => a0.length - j) (0) (Nat.le_of_ble_eq_true rfl) ?_ ⟨Nat.zero_le _, hx1⟩ ?_
      · skip
        exact .m [0, 1, 5] [] []
      rintro n1 ⟨hi1, hx1⟩
      simp only [Try.St_towncrierref25_SameMail_3]
      refine .wf 0 (.imm 10 (a0.map TMail.d) 4) rfl ?_
      intro hln1
      replace hln1 : (a0.length : Int) ≤ 9223372036854775807 := by simp only [wf, wfL, IntKind.max, IntKind.min, IntKind.signed, IntKind.bits, List.length_map] at hln1; first | exact hln1.2 | exact hln1.1 | (simp at hln1; omega)
      refine .seq ?_
      refine .seq ?_
      refine .pl Try.S [0, 1, 5] ?_
      refine .cond rfl rfl (fun hc2 => ?_) (fun hc2 => ?_)
      · skip
        have h1 : n1 < a0.length := by simpa using hc2
        have hwn1 : wr .i64 ((n1 : Int) + 1) = ((n1 + 1 : Nat) : Int) := wr_succ h1 hln1
        have hpn1 : wr .i64 ((n1 : Int) - 1) = (n1 : Int) - 1 := wr_pred h1 hln1
        rw [List.drop_eq_getElem_cons h1, m_towncrierref25_SameMail_loop1] at hx1
        refine .skip ?_
        refine .seq ?_
        refine .block ?_
        refine .seq ?_
        obtain ⟨k1, hx1⟩ := ite_ck hx1
        have e1 := nth_map TMail.d a0 n1 h1
        have e2 := nth_mapD TMail.d a1 n1
        replace e2 := e2 k1
        refine .rg Try.S [0, 1, 5] ?_
        refine .rdx 6 (And.intro e1 (And.intro e2 hwn1)) ?_
        refine .rdx 3 (And.intro e1 (And.intro e2 hwn1)) ?_
        refine .nil ⟨fun _ => schedB_of (by kernel_rfl), ?_⟩
        refine .cond rfl rfl (fun hc3 => ?_) (fun hc3 => ?_)
        · skip
          replace hx1 := ite_lc hx1 hc3
          refine .seq ?_
          refine .plx Try.S hwn1 [] ?_
          have hq := Option.some.inj hx1
          subst x1
          try dsimp only at h
          have hq := Option.some.inj h
          subst r
          exact .ret ⟨.inr rfl, rsi⟩
        · skip
          replace hx1 := ite_rc hx1 hc3
          refine .skip ?_
          refine .plx Try.S hwn1 [0, 1, 5] ?_
          refine ⟨n1 + 1, ?_, ⟨by omega, hx1⟩, by dsimp only; omega⟩
          exact .m [0, 1, 5] [] []
      · skip
        have h2 : n1 = a0.length := by have h2b := of_decide_eq_false hc2; omega
        rw [List.drop_of_length_le (by omega), m_towncrierref25_SameMail_loop1] at hx1
        refine .exit ?_
        refine ⟨_, ?_, (Option.some.inj hx1).symm⟩
        exact .m [] [] []
    · skip
      rintro ⟨⟩ hj1
      subst x1
      try dsimp only at h
      simp only [Try.St_towncrierref25_SameMail_1]
      refine .seq ?_
      refine .pl Try.S [] ?_
      have hq := Option.some.inj h
      subst r
      exact .ret ⟨.inr rfl, rsi⟩


theorem callP_towncrierref25_Same (a0 : TSeat) (a1 : TSeat) (r : Bool) (h : m_towncrierref25_Same a0 a1 = some r) : CallP Try.prog 26 [.agg [.int .i64 a0.Me, .int .i64 a0.Number, .imm 1 (a0.Group.Roster.map (D.int .i64)) 4, .imm 1 (a0.Group.Members.map (D.int .i64)) 4, .imm 1 (a0.Log.map D.str) 4, .imm 5 (a0.Votes.map TSeen.d) 4, .int .u8 a0.Try.Phase, .int .i64 a0.Try.Ballot, .imm 1 (a0.Try.Members.map (D.int .i64)) 4, .str a0.Try.Wish, .str a0.Try.Value, .imm 3 (a0.Try.Promises.map TPromise.d) 4, .imm 1 (a0.Try.Accepted.map (D.int .i64)) 4, .imm 1 (a0.Wishes.map D.str) 4, .int .i64 a0.Heard], .agg [.int .i64 a1.Me, .int .i64 a1.Number, .imm 1 (a1.Group.Roster.map (D.int .i64)) 4, .imm 1 (a1.Group.Members.map (D.int .i64)) 4, .imm 1 (a1.Log.map D.str) 4, .imm 5 (a1.Votes.map TSeen.d) 4, .int .u8 a1.Try.Phase, .int .i64 a1.Try.Ballot, .imm 1 (a1.Try.Members.map (D.int .i64)) 4, .str a1.Try.Wish, .str a1.Try.Value, .imm 3 (a1.Try.Promises.map TPromise.d) 4, .imm 1 (a1.Try.Accepted.map (D.int .i64)) 4, .imm 1 (a1.Wishes.map D.str) 4, .int .i64 a1.Heard]] (.bool r) := by
  refine callP_intro Try.tmOk 4 Try.func26 rfl (by decide) rfl rfl (Nat.le_of_ble_eq_true rfl) ?_
  intro hwf
  unfold m_towncrierref25_Same at h
  refine .seq ?_
  refine .pl Try.S [0, 1] ?_
  refine .seq ?_
  obtain ⟨v1, hv1, h⟩ := bind_some h
  obtain ⟨v2, hv2, h⟩ := bind_some h
  obtain ⟨v3, hv3, h⟩ := bind_some h
  obtain ⟨v4, hv4, h⟩ := bind_some h
  obtain ⟨v5, hv5, h⟩ := bind_some h
  refine .rg Try.S [2, 3] ?_
  refine .rn 6 ?_
  refine .rn 6 ?_
  refine .rn 5 ?_
  refine .gcall (r := .bool v1) rfl rfl rfl rfl rfl (fun hg => ⟨[], [.agg [.imm 1 (a0.Group.Roster.map (D.int .i64)) 4, .imm 1 (a0.Group.Members.map (D.int .i64)) 4], .agg [.imm 1 (a1.Group.Roster.map (D.int .i64)) 4, .imm 1 (a1.Group.Members.map (D.int .i64)) 4]], _, rfl, gd hg, rfl, (callP_towncrierref06_SameGroup a0.Group a1.Group v1 (ite_lc hv1 hg))⟩) ?_
  refine .rn 6 ?_
  refine .gcall (r := .bool v2) rfl rfl rfl rfl rfl (fun hg => ⟨[], [.imm 1 (a0.Log.map D.str) 4, .imm 1 (a1.Log.map D.str) 4], _, rfl, gd hg, rfl, (callP_towncrierref01_SameTexts a0.Log a1.Log v2 (ite_lc hv2 hg))⟩) ?_
  refine .rn 6 ?_
  refine .gcall (r := .bool v3) rfl rfl rfl rfl rfl (fun hg => ⟨[], [.imm 5 (a0.Votes.map TSeen.d) 4, .imm 5 (a1.Votes.map TSeen.d) 4], _, rfl, gd hg, rfl, (callP_towncrierref11_SameVotes a0.Votes a1.Votes v3 (ite_lc hv3 hg))⟩) ?_
  refine .rn 6 ?_
  refine .gcall (r := .bool v4) rfl rfl rfl rfl rfl (fun hg => ⟨[], [.agg [.int .u8 a0.Try.Phase, .int .i64 a0.Try.Ballot, .imm 1 (a0.Try.Members.map (D.int .i64)) 4, .str a0.Try.Wish, .str a0.Try.Value, .imm 3 (a0.Try.Promises.map TPromise.d) 4, .imm 1 (a0.Try.Accepted.map (D.int .i64)) 4], .agg [.int .u8 a1.Try.Phase, .int .i64 a1.Try.Ballot, .imm 1 (a1.Try.Members.map (D.int .i64)) 4, .str a1.Try.Wish, .str a1.Try.Value, .imm 3 (a1.Try.Promises.map TPromise.d) 4, .imm 1 (a1.Try.Accepted.map (D.int .i64)) 4]], _, rfl, gd hg, rfl, (callP_towncrierref08_Same a0.Try a1.Try v4 (ite_lc hv4 hg))⟩) ?_
  refine .rn 6 ?_
  refine .gcall (r := .bool v5) rfl rfl rfl rfl rfl (fun hg => ⟨[], [.imm 1 (a0.Wishes.map D.str) 4, .imm 1 (a1.Wishes.map D.str) 4], _, rfl, gd hg, rfl, (callP_towncrierref01_SameTexts a0.Wishes a1.Wishes v5 (ite_lc hv5 hg))⟩) ?_
  refine .rn 6 ?_
  refine .rn 3 ?_
  refine .nil ⟨nofun, ?_⟩
  have hq := Option.some.inj h
  subst r
  exact .ret ⟨.inr rfl, rsi⟩

def Try.St_towncrierref25_Great_1 (a0 : TSeat) (n1 : Int) : St := ⟨[(1, .ptr 0 0), (3, .int .i64 n1)], [(0, .box [.int .i64 a0.Me, .int .i64 a0.Number, .imm 1 (a0.Group.Roster.map (D.int .i64)) 4, .imm 1 (a0.Group.Members.map (D.int .i64)) 4, .imm 1 (a0.Log.map D.str) 4, .imm 5 (a0.Votes.map TSeen.d) 4, .int .u8 a0.Try.Phase, .int .i64 a0.Try.Ballot, .imm 1 (a0.Try.Members.map (D.int .i64)) 4, .str a0.Try.Wish, .str a0.Try.Value, .imm 3 (a0.Try.Promises.map TPromise.d) 4, .imm 1 (a0.Try.Accepted.map (D.int .i64)) 4, .imm 1 (a0.Wishes.map D.str) 4, .int .i64 a0.Heard])], 1⟩
attribute [local go_sem] Try.St_towncrierref25_Great_1
def Try.St_towncrierref25_Great_3 (a0 : TSeat) (n3 : Nat) (n2 : Int) : St := ⟨[(1, .ptr 0 0), (3, .int .i64 n2), (4, .int .i64 (n3 : Int))], [(0, .box [.int .i64 a0.Me, .int .i64 a0.Number, .imm 1 (a0.Group.Roster.map (D.int .i64)) 4, .imm 1 (a0.Group.Members.map (D.int .i64)) 4, .imm 1 (a0.Log.map D.str) 4, .imm 5 (a0.Votes.map TSeen.d) 4, .int .u8 a0.Try.Phase, .int .i64 a0.Try.Ballot, .imm 1 (a0.Try.Members.map (D.int .i64)) 4, .str a0.Try.Wish, .str a0.Try.Value, .imm 3 (a0.Try.Promises.map TPromise.d) 4, .imm 1 (a0.Try.Accepted.map (D.int .i64)) 4, .imm 1 (a0.Wishes.map D.str) 4, .int .i64 a0.Heard])], 1⟩
attribute [local go_sem] Try.St_towncrierref25_Great_3
theorem callP_towncrierref25_Great (a0 : TSeat) (r : Bool) (h : m_towncrierref25_Great a0 = some r) : CallP Try.prog 8 [.agg [.int .i64 a0.Me, .int .i64 a0.Number, .imm 1 (a0.Group.Roster.map (D.int .i64)) 4, .imm 1 (a0.Group.Members.map (D.int .i64)) 4, .imm 1 (a0.Log.map D.str) 4, .imm 5 (a0.Votes.map TSeen.d) 4, .int .u8 a0.Try.Phase, .int .i64 a0.Try.Ballot, .imm 1 (a0.Try.Members.map (D.int .i64)) 4, .str a0.Try.Wish, .str a0.Try.Value, .imm 3 (a0.Try.Promises.map TPromise.d) 4, .imm 1 (a0.Try.Accepted.map (D.int .i64)) 4, .imm 1 (a0.Wishes.map D.str) 4, .int .i64 a0.Heard]] (.bool r) := by
  refine callP_intro Try.tmOk 3 Try.func8 rfl (by decide) rfl rfl (Nat.le_of_ble_eq_true rfl) ?_
  intro hwf
  unfold m_towncrierref25_Great at h
  refine .seq ?_
  refine .pl Try.S [0] ?_
  refine .seq ?_
  refine .pl Try.S [1] ?_
  obtain ⟨x1, hx1, h⟩ := bind_some h
  refine .seqM 1 (fun (j : Int) => Try.St_towncrierref25_Great_1 a0 j) (fun j => x1 = j) (Nat.le_of_ble_eq_true rfl) ?_ ?_
  · skip
    refine .seq ?_
    refine .pl Try.S [1, 3] ?_
    refine .block ?_
    refine .loopG 1 (fun (j : Nat × Int) => Try.St_towncrierref25_Great_3 a0 j.1 j.2) (fun j => j.1 ≤ a0.Votes.length ∧ m_towncrierref25_Great_loop1 (a0.Votes.drop j.1) j.1 j.2 = some x1) (fun j => a0.Votes.length - j.1) (0, 0) (Nat.le_of_ble_eq_true rfl) ?_ ⟨Nat.zero_le _, hx1⟩ ?_
    · skip
      exact .m [1, 3, 4] [0] []
    rintro ⟨n3, n2⟩ ⟨hi1, hx1⟩
    simp only [Try.St_towncrierref25_Great_3]
    simp only at hi1 hx1
    refine .wfb 0 [.int .i64 a0.Me, .int .i64 a0.Number, .imm 1 (a0.Group.Roster.map (D.int .i64)) 4, .imm 1 (a0.Group.Members.map (D.int .i64)) 4, .imm 1 (a0.Log.map D.str) 4, .imm 5 (a0.Votes.map TSeen.d) 4, .int .u8 a0.Try.Phase, .int .i64 a0.Try.Ballot, .imm 1 (a0.Try.Members.map (D.int .i64)) 4, .str a0.Try.Wish, .str a0.Try.Value, .imm 3 (a0.Try.Promises.map TPromise.d) 4, .imm 1 (a0.Try.Accepted.map (D.int .i64)) 4, .imm 1 (a0.Wishes.map D.str) 4, .int .i64 a0.Heard] rfl ?_
    intro hln3
    replace hln3 : (a0.Votes.length : Int) ≤ 9223372036854775807 := by simp only [wf, wfL, IntKind.max, IntKind.min, IntKind.signed, IntKind.bits, List.length_map] at hln3; first | exact hln3.2 | exact hln3.1 | (simp at hln3; omega)
    refine .seq ?_
    refine .seq ?_
    refine .rg Try.S [1, 3, 4] ?_
    refine .rn 6 ?_
    refine .rn 3 ?_
    refine .nil ⟨nofun, ?_⟩
    refine .cond rfl rfl (fun hc1 => ?_) (fun hc1 => ?_)
    · skip
      have h1 : n3 < a0.Votes.length := by have hq := hc1; simp at hq; omega
      have hwn3 : wr .i64 ((n3 : Int) + 1) = ((n3 + 1 : Nat) : Int) := wr_succ h1 hln3
      have hpn3 : wr .i64 ((n3 : Int) - 1) = (n3 : Int) - 1 := wr_pred h1 hln3
      rw [List.drop_eq_getElem_cons h1, m_towncrierref25_Great_loop1_c] at hx1
      replace hx1 := ite_lc hx1 hc1
      refine .skip ?_
      refine .seq ?_
      refine .block ?_
      have e1 := nth_map TSeen.d a0.Votes n3 h1
      refine .rg Try.S [1, 3, 4] ?_
      refine .rnx 6 (And.intro e1 hwn3) ?_
      refine .rnx 6 (And.intro e1 hwn3) ?_
      refine .nil ⟨nofun, ?_⟩
      refine .plx Try.S hwn3 [1, 3, 4] ?_
      refine ⟨(n3 + 1, _), ?_, ⟨by omega, hx1⟩, by dsimp only; omega⟩
      exact .m [1, 3, 4] [0] []
    · skip
      by_cases h2 : n3 < a0.Votes.length
      · skip
        rw [List.drop_eq_getElem_cons h2, m_towncrierref25_Great_loop1_c] at hx1
        replace hx1 := ite_r hx1 (by have hq := hc1; simp at hq ⊢; first | exact hq (by omega) | omega | grind)
        refine .exit ?_
        refine ⟨_, ?_, (Option.some.inj hx1).symm⟩
        exact .m [1, 3] [0] []
      · skip
        rw [List.drop_of_length_le (by omega), m_towncrierref25_Great_loop1_n] at hx1
        refine .exit ?_
        refine ⟨_, ?_, (Option.some.inj hx1).symm⟩
        exact .m [1, 3] [0] []
  · skip
    rintro n1 hj1
    subst x1
    try dsimp only at h
    simp only [Try.St_towncrierref25_Great_1]
    refine .seq ?_
    obtain ⟨v1, hv1, h⟩ := bind_some h
    obtain ⟨v2, hv2, h⟩ := bind_some h
    obtain ⟨v3, hv3, h⟩ := bind_some h
    refine .rg Try.S [1, 3] ?_
    refine .rn 6 ?_
    refine .rn 7 ?_
    refine .gcall (r := .bool v1) rfl rfl rfl rfl rfl (fun hg => ⟨[], [.imm 1 (a0.Log.map D.str) 4], _, rfl, gd hg, rfl, (callP_towncrierref01_Great a0.Log v1 (ite_lc hv1 hg))⟩) ?_
    refine .rn 4 ?_
    refine .gcall (r := .bool v2) rfl rfl rfl rfl rfl (fun hg => ⟨[], [.imm 1 (a0.Wishes.map D.str) 4], _, rfl, gd hg, rfl, (callP_towncrierref01_Great a0.Wishes v2 (ite_lc hv2 hg))⟩) ?_
    refine .rn 4 ?_
    refine .gcall (r := .bool v3) rfl rfl rfl rfl rfl (fun hg => ⟨[], [.agg [.int .u8 a0.Try.Phase, .int .i64 a0.Try.Ballot, .imm 1 (a0.Try.Members.map (D.int .i64)) 4, .str a0.Try.Wish, .str a0.Try.Value, .imm 3 (a0.Try.Promises.map TPromise.d) 4, .imm 1 (a0.Try.Accepted.map (D.int .i64)) 4]], _, rfl, gd hg, rfl, (callP_towncrierref08_Great a0.Try v3 (ite_lc hv3 hg))⟩) ?_
    refine .rn 6 ?_
    refine .rn 6 ?_
    refine .rn 6 ?_
    refine .rn 8 ?_
    refine .nil ⟨nofun, ?_⟩
    have hq := Option.some.inj h
    subst r
    exact .ret ⟨.inr rfl, rsi⟩

def Try.St_towncrierref26_SameGroups_1 : St := ⟨[], [], 0⟩
attribute [local go_sem] Try.St_towncrierref26_SameGroups_1
def Try.St_towncrierref26_SameGroups_3 (a0 : List TGroup) (a1 : List TGroup) (n1 : Nat) : St := ⟨[(0, .imm 2 (a0.map TGroup.d) 4), (1, .imm 2 (a1.map TGroup.d) 4), (5, .int .i64 (n1 : Int))], [], 0⟩
attribute [local go_sem] Try.St_towncrierref26_SameGroups_3
theorem callP_towncrierref26_SameGroups (a0 : List TGroup) (a1 : List TGroup) (r : Bool) (h : m_towncrierref26_SameGroups a0 a1 = some r) : CallP Try.prog 25 [.imm 2 (a0.map TGroup.d) 4, .imm 2 (a1.map TGroup.d) 4] (.bool r) := by
  refine callP_intro Try.tmOk 2 Try.func25 rfl (by decide) rfl rfl (Nat.le_of_ble_eq_true rfl) ?_
  intro hwf
  unfold m_towncrierref26_SameGroups at h
  refine .seq ?_
  refine .pl Try.S [0, 1] ?_
  refine .seq ?_
  refine .seq ?_
  refine .pl Try.S [0, 1] ?_
  refine .cond rfl rfl (fun hc1 => ?_) (fun hc1 => ?_)
  · skip
    replace h := ite_lc h hc1
    refine .seq ?_
    refine .pl Try.S [] ?_
    have hq := Option.some.inj h
    subst r
    exact .ret ⟨.inr rfl, rsi⟩
  · skip
    replace h := ite_rc h hc1
    refine .skip ?_
    obtain ⟨x1, hx1, h⟩ := bind_some h
    refine .seqM 0 (fun (j : Unit) => Try.St_towncrierref26_SameGroups_1) (fun j => x1 = (.inr j)) (Nat.le_of_ble_eq_true rfl) ?_ ?_
    · skip
      refine .seq ?_
      refine .pl Try.S [0, 1] ?_
      refine .block ?_
      refine .loopG 0 (fun (j : Nat) => Try.St_towncrierref26_SameGroups_3 a0 a1 j) (fun j => j ≤ a0.length ∧ m_towncrierref26_SameGroups_loop1 a1 (a0.drop j) j  = some x1) (fun j => a0.length - j) (0) (Nat.le_of_ble_eq_true rfl) ?_ ⟨Nat.zero_le _, hx1⟩ ?_
      · skip
        exact .m [0, 1, 5] [] []
      rintro n1 ⟨hi1, hx1⟩
      simp only [Try.St_towncrierref26_SameGroups_3]
      refine .wf 0 (.imm 2 (a0.map TGroup.d) 4) rfl ?_
      intro hln1
      replace hln1 : (a0.length : Int) ≤ 9223372036854775807 := by simp only [wf, wfL, IntKind.max, IntKind.min, IntKind.signed, IntKind.bits, List.length_map] at hln1; first | exact hln1.2 | exact hln1.1 | (simp at hln1; omega)
      refine .seq ?_
      refine .seq ?_
      refine .pl Try.S [0, 1, 5] ?_
      refine .cond rfl rfl (fun hc2 => ?_) (fun hc2 => ?_)
      · skip
        have h1 : n1 < a0.length := by simpa using hc2
        have hwn1 : wr .i64 ((n1 : Int) + 1) = ((n1 + 1 : Nat) : Int) := wr_succ h1 hln1
        have hpn1 : wr .i64 ((n1 : Int) - 1) = (n1 : Int) - 1 := wr_pred h1 hln1
        rw [List.drop_eq_getElem_cons h1, m_towncrierref26_SameGroups_loop1] at hx1
        refine .skip ?_
        refine .seq ?_
        refine .block ?_
        refine .seq ?_
        obtain ⟨k1, hx1⟩ := ite_ck hx1
        obtain ⟨v1, hv1, hx1⟩ := bind_some hx1
        have e1 := nth_map TGroup.d a0 n1 h1
        have e2 := nth_mapD TGroup.d a1 n1
        replace e2 := e2 k1
        refine .rg Try.S [0, 1, 5] ?_
        refine .rdx 8 (And.intro e1 (And.intro e2 hwn1)) ?_
        refine .call (r := .bool v1) rfl rfl rfl rfl rfl rfl (callP_towncrierref06_SameGroup (a0[n1]) (a1.getD n1 default) v1 hv1) ?_
        refine .rdx 1 (And.intro e1 (And.intro e2 hwn1)) ?_
        refine .nil ⟨fun _ => schedB_of (by kernel_rfl), ?_⟩
        refine .cond rfl rfl (fun hc3 => ?_) (fun hc3 => ?_)
        · skip
          replace hx1 := ite_lc hx1 hc3
          refine .seq ?_
          refine .plx Try.S hwn1 [] ?_
          have hq := Option.some.inj hx1
          subst x1
          try dsimp only at h
          have hq := Option.some.inj h
          subst r
          exact .ret ⟨.inr rfl, rsi⟩
        · skip
          replace hx1 := ite_rc hx1 hc3
          refine .skip ?_
          refine .plx Try.S hwn1 [0, 1, 5] ?_
          refine ⟨n1 + 1, ?_, ⟨by omega, hx1⟩, by dsimp only; omega⟩
          exact .m [0, 1, 5] [] []
      · skip
        have h2 : n1 = a0.length := by have h2b := of_decide_eq_false hc2; omega
        rw [List.drop_of_length_le (by omega), m_towncrierref26_SameGroups_loop1] at hx1
        refine .exit ?_
        refine ⟨_, ?_, (Option.some.inj hx1).symm⟩
        exact .m [] [] []
    · skip
      rintro ⟨⟩ hj1
      subst x1
      try dsimp only at h
      simp only [Try.St_towncrierref26_SameGroups_1]
      refine .seq ?_
      refine .pl Try.S [] ?_
      have hq := Option.some.inj h
      subst r
      exact .ret ⟨.inr rfl, rsi⟩
end Go.Proofs
end
section
/- Models of functions, printed by gw.py. -/


namespace Go.Proofs
open Go.Tm
set_option linter.unusedVariables false

def m_slices_Clone_int_int (a0 : List Int) : Option ((List Int)) :=
  if a0.length < 1000000 then
  some a0
  else none

def m_slices_Clone_string_string (a0 : List (List UInt8)) : Option ((List (List UInt8))) :=
  if a0.length < 1000000 then
  some a0
  else none

def m_slices_Clone_Time_Time (a0 : List TTime) : Option ((List TTime)) :=
  if a0.length < 1000000 then
  some a0
  else none

def m_slices_Clone_Seen_Seen (a0 : List TSeen) : Option ((List TSeen)) :=
  if a0.length < 1000000 then
  some a0
  else none

def m_slices_Clone_Promise_Promise (a0 : List TPromise) : Option ((List TPromise)) :=
  if a0.length < 1000000 then
  some a0
  else none

def m_attempt_Twin (a0 : TAttempt) : Option TAttempt :=
  Option.bind (m_slices_Clone_int_int a0.Members) fun v1 =>
  Option.bind (m_slices_Clone_Promise_Promise a0.Promises) fun v2 =>
  Option.bind (m_slices_Clone_int_int a0.Accepted) fun v3 =>
  some (⟨a0.Phase, a0.Ballot, v1, a0.Wish, a0.Value, v2, v3⟩ : TAttempt)

def m_towncrierref08_Twin (a0 : TAttempt) : Option TAttempt :=
  if a0.Members.length < 1000000 then
  if a0.Promises.length < 1000000 then
  if a0.Accepted.length < 1000000 then
  some a0
  else none
  else none
  else none

def m_towncrierref06_TwinGroup (a0 : TGroup) : Option TGroup :=
  if a0.Roster.length < 1000000 then
  if a0.Members.length < 1000000 then
  some a0
  else none
  else none

def m_seat_Twin (a0 : TSeat) : Option TSeat :=
  Option.bind (m_slices_Clone_int_int a0.Group.Roster) fun v1 =>
  Option.bind (m_slices_Clone_int_int a0.Group.Members) fun v2 =>
  Option.bind (m_slices_Clone_string_string a0.Log) fun v3 =>
  Option.bind (m_slices_Clone_Seen_Seen a0.Votes) fun v4 =>
  Option.bind (m_slices_Clone_string_string a0.Wishes) fun v5 =>
  Option.bind (m_attempt_Twin a0.Try) fun v6 =>
  some (⟨a0.Me, a0.Number, (⟨v1, v2⟩ : TGroup), v3, v4, v6, v5, a0.Heard⟩ : TSeat)

def m_seat_New (a0 : Int) (a1 : Int) (a2 : TGroup) : Option (TSeat × Int) :=
  if (((a0 < 0) ∨ (a0 ≥ 6)) ∨ (a1 < 0)) ∨ (a1 ≥ 4) then
  some ((⟨0, 0, (⟨[], []⟩ : TGroup), [], [], (⟨0, 0, [], [], [], [], []⟩ : TAttempt), [], 0⟩ : TSeat), 2)
  else
  Option.bind (m_quorum_CheckGroup a2) fun v1 =>
  if ¬ (v1 = 0) then
  some ((⟨0, 0, (⟨[], []⟩ : TGroup), [], [], (⟨0, 0, [], [], [], [], []⟩ : TAttempt), [], 0⟩ : TSeat), v1)
  else
  Option.bind (m_quorum_Has a2.Roster a0) fun v2 =>
  if ¬ (v2 = true) then
  some ((⟨0, 0, (⟨[], []⟩ : TGroup), [], [], (⟨0, 0, [], [], [], [], []⟩ : TAttempt), [], 0⟩ : TSeat), 6)
  else
  Option.bind (m_seat_Twin (⟨a0, a1, a2, [], [], (⟨0, 0, [], [], [], [], []⟩ : TAttempt), [], 0⟩ : TSeat)) fun v3 =>
  some (v3, 0)

def m_towncrierref25_New (a0 : Int) (a1 : Int) (a2 : TGroup) : Option (TSeat × Int) :=
  Option.bind (m_towncrierref05_Node a0) fun v1 =>
  if ((¬ (v1 = true)) ∨ (a1 < 0)) ∨ (a1 ≥ 4) then
  some ((⟨0, 0, (⟨[], []⟩ : TGroup), [], [], (⟨0, 0, [], [], [], [], []⟩ : TAttempt), [], 0⟩ : TSeat), 2)
  else
  Option.bind (m_towncrierref06_CheckGroup a2) fun v2 =>
  Option.bind (α := Int) (Option.bind (if v2 = 0 then m_towncrierref06_Has a2.Roster a0 else some default) fun v3 =>
  if (v2 = 0) ∧ (¬ (v3 = true)) then
  some 6
  else
  some v2) fun n1 =>
  if ¬ (n1 = 0) then
  some ((⟨0, 0, (⟨[], []⟩ : TGroup), [], [], (⟨0, 0, [], [], [], [], []⟩ : TAttempt), [], 0⟩ : TSeat), n1)
  else
  Option.bind (m_towncrierref06_TwinGroup a2) fun v4 =>
  some ((⟨a0, a1, v4, [], [], (⟨0, 0, [], [], [], [], []⟩ : TAttempt), [], 0⟩ : TSeat), 0)

def m_towncrierref25_Twin (a0 : TSeat) : Option TSeat :=
  Option.bind (m_towncrierref06_TwinGroup a0.Group) fun v1 =>
  if a0.Log.length < 1000000 then
  if a0.Votes.length < 1000000 then
  Option.bind (m_towncrierref08_Twin a0.Try) fun v2 =>
  if a0.Wishes.length < 1000000 then
  some (⟨a0.Me, a0.Number, v1, a0.Log, a0.Votes, v2, a0.Wishes, a0.Heard⟩ : TSeat)
  else none
  else none
  else none

def m_bell_groups_loop1 : List TGroup → Option (Int ⊕ Unit)
  | [] =>
    some (.inr ())
  | y1 :: rest1 =>
    Option.bind (m_quorum_CheckGroup (y1)) fun v1 =>
    if ¬ (v1 = 0) then
    some (.inl v1)
    else
    m_bell_groups_loop1 rest1 
def m_bell_groups (a0 : List TGroup) : Option Int :=
  if (a0.length : Int) > 4 then
  some 4
  else
  if (a0.length : Int) = 0 then
  some 2
  else
  Option.bind (α := Int ⊕ Unit) (m_bell_groups_loop1 a0 ) fun z => match z with
  | (.inl r) => some r
  | (.inr _) =>
  some 0

def m_bell_bell_own (a0 : Tbell_bell) (a1 : Int) : Option Bool :=
  if ((a1 ≥ 0) ∧ (a1 < (a0.Bell.All.length : Int))) → (0 ≤ a1 ∧ a1 < (a0.Bell.All.length : Int)) then
  Option.bind (if (a1 ≥ 0) ∧ (a1 < (a0.Bell.All.length : Int)) then m_quorum_Has ((a0.Bell.All.getD a1.toNat default).Roster) a0.Bell.Me else some default) fun v1 =>
  some (((decide (a1 ≥ 0)) && (decide (a1 < (a0.Bell.All.length : Int)))) && v1)
  else none

def m_towncrierref26_groups_loop1 : List TGroup → Option (Int ⊕ Unit)
  | [] =>
    some (.inr ())
  | y1 :: rest1 =>
    Option.bind (m_towncrierref06_CheckGroup (y1)) fun v1 =>
    if ¬ (v1 = 0) then
    some (.inl v1)
    else
    m_towncrierref26_groups_loop1 rest1 
def m_towncrierref26_groups (a0 : List TGroup) : Option Int :=
  if (a0.length : Int) > 4 then
  some 4
  else
  if (a0.length : Int) = 0 then
  some 2
  else
  Option.bind (α := Int ⊕ Unit) (m_towncrierref26_groups_loop1 a0 ) fun z => match z with
  | (.inl r) => some r
  | (.inr _) =>
  some 0

def m_towncrierref26_Own (a0 : TBell) (a1 : Int) : Option Bool :=
  if ((a1 ≥ 0) ∧ (a1 < (a0.All.length : Int))) → (0 ≤ a1 ∧ a1 < (a0.All.length : Int)) then
  Option.bind (if (a1 ≥ 0) ∧ (a1 < (a0.All.length : Int)) then m_towncrierref06_Has ((a0.All.getD a1.toNat default).Roster) a0.Me else some default) fun v1 =>
  some (((decide (a1 ≥ 0)) && (decide (a1 < (a0.All.length : Int)))) && v1)
  else none

def m_towncrierref26_Twin_loop1 : List TGroup → (List TGroup) → Option ((List TGroup))
  | [], l2 =>
    some l2
  | y1 :: rest1, l2 =>
    Option.bind (m_towncrierref06_TwinGroup (y1)) fun v1 =>
    if l2.length + [v1].length < 1000000 then
    m_towncrierref26_Twin_loop1 rest1 (l2 ++ [v1])
    else none
theorem m_towncrierref26_Twin_loop1_n (l2 : List TGroup) : m_towncrierref26_Twin_loop1 [] l2 =
    (some l2 : Option ((List TGroup))) := rfl
theorem m_towncrierref26_Twin_loop1_c (y1 : TGroup) (rest1 : List TGroup) (l2 : List TGroup) : m_towncrierref26_Twin_loop1 (y1 :: rest1) l2 =
    (Option.bind (m_towncrierref06_TwinGroup (y1)) fun v1 =>
    if l2.length + [v1].length < 1000000 then
    m_towncrierref26_Twin_loop1 rest1 (l2 ++ [v1])
    else none : Option ((List TGroup))) := rfl
def m_towncrierref26_Twin_loop2 : List TSeat → (List TSeat) → Option ((List TSeat))
  | [], l4 =>
    some l4
  | y2 :: rest2, l4 =>
    Option.bind (m_towncrierref25_Twin (y2)) fun v2 =>
    if l4.length + [v2].length < 1000000 then
    m_towncrierref26_Twin_loop2 rest2 (l4 ++ [v2])
    else none
theorem m_towncrierref26_Twin_loop2_n (l4 : List TSeat) : m_towncrierref26_Twin_loop2 [] l4 =
    (some l4 : Option ((List TSeat))) := rfl
theorem m_towncrierref26_Twin_loop2_c (y2 : TSeat) (rest2 : List TSeat) (l4 : List TSeat) : m_towncrierref26_Twin_loop2 (y2 :: rest2) l4 =
    (Option.bind (m_towncrierref25_Twin (y2)) fun v2 =>
    if l4.length + [v2].length < 1000000 then
    m_towncrierref26_Twin_loop2 rest2 (l4 ++ [v2])
    else none : Option ((List TSeat))) := rfl
def m_towncrierref26_Twin (a0 : TBell) : Option TBell :=
  if a0.Times.length < 1000000 then
  Option.bind (α := (List TGroup)) (m_towncrierref26_Twin_loop1 a0.All []) fun l1 =>
  Option.bind (α := (List TSeat)) (m_towncrierref26_Twin_loop2 a0.Seats []) fun l3 =>
  some (⟨a0.Me, l1, l3, a0.Times⟩ : TBell)
  else none

def m_bell_Twin_loop1 : List TGroup → (List TGroup) → Option ((List TGroup))
  | [], l2 =>
    some l2
  | y1 :: rest1, l2 =>
    Option.bind (m_slices_Clone_int_int (y1.Roster)) fun v2 =>
    Option.bind (m_slices_Clone_int_int (y1.Members)) fun v3 =>
    if l2.length + [(⟨v2, v3⟩ : TGroup)].length < 1000000 then
    m_bell_Twin_loop1 rest1 (l2 ++ [(⟨v2, v3⟩ : TGroup)])
    else none
theorem m_bell_Twin_loop1_n (l2 : List TGroup) : m_bell_Twin_loop1 [] l2 =
    (some l2 : Option ((List TGroup))) := rfl
theorem m_bell_Twin_loop1_c (y1 : TGroup) (rest1 : List TGroup) (l2 : List TGroup) : m_bell_Twin_loop1 (y1 :: rest1) l2 =
    (Option.bind (m_slices_Clone_int_int (y1.Roster)) fun v2 =>
    Option.bind (m_slices_Clone_int_int (y1.Members)) fun v3 =>
    if l2.length + [(⟨v2, v3⟩ : TGroup)].length < 1000000 then
    m_bell_Twin_loop1 rest1 (l2 ++ [(⟨v2, v3⟩ : TGroup)])
    else none : Option ((List TGroup))) := rfl
def m_bell_Twin_loop2 : List TSeat → (List TSeat) → Option ((List TSeat))
  | [], l4 =>
    some l4
  | y2 :: rest2, l4 =>
    Option.bind (m_seat_Twin (y2)) fun v4 =>
    if l4.length + [v4].length < 1000000 then
    m_bell_Twin_loop2 rest2 (l4 ++ [v4])
    else none
theorem m_bell_Twin_loop2_n (l4 : List TSeat) : m_bell_Twin_loop2 [] l4 =
    (some l4 : Option ((List TSeat))) := rfl
theorem m_bell_Twin_loop2_c (y2 : TSeat) (rest2 : List TSeat) (l4 : List TSeat) : m_bell_Twin_loop2 (y2 :: rest2) l4 =
    (Option.bind (m_seat_Twin (y2)) fun v4 =>
    if l4.length + [v4].length < 1000000 then
    m_bell_Twin_loop2 rest2 (l4 ++ [v4])
    else none : Option ((List TSeat))) := rfl
def m_bell_Twin (a0 : TBell) : Option TBell :=
  Option.bind (m_slices_Clone_Time_Time a0.Times) fun v1 =>
  Option.bind (α := (List TGroup)) (m_bell_Twin_loop1 a0.All []) fun l1 =>
  Option.bind (α := (List TSeat)) (m_bell_Twin_loop2 a0.Seats []) fun l3 =>
  some (⟨a0.Me, l1, l3, v1⟩ : TBell)

def m_bell_New_loop1 (a0 : Int) (v2 : TBell) : List TGroup → Nat → (List TSeat) → Option ((List TSeat))
  | [], n1, l2 =>
    some l2
  | y1 :: rest1, n1, l2 =>
    Option.bind (α := (List TSeat)) (Option.bind (m_bell_bell_own (⟨(⟨v2.Me, v2.All, l2, v2.Times⟩ : TBell), [], []⟩ : Tbell_bell) (n1 : Int)) fun v3 =>
    if v3 = true then
    Option.bind (m_seat_New a0 (n1 : Int) (y1)) fun v4 =>
    if l2.length + [v4.1].length < 1000000 then
    some (l2 ++ [v4.1])
    else none
    else
    some l2) fun l3 =>
    m_bell_New_loop1 a0 v2 rest1 (n1 + 1) l3
theorem m_bell_New_loop1_n (a0 : Int) (v2 : TBell) (n1 : Nat) (l2 : List TSeat) : m_bell_New_loop1 a0 v2 [] n1 l2 =
    (some l2 : Option ((List TSeat))) := rfl
theorem m_bell_New_loop1_c (a0 : Int) (v2 : TBell) (y1 : TGroup) (rest1 : List TGroup) (n1 : Nat) (l2 : List TSeat) : m_bell_New_loop1 a0 v2 (y1 :: rest1) n1 l2 =
    (Option.bind (α := (List TSeat)) (Option.bind (m_bell_bell_own (⟨(⟨v2.Me, v2.All, l2, v2.Times⟩ : TBell), [], []⟩ : Tbell_bell) (n1 : Int)) fun v3 =>
    if v3 = true then
    Option.bind (m_seat_New a0 (n1 : Int) (y1)) fun v4 =>
    if l2.length + [v4.1].length < 1000000 then
    some (l2 ++ [v4.1])
    else none
    else
    some l2) fun l3 =>
    m_bell_New_loop1 a0 v2 rest1 (n1 + 1) l3 : Option ((List TSeat))) := rfl
def m_bell_New (a0 : Int) (a1 : List TGroup) : Option (TBell × Int) :=
  if (a0 < 0) ∨ (a0 ≥ 6) then
  some ((⟨0, [], [], []⟩ : TBell), 2)
  else
  Option.bind (m_bell_groups a1) fun v1 =>
  if ¬ (v1 = 0) then
  some ((⟨0, [], [], []⟩ : TBell), v1)
  else
  Option.bind (m_bell_Twin (⟨a0, a1, [], []⟩ : TBell)) fun v2 =>
  Option.bind (α := (List TSeat)) (m_bell_New_loop1 a0 v2 a1 0 v2.Seats) fun l1 =>
  some ((⟨v2.Me, v2.All, l1, v2.Times⟩ : TBell), 0)

def m_towncrierref26_New_loop1 (a0 : Int) (v3 : TBell) : List TGroup → Nat → (List TSeat) → Option ((List TSeat))
  | [], n1, l2 =>
    some l2
  | y1 :: rest1, n1, l2 =>
    Option.bind (α := (List TSeat)) (Option.bind (m_towncrierref26_Own (⟨v3.Me, v3.All, l2, v3.Times⟩ : TBell) (n1 : Int)) fun v4 =>
    if v4 = true then
    Option.bind (m_towncrierref25_New a0 (n1 : Int) (y1)) fun v5 =>
    if l2.length + [v5.1].length < 1000000 then
    some (l2 ++ [v5.1])
    else none
    else
    some l2) fun l3 =>
    m_towncrierref26_New_loop1 a0 v3 rest1 (n1 + 1) l3
theorem m_towncrierref26_New_loop1_n (a0 : Int) (v3 : TBell) (n1 : Nat) (l2 : List TSeat) : m_towncrierref26_New_loop1 a0 v3 [] n1 l2 =
    (some l2 : Option ((List TSeat))) := rfl
theorem m_towncrierref26_New_loop1_c (a0 : Int) (v3 : TBell) (y1 : TGroup) (rest1 : List TGroup) (n1 : Nat) (l2 : List TSeat) : m_towncrierref26_New_loop1 a0 v3 (y1 :: rest1) n1 l2 =
    (Option.bind (α := (List TSeat)) (Option.bind (m_towncrierref26_Own (⟨v3.Me, v3.All, l2, v3.Times⟩ : TBell) (n1 : Int)) fun v4 =>
    if v4 = true then
    Option.bind (m_towncrierref25_New a0 (n1 : Int) (y1)) fun v5 =>
    if l2.length + [v5.1].length < 1000000 then
    some (l2 ++ [v5.1])
    else none
    else
    some l2) fun l3 =>
    m_towncrierref26_New_loop1 a0 v3 rest1 (n1 + 1) l3 : Option ((List TSeat))) := rfl
def m_towncrierref26_New (a0 : Int) (a1 : List TGroup) : Option (TBell × Int) :=
  Option.bind (m_towncrierref05_Node a0) fun v1 =>
  if ¬ (v1 = true) then
  some ((⟨0, [], [], []⟩ : TBell), 2)
  else
  Option.bind (m_towncrierref26_groups a1) fun v2 =>
  if ¬ (v2 = 0) then
  some ((⟨0, [], [], []⟩ : TBell), v2)
  else
  Option.bind (m_towncrierref26_Twin (⟨a0, a1, [], []⟩ : TBell)) fun v3 =>
  Option.bind (α := (List TSeat)) (m_towncrierref26_New_loop1 a0 v3 a1 0 v3.Seats) fun l1 =>
  some ((⟨v3.Me, v3.All, l1, v3.Times⟩ : TBell), 0)

def m_towncrierref26_Same_loop1 (a1 : TBell) : List TSeat → Nat → Option (Bool ⊕ Unit)
  | [], n1 =>
    some (.inr ())
  | y1 :: rest1, n1 =>
    if n1 < a1.Seats.length then
    Option.bind (m_towncrierref25_Same (y1) (a1.Seats.getD n1 default)) fun v2 =>
    if ¬ (v2 = true) then
    some (.inl false)
    else
    m_towncrierref26_Same_loop1 a1 rest1 (n1 + 1) 
    else none
def m_towncrierref26_Same_loop2 (a1 : TBell) : List TTime → Nat → Option (Bool ⊕ Unit)
  | [], n2 =>
    some (.inr ())
  | y2 :: rest2, n2 =>
    if n2 < a1.Times.length then
    if ¬ ((y2.Id = (a1.Times.getD n2 default).Id) ∧ (y2.Group = (a1.Times.getD n2 default).Group) ∧ (y2.Time = (a1.Times.getD n2 default).Time)) then
    some (.inl false)
    else
    m_towncrierref26_Same_loop2 a1 rest2 (n2 + 1) 
    else none
def m_towncrierref26_Same (a0 : TBell) (a1 : TBell) : Option Bool :=
  Option.bind (if ¬ (¬ (a0.Me = a1.Me)) then m_towncrierref26_SameGroups a0.All a1.All else some default) fun v1 =>
  if (((¬ (a0.Me = a1.Me)) ∨ (¬ (v1 = true))) ∨ (¬ ((a0.Seats.length : Int) = (a1.Seats.length : Int)))) ∨ (¬ ((a0.Times.length : Int) = (a1.Times.length : Int))) then
  some false
  else
  Option.bind (α := Bool ⊕ Unit) (m_towncrierref26_Same_loop1 a1 a0.Seats 0 ) fun z => match z with
  | (.inl r) => some r
  | (.inr _) =>
  Option.bind (α := Bool ⊕ Unit) (m_towncrierref26_Same_loop2 a1 a0.Times 0 ) fun z => match z with
  | (.inl r) => some r
  | (.inr _) =>
  some true

def m_towncrierref26_Great_loop1 : List TSeat → Nat → Int → Option (Bool ⊕ Int)
  | [], n3, n2 =>
    some (.inr n2)
  | y1 :: rest1, n3, n2 =>
    if ((n3 : Int) < 20) then
    Option.bind (m_towncrierref25_Great (y1)) fun v1 =>
    if v1 = true then
    some (.inl true)
    else
    m_towncrierref26_Great_loop1 rest1 (n3 + 1) (wr .i64 (n2 + ((y1.Log).length : Int)))
    else
    some (.inr n2)
def m_towncrierref26_Great_loop2 : List TGroup → Nat → Option (Bool ⊕ Unit)
  | [], n4 =>
    some (.inr ())
  | y2 :: rest2, n4 =>
    if ((n4 : Int) < 20) then
    if (((y2.Roster).length : Int) > 100) ∨ (((y2.Members).length : Int) > 100) then
    some (.inl true)
    else
    m_towncrierref26_Great_loop2 rest2 (n4 + 1) 
    else
    some (.inr ())
def m_towncrierref26_Great (a0 : TBell) : Option Bool :=
  Option.bind (α := Bool ⊕ Int) (m_towncrierref26_Great_loop1 a0.Seats 0 0) fun z => match z with
  | (.inl r) => some r
  | (.inr n1) =>
  Option.bind (α := Bool ⊕ Unit) (m_towncrierref26_Great_loop2 a0.All 0 ) fun z => match z with
  | (.inl r) => some r
  | (.inr _) =>
  some ((((decide ((a0.Seats.length : Int) > 10)) || (decide ((a0.All.length : Int) > 10))) || (decide ((a0.Times.length : Int) > 300))) || (decide (n1 > 120)))

def m_node_New (a0 : Int) (a1 : List TGroup) : Option (TNode × Int) :=
  Option.bind (m_bell_New a0 a1) fun v1 =>
  if ¬ (v1.2 = 0) then
  some ((⟨false, (⟨0, [], [], []⟩ : TBell), (⟨[], []⟩ : TDisk), []⟩ : TNode), v1.2)
  else
  some ((⟨true, v1.1, (⟨[], []⟩ : TDisk), []⟩ : TNode), 0)

def m_towncrierref27_New (a0 : Int) (a1 : List TGroup) : Option (TNode × Int) :=
  Option.bind (m_towncrierref26_New a0 a1) fun v1 =>
  if ¬ (v1.2 = 0) then
  some ((⟨false, (⟨0, [], [], []⟩ : TBell), (⟨[], []⟩ : TDisk), []⟩ : TNode), v1.2)
  else
  some ((⟨true, v1.1, (⟨[], []⟩ : TDisk), []⟩ : TNode), 0)

def m_towncrierref27_Same (a0 : TNode) (a1 : TNode) : Option Bool :=
  Option.bind (if (a0.Up == a1.Up) = true then m_towncrierref26_Same a0.Bell a1.Bell else some default) fun v1 =>
  Option.bind (if ((a0.Up == a1.Up) = true) ∧ (v1 = true) then m_towncrierref03_Same a0.Disk a1.Disk else some default) fun v2 =>
  Option.bind (if (((a0.Up == a1.Up) = true) ∧ (v1 = true)) ∧ (v2 = true) then m_towncrierref25_SameMail a0.Hold a1.Hold else some default) fun v3 =>
  some ((((a0.Up == a1.Up) && v1) && v2) && v3)

def m_towncrierlaw27_NodeNews (a0 : Int) (a1 : List TGroup) : Option Bool :=
  Option.bind (m_towncrierref26_Great (⟨0, a1, [], []⟩ : TBell)) fun v1 =>
  if v1 = true then
  some true
  else
  Option.bind (m_node_New a0 a1) fun v2 =>
  Option.bind (m_towncrierref27_New a0 a1) fun v3 =>
  Option.bind (m_towncrierref27_Same v2.1 v3.1) fun v4 =>
  some (v4 && (v2.2 == v3.2))
end Go.Proofs
end
