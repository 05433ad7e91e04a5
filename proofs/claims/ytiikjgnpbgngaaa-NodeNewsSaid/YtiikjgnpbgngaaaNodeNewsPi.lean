/- The walks of functions, printed by gw.py. -/
import Derived.Test.YtiikjgnpbgngaaaNodeNewsPf
import Derived.Test.YtiikjgnpbgngaaaNodeNewsPg
import Derived.Test.YtiikjgnpbgngaaaNodeNewsPh
namespace Go.Proofs
open Go.Tm Go.RowKit Go.WideShapes
set_option maxRecDepth 100000
set_option maxHeartbeats 4000000
set_option linter.unusedSimpArgs false
set_option linter.unusedVariables false
attribute [local go_sem] argVars runE runK isCallV stepE aop opd opdsL opds opdO ev ofVal keep List.any Nat.beq Bool.false_or Bool.true_or aggEq cond_true cond_false Bool.cond_false_right Bool.cond_true_left beq_true beq_false imp_self implies_true getR getL put St.app effL del nwB blt_dec Nat.lt_irrefl Nat.lt_add_one ble_dec Nat.le_refl Nat.beq_refl roomNZ appendIn capS capK mkZ_zero mkZL_zero zeroEl D.ids D.idsL Option.getD bin arith sarith binT dpick Tm.part splice fillD oneD loadD storeD srcD sliceD idxOk decide_true gval dstAt D.cells List.map_cons List.map_nil List.take List.drop List.length_map List.append Int.toNat_natCast and_true true_and decide_false List.length_cons List.length_nil List.append_nil List.nil_append Bool.and_true Bool.true_and Bool.not_false Bool.not_true ne_eq not_false_eq_true BEq.rfl List.getElem?_cons_zero List.getElem?_cons_succ List.getElem?_nil Nat.zero_add List.all_cons List.all_nil List.isEmpty_cons List.isEmpty_nil List.any_cons List.any_nil List.drop_succ_cons List.drop_zero unfL unf okM okML low3 List.cons_append true_or or_true Nat.zero_mul Nat.zero_le bytesD_map map_ub mkZ_one mkZL_one mkM mkML mk1_int mk1_str mk1_bool drop_map take_map take_map_len List.take_length Int.toNat_zero toNat_pred fpOf metIds opIds mvV mvH mvF pickL D.ren D.renL Blk.ren List.map_append List.length_append Bool.not_not Bool.or_not_self Bool.not_or_self Bool.or_true
attribute [local go_sem] Try.tm_1 Try.tm_2 Try.tm_3 Try.tm_4 Try.tm_5 Try.tm_6 Try.tm_7 Try.tm_8 Try.tm_9 Try.tm_10 Try.tm_11 Try.tm_12 Try.tm_13 Try.tm_14 Try.tm_15 Try.tm_16 Try.tm_17 Try.tm_18 Try.tm_19 Try.tm_20 Try.tm_21 Try.tm_22 Try.tm_23 Try.tm_24 Try.tm_25 Try.tm_26 Try.tm_27 Try.tm_28 Try.tm_29 Try.tm_30 Try.tm_31 Try.tm_32 Try.tm_33 Try.tm_34 Try.tm_35 Try.tm_37 Try.tm_39 Try.tm_40 Try.tm_41 Try.tm_42 Try.tm_43 Try.tm_44 Try.tm_45 Try.tm_46 Try.tm_47 Try.tm_48 Try.tm_49 Try.tm_50 Try.tm_51 Try.tm_52 Try.tm_54 Try.tm_56 Try.tm_57 Try.tm_58 Try.tm_59 Try.tm_60 Try.tm_61 Try.tm_62 Try.tm_63 Try.tm_64 Try.tm_65 Try.tm_66 Try.tm_67 Try.tm_68 Try.tm_69 Try.tm_70 Try.tm_71 Try.tm_72 Try.tm_74 Try.tm_75 Try.tm_76 Try.tm_78 Try.tm_79 Try.tm_80 Try.tm_81 Try.tm_82 Try.tm_83 Try.tm_84 Try.tm_85 Try.tm_86 Try.tm_87 Try.tm_88 Try.tm_89 Try.tm_90 Try.tm_91 Try.tm_92 Try.tm_93 Try.tm_94 Try.tm_95 Try.tm_96 Try.tm_97 Try.tm_98 Try.tm_99 Try.tm_100 Try.tm_101 Try.tm_102 Try.tm_103 Try.tm_104 Try.tm_105 Try.tm_106 Try.tm_107 Try.tm_108 Try.tm_109 Try.tm_110 Try.tm_111 Try.tm_112 Try.tm_113 Try.tm_114 Try.tm_115 Try.tm_118 Try.tm_119 Try.tm_120 Try.tm_121 Try.tm_122 Try.tm_123 Try.tm_124 Try.tm_125 Try.tm_126 Try.tm_127 Try.tm_128 Try.tm_129 TGroup.d TGroup.n TVote.d TSeen.d TPromise.d TAttempt.d TAttempt.n TSeat.d TSeat.n TTime.d TBell.d TBell.n TPut.d TPut.n TDisk.d TDisk.n TMail.d TNode.d TNode.n TRecord.d Tbell_bell.d Tbell_bell.n mk1_TGroup mk1_TVote mk1_TSeen mk1_TPromise mk1_TAttempt mk1_TSeat mk1_TTime mk1_TBell mk1_TPut mk1_TDisk mk1_TMail mk1_TNode mk1_TRecord mk1_Tbell_bell Try.f29 Try.f42 Try.f28 Try.f43 Try.f51 Try.f44 Try.f48 Try.f33 Try.f30 Try.f19 Try.f24 Try.f34 Try.f16 Try.f18 Try.f21 Try.f23 Try.f22 Try.f17 Try.f9 Try.f10 Try.f11 Try.f4 Try.f5 Try.f6 Try.f7 Try.f3

def Try.Re_slices_Clone_int_int (r : (List Int)) : St := ⟨[(2, .ref 0 1 0 r.length (some unkC))], [(0, .arr 3 1 true (r.map (D.int .i64)))], 1⟩
attribute [local go_sem] Try.Re_slices_Clone_int_int
theorem callH_slices_Clone_int_int (a0 : List Int) (r : (List Int)) (h : m_slices_Clone_int_int a0 = some r) : CallH Try.prog 29 [.imm 1 (a0.map (D.int .i64)) 4] [] (.ref 0 1 0 r.length (some unkC)) [(0, some (.arr 3 1 true (r.map (D.int .i64))))] (0, 3) := by
  refine callH_intro' Try.tmOk Try.func29 rfl (by decide) (Nat.le_of_ble_eq_true rfl) (by simp) ?_
  intro hwf
  unfold m_slices_Clone_int_int at h
  refine .ends 0 (Nat.le_refl _) ?_
  refine .nil4 0 1 (a0.map (D.int .i64)) rfl ?_ (fun hl => ?_)
  · skip
    refine .seq ?_
    refine .pl Try.S [0] ?_
    refine .seq ?_
    refine .seq ?_
    refine .pl Try.S [0] ?_
    refine .cond rfl rfl (fun hc => by cases hc) (fun hc => ?_)
    refine .skip ?_
    obtain ⟨k1, h⟩ := ite_ck h
    refine .seqM 0 (fun (_ : Unit) => ⟨[(2, .ref 0 1 0 a0.length (some unkC))], [(0, .arr 3 1 true (a0.map (D.int .i64)))], 1⟩) (fun _ => True) (Nat.le_of_ble_eq_true rfl) ?_ (fun _ _ => ?_)
    · skip
      rcases list_cases a0 with hE1 | ⟨y, ys, hE1⟩
      · skip
        have hM1 : a0.map (D.int .i64) = [] := by rw [hE1]; simp
        refine .plain Try.tmOk Try.tmMixed [0] (by decide +kernel) (by intro q hq; simp only [go_sem, Nat.reduceSub, Int.reduceEq, Nat.reduceLT, Nat.reduceDiv, Nat.reduceAdd, Nat.reduceBEq, Nat.reduceLeDiff, reduceCtorEq, Nat.reduceEqDiff, Nat.reduceMod, Nat.reduceMul, Try.tm_43, appendD_nil hM1]; exact hq) (by first | rfl | (simp only [go_sem, Nat.reduceLeDiff]; done) | (simp only [go_sem, Nat.reduceLeDiff]; rfl) | (simp; done) | (simp [oneD] <;> omega) | (simp_all; done) | (simp_all [oneD] <;> omega)) (by first | exact Nat.le_refl _ | exact Nat.le_of_ble_eq_true rfl | (dsimp only; omega) | (simp <;> omega)) ?_
        refine ⟨(), ?_, trivial⟩
        refine Goes.new0 1 3 (Nat.le_of_ble_eq_true rfl) ?_
        refine Goes.wk 2 _ (.ref 0 1 0 0 (some unkC)) rfl (.own0 0 _ _ _ (by decide)) ?_
        exact .mx hE1 [2] [0] []
      · skip
        have hM1 : a0.map (D.int .i64) ≠ [] := by rw [hE1]; simp
        refine .plain Try.tmOk Try.tmMixed [0] (by decide +kernel) (by intro q hq; simp only [go_sem, Nat.reduceSub, Int.reduceEq, Nat.reduceLT, Nat.reduceDiv, Nat.reduceAdd, Nat.reduceBEq, Nat.reduceLeDiff, reduceCtorEq, Nat.reduceEqDiff, Nat.reduceMod, Nat.reduceMul, Try.tm_43, appendD_cons hM1]; exact hq) (by first | rfl | (simp only [go_sem, Nat.reduceLeDiff]; done) | (simp only [go_sem, Nat.reduceLeDiff]; rfl) | (simp; done) | (simp [oneD] <;> omega) | (simp_all; done) | (simp_all [oneD] <;> omega)) (by first | exact Nat.le_refl _ | exact Nat.le_of_ble_eq_true rfl | (dsimp only; omega) | (simp <;> omega)) ?_
        refine ⟨(), ?_, trivial⟩
        refine Goes.wk 2 _ (.ref 0 1 0 a0.length (some unkC)) rfl (.unk _ _ _ _ _) ?_
        exact .mx hE1 [2] [0] []
    have hq := Option.some.inj h
    subst r
    refine .ret ⟨Try.Re_slices_Clone_int_int a0, ?_, .inr rfl, retH [0] ?_ ?_⟩
    · skip
      exact .m [2] [0] []
    · exact rsi0
    · rfl
  · skip
    have hE0 : a0 = [] := by simpa using hl
    obtain ⟨k1, h⟩ := ite_ck h
    refine .seq ?_
    refine .pl Try.S [0] ?_
    refine .seq ?_
    refine .seq ?_
    refine .pl Try.S [0] ?_
    refine .cond rfl rfl (fun hc => ?_) (fun hc => by cases hc)
    refine .seq ?_
    refine .pl Try.S [] ?_
    have hq := Option.some.inj h
    subst r
    refine .ret ⟨Try.Re_slices_Clone_int_int a0, ?_, .inr rfl, retH [0] ?_ ?_⟩
    · skip
      refine Goes.new0 1 3 (Nat.le_of_ble_eq_true rfl) ?_
      refine Goes.wk 2 _ (.ref 0 1 0 0 (some unkC)) rfl (.own0 0 _ _ _ (by decide)) ?_
      exact .mx hE0 [2] [0] []
    · exact rsi0
    · rfl

theorem callP_slices_Clone_int_int (a0 : List Int) (r : (List Int)) (h : m_slices_Clone_int_int a0 = some r) : CallP Try.prog 29 [.imm 1 (a0.map (D.int .i64)) 4] (.imm 1 (r.map (D.int .i64)) 12) :=
  callP_frz (frz_ref0 pl0_i64 rfl rfl) (callH_slices_Clone_int_int a0 r h)

def Try.Re_slices_Clone_string_string (r : (List (List UInt8))) : St := ⟨[(2, .ref 0 1 0 r.length (some unkC))], [(0, .arr 9 1 true (r.map D.str))], 1⟩
attribute [local go_sem] Try.Re_slices_Clone_string_string
theorem callH_slices_Clone_string_string (a0 : List (List UInt8)) (r : (List (List UInt8))) (h : m_slices_Clone_string_string a0 = some r) : CallH Try.prog 42 [.imm 1 (a0.map D.str) 4] [] (.ref 0 1 0 r.length (some unkC)) [(0, some (.arr 9 1 true (r.map D.str)))] (0, 3) := by
  refine callH_intro' Try.tmOk Try.func42 rfl (by decide) (Nat.le_of_ble_eq_true rfl) (by simp) ?_
  intro hwf
  unfold m_slices_Clone_string_string at h
  refine .ends 0 (Nat.le_refl _) ?_
  refine .nil4 0 1 (a0.map D.str) rfl ?_ (fun hl => ?_)
  · skip
    refine .seq ?_
    refine .pl Try.S [0] ?_
    refine .seq ?_
    refine .seq ?_
    refine .pl Try.S [0] ?_
    refine .cond rfl rfl (fun hc => by cases hc) (fun hc => ?_)
    refine .skip ?_
    obtain ⟨k1, h⟩ := ite_ck h
    refine .seqM 0 (fun (_ : Unit) => ⟨[(2, .ref 0 1 0 a0.length (some unkC))], [(0, .arr 9 1 true (a0.map D.str))], 1⟩) (fun _ => True) (Nat.le_of_ble_eq_true rfl) ?_ (fun _ _ => ?_)
    · skip
      rcases list_cases a0 with hE1 | ⟨y, ys, hE1⟩
      · skip
        have hM1 : a0.map D.str = [] := by rw [hE1]; simp
        refine .plain Try.tmOk Try.tmMixed [0] (by decide +kernel) (by intro q hq; simp only [go_sem, Nat.reduceSub, Int.reduceEq, Nat.reduceLT, Nat.reduceDiv, Nat.reduceAdd, Nat.reduceBEq, Nat.reduceLeDiff, reduceCtorEq, Nat.reduceEqDiff, Nat.reduceMod, Nat.reduceMul, Try.tm_46, appendD_nil hM1]; exact hq) (by first | rfl | (simp only [go_sem, Nat.reduceLeDiff]; done) | (simp only [go_sem, Nat.reduceLeDiff]; rfl) | (simp; done) | (simp [oneD] <;> omega) | (simp_all; done) | (simp_all [oneD] <;> omega)) (by first | exact Nat.le_refl _ | exact Nat.le_of_ble_eq_true rfl | (dsimp only; omega) | (simp <;> omega)) ?_
        refine ⟨(), ?_, trivial⟩
        refine Goes.new0 1 9 (Nat.le_of_ble_eq_true rfl) ?_
        refine Goes.wk 2 _ (.ref 0 1 0 0 (some unkC)) rfl (.own0 0 _ _ _ (by decide)) ?_
        exact .mx hE1 [2] [0] []
      · skip
        have hM1 : a0.map D.str ≠ [] := by rw [hE1]; simp
        refine .plain Try.tmOk Try.tmMixed [0] (by decide +kernel) (by intro q hq; simp only [go_sem, Nat.reduceSub, Int.reduceEq, Nat.reduceLT, Nat.reduceDiv, Nat.reduceAdd, Nat.reduceBEq, Nat.reduceLeDiff, reduceCtorEq, Nat.reduceEqDiff, Nat.reduceMod, Nat.reduceMul, Try.tm_46, appendD_cons hM1]; exact hq) (by first | rfl | (simp only [go_sem, Nat.reduceLeDiff]; done) | (simp only [go_sem, Nat.reduceLeDiff]; rfl) | (simp; done) | (simp [oneD] <;> omega) | (simp_all; done) | (simp_all [oneD] <;> omega)) (by first | exact Nat.le_refl _ | exact Nat.le_of_ble_eq_true rfl | (dsimp only; omega) | (simp <;> omega)) ?_
        refine ⟨(), ?_, trivial⟩
        refine Goes.wk 2 _ (.ref 0 1 0 a0.length (some unkC)) rfl (.unk _ _ _ _ _) ?_
        exact .mx hE1 [2] [0] []
    have hq := Option.some.inj h
    subst r
    refine .ret ⟨Try.Re_slices_Clone_string_string a0, ?_, .inr rfl, retH [0] ?_ ?_⟩
    · skip
      exact .m [2] [0] []
    · exact rsi0
    · rfl
  · skip
    have hE0 : a0 = [] := by simpa using hl
    obtain ⟨k1, h⟩ := ite_ck h
    refine .seq ?_
    refine .pl Try.S [0] ?_
    refine .seq ?_
    refine .seq ?_
    refine .pl Try.S [0] ?_
    refine .cond rfl rfl (fun hc => ?_) (fun hc => by cases hc)
    refine .seq ?_
    refine .pl Try.S [] ?_
    have hq := Option.some.inj h
    subst r
    refine .ret ⟨Try.Re_slices_Clone_string_string a0, ?_, .inr rfl, retH [0] ?_ ?_⟩
    · skip
      refine Goes.new0 1 9 (Nat.le_of_ble_eq_true rfl) ?_
      refine Goes.wk 2 _ (.ref 0 1 0 0 (some unkC)) rfl (.own0 0 _ _ _ (by decide)) ?_
      exact .mx hE0 [2] [0] []
    · exact rsi0
    · rfl

def Try.Re_slices_Clone_Time_Time (r : (List TTime)) : St := ⟨[(2, .ref 0 3 0 r.length (some unkC))], [(0, .arr 82 3 true (r.map TTime.d))], 1⟩
attribute [local go_sem] Try.Re_slices_Clone_Time_Time
theorem callH_slices_Clone_Time_Time (a0 : List TTime) (r : (List TTime)) (h : m_slices_Clone_Time_Time a0 = some r) : CallH Try.prog 28 [.imm 3 (a0.map TTime.d) 4] [] (.ref 0 3 0 r.length (some unkC)) [(0, some (.arr 82 3 true (r.map TTime.d)))] (0, 3) := by
  refine callH_intro' Try.tmOk Try.func28 rfl (by decide) (Nat.le_of_ble_eq_true rfl) (by simp) ?_
  intro hwf
  unfold m_slices_Clone_Time_Time at h
  refine .ends 0 (Nat.le_refl _) ?_
  refine .nil4 0 3 (a0.map TTime.d) rfl ?_ (fun hl => ?_)
  · skip
    refine .seq ?_
    refine .pl Try.S [0] ?_
    refine .seq ?_
    refine .seq ?_
    refine .pl Try.S [0] ?_
    refine .cond rfl rfl (fun hc => by cases hc) (fun hc => ?_)
    refine .skip ?_
    obtain ⟨k1, h⟩ := ite_ck h
    refine .seqM 0 (fun (_ : Unit) => ⟨[(2, .ref 0 3 0 a0.length (some unkC))], [(0, .arr 82 3 true (a0.map TTime.d))], 1⟩) (fun _ => True) (Nat.le_of_ble_eq_true rfl) ?_ (fun _ _ => ?_)
    · skip
      rcases list_cases a0 with hE1 | ⟨y, ys, hE1⟩
      · skip
        have hM1 : a0.map TTime.d = [] := by rw [hE1]; simp
        refine .plain Try.tmOk Try.tmMixed [0] (by decide +kernel) (by intro q hq; simp only [go_sem, Nat.reduceSub, Int.reduceEq, Nat.reduceLT, Nat.reduceDiv, Nat.reduceAdd, Nat.reduceBEq, Nat.reduceLeDiff, reduceCtorEq, Nat.reduceEqDiff, Nat.reduceMod, Nat.reduceMul, Try.tm_25, appendD_nil hM1, TTime.d]; exact hq) (by first | rfl | (simp only [go_sem, Nat.reduceLeDiff]; done) | (simp only [go_sem, Nat.reduceLeDiff]; rfl) | (simp; done) | (simp [oneD] <;> omega) | (simp_all; done) | (simp_all [oneD] <;> omega)) (by first | exact Nat.le_refl _ | exact Nat.le_of_ble_eq_true rfl | (dsimp only; omega) | (simp <;> omega)) ?_
        refine ⟨(), ?_, trivial⟩
        refine Goes.new0 3 82 (Nat.le_of_ble_eq_true rfl) ?_
        refine Goes.wk 2 _ (.ref 0 3 0 0 (some unkC)) rfl (.own0 0 _ _ _ (by decide)) ?_
        exact .mx hE1 [2] [0] []
      · skip
        have hM1 : a0.map TTime.d ≠ [] := by rw [hE1]; simp
        refine .plain Try.tmOk Try.tmMixed [0] (by decide +kernel) (by intro q hq; simp only [go_sem, Nat.reduceSub, Int.reduceEq, Nat.reduceLT, Nat.reduceDiv, Nat.reduceAdd, Nat.reduceBEq, Nat.reduceLeDiff, reduceCtorEq, Nat.reduceEqDiff, Nat.reduceMod, Nat.reduceMul, Try.tm_25, appendD_cons hM1, TTime.d]; exact hq) (by first | rfl | (simp only [go_sem, Nat.reduceLeDiff]; done) | (simp only [go_sem, Nat.reduceLeDiff]; rfl) | (simp; done) | (simp [oneD] <;> omega) | (simp_all; done) | (simp_all [oneD] <;> omega)) (by first | exact Nat.le_refl _ | exact Nat.le_of_ble_eq_true rfl | (dsimp only; omega) | (simp <;> omega)) ?_
        refine ⟨(), ?_, trivial⟩
        refine Goes.wk 2 _ (.ref 0 3 0 a0.length (some unkC)) rfl (.unk _ _ _ _ _) ?_
        exact .mx hE1 [2] [0] []
    have hq := Option.some.inj h
    subst r
    refine .ret ⟨Try.Re_slices_Clone_Time_Time a0, ?_, .inr rfl, retH [0] ?_ ?_⟩
    · skip
      exact .m [2] [0] []
    · exact rsi0
    · rfl
  · skip
    have hE0 : a0 = [] := by simpa using hl
    obtain ⟨k1, h⟩ := ite_ck h
    refine .seq ?_
    refine .pl Try.S [0] ?_
    refine .seq ?_
    refine .seq ?_
    refine .pl Try.S [0] ?_
    refine .cond rfl rfl (fun hc => ?_) (fun hc => by cases hc)
    refine .seq ?_
    refine .pl Try.S [] ?_
    have hq := Option.some.inj h
    subst r
    refine .ret ⟨Try.Re_slices_Clone_Time_Time a0, ?_, .inr rfl, retH [0] ?_ ?_⟩
    · skip
      refine Goes.new0 3 82 (Nat.le_of_ble_eq_true rfl) ?_
      refine Goes.wk 2 _ (.ref 0 3 0 0 (some unkC)) rfl (.own0 0 _ _ _ (by decide)) ?_
      exact .mx hE0 [2] [0] []
    · exact rsi0
    · rfl

def Try.Re_slices_Clone_Seen_Seen (r : (List TSeen)) : St := ⟨[(2, .ref 0 5 0 r.length (some unkC))], [(0, .arr 63 5 true (r.map TSeen.d))], 1⟩
attribute [local go_sem] Try.Re_slices_Clone_Seen_Seen
theorem callH_slices_Clone_Seen_Seen (a0 : List TSeen) (r : (List TSeen)) (h : m_slices_Clone_Seen_Seen a0 = some r) : CallH Try.prog 43 [.imm 5 (a0.map TSeen.d) 4] [] (.ref 0 5 0 r.length (some unkC)) [(0, some (.arr 63 5 true (r.map TSeen.d)))] (0, 3) := by
  refine callH_intro' Try.tmOk Try.func43 rfl (by decide) (Nat.le_of_ble_eq_true rfl) (by simp) ?_
  intro hwf
  unfold m_slices_Clone_Seen_Seen at h
  refine .ends 0 (Nat.le_refl _) ?_
  refine .nil4 0 5 (a0.map TSeen.d) rfl ?_ (fun hl => ?_)
  · skip
    refine .seq ?_
    refine .pl Try.S [0] ?_
    refine .seq ?_
    refine .seq ?_
    refine .pl Try.S [0] ?_
    refine .cond rfl rfl (fun hc => by cases hc) (fun hc => ?_)
    refine .skip ?_
    obtain ⟨k1, h⟩ := ite_ck h
    refine .seqM 0 (fun (_ : Unit) => ⟨[(2, .ref 0 5 0 a0.length (some unkC))], [(0, .arr 63 5 true (a0.map TSeen.d))], 1⟩) (fun _ => True) (Nat.le_of_ble_eq_true rfl) ?_ (fun _ _ => ?_)
    · skip
      rcases list_cases a0 with hE1 | ⟨y, ys, hE1⟩
      · skip
        have hM1 : a0.map TSeen.d = [] := by rw [hE1]; simp
        refine .plain Try.tmOk Try.tmMixed [0] (by decide +kernel) (by intro q hq; simp only [go_sem, Nat.reduceSub, Int.reduceEq, Nat.reduceLT, Nat.reduceDiv, Nat.reduceAdd, Nat.reduceBEq, Nat.reduceLeDiff, reduceCtorEq, Nat.reduceEqDiff, Nat.reduceMod, Nat.reduceMul, Try.tm_47, appendD_nil hM1, TSeen.d]; exact hq) (by first | rfl | (simp only [go_sem, Nat.reduceLeDiff]; done) | (simp only [go_sem, Nat.reduceLeDiff]; rfl) | (simp; done) | (simp [oneD] <;> omega) | (simp_all; done) | (simp_all [oneD] <;> omega)) (by first | exact Nat.le_refl _ | exact Nat.le_of_ble_eq_true rfl | (dsimp only; omega) | (simp <;> omega)) ?_
        refine ⟨(), ?_, trivial⟩
        refine Goes.new0 5 63 (Nat.le_of_ble_eq_true rfl) ?_
        refine Goes.wk 2 _ (.ref 0 5 0 0 (some unkC)) rfl (.own0 0 _ _ _ (by decide)) ?_
        exact .mx hE1 [2] [0] []
      · skip
        have hM1 : a0.map TSeen.d ≠ [] := by rw [hE1]; simp
        refine .plain Try.tmOk Try.tmMixed [0] (by decide +kernel) (by intro q hq; simp only [go_sem, Nat.reduceSub, Int.reduceEq, Nat.reduceLT, Nat.reduceDiv, Nat.reduceAdd, Nat.reduceBEq, Nat.reduceLeDiff, reduceCtorEq, Nat.reduceEqDiff, Nat.reduceMod, Nat.reduceMul, Try.tm_47, appendD_cons hM1, TSeen.d]; exact hq) (by first | rfl | (simp only [go_sem, Nat.reduceLeDiff]; done) | (simp only [go_sem, Nat.reduceLeDiff]; rfl) | (simp; done) | (simp [oneD] <;> omega) | (simp_all; done) | (simp_all [oneD] <;> omega)) (by first | exact Nat.le_refl _ | exact Nat.le_of_ble_eq_true rfl | (dsimp only; omega) | (simp <;> omega)) ?_
        refine ⟨(), ?_, trivial⟩
        refine Goes.wk 2 _ (.ref 0 5 0 a0.length (some unkC)) rfl (.unk _ _ _ _ _) ?_
        exact .mx hE1 [2] [0] []
    have hq := Option.some.inj h
    subst r
    refine .ret ⟨Try.Re_slices_Clone_Seen_Seen a0, ?_, .inr rfl, retH [0] ?_ ?_⟩
    · skip
      exact .m [2] [0] []
    · exact rsi0
    · rfl
  · skip
    have hE0 : a0 = [] := by simpa using hl
    obtain ⟨k1, h⟩ := ite_ck h
    refine .seq ?_
    refine .pl Try.S [0] ?_
    refine .seq ?_
    refine .seq ?_
    refine .pl Try.S [0] ?_
    refine .cond rfl rfl (fun hc => ?_) (fun hc => by cases hc)
    refine .seq ?_
    refine .pl Try.S [] ?_
    have hq := Option.some.inj h
    subst r
    refine .ret ⟨Try.Re_slices_Clone_Seen_Seen a0, ?_, .inr rfl, retH [0] ?_ ?_⟩
    · skip
      refine Goes.new0 5 63 (Nat.le_of_ble_eq_true rfl) ?_
      refine Goes.wk 2 _ (.ref 0 5 0 0 (some unkC)) rfl (.own0 0 _ _ _ (by decide)) ?_
      exact .mx hE0 [2] [0] []
    · exact rsi0
    · rfl

def Try.Re_slices_Clone_Promise_Promise (r : (List TPromise)) : St := ⟨[(2, .ref 0 3 0 r.length (some unkC))], [(0, .arr 88 3 true (r.map TPromise.d))], 1⟩
attribute [local go_sem] Try.Re_slices_Clone_Promise_Promise
theorem callH_slices_Clone_Promise_Promise (a0 : List TPromise) (r : (List TPromise)) (h : m_slices_Clone_Promise_Promise a0 = some r) : CallH Try.prog 51 [.imm 3 (a0.map TPromise.d) 4] [] (.ref 0 3 0 r.length (some unkC)) [(0, some (.arr 88 3 true (r.map TPromise.d)))] (0, 3) := by
  refine callH_intro' Try.tmOk Try.func51 rfl (by decide) (Nat.le_of_ble_eq_true rfl) (by simp) ?_
  intro hwf
  unfold m_slices_Clone_Promise_Promise at h
  refine .ends 0 (Nat.le_refl _) ?_
  refine .nil4 0 3 (a0.map TPromise.d) rfl ?_ (fun hl => ?_)
  · skip
    refine .seq ?_
    refine .pl Try.S [0] ?_
    refine .seq ?_
    refine .seq ?_
    refine .pl Try.S [0] ?_
    refine .cond rfl rfl (fun hc => by cases hc) (fun hc => ?_)
    refine .skip ?_
    obtain ⟨k1, h⟩ := ite_ck h
    refine .seqM 0 (fun (_ : Unit) => ⟨[(2, .ref 0 3 0 a0.length (some unkC))], [(0, .arr 88 3 true (a0.map TPromise.d))], 1⟩) (fun _ => True) (Nat.le_of_ble_eq_true rfl) ?_ (fun _ _ => ?_)
    · skip
      rcases list_cases a0 with hE1 | ⟨y, ys, hE1⟩
      · skip
        have hM1 : a0.map TPromise.d = [] := by rw [hE1]; simp
        refine .plain Try.tmOk Try.tmMixed [0] (by decide +kernel) (by intro q hq; simp only [go_sem, Nat.reduceSub, Int.reduceEq, Nat.reduceLT, Nat.reduceDiv, Nat.reduceAdd, Nat.reduceBEq, Nat.reduceLeDiff, reduceCtorEq, Nat.reduceEqDiff, Nat.reduceMod, Nat.reduceMul, Try.tm_48, appendD_nil hM1, TPromise.d]; exact hq) (by first | rfl | (simp only [go_sem, Nat.reduceLeDiff]; done) | (simp only [go_sem, Nat.reduceLeDiff]; rfl) | (simp; done) | (simp [oneD] <;> omega) | (simp_all; done) | (simp_all [oneD] <;> omega)) (by first | exact Nat.le_refl _ | exact Nat.le_of_ble_eq_true rfl | (dsimp only; omega) | (simp <;> omega)) ?_
        refine ⟨(), ?_, trivial⟩
        refine Goes.new0 3 88 (Nat.le_of_ble_eq_true rfl) ?_
        refine Goes.wk 2 _ (.ref 0 3 0 0 (some unkC)) rfl (.own0 0 _ _ _ (by decide)) ?_
        exact .mx hE1 [2] [0] []
      · skip
        have hM1 : a0.map TPromise.d ≠ [] := by rw [hE1]; simp
        refine .plain Try.tmOk Try.tmMixed [0] (by decide +kernel) (by intro q hq; simp only [go_sem, Nat.reduceSub, Int.reduceEq, Nat.reduceLT, Nat.reduceDiv, Nat.reduceAdd, Nat.reduceBEq, Nat.reduceLeDiff, reduceCtorEq, Nat.reduceEqDiff, Nat.reduceMod, Nat.reduceMul, Try.tm_48, appendD_cons hM1, TPromise.d]; exact hq) (by first | rfl | (simp only [go_sem, Nat.reduceLeDiff]; done) | (simp only [go_sem, Nat.reduceLeDiff]; rfl) | (simp; done) | (simp [oneD] <;> omega) | (simp_all; done) | (simp_all [oneD] <;> omega)) (by first | exact Nat.le_refl _ | exact Nat.le_of_ble_eq_true rfl | (dsimp only; omega) | (simp <;> omega)) ?_
        refine ⟨(), ?_, trivial⟩
        refine Goes.wk 2 _ (.ref 0 3 0 a0.length (some unkC)) rfl (.unk _ _ _ _ _) ?_
        exact .mx hE1 [2] [0] []
    have hq := Option.some.inj h
    subst r
    refine .ret ⟨Try.Re_slices_Clone_Promise_Promise a0, ?_, .inr rfl, retH [0] ?_ ?_⟩
    · skip
      exact .m [2] [0] []
    · exact rsi0
    · rfl
  · skip
    have hE0 : a0 = [] := by simpa using hl
    obtain ⟨k1, h⟩ := ite_ck h
    refine .seq ?_
    refine .pl Try.S [0] ?_
    refine .seq ?_
    refine .seq ?_
    refine .pl Try.S [0] ?_
    refine .cond rfl rfl (fun hc => ?_) (fun hc => by cases hc)
    refine .seq ?_
    refine .pl Try.S [] ?_
    have hq := Option.some.inj h
    subst r
    refine .ret ⟨Try.Re_slices_Clone_Promise_Promise a0, ?_, .inr rfl, retH [0] ?_ ?_⟩
    · skip
      refine Goes.new0 3 88 (Nat.le_of_ble_eq_true rfl) ?_
      refine Goes.wk 2 _ (.ref 0 3 0 0 (some unkC)) rfl (.own0 0 _ _ _ (by decide)) ?_
      exact .mx hE0 [2] [0] []
    · exact rsi0
    · rfl

def Try.Re_attempt_Twin (r : TAttempt) : St := ⟨[(2, .ptr 3 0)], [(0, .arr 3 1 true (r.Members.map (D.int .i64))), (1, .arr 88 3 true (r.Promises.map TPromise.d)), (2, .arr 3 1 true (r.Accepted.map (D.int .i64))), (3, .box [.int .u8 r.Phase, .int .i64 r.Ballot, .ref 0 1 0 r.Members.length (some unkC), .str r.Wish, .str r.Value, .ref 1 3 0 r.Promises.length (some unkC), .ref 2 1 0 r.Accepted.length (some unkC)])], 4⟩
attribute [local go_sem] Try.Re_attempt_Twin
theorem callH_attempt_Twin (a0 : TAttempt) (r : TAttempt) (h : m_attempt_Twin a0 = some r) : CallH Try.prog 44 [.agg [.int .u8 a0.Phase, .int .i64 a0.Ballot, .imm 1 (a0.Members.map (D.int .i64)) 4, .str a0.Wish, .str a0.Value, .imm 3 (a0.Promises.map TPromise.d) 4, .imm 1 (a0.Accepted.map (D.int .i64)) 4]] [] (.agg [.int .u8 r.Phase, .int .i64 r.Ballot, .ref 0 1 0 r.Members.length (some unkC), .str r.Wish, .str r.Value, .ref 1 3 0 r.Promises.length (some unkC), .ref 2 1 0 r.Accepted.length (some unkC)]) [(0, some (.arr 3 1 true (r.Members.map (D.int .i64)))), (1, some (.arr 88 3 true (r.Promises.map TPromise.d))), (2, some (.arr 3 1 true (r.Accepted.map (D.int .i64))))] (0, 14) := by
  refine callH_intro' Try.tmOk Try.func44 rfl (by decide) (Nat.le_of_ble_eq_true rfl) (by simp) ?_
  intro hwf
  unfold m_attempt_Twin at h
  refine .ends 0 (Nat.le_refl _) ?_
  refine .seq ?_
  refine .pl Try.S [0] ?_
  refine .seq ?_
  obtain ⟨v1, hv1, h⟩ := bind_some h
  obtain ⟨v2, hv2, h⟩ := bind_some h
  obtain ⟨v3, hv3, h⟩ := bind_some h
  refine .rg Try.S [1, 2] ?_
  refine .rd 2 ?_
  refine .ncall (r := .ref 3 1 0 v1.length (some unkC)) (eff := [(3, some (.arr 3 1 true (v1.map (D.int .i64))))]) (nw := (3, 6)) [] rfl rfl rfl rfl rfl (lend2s_cons rfl lend2s_nil) rfl (callH_at 3 (Nat.le_of_ble_eq_true rfl) (callH_slices_Clone_int_int a0.Members v1 hv1)) (newE_cons rfl rfl (newB_arr pl0_i64 _ _ _) newE_nil) (by intro i hi; simp [D.ids, D.idsL] at hi; omega) rfl ⟨Nat.le_of_ble_eq_true rfl, Nat.le_of_ble_eq_true rfl⟩ ?_
  refine .rd 2 ?_
  refine .ncall (r := .ref 6 3 0 v2.length (some unkC)) (eff := [(6, some (.arr 88 3 true (v2.map TPromise.d)))]) (nw := (6, 9)) [] rfl rfl rfl rfl rfl (lend2s_cons rfl lend2s_nil) rfl (callH_at 6 (Nat.le_of_ble_eq_true rfl) (callH_slices_Clone_Promise_Promise a0.Promises v2 hv2)) (newE_cons rfl rfl (newB_arr pl0_TPromise _ _ _) newE_nil) (by intro i hi; simp [D.ids, D.idsL] at hi; omega) rfl ⟨Nat.le_of_ble_eq_true rfl, Nat.le_of_ble_eq_true rfl⟩ ?_
  refine .rd 2 ?_
  refine .ncall (r := .ref 9 1 0 v3.length (some unkC)) (eff := [(9, some (.arr 3 1 true (v3.map (D.int .i64))))]) (nw := (9, 12)) [] rfl rfl rfl rfl rfl (lend2s_cons rfl lend2s_nil) rfl (callH_at 9 (Nat.le_of_ble_eq_true rfl) (callH_slices_Clone_int_int a0.Accepted v3 hv3)) (newE_cons rfl rfl (newB_arr pl0_i64 _ _ _) newE_nil) (by intro i hi; simp [D.ids, D.idsL] at hi; omega) rfl ⟨Nat.le_of_ble_eq_true rfl, Nat.le_of_ble_eq_true rfl⟩ ?_
  refine .rd 6 ?_
  refine .nil ⟨fun _ => schedB_of (by kernel_rfl), ?_⟩
  refine .seq ?_
  refine .pl Try.S [1, 2] ?_
  have hq := Option.some.inj h
  subst r
  refine .ret ⟨Try.Re_attempt_Twin (⟨a0.Phase, a0.Ballot, v1, a0.Wish, a0.Value, v2, v3⟩ : TAttempt), ?_, .inr rfl, retH [2, 1, 0] ?_ ?_⟩
  · skip
    exact .m [2] [3, 6, 9, 1] [(3, 0), (6, 1), (9, 2), (1, 3)]
  · exact rsi0
  · rfl

def Try.Re_towncrierref08_Twin (r : TAttempt) : St := ⟨[(2, .ptr 3 0)], [(0, .arr 3 1 true (r.Members.map (D.int .i64))), (1, .arr 88 3 true (r.Promises.map TPromise.d)), (2, .arr 3 1 true (r.Accepted.map (D.int .i64))), (3, .box [.int .u8 r.Phase, .int .i64 r.Ballot, .ref 0 1 0 r.Members.length (some unkC), .str r.Wish, .str r.Value, .ref 1 3 0 r.Promises.length (some unkC), .ref 2 1 0 r.Accepted.length (some unkC)])], 4⟩
attribute [local go_sem] Try.Re_towncrierref08_Twin
theorem callH_towncrierref08_Twin (a0 : TAttempt) (r : TAttempt) (h : m_towncrierref08_Twin a0 = some r) : CallH Try.prog 48 [.agg [.int .u8 a0.Phase, .int .i64 a0.Ballot, .imm 1 (a0.Members.map (D.int .i64)) 4, .str a0.Wish, .str a0.Value, .imm 3 (a0.Promises.map TPromise.d) 4, .imm 1 (a0.Accepted.map (D.int .i64)) 4]] [] (.agg [.int .u8 r.Phase, .int .i64 r.Ballot, .ref 0 1 0 r.Members.length (some unkC), .str r.Wish, .str r.Value, .ref 1 3 0 r.Promises.length (some unkC), .ref 2 1 0 r.Accepted.length (some unkC)]) [(0, some (.arr 3 1 true (r.Members.map (D.int .i64)))), (1, some (.arr 88 3 true (r.Promises.map TPromise.d))), (2, some (.arr 3 1 true (r.Accepted.map (D.int .i64))))] (0, 8) := by
  refine callH_intro' Try.tmOk Try.func48 rfl (by decide) (Nat.le_of_ble_eq_true rfl) (by simp) ?_
  intro hwf
  unfold m_towncrierref08_Twin at h
  refine .ends 0 (Nat.le_refl _) ?_
  refine .seq ?_
  refine .pl Try.S [0] ?_
  refine .seq ?_
  refine .pl Try.S [1, 2] ?_
  obtain ⟨k1, h⟩ := ite_ck h
  refine .seqM 3 (fun (_ : Unit) => ⟨[(1, .ptr 0 0), (2, .ptr 1 0), (3, .ptr 2 0)], [(0, .box [.int .u8 a0.Phase, .int .i64 a0.Ballot, .imm 1 (a0.Members.map (D.int .i64)) 4, .str a0.Wish, .str a0.Value, .imm 3 (a0.Promises.map TPromise.d) 4, .imm 1 (a0.Accepted.map (D.int .i64)) 4]), (1, .box [.int .u8 0, .int .i64 0, .imm 0 [] 0, .str [], .str [], .imm 0 [] 0, .imm 0 [] 0]), (2, .box [.int .u8 a0.Phase, .int .i64 a0.Ballot, .ref 3 1 0 a0.Members.length (some unkC), .str a0.Wish, .str a0.Value, .imm 3 (a0.Promises.map TPromise.d) 4, .imm 1 (a0.Accepted.map (D.int .i64)) 4]), (3, .arr 3 1 true (a0.Members.map (D.int .i64)))], 4⟩) (fun _ => True) (Nat.le_of_ble_eq_true rfl) ?_ (fun _ _ => ?_)
  · skip
    rcases list_cases a0.Members with hE1 | ⟨y, ys, hE1⟩
    · skip
      have hM1 : a0.Members.map (D.int .i64) = [] := by rw [hE1]; simp
      refine .plain Try.tmOk Try.tmMixed [1, 2, 3] (by decide +kernel) (by intro q hq; simp only [go_sem, Nat.reduceSub, Int.reduceEq, Nat.reduceLT, Nat.reduceDiv, Nat.reduceAdd, Nat.reduceBEq, Nat.reduceLeDiff, reduceCtorEq, Nat.reduceEqDiff, Nat.reduceMod, Nat.reduceMul, Try.tm_43, Try.tm_50, appendD_nil hM1, TAttempt.d]; exact hq) (by first | rfl | (simp only [go_sem, Nat.reduceLeDiff]; done) | (simp only [go_sem, Nat.reduceLeDiff]; rfl) | (simp; done) | (simp [oneD] <;> omega) | (simp_all; done) | (simp_all [oneD] <;> omega)) (by first | exact Nat.le_refl _ | exact Nat.le_of_ble_eq_true rfl | (dsimp only; omega) | (simp <;> omega)) ?_
      refine ⟨(), ?_, trivial⟩
      refine Goes.new0 1 3 (Nat.le_of_ble_eq_true rfl) ?_
      refine Goes.boxs 2 _ [.int .u8 a0.Phase, .int .i64 a0.Ballot, .ref 3 1 0 0 (some unkC), .str a0.Wish, .str a0.Value, .imm 3 (a0.Promises.map TPromise.d) 4, .imm 1 (a0.Accepted.map (D.int .i64)) 4] rfl (.keep (.keep (.cons (.own0 3 _ _ _ (by decide)) (.refl _)))) ?_
      exact .mx hE1 [1, 2, 3] [0, 1, 2, 3] []
    · skip
      have hM1 : a0.Members.map (D.int .i64) ≠ [] := by rw [hE1]; simp
      refine .plain Try.tmOk Try.tmMixed [1, 2, 3] (by decide +kernel) (by intro q hq; simp only [go_sem, Nat.reduceSub, Int.reduceEq, Nat.reduceLT, Nat.reduceDiv, Nat.reduceAdd, Nat.reduceBEq, Nat.reduceLeDiff, reduceCtorEq, Nat.reduceEqDiff, Nat.reduceMod, Nat.reduceMul, Try.tm_43, Try.tm_50, appendD_cons hM1, TAttempt.d]; exact hq) (by first | rfl | (simp only [go_sem, Nat.reduceLeDiff]; done) | (simp only [go_sem, Nat.reduceLeDiff]; rfl) | (simp; done) | (simp [oneD] <;> omega) | (simp_all; done) | (simp_all [oneD] <;> omega)) (by first | exact Nat.le_refl _ | exact Nat.le_of_ble_eq_true rfl | (dsimp only; omega) | (simp <;> omega)) ?_
      refine ⟨(), ?_, trivial⟩
      refine Goes.boxs 2 _ [.int .u8 a0.Phase, .int .i64 a0.Ballot, .ref 3 1 0 a0.Members.length (some unkC), .str a0.Wish, .str a0.Value, .imm 3 (a0.Promises.map TPromise.d) 4, .imm 1 (a0.Accepted.map (D.int .i64)) 4] rfl (.keep (.keep (.cons (.unk _ _ _ _ _) (.refl _)))) ?_
      exact .mx hE1 [1, 2, 3] [0, 1, 2, 3] []
  obtain ⟨k2, h⟩ := ite_ck h
  refine .seqM 4 (fun (_ : Unit) => ⟨[(1, .ptr 0 0), (2, .ptr 1 0), (3, .ptr 2 0)], [(0, .box [.int .u8 a0.Phase, .int .i64 a0.Ballot, .imm 1 (a0.Members.map (D.int .i64)) 4, .str a0.Wish, .str a0.Value, .imm 3 (a0.Promises.map TPromise.d) 4, .imm 1 (a0.Accepted.map (D.int .i64)) 4]), (1, .box [.int .u8 0, .int .i64 0, .imm 0 [] 0, .str [], .str [], .imm 0 [] 0, .imm 0 [] 0]), (2, .box [.int .u8 a0.Phase, .int .i64 a0.Ballot, .ref 3 1 0 a0.Members.length (some unkC), .str a0.Wish, .str a0.Value, .ref 4 3 0 a0.Promises.length (some unkC), .imm 1 (a0.Accepted.map (D.int .i64)) 4]), (3, .arr 3 1 true (a0.Members.map (D.int .i64))), (4, .arr 88 3 true (a0.Promises.map TPromise.d))], 5⟩) (fun _ => True) (Nat.le_of_ble_eq_true rfl) ?_ (fun _ _ => ?_)
  · skip
    rcases list_cases a0.Promises with hE2 | ⟨y, ys, hE2⟩
    · skip
      have hM2 : a0.Promises.map TPromise.d = [] := by rw [hE2]; simp
      refine .plain Try.tmOk Try.tmMixed [1, 2, 3] (by decide +kernel) (by intro q hq; simp only [go_sem, Nat.reduceSub, Int.reduceEq, Nat.reduceLT, Nat.reduceDiv, Nat.reduceAdd, Nat.reduceBEq, Nat.reduceLeDiff, reduceCtorEq, Nat.reduceEqDiff, Nat.reduceMod, Nat.reduceMul, Try.tm_48, Try.tm_50, appendD_nil hM2, TAttempt.d, TPromise.d]; exact hq) (by first | rfl | (simp only [go_sem, Nat.reduceLeDiff]; done) | (simp only [go_sem, Nat.reduceLeDiff]; rfl) | (simp; done) | (simp [oneD] <;> omega) | (simp_all; done) | (simp_all [oneD] <;> omega)) (by first | exact Nat.le_refl _ | exact Nat.le_of_ble_eq_true rfl | (dsimp only; omega) | (simp <;> omega)) ?_
      refine ⟨(), ?_, trivial⟩
      refine Goes.new0 3 88 (Nat.le_of_ble_eq_true rfl) ?_
      refine Goes.boxs 2 _ [.int .u8 a0.Phase, .int .i64 a0.Ballot, .ref 3 1 0 a0.Members.length (some unkC), .str a0.Wish, .str a0.Value, .ref 4 3 0 0 (some unkC), .imm 1 (a0.Accepted.map (D.int .i64)) 4] rfl (.keep (.keep (.keep (.keep (.keep (.cons (.own0 4 _ _ _ (by decide)) (.refl _))))))) ?_
      exact .mx hE2 [1, 2, 3] [0, 1, 2, 3, 4] []
    · skip
      have hM2 : a0.Promises.map TPromise.d ≠ [] := by rw [hE2]; simp
      refine .plain Try.tmOk Try.tmMixed [1, 2, 3] (by decide +kernel) (by intro q hq; simp only [go_sem, Nat.reduceSub, Int.reduceEq, Nat.reduceLT, Nat.reduceDiv, Nat.reduceAdd, Nat.reduceBEq, Nat.reduceLeDiff, reduceCtorEq, Nat.reduceEqDiff, Nat.reduceMod, Nat.reduceMul, Try.tm_48, Try.tm_50, appendD_cons hM2, TAttempt.d, TPromise.d]; exact hq) (by first | rfl | (simp only [go_sem, Nat.reduceLeDiff]; done) | (simp only [go_sem, Nat.reduceLeDiff]; rfl) | (simp; done) | (simp [oneD] <;> omega) | (simp_all; done) | (simp_all [oneD] <;> omega)) (by first | exact Nat.le_refl _ | exact Nat.le_of_ble_eq_true rfl | (dsimp only; omega) | (simp <;> omega)) ?_
      refine ⟨(), ?_, trivial⟩
      refine Goes.boxs 2 _ [.int .u8 a0.Phase, .int .i64 a0.Ballot, .ref 3 1 0 a0.Members.length (some unkC), .str a0.Wish, .str a0.Value, .ref 4 3 0 a0.Promises.length (some unkC), .imm 1 (a0.Accepted.map (D.int .i64)) 4] rfl (.keep (.keep (.keep (.keep (.keep (.cons (.unk _ _ _ _ _) (.refl _))))))) ?_
      exact .mx hE2 [1, 2, 3] [0, 1, 2, 3, 4] []
  obtain ⟨k3, h⟩ := ite_ck h
  refine .seqM 5 (fun (_ : Unit) => ⟨[(2, .ptr 1 0), (3, .ptr 2 0)], [(1, .box [.int .u8 0, .int .i64 0, .imm 0 [] 0, .str [], .str [], .imm 0 [] 0, .imm 0 [] 0]), (2, .box [.int .u8 a0.Phase, .int .i64 a0.Ballot, .ref 3 1 0 a0.Members.length (some unkC), .str a0.Wish, .str a0.Value, .ref 4 3 0 a0.Promises.length (some unkC), .ref 5 1 0 a0.Accepted.length (some unkC)]), (3, .arr 3 1 true (a0.Members.map (D.int .i64))), (4, .arr 88 3 true (a0.Promises.map TPromise.d)), (5, .arr 3 1 true (a0.Accepted.map (D.int .i64)))], 6⟩) (fun _ => True) (Nat.le_of_ble_eq_true rfl) ?_ (fun _ _ => ?_)
  · skip
    rcases list_cases a0.Accepted with hE3 | ⟨y, ys, hE3⟩
    · skip
      have hM3 : a0.Accepted.map (D.int .i64) = [] := by rw [hE3]; simp
      refine .plain Try.tmOk Try.tmMixed [1, 2, 3] (by decide +kernel) (by intro q hq; simp only [go_sem, Nat.reduceSub, Int.reduceEq, Nat.reduceLT, Nat.reduceDiv, Nat.reduceAdd, Nat.reduceBEq, Nat.reduceLeDiff, reduceCtorEq, Nat.reduceEqDiff, Nat.reduceMod, Nat.reduceMul, Try.tm_43, Try.tm_50, appendD_nil hM3, TAttempt.d]; exact hq) (by first | rfl | (simp only [go_sem, Nat.reduceLeDiff]; done) | (simp only [go_sem, Nat.reduceLeDiff]; rfl) | (simp; done) | (simp [oneD] <;> omega) | (simp_all; done) | (simp_all [oneD] <;> omega)) (by first | exact Nat.le_refl _ | exact Nat.le_of_ble_eq_true rfl | (dsimp only; omega) | (simp <;> omega)) ?_
      refine ⟨(), ?_, trivial⟩
      refine Goes.new0 1 3 (Nat.le_of_ble_eq_true rfl) ?_
      refine Goes.boxs 2 _ [.int .u8 a0.Phase, .int .i64 a0.Ballot, .ref 3 1 0 a0.Members.length (some unkC), .str a0.Wish, .str a0.Value, .ref 4 3 0 a0.Promises.length (some unkC), .ref 5 1 0 0 (some unkC)] rfl (.keep (.keep (.keep (.keep (.keep (.keep (.cons (.own0 5 _ _ _ (by decide)) (.refl _)))))))) ?_
      exact .mx hE3 [2, 3] [1, 2, 3, 4, 5] []
    · skip
      have hM3 : a0.Accepted.map (D.int .i64) ≠ [] := by rw [hE3]; simp
      refine .plain Try.tmOk Try.tmMixed [1, 2, 3] (by decide +kernel) (by intro q hq; simp only [go_sem, Nat.reduceSub, Int.reduceEq, Nat.reduceLT, Nat.reduceDiv, Nat.reduceAdd, Nat.reduceBEq, Nat.reduceLeDiff, reduceCtorEq, Nat.reduceEqDiff, Nat.reduceMod, Nat.reduceMul, Try.tm_43, Try.tm_50, appendD_cons hM3, TAttempt.d]; exact hq) (by first | rfl | (simp only [go_sem, Nat.reduceLeDiff]; done) | (simp only [go_sem, Nat.reduceLeDiff]; rfl) | (simp; done) | (simp [oneD] <;> omega) | (simp_all; done) | (simp_all [oneD] <;> omega)) (by first | exact Nat.le_refl _ | exact Nat.le_of_ble_eq_true rfl | (dsimp only; omega) | (simp <;> omega)) ?_
      refine ⟨(), ?_, trivial⟩
      refine Goes.boxs 2 _ [.int .u8 a0.Phase, .int .i64 a0.Ballot, .ref 3 1 0 a0.Members.length (some unkC), .str a0.Wish, .str a0.Value, .ref 4 3 0 a0.Promises.length (some unkC), .ref 5 1 0 a0.Accepted.length (some unkC)] rfl (.keep (.keep (.keep (.keep (.keep (.keep (.cons (.unk _ _ _ _ _) (.refl _)))))))) ?_
      exact .mx hE3 [2, 3] [1, 2, 3, 4, 5] []
  refine .seq ?_
  refine .pl Try.S [2, 3] ?_
  have hq := Option.some.inj h
  subst r
  refine .ret ⟨Try.Re_towncrierref08_Twin a0, ?_, .inr rfl, retH [2, 1, 0] ?_ ?_⟩
  · skip
    exact .m [2] [3, 4, 5, 1] [(3, 0), (4, 1), (5, 2), (1, 3)]
  · exact rsi0
  · rfl

def Try.Re_towncrierref06_TwinGroup (r : TGroup) : St := ⟨[(2, .ptr 2 0)], [(0, .arr 3 1 true (r.Roster.map (D.int .i64))), (1, .arr 3 1 true (r.Members.map (D.int .i64))), (2, .box [.ref 0 1 0 r.Roster.length (some unkC), .ref 1 1 0 r.Members.length (some unkC)])], 3⟩
attribute [local go_sem] Try.Re_towncrierref06_TwinGroup
theorem callH_towncrierref06_TwinGroup (a0 : TGroup) (r : TGroup) (h : m_towncrierref06_TwinGroup a0 = some r) : CallH Try.prog 33 [.agg [.imm 1 (a0.Roster.map (D.int .i64)) 4, .imm 1 (a0.Members.map (D.int .i64)) 4]] [] (.agg [.ref 0 1 0 r.Roster.length (some unkC), .ref 1 1 0 r.Members.length (some unkC)]) [(0, some (.arr 3 1 true (r.Roster.map (D.int .i64)))), (1, some (.arr 3 1 true (r.Members.map (D.int .i64))))] (0, 6) := by
  refine callH_intro' Try.tmOk Try.func33 rfl (by decide) (Nat.le_of_ble_eq_true rfl) (by simp) ?_
  intro hwf
  unfold m_towncrierref06_TwinGroup at h
  refine .ends 0 (Nat.le_refl _) ?_
  refine .seq ?_
  refine .pl Try.S [0] ?_
  obtain ⟨k1, h⟩ := ite_ck h
  obtain ⟨k2, h⟩ := ite_ck h
  refine .seqM 2 (fun (_ : Unit) => ⟨[(2, .ptr 1 0)], [(1, .box [.ref 2 1 0 a0.Roster.length (some unkC), .ref 3 1 0 a0.Members.length (some unkC)]), (2, .arr 3 1 true (a0.Roster.map (D.int .i64))), (3, .arr 3 1 true (a0.Members.map (D.int .i64)))], 4⟩) (fun _ => True) (Nat.le_of_ble_eq_true rfl) ?_ (fun _ _ => ?_)
  · skip
    rcases list_cases a0.Roster with hE1 | ⟨y, ys, hE1⟩
    · skip
      have hM1 : a0.Roster.map (D.int .i64) = [] := by rw [hE1]; simp
      rcases list_cases a0.Members with hE2 | ⟨y, ys, hE2⟩
      · skip
        have hM2 : a0.Members.map (D.int .i64) = [] := by rw [hE2]; simp
        refine .drawn Try.tmOk Try.tmMixed [1, 2] (by decide +kernel) (by intro q hq; simp only [go_sem, Nat.reduceSub, Int.reduceEq, Nat.reduceLT, Nat.reduceDiv, Nat.reduceAdd, Nat.reduceBEq, Nat.reduceLeDiff, reduceCtorEq, Nat.reduceEqDiff, Nat.reduceMod, Nat.reduceMul, Try.tm_43, Try.tm_45, appendD_nil hM1, appendD_nil hM2, TGroup.d]; exact hq) (schedB_of (by kernel_rfl)) (by first | rfl | (simp only [go_sem, Nat.reduceLeDiff]; done) | (simp only [go_sem, Nat.reduceLeDiff]; rfl) | (simp; done) | (simp [oneD] <;> omega) | (simp_all; done) | (simp_all [oneD] <;> omega)) (by first | exact Nat.le_refl _ | exact Nat.le_of_ble_eq_true rfl | (dsimp only; omega) | (simp <;> omega)) ?_
        refine ⟨(), ?_, trivial⟩
        refine Goes.new0 1 3 (Nat.le_of_ble_eq_true rfl) ?_
        refine Goes.new0 1 3 (Nat.le_of_ble_eq_true rfl) ?_
        refine Goes.boxs 1 _ [.ref 2 1 0 0 (some unkC), .ref 3 1 0 0 (some unkC)] rfl (.cons (.own0 2 _ _ _ (by decide)) (.cons (.own0 3 _ _ _ (by decide)) (.refl _))) ?_
        exact .mx (And.intro hE1 hE2) [2] [1, 2, 3] []
      · skip
        have hM2 : a0.Members.map (D.int .i64) ≠ [] := by rw [hE2]; simp
        refine .drawn Try.tmOk Try.tmMixed [1, 2] (by decide +kernel) (by intro q hq; simp only [go_sem, Nat.reduceSub, Int.reduceEq, Nat.reduceLT, Nat.reduceDiv, Nat.reduceAdd, Nat.reduceBEq, Nat.reduceLeDiff, reduceCtorEq, Nat.reduceEqDiff, Nat.reduceMod, Nat.reduceMul, Try.tm_43, Try.tm_45, appendD_nil hM1, appendD_cons hM2, TGroup.d]; exact hq) (schedB_of (by kernel_rfl)) (by first | rfl | (simp only [go_sem, Nat.reduceLeDiff]; done) | (simp only [go_sem, Nat.reduceLeDiff]; rfl) | (simp; done) | (simp [oneD] <;> omega) | (simp_all; done) | (simp_all [oneD] <;> omega)) (by first | exact Nat.le_refl _ | exact Nat.le_of_ble_eq_true rfl | (dsimp only; omega) | (simp <;> omega)) ?_
        refine ⟨(), ?_, trivial⟩
        refine Goes.new0 1 3 (Nat.le_of_ble_eq_true rfl) ?_
        refine Goes.boxs 1 _ [.ref 3 1 0 0 (some unkC), .ref 2 1 0 a0.Members.length (some unkC)] rfl (.cons (.own0 3 _ _ _ (by decide)) (.cons (.unk _ _ _ _ _) (.refl _))) ?_
        exact .mx (And.intro hE1 hE2) [2] [1, 3, 2] [(3, 2), (2, 3)]
    · skip
      have hM1 : a0.Roster.map (D.int .i64) ≠ [] := by rw [hE1]; simp
      rcases list_cases a0.Members with hE3 | ⟨y, ys, hE3⟩
      · skip
        have hM3 : a0.Members.map (D.int .i64) = [] := by rw [hE3]; simp
        refine .drawn Try.tmOk Try.tmMixed [1, 2] (by decide +kernel) (by intro q hq; simp only [go_sem, Nat.reduceSub, Int.reduceEq, Nat.reduceLT, Nat.reduceDiv, Nat.reduceAdd, Nat.reduceBEq, Nat.reduceLeDiff, reduceCtorEq, Nat.reduceEqDiff, Nat.reduceMod, Nat.reduceMul, Try.tm_43, Try.tm_45, appendD_cons hM1, appendD_nil hM3, TGroup.d]; exact hq) (schedB_of (by kernel_rfl)) (by first | rfl | (simp only [go_sem, Nat.reduceLeDiff]; done) | (simp only [go_sem, Nat.reduceLeDiff]; rfl) | (simp; done) | (simp [oneD] <;> omega) | (simp_all; done) | (simp_all [oneD] <;> omega)) (by first | exact Nat.le_refl _ | exact Nat.le_of_ble_eq_true rfl | (dsimp only; omega) | (simp <;> omega)) ?_
        refine ⟨(), ?_, trivial⟩
        refine Goes.new0 1 3 (Nat.le_of_ble_eq_true rfl) ?_
        refine Goes.boxs 1 _ [.ref 2 1 0 a0.Roster.length (some unkC), .ref 3 1 0 0 (some unkC)] rfl (.cons (.unk _ _ _ _ _) (.cons (.own0 3 _ _ _ (by decide)) (.refl _))) ?_
        exact .mx (And.intro hE1 hE3) [2] [1, 2, 3] []
      · skip
        have hM3 : a0.Members.map (D.int .i64) ≠ [] := by rw [hE3]; simp
        refine .drawn Try.tmOk Try.tmMixed [1, 2] (by decide +kernel) (by intro q hq; simp only [go_sem, Nat.reduceSub, Int.reduceEq, Nat.reduceLT, Nat.reduceDiv, Nat.reduceAdd, Nat.reduceBEq, Nat.reduceLeDiff, reduceCtorEq, Nat.reduceEqDiff, Nat.reduceMod, Nat.reduceMul, Try.tm_43, Try.tm_45, appendD_cons hM1, appendD_cons hM3, TGroup.d]; exact hq) (schedB_of (by kernel_rfl)) (by first | rfl | (simp only [go_sem, Nat.reduceLeDiff]; done) | (simp only [go_sem, Nat.reduceLeDiff]; rfl) | (simp; done) | (simp [oneD] <;> omega) | (simp_all; done) | (simp_all [oneD] <;> omega)) (by first | exact Nat.le_refl _ | exact Nat.le_of_ble_eq_true rfl | (dsimp only; omega) | (simp <;> omega)) ?_
        refine ⟨(), ?_, trivial⟩
        refine Goes.boxs 1 _ [.ref 2 1 0 a0.Roster.length (some unkC), .ref 3 1 0 a0.Members.length (some unkC)] rfl (.cons (.unk _ _ _ _ _) (.cons (.unk _ _ _ _ _) (.refl _))) ?_
        exact .mx (And.intro hE1 hE3) [2] [1, 2, 3] []
  have hq := Option.some.inj h
  subst r
  refine .ret ⟨Try.Re_towncrierref06_TwinGroup a0, ?_, .inr rfl, retH [1, 0] ?_ ?_⟩
  · skip
    exact .m [2] [2, 3, 1] [(2, 0), (3, 1), (1, 2)]
  · exact rsi0
  · rfl

theorem callP_towncrierref06_TwinGroup (a0 : TGroup) (r : TGroup) (h : m_towncrierref06_TwinGroup a0 = some r) : CallP Try.prog 33 [.agg [.imm 1 (a0.Roster.map (D.int .i64)) 4, .imm 1 (a0.Members.map (D.int .i64)) 4]] (.agg [.imm 1 (r.Roster.map (D.int .i64)) 12, .imm 1 (r.Members.map (D.int .i64)) 12]) :=
  callP_frz (frz_agg (frzs_cons (frz_ref0 pl0_i64 rfl rfl) (frzs_cons (frz_ref0 pl0_i64 rfl rfl) frzs_nil))) (callH_towncrierref06_TwinGroup a0 r h)

def Try.Re_seat_Twin (r : TSeat) : St := ⟨[(2, .ptr 8 0)], [(0, .arr 3 1 true (r.Group.Roster.map (D.int .i64))), (1, .arr 3 1 true (r.Group.Members.map (D.int .i64))), (2, .arr 9 1 true (r.Log.map D.str)), (3, .arr 63 5 true (r.Votes.map TSeen.d)), (4, .arr 3 1 true (r.Try.Members.map (D.int .i64))), (5, .arr 88 3 true (r.Try.Promises.map TPromise.d)), (6, .arr 3 1 true (r.Try.Accepted.map (D.int .i64))), (7, .arr 9 1 true (r.Wishes.map D.str)), (8, .box [.int .i64 r.Me, .int .i64 r.Number, .ref 0 1 0 r.Group.Roster.length (some unkC), .ref 1 1 0 r.Group.Members.length (some unkC), .ref 2 1 0 r.Log.length (some unkC), .ref 3 5 0 r.Votes.length (some unkC), .int .u8 r.Try.Phase, .int .i64 r.Try.Ballot, .ref 4 1 0 r.Try.Members.length (some unkC), .str r.Try.Wish, .str r.Try.Value, .ref 5 3 0 r.Try.Promises.length (some unkC), .ref 6 1 0 r.Try.Accepted.length (some unkC), .ref 7 1 0 r.Wishes.length (some unkC), .int .i64 r.Heard])], 9⟩
attribute [local go_sem] Try.Re_seat_Twin
theorem callH_seat_Twin (a0 : TSeat) (r : TSeat) (h : m_seat_Twin a0 = some r) : CallH Try.prog 30 [.agg [.int .i64 a0.Me, .int .i64 a0.Number, .imm 1 (a0.Group.Roster.map (D.int .i64)) 4, .imm 1 (a0.Group.Members.map (D.int .i64)) 4, .imm 1 (a0.Log.map D.str) 4, .imm 5 (a0.Votes.map TSeen.d) 4, .int .u8 a0.Try.Phase, .int .i64 a0.Try.Ballot, .imm 1 (a0.Try.Members.map (D.int .i64)) 4, .str a0.Try.Wish, .str a0.Try.Value, .imm 3 (a0.Try.Promises.map TPromise.d) 4, .imm 1 (a0.Try.Accepted.map (D.int .i64)) 4, .imm 1 (a0.Wishes.map D.str) 4, .int .i64 a0.Heard]] [] (.agg [.int .i64 r.Me, .int .i64 r.Number, .ref 0 1 0 r.Group.Roster.length (some unkC), .ref 1 1 0 r.Group.Members.length (some unkC), .ref 2 1 0 r.Log.length (some unkC), .ref 3 5 0 r.Votes.length (some unkC), .int .u8 r.Try.Phase, .int .i64 r.Try.Ballot, .ref 4 1 0 r.Try.Members.length (some unkC), .str r.Try.Wish, .str r.Try.Value, .ref 5 3 0 r.Try.Promises.length (some unkC), .ref 6 1 0 r.Try.Accepted.length (some unkC), .ref 7 1 0 r.Wishes.length (some unkC), .int .i64 r.Heard]) [(0, some (.arr 3 1 true (r.Group.Roster.map (D.int .i64)))), (1, some (.arr 3 1 true (r.Group.Members.map (D.int .i64)))), (2, some (.arr 9 1 true (r.Log.map D.str))), (3, some (.arr 63 5 true (r.Votes.map TSeen.d))), (4, some (.arr 3 1 true (r.Try.Members.map (D.int .i64)))), (5, some (.arr 88 3 true (r.Try.Promises.map TPromise.d))), (6, some (.arr 3 1 true (r.Try.Accepted.map (D.int .i64)))), (7, some (.arr 9 1 true (r.Wishes.map D.str)))] (0, 34) := by
  refine callH_intro' Try.tmOk Try.func30 rfl (by decide) (Nat.le_of_ble_eq_true rfl) (by simp) ?_
  intro hwf
  unfold m_seat_Twin at h
  refine .ends 0 (Nat.le_refl _) ?_
  refine .seq ?_
  refine .pl Try.S [0] ?_
  refine .seq ?_
  obtain ⟨v1, hv1, h⟩ := bind_some h
  obtain ⟨v2, hv2, h⟩ := bind_some h
  refine .rg Try.S [1, 2] ?_
  refine .rd 3 ?_
  refine .ncall (r := .ref 3 1 0 v1.length (some unkC)) (eff := [(3, some (.arr 3 1 true (v1.map (D.int .i64))))]) (nw := (3, 6)) [] rfl rfl rfl rfl rfl (lend2s_cons rfl lend2s_nil) rfl (callH_at 3 (Nat.le_of_ble_eq_true rfl) (callH_slices_Clone_int_int a0.Group.Roster v1 hv1)) (newE_cons rfl rfl (newB_arr pl0_i64 _ _ _) newE_nil) (by intro i hi; simp [D.ids, D.idsL] at hi; omega) rfl ⟨Nat.le_of_ble_eq_true rfl, Nat.le_of_ble_eq_true rfl⟩ ?_
  refine .rd 3 ?_
  refine .ncall (r := .ref 6 1 0 v2.length (some unkC)) (eff := [(6, some (.arr 3 1 true (v2.map (D.int .i64))))]) (nw := (6, 9)) [] rfl rfl rfl rfl rfl (lend2s_cons rfl lend2s_nil) rfl (callH_at 6 (Nat.le_of_ble_eq_true rfl) (callH_slices_Clone_int_int a0.Group.Members v2 hv2)) (newE_cons rfl rfl (newB_arr pl0_i64 _ _ _) newE_nil) (by intro i hi; simp [D.ids, D.idsL] at hi; omega) rfl ⟨Nat.le_of_ble_eq_true rfl, Nat.le_of_ble_eq_true rfl⟩ ?_
  refine .rd 3 ?_
  refine .nil ⟨fun _ => schedB_of (by kernel_rfl), ?_⟩
  refine .seq ?_
  obtain ⟨v3, hv3, h⟩ := bind_some h
  obtain ⟨v4, hv4, h⟩ := bind_some h
  obtain ⟨v5, hv5, h⟩ := bind_some h
  obtain ⟨v6, hv6, h⟩ := bind_some h
  refine .rg Try.S [1, 2] ?_
  refine .rd 2 ?_
  refine .ncall (r := .ref 9 1 0 v3.length (some unkC)) (eff := [(9, some (.arr 9 1 true (v3.map D.str)))]) (nw := (9, 12)) [] rfl rfl rfl rfl rfl (lend2s_cons rfl lend2s_nil) rfl (callH_at 9 (Nat.le_of_ble_eq_true rfl) (callH_slices_Clone_string_string a0.Log v3 hv3)) (newE_cons rfl rfl (newB_arr pl0_str _ _ _) newE_nil) (by intro i hi; simp [D.ids, D.idsL] at hi; omega) rfl ⟨Nat.le_of_ble_eq_true rfl, Nat.le_of_ble_eq_true rfl⟩ ?_
  refine .rd 2 ?_
  refine .ncall (r := .ref 12 5 0 v4.length (some unkC)) (eff := [(12, some (.arr 63 5 true (v4.map TSeen.d)))]) (nw := (12, 15)) [] rfl rfl rfl rfl rfl (lend2s_cons rfl lend2s_nil) rfl (callH_at 12 (Nat.le_of_ble_eq_true rfl) (callH_slices_Clone_Seen_Seen a0.Votes v4 hv4)) (newE_cons rfl rfl (newB_arr pl0_TSeen _ _ _) newE_nil) (by intro i hi; simp [D.ids, D.idsL] at hi; omega) rfl ⟨Nat.le_of_ble_eq_true rfl, Nat.le_of_ble_eq_true rfl⟩ ?_
  refine .rd 2 ?_
  refine .ncall (r := .ref 15 1 0 v5.length (some unkC)) (eff := [(15, some (.arr 9 1 true (v5.map D.str)))]) (nw := (15, 18)) [] rfl rfl rfl rfl rfl (lend2s_cons rfl lend2s_nil) rfl (callH_at 15 (Nat.le_of_ble_eq_true rfl) (callH_slices_Clone_string_string a0.Wishes v5 hv5)) (newE_cons rfl rfl (newB_arr pl0_str _ _ _) newE_nil) (by intro i hi; simp [D.ids, D.idsL] at hi; omega) rfl ⟨Nat.le_of_ble_eq_true rfl, Nat.le_of_ble_eq_true rfl⟩ ?_
  refine .rd 2 ?_
  refine .ncall (r := .agg [.int .u8 v6.Phase, .int .i64 v6.Ballot, .ref 18 1 0 v6.Members.length (some unkC), .str v6.Wish, .str v6.Value, .ref 19 3 0 v6.Promises.length (some unkC), .ref 20 1 0 v6.Accepted.length (some unkC)]) (eff := [(18, some (.arr 3 1 true (v6.Members.map (D.int .i64)))), (19, some (.arr 88 3 true (v6.Promises.map TPromise.d))), (20, some (.arr 3 1 true (v6.Accepted.map (D.int .i64))))]) (nw := (18, 32)) [] rfl rfl rfl rfl rfl (lend2s_cons rfl lend2s_nil) rfl (callH_at 18 (Nat.le_of_ble_eq_true rfl) (callH_attempt_Twin a0.Try v6 hv6)) (newE_cons rfl rfl (newB_arr pl0_i64 _ _ _) (newE_cons rfl rfl (newB_arr pl0_TPromise _ _ _) (newE_cons rfl rfl (newB_arr pl0_i64 _ _ _) newE_nil))) (by intro i hi; simp [D.ids, D.idsL] at hi; omega) rfl ⟨Nat.le_of_ble_eq_true rfl, Nat.le_of_ble_eq_true rfl⟩ ?_
  refine .rd 8 ?_
  refine .nil ⟨fun _ => schedB_of (by kernel_rfl), ?_⟩
  refine .seq ?_
  refine .pl Try.S [1, 2] ?_
  have hq := Option.some.inj h
  subst r
  refine .ret ⟨Try.Re_seat_Twin (⟨a0.Me, a0.Number, (⟨v1, v2⟩ : TGroup), v3, v4, v6, v5, a0.Heard⟩ : TSeat), ?_, .inr rfl, retH [7, 6, 5, 4, 3, 2, 1, 0] ?_ ?_⟩
  · skip
    exact .m [2] [3, 6, 9, 12, 18, 19, 20, 15, 1] [(3, 0), (6, 1), (9, 2), (12, 3), (18, 4), (19, 5), (20, 6), (15, 7), (1, 8)]
  · exact rsi0
  · rfl

theorem callP_seat_Twin (a0 : TSeat) (r : TSeat) (h : m_seat_Twin a0 = some r) : CallP Try.prog 30 [.agg [.int .i64 a0.Me, .int .i64 a0.Number, .imm 1 (a0.Group.Roster.map (D.int .i64)) 4, .imm 1 (a0.Group.Members.map (D.int .i64)) 4, .imm 1 (a0.Log.map D.str) 4, .imm 5 (a0.Votes.map TSeen.d) 4, .int .u8 a0.Try.Phase, .int .i64 a0.Try.Ballot, .imm 1 (a0.Try.Members.map (D.int .i64)) 4, .str a0.Try.Wish, .str a0.Try.Value, .imm 3 (a0.Try.Promises.map TPromise.d) 4, .imm 1 (a0.Try.Accepted.map (D.int .i64)) 4, .imm 1 (a0.Wishes.map D.str) 4, .int .i64 a0.Heard]] (.agg [.int .i64 r.Me, .int .i64 r.Number, .imm 1 (r.Group.Roster.map (D.int .i64)) 12, .imm 1 (r.Group.Members.map (D.int .i64)) 12, .imm 1 (r.Log.map D.str) 12, .imm 5 (r.Votes.map TSeen.d) 12, .int .u8 r.Try.Phase, .int .i64 r.Try.Ballot, .imm 1 (r.Try.Members.map (D.int .i64)) 12, .str r.Try.Wish, .str r.Try.Value, .imm 3 (r.Try.Promises.map TPromise.d) 12, .imm 1 (r.Try.Accepted.map (D.int .i64)) 12, .imm 1 (r.Wishes.map D.str) 12, .int .i64 r.Heard]) :=
  callP_frz (frz_agg (frzs_cons rfl (frzs_cons rfl (frzs_cons (frz_ref0 pl0_i64 rfl rfl) (frzs_cons (frz_ref0 pl0_i64 rfl rfl) (frzs_cons (frz_ref0 pl0_str rfl rfl) (frzs_cons (frz_ref0 pl0_TSeen rfl rfl) (frzs_cons rfl (frzs_cons rfl (frzs_cons (frz_ref0 pl0_i64 rfl rfl) (frzs_cons rfl (frzs_cons rfl (frzs_cons (frz_ref0 pl0_TPromise rfl rfl) (frzs_cons (frz_ref0 pl0_i64 rfl rfl) (frzs_cons (frz_ref0 pl0_str rfl rfl) (frzs_cons rfl frzs_nil)))))))))))))))) (callH_seat_Twin a0 r h)

def Try.Re_seat_New (r : TSeat × Int) : St := ⟨[(6, .ptr 8 0), (7, .int .i64 r.2)], [(0, .arr 3 1 true (r.1.Group.Roster.map (D.int .i64))), (1, .arr 3 1 true (r.1.Group.Members.map (D.int .i64))), (2, .arr 9 1 true (r.1.Log.map D.str)), (3, .arr 63 5 true (r.1.Votes.map TSeen.d)), (4, .arr 3 1 true (r.1.Try.Members.map (D.int .i64))), (5, .arr 88 3 true (r.1.Try.Promises.map TPromise.d)), (6, .arr 3 1 true (r.1.Try.Accepted.map (D.int .i64))), (7, .arr 9 1 true (r.1.Wishes.map D.str)), (8, .box [.int .i64 r.1.Me, .int .i64 r.1.Number, .ref 0 1 0 r.1.Group.Roster.length (some unkC), .ref 1 1 0 r.1.Group.Members.length (some unkC), .ref 2 1 0 r.1.Log.length (some unkC), .ref 3 5 0 r.1.Votes.length (some unkC), .int .u8 r.1.Try.Phase, .int .i64 r.1.Try.Ballot, .ref 4 1 0 r.1.Try.Members.length (some unkC), .str r.1.Try.Wish, .str r.1.Try.Value, .ref 5 3 0 r.1.Try.Promises.length (some unkC), .ref 6 1 0 r.1.Try.Accepted.length (some unkC), .ref 7 1 0 r.1.Wishes.length (some unkC), .int .i64 r.1.Heard])], 9⟩
attribute [local go_sem] Try.Re_seat_New
theorem callH_seat_New (a0 : Int) (a1 : Int) (a2 : TGroup) (r : TSeat × Int) (h : m_seat_New a0 a1 a2 = some r) : CallH Try.prog 19 [.int .i64 a0, .int .i64 a1, .agg [.imm 1 (a2.Roster.map (D.int .i64)) 4, .imm 1 (a2.Members.map (D.int .i64)) 4]] [] (.tuple [.agg [.int .i64 r.1.Me, .int .i64 r.1.Number, .ref 0 1 0 r.1.Group.Roster.length (some unkC), .ref 1 1 0 r.1.Group.Members.length (some unkC), .ref 2 1 0 r.1.Log.length (some unkC), .ref 3 5 0 r.1.Votes.length (some unkC), .int .u8 r.1.Try.Phase, .int .i64 r.1.Try.Ballot, .ref 4 1 0 r.1.Try.Members.length (some unkC), .str r.1.Try.Wish, .str r.1.Try.Value, .ref 5 3 0 r.1.Try.Promises.length (some unkC), .ref 6 1 0 r.1.Try.Accepted.length (some unkC), .ref 7 1 0 r.1.Wishes.length (some unkC), .int .i64 r.1.Heard], .int .i64 r.2]) [(0, some (.arr 3 1 true (r.1.Group.Roster.map (D.int .i64)))), (1, some (.arr 3 1 true (r.1.Group.Members.map (D.int .i64)))), (2, some (.arr 9 1 true (r.1.Log.map D.str))), (3, some (.arr 63 5 true (r.1.Votes.map TSeen.d))), (4, some (.arr 3 1 true (r.1.Try.Members.map (D.int .i64)))), (5, some (.arr 88 3 true (r.1.Try.Promises.map TPromise.d))), (6, some (.arr 3 1 true (r.1.Try.Accepted.map (D.int .i64)))), (7, some (.arr 9 1 true (r.1.Wishes.map D.str)))] (0, 70) := by
  refine callH_intro' Try.tmOk Try.func19 rfl (by decide) (Nat.le_of_ble_eq_true rfl) (by simp) ?_
  intro hwf
  unfold m_seat_New at h
  refine .ends 0 (Nat.le_refl _) ?_
  refine .seq ?_
  refine .pl Try.S [0, 1, 2] ?_
  refine .seq ?_
  refine .seq ?_
  refine .rg Try.S [0, 1, 5, 6] ?_
  refine .rn 6 ?_
  refine .rn 8 ?_
  refine .nil ⟨nofun, ?_⟩
  refine .cond rfl rfl (fun hc1 => ?_) (fun hc1 => ?_)
  · skip
    replace h := ite_lc h hc1
    refine .seq ?_
    refine .pl Try.S [6] ?_
    have hq := Option.some.inj h
    subst r
    refine .ret ⟨Try.Re_seat_New ((⟨0, 0, (⟨[], []⟩ : TGroup), [], [], (⟨0, 0, [], [], [], [], []⟩ : TAttempt), [], 0⟩ : TSeat), 2), ?_, .inr rfl, retH [7, 6, 5, 4, 3, 2, 1, 0] ?_ ?_⟩
    · skip
      refine Goes.new0 1 3 (Nat.le_of_ble_eq_true rfl) ?_
      refine Goes.new0 1 3 (Nat.le_of_ble_eq_true rfl) ?_
      refine Goes.new0 1 9 (Nat.le_of_ble_eq_true rfl) ?_
      refine Goes.new0 5 63 (Nat.le_of_ble_eq_true rfl) ?_
      refine Goes.new0 1 3 (Nat.le_of_ble_eq_true rfl) ?_
      refine Goes.new0 3 88 (Nat.le_of_ble_eq_true rfl) ?_
      refine Goes.new0 1 3 (Nat.le_of_ble_eq_true rfl) ?_
      refine Goes.new0 1 9 (Nat.le_of_ble_eq_true rfl) ?_
      refine Goes.boxs 1 _ [.int .i64 0, .int .i64 0, .ref 2 1 0 0 (some unkC), .ref 3 1 0 0 (some unkC), .ref 4 1 0 0 (some unkC), .ref 5 5 0 0 (some unkC), .int .u8 0, .int .i64 0, .ref 6 1 0 0 (some unkC), .str [], .str [], .ref 7 3 0 0 (some unkC), .ref 8 1 0 0 (some unkC), .ref 9 1 0 0 (some unkC), .int .i64 0] rfl (.keep (.keep (.cons (.own0 2 _ _ _ (by decide)) (.cons (.own0 3 _ _ _ (by decide)) (.cons (.own0 4 _ _ _ (by decide)) (.cons (.own0 5 _ _ _ (by decide)) (.keep (.keep (.cons (.own0 6 _ _ _ (by decide)) (.keep (.keep (.cons (.own0 7 _ _ _ (by decide)) (.cons (.own0 8 _ _ _ (by decide)) (.cons (.own0 9 _ _ _ (by decide)) (.refl _))))))))))))))) ?_
      exact .m [6, 7] [2, 3, 4, 5, 6, 7, 8, 9, 1] [(2, 0), (3, 1), (4, 2), (5, 3), (6, 4), (7, 5), (8, 6), (9, 7), (1, 8)]
    · exact rsi0
    · rfl
  · skip
    replace h := ite_rc h hc1
    refine .skip ?_
    refine .seq ?_
    refine .seq ?_
    obtain ⟨v1, hv1, h⟩ := bind_some h
    refine .rg Try.S [0, 1, 5, 6] ?_
    refine .rn 1 ?_
    refine .call (r := .int .i64 v1) rfl rfl rfl rfl rfl rfl (callP_quorum_CheckGroup a2 v1 hv1) ?_
    refine .rn 1 ?_
    refine .nil ⟨nofun, ?_⟩
    refine .seq ?_
    refine .pl Try.S [0, 1, 5, 6, 8] ?_
    refine .cond rfl rfl (fun hc2 => ?_) (fun hc2 => ?_)
    · skip
      replace h := ite_lc h hc2
      refine .seq ?_
      refine .pl Try.S [6, 8] ?_
      have hq := Option.some.inj h
      subst r
      refine .ret ⟨Try.Re_seat_New ((⟨0, 0, (⟨[], []⟩ : TGroup), [], [], (⟨0, 0, [], [], [], [], []⟩ : TAttempt), [], 0⟩ : TSeat), v1), ?_, .inr rfl, retH [7, 6, 5, 4, 3, 2, 1, 0] ?_ ?_⟩
      · skip
        refine Goes.new0 1 3 (Nat.le_of_ble_eq_true rfl) ?_
        refine Goes.new0 1 3 (Nat.le_of_ble_eq_true rfl) ?_
        refine Goes.new0 1 9 (Nat.le_of_ble_eq_true rfl) ?_
        refine Goes.new0 5 63 (Nat.le_of_ble_eq_true rfl) ?_
        refine Goes.new0 1 3 (Nat.le_of_ble_eq_true rfl) ?_
        refine Goes.new0 3 88 (Nat.le_of_ble_eq_true rfl) ?_
        refine Goes.new0 1 3 (Nat.le_of_ble_eq_true rfl) ?_
        refine Goes.new0 1 9 (Nat.le_of_ble_eq_true rfl) ?_
        refine Goes.boxs 1 _ [.int .i64 0, .int .i64 0, .ref 2 1 0 0 (some unkC), .ref 3 1 0 0 (some unkC), .ref 4 1 0 0 (some unkC), .ref 5 5 0 0 (some unkC), .int .u8 0, .int .i64 0, .ref 6 1 0 0 (some unkC), .str [], .str [], .ref 7 3 0 0 (some unkC), .ref 8 1 0 0 (some unkC), .ref 9 1 0 0 (some unkC), .int .i64 0] rfl (.keep (.keep (.cons (.own0 2 _ _ _ (by decide)) (.cons (.own0 3 _ _ _ (by decide)) (.cons (.own0 4 _ _ _ (by decide)) (.cons (.own0 5 _ _ _ (by decide)) (.keep (.keep (.cons (.own0 6 _ _ _ (by decide)) (.keep (.keep (.cons (.own0 7 _ _ _ (by decide)) (.cons (.own0 8 _ _ _ (by decide)) (.cons (.own0 9 _ _ _ (by decide)) (.refl _))))))))))))))) ?_
        exact .m [6, 7] [2, 3, 4, 5, 6, 7, 8, 9, 1] [(2, 0), (3, 1), (4, 2), (5, 3), (6, 4), (7, 5), (8, 6), (9, 7), (1, 8)]
      · exact rsi0
      · rfl
    · skip
      replace h := ite_rc h hc2
      refine .skip ?_
      refine .seq ?_
      refine .seq ?_
      obtain ⟨v2, hv2, h⟩ := bind_some h
      refine .rg Try.S [0, 1, 5, 6] ?_
      refine .rn 3 ?_
      refine .call (r := .bool v2) rfl rfl rfl rfl rfl rfl (callP_quorum_Has a2.Roster a0 v2 hv2) ?_
      refine .rn 1 ?_
      refine .nil ⟨nofun, ?_⟩
      refine .cond rfl rfl (fun hc3 => ?_) (fun hc3 => ?_)
      · skip
        replace h := ite_lc h hc3
        refine .seq ?_
        refine .pl Try.S [6] ?_
        have hq := Option.some.inj h
        subst r
        refine .ret ⟨Try.Re_seat_New ((⟨0, 0, (⟨[], []⟩ : TGroup), [], [], (⟨0, 0, [], [], [], [], []⟩ : TAttempt), [], 0⟩ : TSeat), 6), ?_, .inr rfl, retH [7, 6, 5, 4, 3, 2, 1, 0] ?_ ?_⟩
        · skip
          refine Goes.new0 1 3 (Nat.le_of_ble_eq_true rfl) ?_
          refine Goes.new0 1 3 (Nat.le_of_ble_eq_true rfl) ?_
          refine Goes.new0 1 9 (Nat.le_of_ble_eq_true rfl) ?_
          refine Goes.new0 5 63 (Nat.le_of_ble_eq_true rfl) ?_
          refine Goes.new0 1 3 (Nat.le_of_ble_eq_true rfl) ?_
          refine Goes.new0 3 88 (Nat.le_of_ble_eq_true rfl) ?_
          refine Goes.new0 1 3 (Nat.le_of_ble_eq_true rfl) ?_
          refine Goes.new0 1 9 (Nat.le_of_ble_eq_true rfl) ?_
          refine Goes.boxs 1 _ [.int .i64 0, .int .i64 0, .ref 2 1 0 0 (some unkC), .ref 3 1 0 0 (some unkC), .ref 4 1 0 0 (some unkC), .ref 5 5 0 0 (some unkC), .int .u8 0, .int .i64 0, .ref 6 1 0 0 (some unkC), .str [], .str [], .ref 7 3 0 0 (some unkC), .ref 8 1 0 0 (some unkC), .ref 9 1 0 0 (some unkC), .int .i64 0] rfl (.keep (.keep (.cons (.own0 2 _ _ _ (by decide)) (.cons (.own0 3 _ _ _ (by decide)) (.cons (.own0 4 _ _ _ (by decide)) (.cons (.own0 5 _ _ _ (by decide)) (.keep (.keep (.cons (.own0 6 _ _ _ (by decide)) (.keep (.keep (.cons (.own0 7 _ _ _ (by decide)) (.cons (.own0 8 _ _ _ (by decide)) (.cons (.own0 9 _ _ _ (by decide)) (.refl _))))))))))))))) ?_
          exact .m [6, 7] [2, 3, 4, 5, 6, 7, 8, 9, 1] [(2, 0), (3, 1), (4, 2), (5, 3), (6, 4), (7, 5), (8, 6), (9, 7), (1, 8)]
        · exact rsi0
        · rfl
      · skip
        replace h := ite_rc h hc3
        refine .skip ?_
        refine .seq ?_
        obtain ⟨v3, hv3, h⟩ := bind_some h
        refine .rg Try.S [0, 1, 5, 6] ?_
        refine .rn 4 ?_
        refine .ncall (r := .agg [.int .i64 v3.Me, .int .i64 v3.Number, .ref 34 1 0 v3.Group.Roster.length (some unkC), .ref 35 1 0 v3.Group.Members.length (some unkC), .ref 36 1 0 v3.Log.length (some unkC), .ref 37 5 0 v3.Votes.length (some unkC), .int .u8 v3.Try.Phase, .int .i64 v3.Try.Ballot, .ref 38 1 0 v3.Try.Members.length (some unkC), .str v3.Try.Wish, .str v3.Try.Value, .ref 39 3 0 v3.Try.Promises.length (some unkC), .ref 40 1 0 v3.Try.Accepted.length (some unkC), .ref 41 1 0 v3.Wishes.length (some unkC), .int .i64 v3.Heard]) (eff := [(34, some (.arr 3 1 true (v3.Group.Roster.map (D.int .i64)))), (35, some (.arr 3 1 true (v3.Group.Members.map (D.int .i64)))), (36, some (.arr 9 1 true (v3.Log.map D.str))), (37, some (.arr 63 5 true (v3.Votes.map TSeen.d))), (38, some (.arr 3 1 true (v3.Try.Members.map (D.int .i64)))), (39, some (.arr 88 3 true (v3.Try.Promises.map TPromise.d))), (40, some (.arr 3 1 true (v3.Try.Accepted.map (D.int .i64)))), (41, some (.arr 9 1 true (v3.Wishes.map D.str)))]) (nw := (34, 68)) [] rfl rfl rfl rfl rfl (lend2s_cons rfl lend2s_nil) rfl (callH_at 34 (Nat.le_of_ble_eq_true rfl) (callH_wk (WkL.cons (Wk.agg (WkL.cons (Wk.refl _) (WkL.cons (Wk.refl _) (WkL.cons (Wk.refl _) (WkL.cons (Wk.refl _) (WkL.cons (Wk.nil4 0 1 0 rfl) (WkL.cons (Wk.nil4 0 5 0 rfl) (WkL.cons (Wk.refl _) (WkL.cons (Wk.refl _) (WkL.cons (Wk.nil4 0 1 0 rfl) (WkL.cons (Wk.refl _) (WkL.cons (Wk.refl _) (WkL.cons (Wk.nil4 0 3 0 rfl) (WkL.cons (Wk.nil4 0 1 0 rfl) (WkL.cons (Wk.nil4 0 1 0 rfl) (WkL.cons (Wk.refl _) (WkL.refl _))))))))))))))))) (WkL.refl _)) (callH_seat_Twin (⟨a0, a1, a2, [], [], (⟨0, 0, [], [], [], [], []⟩ : TAttempt), [], 0⟩ : TSeat) v3 hv3))) (newE_cons rfl rfl (newB_arr pl0_i64 _ _ _) (newE_cons rfl rfl (newB_arr pl0_i64 _ _ _) (newE_cons rfl rfl (newB_arr pl0_str _ _ _) (newE_cons rfl rfl (newB_arr pl0_TSeen _ _ _) (newE_cons rfl rfl (newB_arr pl0_i64 _ _ _) (newE_cons rfl rfl (newB_arr pl0_TPromise _ _ _) (newE_cons rfl rfl (newB_arr pl0_i64 _ _ _) (newE_cons rfl rfl (newB_arr pl0_str _ _ _) newE_nil)))))))) (by intro i hi; simp [D.ids, D.idsL] at hi; omega) rfl ⟨Nat.le_of_ble_eq_true rfl, Nat.le_of_ble_eq_true rfl⟩ ?_
        refine .rn 2 ?_
        refine .nil ⟨nofun, ?_⟩
        have hq := Option.some.inj h
        subst r
        refine .ret ⟨Try.Re_seat_New (v3, 0), ?_, .inr rfl, retH [7, 6, 5, 4, 3, 2, 1, 0] ?_ ?_⟩
        · skip
          exact .m [6, 7] [34, 35, 36, 37, 38, 39, 40, 41, 1] [(34, 0), (35, 1), (36, 2), (37, 3), (38, 4), (39, 5), (40, 6), (41, 7), (1, 8)]
        · exact rsi0
        · rfl

theorem callP_seat_New (a0 : Int) (a1 : Int) (a2 : TGroup) (r : TSeat × Int) (h : m_seat_New a0 a1 a2 = some r) : CallP Try.prog 19 [.int .i64 a0, .int .i64 a1, .agg [.imm 1 (a2.Roster.map (D.int .i64)) 4, .imm 1 (a2.Members.map (D.int .i64)) 4]] (.tuple [.agg [.int .i64 r.1.Me, .int .i64 r.1.Number, .imm 1 (r.1.Group.Roster.map (D.int .i64)) 12, .imm 1 (r.1.Group.Members.map (D.int .i64)) 12, .imm 1 (r.1.Log.map D.str) 12, .imm 5 (r.1.Votes.map TSeen.d) 12, .int .u8 r.1.Try.Phase, .int .i64 r.1.Try.Ballot, .imm 1 (r.1.Try.Members.map (D.int .i64)) 12, .str r.1.Try.Wish, .str r.1.Try.Value, .imm 3 (r.1.Try.Promises.map TPromise.d) 12, .imm 1 (r.1.Try.Accepted.map (D.int .i64)) 12, .imm 1 (r.1.Wishes.map D.str) 12, .int .i64 r.1.Heard], .int .i64 r.2]) :=
  callP_frz (frz_tup (frzs_cons (frz_agg (frzs_cons rfl (frzs_cons rfl (frzs_cons (frz_ref0 pl0_i64 rfl rfl) (frzs_cons (frz_ref0 pl0_i64 rfl rfl) (frzs_cons (frz_ref0 pl0_str rfl rfl) (frzs_cons (frz_ref0 pl0_TSeen rfl rfl) (frzs_cons rfl (frzs_cons rfl (frzs_cons (frz_ref0 pl0_i64 rfl rfl) (frzs_cons rfl (frzs_cons rfl (frzs_cons (frz_ref0 pl0_TPromise rfl rfl) (frzs_cons (frz_ref0 pl0_i64 rfl rfl) (frzs_cons (frz_ref0 pl0_str rfl rfl) (frzs_cons rfl frzs_nil)))))))))))))))) (frzs_cons rfl frzs_nil))) (callH_seat_New a0 a1 a2 r h)

def Try.St_towncrierref25_New_1 (a0 : Int) (a1 : Int) (a2 : TGroup) (n1 : Int) : St := ⟨[(0, .int .i64 a0), (1, .int .i64 a1), (5, .ptr 0 0), (6, .ptr 1 0), (8, .int .i64 n1)], [(0, .box [.imm 1 (a2.Roster.map (D.int .i64)) 4, .imm 1 (a2.Members.map (D.int .i64)) 4]), (1, .box [.int .i64 0, .int .i64 0, .imm 0 [] 0, .imm 0 [] 0, .imm 0 [] 0, .imm 0 [] 0, .int .u8 0, .int .i64 0, .imm 0 [] 0, .str [], .str [], .imm 0 [] 0, .imm 0 [] 0, .imm 0 [] 0, .int .i64 0])], 2⟩
attribute [local go_sem] Try.St_towncrierref25_New_1
def Try.Re_towncrierref25_New (r : TSeat × Int) : St := ⟨[(6, .ptr 8 0), (7, .int .i64 r.2)], [(0, .arr 3 1 true (r.1.Group.Roster.map (D.int .i64))), (1, .arr 3 1 true (r.1.Group.Members.map (D.int .i64))), (2, .arr 9 1 true (r.1.Log.map D.str)), (3, .arr 63 5 true (r.1.Votes.map TSeen.d)), (4, .arr 3 1 true (r.1.Try.Members.map (D.int .i64))), (5, .arr 88 3 true (r.1.Try.Promises.map TPromise.d)), (6, .arr 3 1 true (r.1.Try.Accepted.map (D.int .i64))), (7, .arr 9 1 true (r.1.Wishes.map D.str)), (8, .box [.int .i64 r.1.Me, .int .i64 r.1.Number, .ref 0 1 0 r.1.Group.Roster.length (some unkC), .ref 1 1 0 r.1.Group.Members.length (some unkC), .ref 2 1 0 r.1.Log.length (some unkC), .ref 3 5 0 r.1.Votes.length (some unkC), .int .u8 r.1.Try.Phase, .int .i64 r.1.Try.Ballot, .ref 4 1 0 r.1.Try.Members.length (some unkC), .str r.1.Try.Wish, .str r.1.Try.Value, .ref 5 3 0 r.1.Try.Promises.length (some unkC), .ref 6 1 0 r.1.Try.Accepted.length (some unkC), .ref 7 1 0 r.1.Wishes.length (some unkC), .int .i64 r.1.Heard])], 9⟩
attribute [local go_sem] Try.Re_towncrierref25_New
theorem callH_towncrierref25_New (a0 : Int) (a1 : Int) (a2 : TGroup) (r : TSeat × Int) (h : m_towncrierref25_New a0 a1 a2 = some r) : CallH Try.prog 24 [.int .i64 a0, .int .i64 a1, .agg [.imm 1 (a2.Roster.map (D.int .i64)) 4, .imm 1 (a2.Members.map (D.int .i64)) 4]] [] (.tuple [.agg [.int .i64 r.1.Me, .int .i64 r.1.Number, .ref 0 1 0 r.1.Group.Roster.length (some unkC), .ref 1 1 0 r.1.Group.Members.length (some unkC), .ref 2 1 0 r.1.Log.length (some unkC), .ref 3 5 0 r.1.Votes.length (some unkC), .int .u8 r.1.Try.Phase, .int .i64 r.1.Try.Ballot, .ref 4 1 0 r.1.Try.Members.length (some unkC), .str r.1.Try.Wish, .str r.1.Try.Value, .ref 5 3 0 r.1.Try.Promises.length (some unkC), .ref 6 1 0 r.1.Try.Accepted.length (some unkC), .ref 7 1 0 r.1.Wishes.length (some unkC), .int .i64 r.1.Heard], .int .i64 r.2]) [(0, some (.arr 3 1 true (r.1.Group.Roster.map (D.int .i64)))), (1, some (.arr 3 1 true (r.1.Group.Members.map (D.int .i64)))), (2, some (.arr 9 1 true (r.1.Log.map D.str))), (3, some (.arr 63 5 true (r.1.Votes.map TSeen.d))), (4, some (.arr 3 1 true (r.1.Try.Members.map (D.int .i64)))), (5, some (.arr 88 3 true (r.1.Try.Promises.map TPromise.d))), (6, some (.arr 3 1 true (r.1.Try.Accepted.map (D.int .i64)))), (7, some (.arr 9 1 true (r.1.Wishes.map D.str)))] (0, 20) := by
  refine callH_intro' Try.tmOk Try.func24 rfl (by decide) (Nat.le_of_ble_eq_true rfl) (by simp) ?_
  intro hwf
  unfold m_towncrierref25_New at h
  refine .ends 0 (Nat.le_refl _) ?_
  refine .seq ?_
  refine .pl Try.S [0, 1, 2] ?_
  refine .seq ?_
  refine .seq ?_
  obtain ⟨v1, hv1, h⟩ := bind_some h
  refine .rg Try.S [0, 1, 5, 6] ?_
  refine .rn 1 ?_
  refine .call (r := .bool v1) rfl rfl rfl rfl rfl rfl (callP_towncrierref05_Node a0 v1 hv1) ?_
  refine .rn 6 ?_
  refine .rn 3 ?_
  refine .nil ⟨nofun, ?_⟩
  refine .cond rfl rfl (fun hc1 => ?_) (fun hc1 => ?_)
  · skip
    replace h := ite_lc h hc1
    refine .seq ?_
    refine .pl Try.S [6] ?_
    have hq := Option.some.inj h
    subst r
    refine .ret ⟨Try.Re_towncrierref25_New ((⟨0, 0, (⟨[], []⟩ : TGroup), [], [], (⟨0, 0, [], [], [], [], []⟩ : TAttempt), [], 0⟩ : TSeat), 2), ?_, .inr rfl, retH [7, 6, 5, 4, 3, 2, 1, 0] ?_ ?_⟩
    · skip
      refine Goes.new0 1 3 (Nat.le_of_ble_eq_true rfl) ?_
      refine Goes.new0 1 3 (Nat.le_of_ble_eq_true rfl) ?_
      refine Goes.new0 1 9 (Nat.le_of_ble_eq_true rfl) ?_
      refine Goes.new0 5 63 (Nat.le_of_ble_eq_true rfl) ?_
      refine Goes.new0 1 3 (Nat.le_of_ble_eq_true rfl) ?_
      refine Goes.new0 3 88 (Nat.le_of_ble_eq_true rfl) ?_
      refine Goes.new0 1 3 (Nat.le_of_ble_eq_true rfl) ?_
      refine Goes.new0 1 9 (Nat.le_of_ble_eq_true rfl) ?_
      refine Goes.boxs 1 _ [.int .i64 0, .int .i64 0, .ref 2 1 0 0 (some unkC), .ref 3 1 0 0 (some unkC), .ref 4 1 0 0 (some unkC), .ref 5 5 0 0 (some unkC), .int .u8 0, .int .i64 0, .ref 6 1 0 0 (some unkC), .str [], .str [], .ref 7 3 0 0 (some unkC), .ref 8 1 0 0 (some unkC), .ref 9 1 0 0 (some unkC), .int .i64 0] rfl (.keep (.keep (.cons (.own0 2 _ _ _ (by decide)) (.cons (.own0 3 _ _ _ (by decide)) (.cons (.own0 4 _ _ _ (by decide)) (.cons (.own0 5 _ _ _ (by decide)) (.keep (.keep (.cons (.own0 6 _ _ _ (by decide)) (.keep (.keep (.cons (.own0 7 _ _ _ (by decide)) (.cons (.own0 8 _ _ _ (by decide)) (.cons (.own0 9 _ _ _ (by decide)) (.refl _))))))))))))))) ?_
      exact .m [6, 7] [2, 3, 4, 5, 6, 7, 8, 9, 1] [(2, 0), (3, 1), (4, 2), (5, 3), (6, 4), (7, 5), (8, 6), (9, 7), (1, 8)]
    · exact rsi0
    · rfl
  · skip
    replace h := ite_rc h hc1
    refine .skip ?_
    refine .seq ?_
    obtain ⟨v2, hv2, h⟩ := bind_some h
    refine .rg Try.S [0, 1, 5, 6] ?_
    refine .rn 1 ?_
    refine .call (r := .int .i64 v2) rfl rfl rfl rfl rfl rfl (callP_towncrierref06_CheckGroup a2 v2 hv2) ?_
    refine .rn 1 ?_
    refine .nil ⟨nofun, ?_⟩
    obtain ⟨x1, hx1, h⟩ := bind_some h
    refine .seqM 2 (fun (j : Int) => Try.St_towncrierref25_New_1 a0 a1 a2 j) (fun j => x1 = j) (Nat.le_of_ble_eq_true rfl) ?_ ?_
    · skip
      refine .seq ?_
      obtain ⟨v3, hv3, hx1⟩ := bind_some hx1
      refine .rg Try.S [0, 1, 5, 6, 8] ?_
      refine .rn 6 ?_
      refine .gcall (r := .bool v3) rfl rfl rfl rfl rfl (fun hg => ⟨[], [.imm 1 (a2.Roster.map (D.int .i64)) 4, .int .i64 a0], _, rfl, gd hg, rfl, (callP_towncrierref06_Has a2.Roster a0 v3 (ite_lc hv3 hg))⟩) ?_
      refine .rn 2 ?_
      refine .nil ⟨nofun, ?_⟩
      refine .cond rfl rfl (fun hc2 => ?_) (fun hc2 => ?_)
      · skip
        replace hx1 := ite_lc hx1 hc2
        refine .pl Try.S [0, 1, 5, 6] ?_
        refine ⟨_, ?_, (Option.some.inj hx1).symm⟩
        exact .m [0, 1, 5, 6, 8] [0, 1] []
      · skip
        replace hx1 := ite_rc hx1 hc2
        refine .skip ?_
        refine ⟨_, ?_, (Option.some.inj hx1).symm⟩
        exact .m [0, 1, 5, 6, 8] [0, 1] []
    · skip
      rintro n1 hj1
      subst x1
      try dsimp only at h
      simp only [Try.St_towncrierref25_New_1]
      refine .seq ?_
      refine .seq ?_
      refine .pl Try.S [0, 1, 5, 6, 8] ?_
      refine .cond rfl rfl (fun hc3 => ?_) (fun hc3 => ?_)
      · skip
        replace h := ite_lc h hc3
        refine .seq ?_
        refine .pl Try.S [6, 8] ?_
        have hq := Option.some.inj h
        subst r
        refine .ret ⟨Try.Re_towncrierref25_New ((⟨0, 0, (⟨[], []⟩ : TGroup), [], [], (⟨0, 0, [], [], [], [], []⟩ : TAttempt), [], 0⟩ : TSeat), n1), ?_, .inr rfl, retH [7, 6, 5, 4, 3, 2, 1, 0] ?_ ?_⟩
        · skip
          refine Goes.new0 1 3 (Nat.le_of_ble_eq_true rfl) ?_
          refine Goes.new0 1 3 (Nat.le_of_ble_eq_true rfl) ?_
          refine Goes.new0 1 9 (Nat.le_of_ble_eq_true rfl) ?_
          refine Goes.new0 5 63 (Nat.le_of_ble_eq_true rfl) ?_
          refine Goes.new0 1 3 (Nat.le_of_ble_eq_true rfl) ?_
          refine Goes.new0 3 88 (Nat.le_of_ble_eq_true rfl) ?_
          refine Goes.new0 1 3 (Nat.le_of_ble_eq_true rfl) ?_
          refine Goes.new0 1 9 (Nat.le_of_ble_eq_true rfl) ?_
          refine Goes.boxs 1 _ [.int .i64 0, .int .i64 0, .ref 2 1 0 0 (some unkC), .ref 3 1 0 0 (some unkC), .ref 4 1 0 0 (some unkC), .ref 5 5 0 0 (some unkC), .int .u8 0, .int .i64 0, .ref 6 1 0 0 (some unkC), .str [], .str [], .ref 7 3 0 0 (some unkC), .ref 8 1 0 0 (some unkC), .ref 9 1 0 0 (some unkC), .int .i64 0] rfl (.keep (.keep (.cons (.own0 2 _ _ _ (by decide)) (.cons (.own0 3 _ _ _ (by decide)) (.cons (.own0 4 _ _ _ (by decide)) (.cons (.own0 5 _ _ _ (by decide)) (.keep (.keep (.cons (.own0 6 _ _ _ (by decide)) (.keep (.keep (.cons (.own0 7 _ _ _ (by decide)) (.cons (.own0 8 _ _ _ (by decide)) (.cons (.own0 9 _ _ _ (by decide)) (.refl _))))))))))))))) ?_
          exact .m [6, 7] [2, 3, 4, 5, 6, 7, 8, 9, 1] [(2, 0), (3, 1), (4, 2), (5, 3), (6, 4), (7, 5), (8, 6), (9, 7), (1, 8)]
        · exact rsi0
        · rfl
      · skip
        replace h := ite_rc h hc3
        refine .skip ?_
        refine .seq ?_
        obtain ⟨v4, hv4, h⟩ := bind_some h
        refine .rg Try.S [0, 1, 5, 6] ?_
        refine .rn 3 ?_
        refine .ncall (r := .agg [.ref 6 1 0 v4.Roster.length (some unkC), .ref 7 1 0 v4.Members.length (some unkC)]) (eff := [(6, some (.arr 3 1 true (v4.Roster.map (D.int .i64)))), (7, some (.arr 3 1 true (v4.Members.map (D.int .i64))))]) (nw := (6, 12)) [] rfl rfl rfl rfl rfl (lend2s_cons rfl lend2s_nil) rfl (callH_at 6 (Nat.le_of_ble_eq_true rfl) (callH_towncrierref06_TwinGroup a2 v4 hv4)) (newE_cons rfl rfl (newB_arr pl0_i64 _ _ _) (newE_cons rfl rfl (newB_arr pl0_i64 _ _ _) newE_nil)) (by intro i hi; simp [D.ids, D.idsL] at hi; omega) rfl ⟨Nat.le_of_ble_eq_true rfl, Nat.le_of_ble_eq_true rfl⟩ ?_
        refine .rn 3 ?_
        refine .nil ⟨nofun, ?_⟩
        have hq := Option.some.inj h
        subst r
        refine .ret ⟨Try.Re_towncrierref25_New ((⟨a0, a1, v4, [], [], (⟨0, 0, [], [], [], [], []⟩ : TAttempt), [], 0⟩ : TSeat), 0), ?_, .inr rfl, retH [7, 6, 5, 4, 3, 2, 1, 0] ?_ ?_⟩
        · skip
          refine Goes.new0 1 9 (Nat.le_of_ble_eq_true rfl) ?_
          refine Goes.new0 5 63 (Nat.le_of_ble_eq_true rfl) ?_
          refine Goes.new0 1 3 (Nat.le_of_ble_eq_true rfl) ?_
          refine Goes.new0 3 88 (Nat.le_of_ble_eq_true rfl) ?_
          refine Goes.new0 1 3 (Nat.le_of_ble_eq_true rfl) ?_
          refine Goes.new0 1 9 (Nat.le_of_ble_eq_true rfl) ?_
          refine Goes.boxs 1 _ [.int .i64 a0, .int .i64 a1, .ref 6 1 0 v4.Roster.length (some unkC), .ref 7 1 0 v4.Members.length (some unkC), .ref 12 1 0 0 (some unkC), .ref 13 5 0 0 (some unkC), .int .u8 0, .int .i64 0, .ref 14 1 0 0 (some unkC), .str [], .str [], .ref 15 3 0 0 (some unkC), .ref 16 1 0 0 (some unkC), .ref 17 1 0 0 (some unkC), .int .i64 0] rfl (.keep (.keep (.keep (.keep (.cons (.own0 12 _ _ _ (by decide)) (.cons (.own0 13 _ _ _ (by decide)) (.keep (.keep (.cons (.own0 14 _ _ _ (by decide)) (.keep (.keep (.cons (.own0 15 _ _ _ (by decide)) (.cons (.own0 16 _ _ _ (by decide)) (.cons (.own0 17 _ _ _ (by decide)) (.refl _))))))))))))))) ?_
          exact .m [6, 7] [6, 7, 12, 13, 14, 15, 16, 17, 1] [(6, 0), (7, 1), (12, 2), (13, 3), (14, 4), (15, 5), (16, 6), (17, 7), (1, 8)]
        · exact rsi0
        · rfl

theorem callP_towncrierref25_New (a0 : Int) (a1 : Int) (a2 : TGroup) (r : TSeat × Int) (h : m_towncrierref25_New a0 a1 a2 = some r) : CallP Try.prog 24 [.int .i64 a0, .int .i64 a1, .agg [.imm 1 (a2.Roster.map (D.int .i64)) 4, .imm 1 (a2.Members.map (D.int .i64)) 4]] (.tuple [.agg [.int .i64 r.1.Me, .int .i64 r.1.Number, .imm 1 (r.1.Group.Roster.map (D.int .i64)) 12, .imm 1 (r.1.Group.Members.map (D.int .i64)) 12, .imm 1 (r.1.Log.map D.str) 12, .imm 5 (r.1.Votes.map TSeen.d) 12, .int .u8 r.1.Try.Phase, .int .i64 r.1.Try.Ballot, .imm 1 (r.1.Try.Members.map (D.int .i64)) 12, .str r.1.Try.Wish, .str r.1.Try.Value, .imm 3 (r.1.Try.Promises.map TPromise.d) 12, .imm 1 (r.1.Try.Accepted.map (D.int .i64)) 12, .imm 1 (r.1.Wishes.map D.str) 12, .int .i64 r.1.Heard], .int .i64 r.2]) :=
  callP_frz (frz_tup (frzs_cons (frz_agg (frzs_cons rfl (frzs_cons rfl (frzs_cons (frz_ref0 pl0_i64 rfl rfl) (frzs_cons (frz_ref0 pl0_i64 rfl rfl) (frzs_cons (frz_ref0 pl0_str rfl rfl) (frzs_cons (frz_ref0 pl0_TSeen rfl rfl) (frzs_cons rfl (frzs_cons rfl (frzs_cons (frz_ref0 pl0_i64 rfl rfl) (frzs_cons rfl (frzs_cons rfl (frzs_cons (frz_ref0 pl0_TPromise rfl rfl) (frzs_cons (frz_ref0 pl0_i64 rfl rfl) (frzs_cons (frz_ref0 pl0_str rfl rfl) (frzs_cons rfl frzs_nil)))))))))))))))) (frzs_cons rfl frzs_nil))) (callH_towncrierref25_New a0 a1 a2 r h)

def Try.Re_towncrierref25_Twin (r : TSeat) : St := ⟨[(2, .ptr 8 0)], [(0, .arr 3 1 true (r.Group.Roster.map (D.int .i64))), (1, .arr 3 1 true (r.Group.Members.map (D.int .i64))), (2, .arr 9 1 true (r.Log.map D.str)), (3, .arr 63 5 true (r.Votes.map TSeen.d)), (4, .arr 3 1 true (r.Try.Members.map (D.int .i64))), (5, .arr 88 3 true (r.Try.Promises.map TPromise.d)), (6, .arr 3 1 true (r.Try.Accepted.map (D.int .i64))), (7, .arr 9 1 true (r.Wishes.map D.str)), (8, .box [.int .i64 r.Me, .int .i64 r.Number, .ref 0 1 0 r.Group.Roster.length (some unkC), .ref 1 1 0 r.Group.Members.length (some unkC), .ref 2 1 0 r.Log.length (some unkC), .ref 3 5 0 r.Votes.length (some unkC), .int .u8 r.Try.Phase, .int .i64 r.Try.Ballot, .ref 4 1 0 r.Try.Members.length (some unkC), .str r.Try.Wish, .str r.Try.Value, .ref 5 3 0 r.Try.Promises.length (some unkC), .ref 6 1 0 r.Try.Accepted.length (some unkC), .ref 7 1 0 r.Wishes.length (some unkC), .int .i64 r.Heard])], 9⟩
attribute [local go_sem] Try.Re_towncrierref25_Twin
theorem callH_towncrierref25_Twin (a0 : TSeat) (r : TSeat) (h : m_towncrierref25_Twin a0 = some r) : CallH Try.prog 34 [.agg [.int .i64 a0.Me, .int .i64 a0.Number, .imm 1 (a0.Group.Roster.map (D.int .i64)) 4, .imm 1 (a0.Group.Members.map (D.int .i64)) 4, .imm 1 (a0.Log.map D.str) 4, .imm 5 (a0.Votes.map TSeen.d) 4, .int .u8 a0.Try.Phase, .int .i64 a0.Try.Ballot, .imm 1 (a0.Try.Members.map (D.int .i64)) 4, .str a0.Try.Wish, .str a0.Try.Value, .imm 3 (a0.Try.Promises.map TPromise.d) 4, .imm 1 (a0.Try.Accepted.map (D.int .i64)) 4, .imm 1 (a0.Wishes.map D.str) 4, .int .i64 a0.Heard]] [] (.agg [.int .i64 r.Me, .int .i64 r.Number, .ref 0 1 0 r.Group.Roster.length (some unkC), .ref 1 1 0 r.Group.Members.length (some unkC), .ref 2 1 0 r.Log.length (some unkC), .ref 3 5 0 r.Votes.length (some unkC), .int .u8 r.Try.Phase, .int .i64 r.Try.Ballot, .ref 4 1 0 r.Try.Members.length (some unkC), .str r.Try.Wish, .str r.Try.Value, .ref 5 3 0 r.Try.Promises.length (some unkC), .ref 6 1 0 r.Try.Accepted.length (some unkC), .ref 7 1 0 r.Wishes.length (some unkC), .int .i64 r.Heard]) [(0, some (.arr 3 1 true (r.Group.Roster.map (D.int .i64)))), (1, some (.arr 3 1 true (r.Group.Members.map (D.int .i64)))), (2, some (.arr 9 1 true (r.Log.map D.str))), (3, some (.arr 63 5 true (r.Votes.map TSeen.d))), (4, some (.arr 3 1 true (r.Try.Members.map (D.int .i64)))), (5, some (.arr 88 3 true (r.Try.Promises.map TPromise.d))), (6, some (.arr 3 1 true (r.Try.Accepted.map (D.int .i64)))), (7, some (.arr 9 1 true (r.Wishes.map D.str)))] (0, 25) := by
  refine callH_intro' Try.tmOk Try.func34 rfl (by decide) (Nat.le_of_ble_eq_true rfl) (by simp) ?_
  intro hwf
  unfold m_towncrierref25_Twin at h
  refine .ends 0 (Nat.le_refl _) ?_
  refine .seq ?_
  refine .pl Try.S [0] ?_
  refine .seq ?_
  refine .pl Try.S [1, 2] ?_
  refine .seq ?_
  obtain ⟨v1, hv1, h⟩ := bind_some h
  refine .rg Try.S [1, 2, 3] ?_
  refine .rn 2 ?_
  refine .ncall (r := .agg [.ref 6 1 0 v1.Roster.length (some unkC), .ref 7 1 0 v1.Members.length (some unkC)]) (eff := [(6, some (.arr 3 1 true (v1.Roster.map (D.int .i64)))), (7, some (.arr 3 1 true (v1.Members.map (D.int .i64))))]) (nw := (6, 12)) [] rfl rfl rfl rfl rfl (lend2s_cons rfl lend2s_nil) rfl (callH_at 6 (Nat.le_of_ble_eq_true rfl) (callH_towncrierref06_TwinGroup a0.Group v1 hv1)) (newE_cons rfl rfl (newB_arr pl0_i64 _ _ _) (newE_cons rfl rfl (newB_arr pl0_i64 _ _ _) newE_nil)) (by intro i hi; simp [D.ids, D.idsL] at hi; omega) rfl ⟨Nat.le_of_ble_eq_true rfl, Nat.le_of_ble_eq_true rfl⟩ ?_
  refine .rn 2 ?_
  refine .nil ⟨nofun, ?_⟩
  obtain ⟨k1, h⟩ := ite_ck h
  refine .seqM 12 (fun (_ : Unit) => ⟨[(1, .ptr 0 0), (2, .ptr 1 0), (3, .ptr 2 0)], [(0, .box [.int .i64 a0.Me, .int .i64 a0.Number, .imm 1 (a0.Group.Roster.map (D.int .i64)) 4, .imm 1 (a0.Group.Members.map (D.int .i64)) 4, .imm 1 (a0.Log.map D.str) 4, .imm 5 (a0.Votes.map TSeen.d) 4, .int .u8 a0.Try.Phase, .int .i64 a0.Try.Ballot, .imm 1 (a0.Try.Members.map (D.int .i64)) 4, .str a0.Try.Wish, .str a0.Try.Value, .imm 3 (a0.Try.Promises.map TPromise.d) 4, .imm 1 (a0.Try.Accepted.map (D.int .i64)) 4, .imm 1 (a0.Wishes.map D.str) 4, .int .i64 a0.Heard]), (1, .box [.int .i64 0, .int .i64 0, .imm 0 [] 0, .imm 0 [] 0, .imm 0 [] 0, .imm 0 [] 0, .int .u8 0, .int .i64 0, .imm 0 [] 0, .str [], .str [], .imm 0 [] 0, .imm 0 [] 0, .imm 0 [] 0, .int .i64 0]), (2, .box [.int .i64 a0.Me, .int .i64 a0.Number, .ref 6 1 0 v1.Roster.length (some unkC), .ref 7 1 0 v1.Members.length (some unkC), .ref 12 1 0 a0.Log.length (some unkC), .imm 5 (a0.Votes.map TSeen.d) 4, .int .u8 a0.Try.Phase, .int .i64 a0.Try.Ballot, .imm 1 (a0.Try.Members.map (D.int .i64)) 4, .str a0.Try.Wish, .str a0.Try.Value, .imm 3 (a0.Try.Promises.map TPromise.d) 4, .imm 1 (a0.Try.Accepted.map (D.int .i64)) 4, .imm 1 (a0.Wishes.map D.str) 4, .int .i64 a0.Heard]), (6, .arr 3 1 true (v1.Roster.map (D.int .i64))), (7, .arr 3 1 true (v1.Members.map (D.int .i64))), (12, .arr 9 1 true (a0.Log.map D.str))], 13⟩) (fun _ => True) (Nat.le_of_ble_eq_true rfl) ?_ (fun _ _ => ?_)
  · skip
    rcases list_cases a0.Log with hE1 | ⟨y, ys, hE1⟩
    · skip
      have hM1 : a0.Log.map D.str = [] := by rw [hE1]; simp
      refine .plain Try.tmOk Try.tmMixed [1, 2, 3] (by decide +kernel) (by intro q hq; simp only [go_sem, Nat.reduceSub, Int.reduceEq, Nat.reduceLT, Nat.reduceDiv, Nat.reduceAdd, Nat.reduceBEq, Nat.reduceLeDiff, reduceCtorEq, Nat.reduceEqDiff, Nat.reduceMod, Nat.reduceMul, Try.tm_46, Try.tm_52, appendD_nil hM1, TSeat.d]; exact hq) (by first | rfl | (simp only [go_sem, Nat.reduceLeDiff]; done) | (simp only [go_sem, Nat.reduceLeDiff]; rfl) | (simp; done) | (simp [oneD] <;> omega) | (simp_all; done) | (simp_all [oneD] <;> omega)) (by first | exact Nat.le_refl _ | exact Nat.le_of_ble_eq_true rfl | (dsimp only; omega) | (simp <;> omega)) ?_
      refine ⟨(), ?_, trivial⟩
      refine Goes.new0 1 9 (Nat.le_of_ble_eq_true rfl) ?_
      refine Goes.boxs 2 _ [.int .i64 a0.Me, .int .i64 a0.Number, .ref 6 1 0 v1.Roster.length (some unkC), .ref 7 1 0 v1.Members.length (some unkC), .ref 12 1 0 0 (some unkC), .imm 5 (a0.Votes.map TSeen.d) 4, .int .u8 a0.Try.Phase, .int .i64 a0.Try.Ballot, .imm 1 (a0.Try.Members.map (D.int .i64)) 4, .str a0.Try.Wish, .str a0.Try.Value, .imm 3 (a0.Try.Promises.map TPromise.d) 4, .imm 1 (a0.Try.Accepted.map (D.int .i64)) 4, .imm 1 (a0.Wishes.map D.str) 4, .int .i64 a0.Heard] rfl (.keep (.keep (.keep (.keep (.cons (.own0 12 _ _ _ (by decide)) (.refl _)))))) ?_
      exact .mx hE1 [1, 2, 3] [0, 1, 2, 6, 7, 12] []
    · skip
      have hM1 : a0.Log.map D.str ≠ [] := by rw [hE1]; simp
      refine .plain Try.tmOk Try.tmMixed [1, 2, 3] (by decide +kernel) (by intro q hq; simp only [go_sem, Nat.reduceSub, Int.reduceEq, Nat.reduceLT, Nat.reduceDiv, Nat.reduceAdd, Nat.reduceBEq, Nat.reduceLeDiff, reduceCtorEq, Nat.reduceEqDiff, Nat.reduceMod, Nat.reduceMul, Try.tm_46, Try.tm_52, appendD_cons hM1, TSeat.d]; exact hq) (by first | rfl | (simp only [go_sem, Nat.reduceLeDiff]; done) | (simp only [go_sem, Nat.reduceLeDiff]; rfl) | (simp; done) | (simp [oneD] <;> omega) | (simp_all; done) | (simp_all [oneD] <;> omega)) (by first | exact Nat.le_refl _ | exact Nat.le_of_ble_eq_true rfl | (dsimp only; omega) | (simp <;> omega)) ?_
      refine ⟨(), ?_, trivial⟩
      refine Goes.boxs 2 _ [.int .i64 a0.Me, .int .i64 a0.Number, .ref 6 1 0 v1.Roster.length (some unkC), .ref 7 1 0 v1.Members.length (some unkC), .ref 12 1 0 a0.Log.length (some unkC), .imm 5 (a0.Votes.map TSeen.d) 4, .int .u8 a0.Try.Phase, .int .i64 a0.Try.Ballot, .imm 1 (a0.Try.Members.map (D.int .i64)) 4, .str a0.Try.Wish, .str a0.Try.Value, .imm 3 (a0.Try.Promises.map TPromise.d) 4, .imm 1 (a0.Try.Accepted.map (D.int .i64)) 4, .imm 1 (a0.Wishes.map D.str) 4, .int .i64 a0.Heard] rfl (.keep (.keep (.keep (.keep (.cons (.unk _ _ _ _ _) (.refl _)))))) ?_
      exact .mx hE1 [1, 2, 3] [0, 1, 2, 6, 7, 12] []
  obtain ⟨k2, h⟩ := ite_ck h
  refine .seqM 13 (fun (_ : Unit) => ⟨[(1, .ptr 0 0), (2, .ptr 1 0), (3, .ptr 2 0)], [(0, .box [.int .i64 a0.Me, .int .i64 a0.Number, .imm 1 (a0.Group.Roster.map (D.int .i64)) 4, .imm 1 (a0.Group.Members.map (D.int .i64)) 4, .imm 1 (a0.Log.map D.str) 4, .imm 5 (a0.Votes.map TSeen.d) 4, .int .u8 a0.Try.Phase, .int .i64 a0.Try.Ballot, .imm 1 (a0.Try.Members.map (D.int .i64)) 4, .str a0.Try.Wish, .str a0.Try.Value, .imm 3 (a0.Try.Promises.map TPromise.d) 4, .imm 1 (a0.Try.Accepted.map (D.int .i64)) 4, .imm 1 (a0.Wishes.map D.str) 4, .int .i64 a0.Heard]), (1, .box [.int .i64 0, .int .i64 0, .imm 0 [] 0, .imm 0 [] 0, .imm 0 [] 0, .imm 0 [] 0, .int .u8 0, .int .i64 0, .imm 0 [] 0, .str [], .str [], .imm 0 [] 0, .imm 0 [] 0, .imm 0 [] 0, .int .i64 0]), (2, .box [.int .i64 a0.Me, .int .i64 a0.Number, .ref 6 1 0 v1.Roster.length (some unkC), .ref 7 1 0 v1.Members.length (some unkC), .ref 12 1 0 a0.Log.length (some unkC), .ref 13 5 0 a0.Votes.length (some unkC), .int .u8 a0.Try.Phase, .int .i64 a0.Try.Ballot, .imm 1 (a0.Try.Members.map (D.int .i64)) 4, .str a0.Try.Wish, .str a0.Try.Value, .imm 3 (a0.Try.Promises.map TPromise.d) 4, .imm 1 (a0.Try.Accepted.map (D.int .i64)) 4, .imm 1 (a0.Wishes.map D.str) 4, .int .i64 a0.Heard]), (6, .arr 3 1 true (v1.Roster.map (D.int .i64))), (7, .arr 3 1 true (v1.Members.map (D.int .i64))), (12, .arr 9 1 true (a0.Log.map D.str)), (13, .arr 63 5 true (a0.Votes.map TSeen.d))], 14⟩) (fun _ => True) (Nat.le_of_ble_eq_true rfl) ?_ (fun _ _ => ?_)
  · skip
    rcases list_cases a0.Votes with hE2 | ⟨y, ys, hE2⟩
    · skip
      have hM2 : a0.Votes.map TSeen.d = [] := by rw [hE2]; simp
      refine .plain Try.tmOk Try.tmMixed [1, 2, 3] (by decide +kernel) (by intro q hq; simp only [go_sem, Nat.reduceSub, Int.reduceEq, Nat.reduceLT, Nat.reduceDiv, Nat.reduceAdd, Nat.reduceBEq, Nat.reduceLeDiff, reduceCtorEq, Nat.reduceEqDiff, Nat.reduceMod, Nat.reduceMul, Try.tm_47, Try.tm_52, appendD_nil hM2, TSeat.d, TSeen.d]; exact hq) (by first | rfl | (simp only [go_sem, Nat.reduceLeDiff]; done) | (simp only [go_sem, Nat.reduceLeDiff]; rfl) | (simp; done) | (simp [oneD] <;> omega) | (simp_all; done) | (simp_all [oneD] <;> omega)) (by first | exact Nat.le_refl _ | exact Nat.le_of_ble_eq_true rfl | (dsimp only; omega) | (simp <;> omega)) ?_
      refine ⟨(), ?_, trivial⟩
      refine Goes.new0 5 63 (Nat.le_of_ble_eq_true rfl) ?_
      refine Goes.boxs 2 _ [.int .i64 a0.Me, .int .i64 a0.Number, .ref 6 1 0 v1.Roster.length (some unkC), .ref 7 1 0 v1.Members.length (some unkC), .ref 12 1 0 a0.Log.length (some unkC), .ref 13 5 0 0 (some unkC), .int .u8 a0.Try.Phase, .int .i64 a0.Try.Ballot, .imm 1 (a0.Try.Members.map (D.int .i64)) 4, .str a0.Try.Wish, .str a0.Try.Value, .imm 3 (a0.Try.Promises.map TPromise.d) 4, .imm 1 (a0.Try.Accepted.map (D.int .i64)) 4, .imm 1 (a0.Wishes.map D.str) 4, .int .i64 a0.Heard] rfl (.keep (.keep (.keep (.keep (.keep (.cons (.own0 13 _ _ _ (by decide)) (.refl _))))))) ?_
      exact .mx hE2 [1, 2, 3] [0, 1, 2, 6, 7, 12, 13] []
    · skip
      have hM2 : a0.Votes.map TSeen.d ≠ [] := by rw [hE2]; simp
      refine .plain Try.tmOk Try.tmMixed [1, 2, 3] (by decide +kernel) (by intro q hq; simp only [go_sem, Nat.reduceSub, Int.reduceEq, Nat.reduceLT, Nat.reduceDiv, Nat.reduceAdd, Nat.reduceBEq, Nat.reduceLeDiff, reduceCtorEq, Nat.reduceEqDiff, Nat.reduceMod, Nat.reduceMul, Try.tm_47, Try.tm_52, appendD_cons hM2, TSeat.d, TSeen.d]; exact hq) (by first | rfl | (simp only [go_sem, Nat.reduceLeDiff]; done) | (simp only [go_sem, Nat.reduceLeDiff]; rfl) | (simp; done) | (simp [oneD] <;> omega) | (simp_all; done) | (simp_all [oneD] <;> omega)) (by first | exact Nat.le_refl _ | exact Nat.le_of_ble_eq_true rfl | (dsimp only; omega) | (simp <;> omega)) ?_
      refine ⟨(), ?_, trivial⟩
      refine Goes.boxs 2 _ [.int .i64 a0.Me, .int .i64 a0.Number, .ref 6 1 0 v1.Roster.length (some unkC), .ref 7 1 0 v1.Members.length (some unkC), .ref 12 1 0 a0.Log.length (some unkC), .ref 13 5 0 a0.Votes.length (some unkC), .int .u8 a0.Try.Phase, .int .i64 a0.Try.Ballot, .imm 1 (a0.Try.Members.map (D.int .i64)) 4, .str a0.Try.Wish, .str a0.Try.Value, .imm 3 (a0.Try.Promises.map TPromise.d) 4, .imm 1 (a0.Try.Accepted.map (D.int .i64)) 4, .imm 1 (a0.Wishes.map D.str) 4, .int .i64 a0.Heard] rfl (.keep (.keep (.keep (.keep (.keep (.cons (.unk _ _ _ _ _) (.refl _))))))) ?_
      exact .mx hE2 [1, 2, 3] [0, 1, 2, 6, 7, 12, 13] []
  refine .seq ?_
  obtain ⟨v2, hv2, h⟩ := bind_some h
  refine .rg Try.S [1, 2, 3] ?_
  refine .rn 2 ?_
  refine .ncall (r := .agg [.int .u8 v2.Phase, .int .i64 v2.Ballot, .ref 14 1 0 v2.Members.length (some unkC), .str v2.Wish, .str v2.Value, .ref 15 3 0 v2.Promises.length (some unkC), .ref 16 1 0 v2.Accepted.length (some unkC)]) (eff := [(14, some (.arr 3 1 true (v2.Members.map (D.int .i64)))), (15, some (.arr 88 3 true (v2.Promises.map TPromise.d))), (16, some (.arr 3 1 true (v2.Accepted.map (D.int .i64))))]) (nw := (14, 22)) [] rfl rfl rfl rfl rfl (lend2s_cons rfl lend2s_nil) rfl (callH_at 14 (Nat.le_of_ble_eq_true rfl) (callH_towncrierref08_Twin a0.Try v2 hv2)) (newE_cons rfl rfl (newB_arr pl0_i64 _ _ _) (newE_cons rfl rfl (newB_arr pl0_TPromise _ _ _) (newE_cons rfl rfl (newB_arr pl0_i64 _ _ _) newE_nil))) (by intro i hi; simp [D.ids, D.idsL] at hi; omega) rfl ⟨Nat.le_of_ble_eq_true rfl, Nat.le_of_ble_eq_true rfl⟩ ?_
  refine .rn 2 ?_
  refine .nil ⟨nofun, ?_⟩
  obtain ⟨k3, h⟩ := ite_ck h
  refine .seqM 22 (fun (_ : Unit) => ⟨[(2, .ptr 1 0), (3, .ptr 2 0)], [(1, .box [.int .i64 0, .int .i64 0, .imm 0 [] 0, .imm 0 [] 0, .imm 0 [] 0, .imm 0 [] 0, .int .u8 0, .int .i64 0, .imm 0 [] 0, .str [], .str [], .imm 0 [] 0, .imm 0 [] 0, .imm 0 [] 0, .int .i64 0]), (2, .box [.int .i64 a0.Me, .int .i64 a0.Number, .ref 6 1 0 v1.Roster.length (some unkC), .ref 7 1 0 v1.Members.length (some unkC), .ref 12 1 0 a0.Log.length (some unkC), .ref 13 5 0 a0.Votes.length (some unkC), .int .u8 v2.Phase, .int .i64 v2.Ballot, .ref 14 1 0 v2.Members.length (some unkC), .str v2.Wish, .str v2.Value, .ref 15 3 0 v2.Promises.length (some unkC), .ref 16 1 0 v2.Accepted.length (some unkC), .ref 22 1 0 a0.Wishes.length (some unkC), .int .i64 a0.Heard]), (6, .arr 3 1 true (v1.Roster.map (D.int .i64))), (7, .arr 3 1 true (v1.Members.map (D.int .i64))), (12, .arr 9 1 true (a0.Log.map D.str)), (13, .arr 63 5 true (a0.Votes.map TSeen.d)), (14, .arr 3 1 true (v2.Members.map (D.int .i64))), (15, .arr 88 3 true (v2.Promises.map TPromise.d)), (16, .arr 3 1 true (v2.Accepted.map (D.int .i64))), (22, .arr 9 1 true (a0.Wishes.map D.str))], 23⟩) (fun _ => True) (Nat.le_of_ble_eq_true rfl) ?_ (fun _ _ => ?_)
  · skip
    rcases list_cases a0.Wishes with hE3 | ⟨y, ys, hE3⟩
    · skip
      have hM3 : a0.Wishes.map D.str = [] := by rw [hE3]; simp
      refine .plain Try.tmOk Try.tmMixed [1, 2, 3] (by decide +kernel) (by intro q hq; simp only [go_sem, Nat.reduceSub, Int.reduceEq, Nat.reduceLT, Nat.reduceDiv, Nat.reduceAdd, Nat.reduceBEq, Nat.reduceLeDiff, reduceCtorEq, Nat.reduceEqDiff, Nat.reduceMod, Nat.reduceMul, Try.tm_46, Try.tm_52, appendD_nil hM3, TSeat.d]; exact hq) (by first | rfl | (simp only [go_sem, Nat.reduceLeDiff]; done) | (simp only [go_sem, Nat.reduceLeDiff]; rfl) | (simp; done) | (simp [oneD] <;> omega) | (simp_all; done) | (simp_all [oneD] <;> omega)) (by first | exact Nat.le_refl _ | exact Nat.le_of_ble_eq_true rfl | (dsimp only; omega) | (simp <;> omega)) ?_
      refine ⟨(), ?_, trivial⟩
      refine Goes.new0 1 9 (Nat.le_of_ble_eq_true rfl) ?_
      refine Goes.boxs 2 _ [.int .i64 a0.Me, .int .i64 a0.Number, .ref 6 1 0 v1.Roster.length (some unkC), .ref 7 1 0 v1.Members.length (some unkC), .ref 12 1 0 a0.Log.length (some unkC), .ref 13 5 0 a0.Votes.length (some unkC), .int .u8 v2.Phase, .int .i64 v2.Ballot, .ref 14 1 0 v2.Members.length (some unkC), .str v2.Wish, .str v2.Value, .ref 15 3 0 v2.Promises.length (some unkC), .ref 16 1 0 v2.Accepted.length (some unkC), .ref 22 1 0 0 (some unkC), .int .i64 a0.Heard] rfl (.keep (.keep (.keep (.keep (.keep (.keep (.keep (.keep (.keep (.keep (.keep (.keep (.keep (.cons (.own0 22 _ _ _ (by decide)) (.refl _))))))))))))))) ?_
      exact .mx hE3 [2, 3] [1, 2, 6, 7, 12, 13, 14, 15, 16, 22] []
    · skip
      have hM3 : a0.Wishes.map D.str ≠ [] := by rw [hE3]; simp
      refine .plain Try.tmOk Try.tmMixed [1, 2, 3] (by decide +kernel) (by intro q hq; simp only [go_sem, Nat.reduceSub, Int.reduceEq, Nat.reduceLT, Nat.reduceDiv, Nat.reduceAdd, Nat.reduceBEq, Nat.reduceLeDiff, reduceCtorEq, Nat.reduceEqDiff, Nat.reduceMod, Nat.reduceMul, Try.tm_46, Try.tm_52, appendD_cons hM3, TSeat.d]; exact hq) (by first | rfl | (simp only [go_sem, Nat.reduceLeDiff]; done) | (simp only [go_sem, Nat.reduceLeDiff]; rfl) | (simp; done) | (simp [oneD] <;> omega) | (simp_all; done) | (simp_all [oneD] <;> omega)) (by first | exact Nat.le_refl _ | exact Nat.le_of_ble_eq_true rfl | (dsimp only; omega) | (simp <;> omega)) ?_
      refine ⟨(), ?_, trivial⟩
      refine Goes.boxs 2 _ [.int .i64 a0.Me, .int .i64 a0.Number, .ref 6 1 0 v1.Roster.length (some unkC), .ref 7 1 0 v1.Members.length (some unkC), .ref 12 1 0 a0.Log.length (some unkC), .ref 13 5 0 a0.Votes.length (some unkC), .int .u8 v2.Phase, .int .i64 v2.Ballot, .ref 14 1 0 v2.Members.length (some unkC), .str v2.Wish, .str v2.Value, .ref 15 3 0 v2.Promises.length (some unkC), .ref 16 1 0 v2.Accepted.length (some unkC), .ref 22 1 0 a0.Wishes.length (some unkC), .int .i64 a0.Heard] rfl (.keep (.keep (.keep (.keep (.keep (.keep (.keep (.keep (.keep (.keep (.keep (.keep (.keep (.cons (.unk _ _ _ _ _) (.refl _))))))))))))))) ?_
      exact .mx hE3 [2, 3] [1, 2, 6, 7, 12, 13, 14, 15, 16, 22] []
  refine .seq ?_
  refine .pl Try.S [2, 3] ?_
  have hq := Option.some.inj h
  subst r
  refine .ret ⟨Try.Re_towncrierref25_Twin (⟨a0.Me, a0.Number, v1, a0.Log, a0.Votes, v2, a0.Wishes, a0.Heard⟩ : TSeat), ?_, .inr rfl, retH [7, 6, 5, 4, 3, 2, 1, 0] ?_ ?_⟩
  · skip
    exact .m [2] [6, 7, 12, 13, 14, 15, 16, 22, 1] [(6, 0), (7, 1), (12, 2), (13, 3), (14, 4), (15, 5), (16, 6), (22, 7), (1, 8)]
  · exact rsi0
  · rfl

theorem callP_towncrierref25_Twin (a0 : TSeat) (r : TSeat) (h : m_towncrierref25_Twin a0 = some r) : CallP Try.prog 34 [.agg [.int .i64 a0.Me, .int .i64 a0.Number, .imm 1 (a0.Group.Roster.map (D.int .i64)) 4, .imm 1 (a0.Group.Members.map (D.int .i64)) 4, .imm 1 (a0.Log.map D.str) 4, .imm 5 (a0.Votes.map TSeen.d) 4, .int .u8 a0.Try.Phase, .int .i64 a0.Try.Ballot, .imm 1 (a0.Try.Members.map (D.int .i64)) 4, .str a0.Try.Wish, .str a0.Try.Value, .imm 3 (a0.Try.Promises.map TPromise.d) 4, .imm 1 (a0.Try.Accepted.map (D.int .i64)) 4, .imm 1 (a0.Wishes.map D.str) 4, .int .i64 a0.Heard]] (.agg [.int .i64 r.Me, .int .i64 r.Number, .imm 1 (r.Group.Roster.map (D.int .i64)) 12, .imm 1 (r.Group.Members.map (D.int .i64)) 12, .imm 1 (r.Log.map D.str) 12, .imm 5 (r.Votes.map TSeen.d) 12, .int .u8 r.Try.Phase, .int .i64 r.Try.Ballot, .imm 1 (r.Try.Members.map (D.int .i64)) 12, .str r.Try.Wish, .str r.Try.Value, .imm 3 (r.Try.Promises.map TPromise.d) 12, .imm 1 (r.Try.Accepted.map (D.int .i64)) 12, .imm 1 (r.Wishes.map D.str) 12, .int .i64 r.Heard]) :=
  callP_frz (frz_agg (frzs_cons rfl (frzs_cons rfl (frzs_cons (frz_ref0 pl0_i64 rfl rfl) (frzs_cons (frz_ref0 pl0_i64 rfl rfl) (frzs_cons (frz_ref0 pl0_str rfl rfl) (frzs_cons (frz_ref0 pl0_TSeen rfl rfl) (frzs_cons rfl (frzs_cons rfl (frzs_cons (frz_ref0 pl0_i64 rfl rfl) (frzs_cons rfl (frzs_cons rfl (frzs_cons (frz_ref0 pl0_TPromise rfl rfl) (frzs_cons (frz_ref0 pl0_i64 rfl rfl) (frzs_cons (frz_ref0 pl0_str rfl rfl) (frzs_cons rfl frzs_nil)))))))))))))))) (callH_towncrierref25_Twin a0 r h)

def Try.St_bell_groups_1 : St := ⟨[], [], 0⟩
attribute [local go_sem] Try.St_bell_groups_1
def Try.St_bell_groups_3 (a0 : List TGroup) (n1 : Nat) : St := ⟨[(12, .imm 2 (a0.map TGroup.d) 4), (13, .int .i64 (a0.length : Int)), (14, .int .i64 (n1 : Int))], [], 0⟩
attribute [local go_sem] Try.St_bell_groups_3
theorem callP_bell_groups (a0 : List TGroup) (r : Int) (h : m_bell_groups a0 = some r) : CallP Try.prog 16 [.imm 2 (a0.map TGroup.d) 4] (.int .i64 r) := by
  refine callP_intro Try.tmOk 3 Try.func16 rfl (by decide) rfl rfl (Nat.le_of_ble_eq_true rfl) ?_
  intro hwf
  unfold m_bell_groups at h
  refine .seq ?_
  refine .pl Try.S [0] ?_
  refine .seq ?_
  refine .seq ?_
  refine .pl Try.S [0] ?_
  refine .cond rfl rfl (fun hc1 => ?_) (fun hc1 => ?_)
  · skip
    replace h := ite_lc h hc1
    refine .seq ?_
    refine .pl Try.S [] ?_
    have hq := Option.some.inj h
    subst r
    exact .ret ⟨.inr rfl, rsi⟩
  · skip
    replace h := ite_rc h hc1
    refine .skip ?_
    refine .seq ?_
    refine .seq ?_
    refine .pl Try.S [0] ?_
    refine .cond rfl rfl (fun hc2 => ?_) (fun hc2 => ?_)
    · skip
      replace h := ite_lc h hc2
      refine .seq ?_
      refine .pl Try.S [] ?_
      have hq := Option.some.inj h
      subst r
      exact .ret ⟨.inr rfl, rsi⟩
    · skip
      replace h := ite_rc h hc2
      refine .skip ?_
      obtain ⟨x1, hx1, h⟩ := bind_some h
      refine .seqM 0 (fun (j : Unit) => Try.St_bell_groups_1) (fun j => x1 = (.inr j)) (Nat.le_of_ble_eq_true rfl) ?_ ?_
      · skip
        refine .seq ?_
        refine .pl Try.S [0] ?_
        refine .block ?_
        refine .loopG 0 (fun (j : Nat) => Try.St_bell_groups_3 a0 j) (fun j => j ≤ a0.length ∧ m_bell_groups_loop1 (a0.drop j)  = some x1) (fun j => a0.length - j) (0) (Nat.le_of_ble_eq_true rfl) ?_ ⟨Nat.zero_le _, hx1⟩ ?_
        · skip
          exact .m [12, 13, 14] [] []
        rintro n1 ⟨hi1, hx1⟩
        simp only [Try.St_bell_groups_3]
        refine .wf 13 (.int .i64 (a0.length : Int)) rfl ?_
        intro hln1
        replace hln1 : (a0.length : Int) ≤ 9223372036854775807 := by simp only [wf, wfL, IntKind.max, IntKind.min, IntKind.signed, IntKind.bits, List.length_map] at hln1; first | exact hln1.2 | exact hln1.1 | (simp at hln1; omega)
        refine .seq ?_
        refine .pl Try.S [12, 13, 14] ?_
        refine .seq ?_
        refine .cond rfl rfl (fun hc3 => ?_) (fun hc3 => ?_)
        · skip
          have h1 : n1 < a0.length := by simpa using hc3
          have hwn1 : wr .i64 ((n1 : Int) + 1) = ((n1 + 1 : Nat) : Int) := wr_succ h1 hln1
          have hpn1 : wr .i64 ((n1 : Int) - 1) = (n1 : Int) - 1 := wr_pred h1 hln1
          rw [List.drop_eq_getElem_cons h1, m_bell_groups_loop1] at hx1
          refine .skip ?_
          refine .seq ?_
          refine .block ?_
          refine .seq ?_
          have e1 := nth_map TGroup.d a0 n1 h1
          refine .plx Try.S (And.intro e1 hwn1) [12, 13, 14] ?_
          refine .seq ?_
          obtain ⟨v1, hv1, hx1⟩ := bind_some hx1
          refine .rg Try.S [4, 12, 13, 14] ?_
          refine .rnx 1 hwn1 ?_
          refine .call (r := .int .i64 v1) rfl rfl rfl rfl rfl rfl (callP_quorum_CheckGroup (a0[n1]) v1 hv1) ?_
          refine .rnx 1 hwn1 ?_
          refine .nil ⟨nofun, ?_⟩
          refine .seq ?_
          refine .plx Try.S hwn1 [5, 12, 13, 14] ?_
          refine .cond rfl rfl (fun hc4 => ?_) (fun hc4 => ?_)
          · skip
            replace hx1 := ite_lc hx1 hc4
            refine .seq ?_
            refine .plx Try.S hwn1 [5] ?_
            have hq := Option.some.inj hx1
            subst x1
            try dsimp only at h
            have hq := Option.some.inj h
            subst r
            exact .ret ⟨.inr rfl, rsi⟩
          · skip
            replace hx1 := ite_rc hx1 hc4
            refine .skip ?_
            refine .plx Try.S hwn1 [12, 13, 14] ?_
            refine ⟨n1 + 1, ?_, ⟨by omega, hx1⟩, by dsimp only; omega⟩
            exact .m [12, 13, 14] [] []
        · skip
          have h2 : n1 = a0.length := by have h2b := of_decide_eq_false hc3; omega
          rw [List.drop_of_length_le (by omega), m_bell_groups_loop1] at hx1
          refine .exit ?_
          refine ⟨_, ?_, (Option.some.inj hx1).symm⟩
          exact .m [] [] []
      · skip
        rintro ⟨⟩ hj1
        subst x1
        try dsimp only at h
        simp only [Try.St_bell_groups_1]
        refine .seq ?_
        refine .pl Try.S [] ?_
        have hq := Option.some.inj h
        subst r
        exact .ret ⟨.inr rfl, rsi⟩


theorem callP_bell_bell_own (a0 : Tbell_bell) (a1 : Int) (r : Bool) (h : m_bell_bell_own a0 a1 = some r) : CallP Try.prog 18 [.iptr 0 [.int .i64 a0.Bell.Me, .imm 2 (a0.Bell.All.map TGroup.d) 4, .imm 15 (a0.Bell.Seats.map TSeat.d) 4, .imm 3 (a0.Bell.Times.map TTime.d) 4, .imm 5 (a0.fRecs.map TRecord.d) 4, .imm 10 (a0.fMail.map TMail.d) 4], .int .i64 a1] (.bool r) := by
  refine callP_intro Try.tmOk 2 Try.func18 rfl (by decide) rfl rfl (Nat.le_of_ble_eq_true rfl) ?_
  intro hwf
  unfold m_bell_bell_own at h
  refine .seq ?_
  refine .pl Try.S [0, 1] ?_
  obtain ⟨k1, h⟩ := ite_ck h
  obtain ⟨v1, hv1, h⟩ := bind_some h
  refine .seqM 0 (fun (_ : Unit) => ⟨[(4, .bool (((decide (a1 ≥ 0)) && (decide (a1 < (a0.Bell.All.length : Int)))) && v1))], [], 0⟩) (fun _ => True) (Nat.le_of_ble_eq_true rfl) ?_ (fun _ _ => ?_)
  · skip
    by_cases hgd : (a1 ≥ 0) ∧ (a1 < (a0.Bell.All.length : Int))
    · skip
      have eg10 := nth_mapI TGroup.d a0.Bell.All a1 (k1 hgd)
      refine .rg Try.S [0, 1] ?_
      refine .rdx 6 eg10 ?_
      refine .rdx 6 eg10 ?_
      refine .rdx 6 eg10 ?_
      refine .rdx 6 eg10 ?_
      refine .rdx 3 eg10 ?_
      refine .gcall (r := .bool v1) rfl rfl rfl rfl rfl (fun hg => ⟨[], [.imm 1 (((a0.Bell.All.getD a1.toNat default).Roster).map (D.int .i64)) 4, .int .i64 a0.Bell.Me], _, rfl, gd hg, rfl, (callP_quorum_Has ((a0.Bell.All.getD a1.toNat default).Roster) a0.Bell.Me v1 (ite_lc hv1 hg))⟩) ?_
      refine .rdx 2 eg10 ?_
      refine .nil ⟨fun _ => schedB_of (by kernel_rfl), ?_⟩
      refine ⟨(), ?_, trivial⟩
      exact .m [4] [] []
    · skip
      have hgf1 : ((decide (a1 ≥ 0)) && (decide (a1 < (a0.Bell.All.length : Int)))) = false := by first | simpa using hgd | (simp at hgd ⊢; omega) | grind
      rcases nth_or TGroup.d a0.Bell.All a1.toNat with eg10 | eg10
      · skip
        refine .rg Try.S [0, 1] ?_
        refine .rdx 6 (And.intro eg10 hgf1) ?_
        refine .rdx 6 (And.intro eg10 hgf1) ?_
        refine .rdx 6 (And.intro eg10 hgf1) ?_
        refine .rdx 6 (And.intro eg10 hgf1) ?_
        refine .rdx 3 (And.intro eg10 hgf1) ?_
        refine .gcall (r := .bool v1) rfl rfl rfl rfl rfl (fun hg => ⟨[], [.imm 1 (((a0.Bell.All.getD a1.toNat default).Roster).map (D.int .i64)) 4, .int .i64 a0.Bell.Me], _, rfl, gd hg, rfl, (callP_quorum_Has ((a0.Bell.All.getD a1.toNat default).Roster) a0.Bell.Me v1 (ite_lc hv1 hg))⟩) ?_
        refine .rdx 2 (And.intro eg10 hgf1) ?_
        refine .nil ⟨fun _ => schedB_of (by kernel_rfl), ?_⟩
        refine ⟨(), ?_, trivial⟩
        exact .mx hgf1 [4] [] []
      · skip
        refine .rg Try.S [0, 1] ?_
        refine .rdx 6 (And.intro eg10 hgf1) ?_
        refine .rdx 6 (And.intro eg10 hgf1) ?_
        refine .rdx 6 (And.intro eg10 hgf1) ?_
        refine .rdx 6 (And.intro eg10 hgf1) ?_
        refine .rdx 3 (And.intro eg10 hgf1) ?_
        refine .gcall (r := .bool v1) rfl rfl rfl rfl rfl (fun hg => ⟨[], [.imm 1 (((a0.Bell.All.getD a1.toNat default).Roster).map (D.int .i64)) 4, .int .i64 a0.Bell.Me], _, rfl, gd hg, rfl, (callP_quorum_Has ((a0.Bell.All.getD a1.toNat default).Roster) a0.Bell.Me v1 (ite_lc hv1 hg))⟩) ?_
        refine .rdx 2 (And.intro eg10 hgf1) ?_
        refine .nil ⟨fun _ => schedB_of (by kernel_rfl), ?_⟩
        refine ⟨(), ?_, trivial⟩
        exact .mx hgf1 [4] [] []
  have hq := Option.some.inj h
  subst r
  exact .ret ⟨.inr rfl, rsi⟩

def Try.St_towncrierref26_groups_1 : St := ⟨[], [], 0⟩
attribute [local go_sem] Try.St_towncrierref26_groups_1
def Try.St_towncrierref26_groups_3 (a0 : List TGroup) (n1 : Nat) : St := ⟨[(0, .imm 2 (a0.map TGroup.d) 4), (3, .int .i64 (n1 : Int))], [], 0⟩
attribute [local go_sem] Try.St_towncrierref26_groups_3
theorem callP_towncrierref26_groups (a0 : List TGroup) (r : Int) (h : m_towncrierref26_groups a0 = some r) : CallP Try.prog 21 [.imm 2 (a0.map TGroup.d) 4] (.int .i64 r) := by
  refine callP_intro Try.tmOk 2 Try.func21 rfl (by decide) rfl rfl (Nat.le_of_ble_eq_true rfl) ?_
  intro hwf
  unfold m_towncrierref26_groups at h
  refine .seq ?_
  refine .pl Try.S [0] ?_
  refine .seq ?_
  refine .seq ?_
  refine .pl Try.S [0] ?_
  refine .cond rfl rfl (fun hc1 => ?_) (fun hc1 => ?_)
  · skip
    replace h := ite_lc h hc1
    refine .seq ?_
    refine .pl Try.S [] ?_
    have hq := Option.some.inj h
    subst r
    exact .ret ⟨.inr rfl, rsi⟩
  · skip
    replace h := ite_rc h hc1
    refine .skip ?_
    refine .seq ?_
    refine .seq ?_
    refine .pl Try.S [0] ?_
    refine .cond rfl rfl (fun hc2 => ?_) (fun hc2 => ?_)
    · skip
      replace h := ite_lc h hc2
      refine .seq ?_
      refine .pl Try.S [] ?_
      have hq := Option.some.inj h
      subst r
      exact .ret ⟨.inr rfl, rsi⟩
    · skip
      replace h := ite_rc h hc2
      refine .skip ?_
      obtain ⟨x1, hx1, h⟩ := bind_some h
      refine .seqM 0 (fun (j : Unit) => Try.St_towncrierref26_groups_1) (fun j => x1 = (.inr j)) (Nat.le_of_ble_eq_true rfl) ?_ ?_
      · skip
        refine .seq ?_
        refine .pl Try.S [0] ?_
        refine .block ?_
        refine .loopG 0 (fun (j : Nat) => Try.St_towncrierref26_groups_3 a0 j) (fun j => j ≤ a0.length ∧ m_towncrierref26_groups_loop1 (a0.drop j)  = some x1) (fun j => a0.length - j) (0) (Nat.le_of_ble_eq_true rfl) ?_ ⟨Nat.zero_le _, hx1⟩ ?_
        · skip
          exact .m [0, 3] [] []
        rintro n1 ⟨hi1, hx1⟩
        simp only [Try.St_towncrierref26_groups_3]
        refine .wf 0 (.imm 2 (a0.map TGroup.d) 4) rfl ?_
        intro hln1
        replace hln1 : (a0.length : Int) ≤ 9223372036854775807 := by simp only [wf, wfL, IntKind.max, IntKind.min, IntKind.signed, IntKind.bits, List.length_map] at hln1; first | exact hln1.2 | exact hln1.1 | (simp at hln1; omega)
        refine .seq ?_
        refine .seq ?_
        refine .pl Try.S [0, 3] ?_
        refine .cond rfl rfl (fun hc3 => ?_) (fun hc3 => ?_)
        · skip
          have h1 : n1 < a0.length := by simpa using hc3
          have hwn1 : wr .i64 ((n1 : Int) + 1) = ((n1 + 1 : Nat) : Int) := wr_succ h1 hln1
          have hpn1 : wr .i64 ((n1 : Int) - 1) = (n1 : Int) - 1 := wr_pred h1 hln1
          rw [List.drop_eq_getElem_cons h1, m_towncrierref26_groups_loop1] at hx1
          refine .skip ?_
          refine .seq ?_
          refine .block ?_
          refine .seq ?_
          obtain ⟨v1, hv1, hx1⟩ := bind_some hx1
          have e1 := nth_map TGroup.d a0 n1 h1
          refine .rg Try.S [0, 3] ?_
          refine .rnx 4 (And.intro e1 hwn1) ?_
          refine .call (r := .int .i64 v1) rfl rfl rfl rfl rfl rfl (callP_towncrierref06_CheckGroup (a0[n1]) v1 hv1) ?_
          refine .rnx 1 (And.intro e1 hwn1) ?_
          refine .nil ⟨nofun, ?_⟩
          refine .seq ?_
          refine .plx Try.S hwn1 [0, 3, 4] ?_
          refine .cond rfl rfl (fun hc4 => ?_) (fun hc4 => ?_)
          · skip
            replace hx1 := ite_lc hx1 hc4
            refine .seq ?_
            refine .plx Try.S hwn1 [4] ?_
            have hq := Option.some.inj hx1
            subst x1
            try dsimp only at h
            have hq := Option.some.inj h
            subst r
            exact .ret ⟨.inr rfl, rsi⟩
          · skip
            replace hx1 := ite_rc hx1 hc4
            refine .skip ?_
            refine .plx Try.S hwn1 [0, 3] ?_
            refine ⟨n1 + 1, ?_, ⟨by omega, hx1⟩, by dsimp only; omega⟩
            exact .m [0, 3] [] []
        · skip
          have h2 : n1 = a0.length := by have h2b := of_decide_eq_false hc3; omega
          rw [List.drop_of_length_le (by omega), m_towncrierref26_groups_loop1] at hx1
          refine .exit ?_
          refine ⟨_, ?_, (Option.some.inj hx1).symm⟩
          exact .m [] [] []
      · skip
        rintro ⟨⟩ hj1
        subst x1
        try dsimp only at h
        simp only [Try.St_towncrierref26_groups_1]
        refine .seq ?_
        refine .pl Try.S [] ?_
        have hq := Option.some.inj h
        subst r
        exact .ret ⟨.inr rfl, rsi⟩


theorem callP_towncrierref26_Own (a0 : TBell) (a1 : Int) (r : Bool) (h : m_towncrierref26_Own a0 a1 = some r) : CallP Try.prog 23 [.agg [.int .i64 a0.Me, .imm 2 (a0.All.map TGroup.d) 4, .imm 15 (a0.Seats.map TSeat.d) 4, .imm 3 (a0.Times.map TTime.d) 4], .int .i64 a1] (.bool r) := by
  refine callP_intro Try.tmOk 3 Try.func23 rfl (by decide) rfl rfl (Nat.le_of_ble_eq_true rfl) ?_
  intro hwf
  unfold m_towncrierref26_Own at h
  refine .seq ?_
  refine .pl Try.S [0, 1] ?_
  obtain ⟨k1, h⟩ := ite_ck h
  obtain ⟨v1, hv1, h⟩ := bind_some h
  refine .seqM 1 (fun (_ : Unit) => ⟨[(4, .bool (((decide (a1 ≥ 0)) && (decide (a1 < (a0.All.length : Int)))) && v1))], [], 1⟩) (fun _ => True) (Nat.le_of_ble_eq_true rfl) ?_ (fun _ _ => ?_)
  · skip
    by_cases hgd : (a1 ≥ 0) ∧ (a1 < (a0.All.length : Int))
    · skip
      have eg10 := nth_mapI TGroup.d a0.All a1 (k1 hgd)
      refine .rg Try.S [1, 2] ?_
      refine .rdx 6 eg10 ?_
      refine .rdx 6 eg10 ?_
      refine .rdx 6 eg10 ?_
      refine .gcall (r := .bool v1) rfl rfl rfl rfl rfl (fun hg => ⟨[], [.imm 1 (((a0.All.getD a1.toNat default).Roster).map (D.int .i64)) 4, .int .i64 a0.Me], _, rfl, gd hg, rfl, (callP_towncrierref06_Has ((a0.All.getD a1.toNat default).Roster) a0.Me v1 (ite_lc hv1 hg))⟩) ?_
      refine .rdx 2 eg10 ?_
      refine .nil ⟨fun _ => schedB_of (by kernel_rfl), ?_⟩
      refine ⟨(), ?_, trivial⟩
      exact .m [4] [] []
    · skip
      have hgf1 : ((decide (a1 ≥ 0)) && (decide (a1 < (a0.All.length : Int)))) = false := by first | simpa using hgd | (simp at hgd ⊢; omega) | grind
      rcases nth_or TGroup.d a0.All a1.toNat with eg10 | eg10
      · skip
        refine .rg Try.S [1, 2] ?_
        refine .rdx 6 (And.intro eg10 hgf1) ?_
        refine .rdx 6 (And.intro eg10 hgf1) ?_
        refine .rdx 6 (And.intro eg10 hgf1) ?_
        refine .gcall (r := .bool v1) rfl rfl rfl rfl rfl (fun hg => ⟨[], [.imm 1 (((a0.All.getD a1.toNat default).Roster).map (D.int .i64)) 4, .int .i64 a0.Me], _, rfl, gd hg, rfl, (callP_towncrierref06_Has ((a0.All.getD a1.toNat default).Roster) a0.Me v1 (ite_lc hv1 hg))⟩) ?_
        refine .rdx 2 (And.intro eg10 hgf1) ?_
        refine .nil ⟨fun _ => schedB_of (by kernel_rfl), ?_⟩
        refine ⟨(), ?_, trivial⟩
        exact .mx hgf1 [4] [] []
      · skip
        refine .rg Try.S [1, 2] ?_
        refine .rdx 6 (And.intro eg10 hgf1) ?_
        refine .rdx 6 (And.intro eg10 hgf1) ?_
        refine .rdx 6 (And.intro eg10 hgf1) ?_
        refine .gcall (r := .bool v1) rfl rfl rfl rfl rfl (fun hg => ⟨[], [.imm 1 (((a0.All.getD a1.toNat default).Roster).map (D.int .i64)) 4, .int .i64 a0.Me], _, rfl, gd hg, rfl, (callP_towncrierref06_Has ((a0.All.getD a1.toNat default).Roster) a0.Me v1 (ite_lc hv1 hg))⟩) ?_
        refine .rdx 2 (And.intro eg10 hgf1) ?_
        refine .nil ⟨fun _ => schedB_of (by kernel_rfl), ?_⟩
        refine ⟨(), ?_, trivial⟩
        exact .mx hgf1 [4] [] []
  have hq := Option.some.inj h
  subst r
  exact .ret ⟨.inr rfl, rsi⟩

def Try.St_towncrierref26_Twin_1 (a0 : TBell) (l1 : List TGroup) : St := ⟨[(1, .ptr 0 0), (2, .ptr 1 0), (3, .ptr 3 0)], [(0, .box [.int .i64 a0.Me, .imm 2 (a0.All.map TGroup.d) 4, .imm 15 (a0.Seats.map TSeat.d) 4, .imm 3 (a0.Times.map TTime.d) 4]), (1, .box [.int .i64 0, .imm 0 [] 0, .imm 0 [] 0, .imm 0 [] 0]), (3, .box [.int .i64 a0.Me, .ref 4 2 0 l1.length (some unkC), .imm 0 [] 0, .ref 5 3 0 a0.Times.length (some unkC)]), (4, .arr 45 2 true (l1.map TGroup.n)), (5, .arr 82 3 true (a0.Times.map TTime.d))], 6⟩
attribute [local go_sem] Try.St_towncrierref26_Twin_1
def Try.St_towncrierref26_Twin_3 (a0 : TBell) (n1 : Nat) (l2 : List TGroup) : St := ⟨[(1, .ptr 0 0), (2, .ptr 1 0), (3, .ptr 3 0), (4, .int .i64 (n1 : Int))], [(0, .box [.int .i64 a0.Me, .imm 2 (a0.All.map TGroup.d) 4, .imm 15 (a0.Seats.map TSeat.d) 4, .imm 3 (a0.Times.map TTime.d) 4]), (1, .box [.int .i64 0, .imm 0 [] 0, .imm 0 [] 0, .imm 0 [] 0]), (3, .box [.int .i64 a0.Me, .ref 4 2 0 l2.length (some unkC), .imm 0 [] 0, .ref 5 3 0 a0.Times.length (some unkC)]), (4, .arr 45 2 true (l2.map TGroup.n)), (5, .arr 82 3 true (a0.Times.map TTime.d))], 6⟩
attribute [local go_sem] Try.St_towncrierref26_Twin_3
def Try.St_towncrierref26_Twin_5 (a0 : TBell) (l1 : List TGroup) (l3 : List TSeat) : St := ⟨[(2, .ptr 1 0), (3, .ptr 3 0)], [(1, .box [.int .i64 0, .imm 0 [] 0, .imm 0 [] 0, .imm 0 [] 0]), (3, .box [.int .i64 a0.Me, .ref 6 2 0 l1.length (some unkC), .ref 7 15 0 l3.length (some unkC), .ref 8 3 0 a0.Times.length (some unkC)]), (6, .arr 45 2 true (l1.map TGroup.n)), (7, .arr 52 15 true (l3.map TSeat.n)), (8, .arr 82 3 true (a0.Times.map TTime.d))], 9⟩
attribute [local go_sem] Try.St_towncrierref26_Twin_5
def Try.St_towncrierref26_Twin_7 (a0 : TBell) (l1 : List TGroup) (n2 : Nat) (l4 : List TSeat) : St := ⟨[(1, .ptr 0 0), (2, .ptr 1 0), (3, .ptr 3 0), (5, .int .i64 (n2 : Int))], [(0, .box [.int .i64 a0.Me, .imm 2 (a0.All.map TGroup.d) 4, .imm 15 (a0.Seats.map TSeat.d) 4, .imm 3 (a0.Times.map TTime.d) 4]), (1, .box [.int .i64 0, .imm 0 [] 0, .imm 0 [] 0, .imm 0 [] 0]), (3, .box [.int .i64 a0.Me, .ref 6 2 0 l1.length (some unkC), .ref 7 15 0 l4.length (some unkC), .ref 8 3 0 a0.Times.length (some unkC)]), (6, .arr 45 2 true (l1.map TGroup.n)), (7, .arr 52 15 true (l4.map TSeat.n)), (8, .arr 82 3 true (a0.Times.map TTime.d))], 9⟩
attribute [local go_sem] Try.St_towncrierref26_Twin_7
def Try.Re_towncrierref26_Twin (r : TBell) : St := ⟨[(2, .ptr 3 0)], [(0, .arr 45 2 true (r.All.map TGroup.n)), (1, .arr 52 15 true (r.Seats.map TSeat.n)), (2, .arr 82 3 true (r.Times.map TTime.d)), (3, .box [.int .i64 r.Me, .ref 0 2 0 r.All.length (some unkC), .ref 1 15 0 r.Seats.length (some unkC), .ref 2 3 0 r.Times.length (some unkC)])], 4⟩
attribute [local go_sem] Try.Re_towncrierref26_Twin
theorem callH_towncrierref26_Twin (a0 : TBell) (r : TBell) (h : m_towncrierref26_Twin a0 = some r) : CallH Try.prog 22 [.agg [.int .i64 a0.Me, .imm 2 (a0.All.map TGroup.d) 4, .imm 15 (a0.Seats.map TSeat.d) 4, .imm 3 (a0.Times.map TTime.d) 4]] [] (.agg [.int .i64 r.Me, .ref 0 2 0 r.All.length (some unkC), .ref 1 15 0 r.Seats.length (some unkC), .ref 2 3 0 r.Times.length (some unkC)]) [(0, some (.arr 45 2 true (r.All.map TGroup.n))), (1, some (.arr 52 15 true (r.Seats.map TSeat.n))), (2, some (.arr 82 3 true (r.Times.map TTime.d)))] (0, 13) := by
  refine callH_intro' Try.tmOk Try.func22 rfl (by decide) (Nat.le_of_ble_eq_true rfl) (by simp) ?_
  intro hwf
  unfold m_towncrierref26_Twin at h
  refine .ends 0 (Nat.le_refl _) ?_
  refine .seq ?_
  refine .pl Try.S [0] ?_
  obtain ⟨k1, h⟩ := ite_ck h
  refine .seqM 2 (fun (_ : Unit) => ⟨[(1, .ptr 0 0), (2, .ptr 1 0), (3, .ptr 3 0)], [(0, .box [.int .i64 a0.Me, .imm 2 (a0.All.map TGroup.d) 4, .imm 15 (a0.Seats.map TSeat.d) 4, .imm 3 (a0.Times.map TTime.d) 4]), (1, .box [.int .i64 0, .imm 0 [] 0, .imm 0 [] 0, .imm 0 [] 0]), (2, .arr 82 3 true (a0.Times.map TTime.d)), (3, .box [.int .i64 a0.Me, .imm 0 [] 0, .imm 0 [] 0, .ref 2 3 0 a0.Times.length (some unkC)])], 4⟩) (fun _ => True) (Nat.le_of_ble_eq_true rfl) ?_ (fun _ _ => ?_)
  · skip
    rcases list_cases a0.Times with hE1 | ⟨y, ys, hE1⟩
    · skip
      have hM1 : a0.Times.map TTime.d = [] := by rw [hE1]; simp
      refine .drawn Try.tmOk Try.tmMixed [1, 2] (by decide +kernel) (by intro q hq; simp only [go_sem, Nat.reduceSub, Int.reduceEq, Nat.reduceLT, Nat.reduceDiv, Nat.reduceAdd, Nat.reduceBEq, Nat.reduceLeDiff, reduceCtorEq, Nat.reduceEqDiff, Nat.reduceMod, Nat.reduceMul, Try.tm_3, Try.tm_25, Try.tm_27, appendD_nil hM1, TBell.d, TTime.d]; exact hq) (schedB_of (by kernel_rfl)) (by first | rfl | (simp only [go_sem, Nat.reduceLeDiff]; done) | (simp only [go_sem, Nat.reduceLeDiff]; rfl) | (simp; done) | (simp [oneD] <;> omega) | (simp_all; done) | (simp_all [oneD] <;> omega)) (by first | exact Nat.le_refl _ | exact Nat.le_of_ble_eq_true rfl | (dsimp only; omega) | (simp <;> omega)) ?_
      refine ⟨(), ?_, trivial⟩
      refine Goes.new0 3 82 (Nat.le_of_ble_eq_true rfl) ?_
      refine Goes.boxs 2 _ [.int .i64 a0.Me, .imm 0 [] 0, .imm 0 [] 0, .ref 3 3 0 0 (some unkC)] rfl (.keep (.keep (.keep (.cons (.own0 3 _ _ _ (by decide)) (.refl _))))) ?_
      exact .mx hE1 [1, 2, 3] [0, 1, 3, 2] [(3, 2), (2, 3)]
    · skip
      have hM1 : a0.Times.map TTime.d ≠ [] := by rw [hE1]; simp
      refine .drawn Try.tmOk Try.tmMixed [1, 2] (by decide +kernel) (by intro q hq; simp only [go_sem, Nat.reduceSub, Int.reduceEq, Nat.reduceLT, Nat.reduceDiv, Nat.reduceAdd, Nat.reduceBEq, Nat.reduceLeDiff, reduceCtorEq, Nat.reduceEqDiff, Nat.reduceMod, Nat.reduceMul, Try.tm_3, Try.tm_25, Try.tm_27, appendD_cons hM1, TBell.d, TTime.d]; exact hq) (schedB_of (by kernel_rfl)) (by first | rfl | (simp only [go_sem, Nat.reduceLeDiff]; done) | (simp only [go_sem, Nat.reduceLeDiff]; rfl) | (simp; done) | (simp [oneD] <;> omega) | (simp_all; done) | (simp_all [oneD] <;> omega)) (by first | exact Nat.le_refl _ | exact Nat.le_of_ble_eq_true rfl | (dsimp only; omega) | (simp <;> omega)) ?_
      refine ⟨(), ?_, trivial⟩
      refine Goes.boxs 3 _ [.int .i64 a0.Me, .imm 0 [] 0, .imm 0 [] 0, .ref 2 3 0 a0.Times.length (some unkC)] rfl (.keep (.keep (.keep (.cons (.unk _ _ _ _ _) (.refl _))))) ?_
      exact .mx hE1 [1, 2, 3] [0, 1, 2, 3] []
  obtain ⟨x1, hx1, h⟩ := bind_some h
  refine .seqM 4 (fun (j : (List TGroup)) => Try.St_towncrierref26_Twin_1 a0 j) (fun j => x1 = j) (Nat.le_of_ble_eq_true rfl) ?_ ?_
  · skip
    refine .seq ?_
    refine .pl Try.S [1, 2, 3] ?_
    refine .block ?_
    refine .loopG 4 (fun (j : Nat × (List TGroup)) => Try.St_towncrierref26_Twin_3 a0 j.1 j.2) (fun j => j.1 ≤ a0.All.length ∧ m_towncrierref26_Twin_loop1 (a0.All.drop j.1) j.2 = some x1) (fun j => a0.All.length - j.1) (0, []) (Nat.le_of_ble_eq_true rfl) ?_ ⟨Nat.zero_le _, hx1⟩ ?_
    · skip
      refine Goes.new0 2 45 (Nat.le_of_ble_eq_true rfl) ?_
      refine Goes.boxs 3 _ [.int .i64 a0.Me, .ref 4 2 0 0 (some unkC), .imm 0 [] 0, .ref 2 3 0 a0.Times.length (some unkC)] rfl (.keep (.cons (.own0 4 _ _ _ (by decide)) (.refl _))) ?_
      exact .m [1, 2, 3, 4] [0, 1, 3, 4, 2] [(2, 5)]
    rintro ⟨n1, l2⟩ ⟨hi1, hx1⟩
    simp only [Try.St_towncrierref26_Twin_3]
    simp only at hi1 hx1
    refine .wfb 0 [.int .i64 a0.Me, .imm 2 (a0.All.map TGroup.d) 4, .imm 15 (a0.Seats.map TSeat.d) 4, .imm 3 (a0.Times.map TTime.d) 4] rfl ?_
    intro hln1
    replace hln1 : (a0.All.length : Int) ≤ 9223372036854775807 := by simp only [wf, wfL, IntKind.max, IntKind.min, IntKind.signed, IntKind.bits, List.length_map] at hln1; first | exact hln1.2 | exact hln1.1 | (simp at hln1; omega)
    refine .seq ?_
    refine .seq ?_
    refine .pl Try.S [1, 2, 3, 4] ?_
    refine .cond rfl rfl (fun hc1 => ?_) (fun hc1 => ?_)
    · skip
      have h1 : n1 < a0.All.length := by simpa using hc1
      have hwn1 : wr .i64 ((n1 : Int) + 1) = ((n1 + 1 : Nat) : Int) := wr_succ h1 hln1
      have hpn1 : wr .i64 ((n1 : Int) - 1) = (n1 : Int) - 1 := wr_pred h1 hln1
      rw [List.drop_eq_getElem_cons h1, m_towncrierref26_Twin_loop1_c] at hx1
      refine .skip ?_
      refine .seq ?_
      refine .block ?_
      obtain ⟨v1, hv1, hx1⟩ := bind_some hx1
      obtain ⟨k2, hx1⟩ := ite_ck hx1
      have e1 := nth_map TGroup.d a0.All n1 h1
      refine .rg Try.S [1, 2, 3, 4] ?_
      refine .rdx 7 (And.intro e1 hwn1) ?_
      refine .call (r := .agg [.imm 1 (v1.Roster.map (D.int .i64)) 12, .imm 1 (v1.Members.map (D.int .i64)) 12]) rfl rfl rfl rfl rfl rfl (callP_towncrierref06_TwinGroup (a0.All[n1]) v1 hv1) ?_
      refine .rdx 4 (And.intro e1 hwn1) ?_
      refine .nil ⟨fun _ => schedB_of (by kernel_rfl), ?_⟩
      refine .plx Try.S hwn1 [1, 2, 3, 4] ?_
      refine ⟨(n1 + 1, _), ?_, ⟨by omega, hx1⟩, by dsimp only; omega⟩
      exact .m [1, 2, 3, 4] [0, 1, 3, 7, 5] [(7, 4)]
    · skip
      have h2 : n1 = a0.All.length := by have h2b := of_decide_eq_false hc1; omega
      rw [List.drop_of_length_le (by omega), m_towncrierref26_Twin_loop1_n] at hx1
      refine .exit ?_
      refine ⟨_, ?_, (Option.some.inj hx1).symm⟩
      exact .m [1, 2, 3] [0, 1, 3, 4, 5] []
  · skip
    rintro l1 hj1
    subst x1
    try dsimp only at h
    simp only [Try.St_towncrierref26_Twin_1]
    obtain ⟨x2, hx2, h⟩ := bind_some h
    refine .seqM 6 (fun (j : (List TSeat)) => Try.St_towncrierref26_Twin_5 a0 l1 j) (fun j => x2 = j) (Nat.le_of_ble_eq_true rfl) ?_ ?_
    · skip
      refine .seq ?_
      refine .pl Try.S [1, 2, 3] ?_
      refine .block ?_
      refine .loopG 6 (fun (j : Nat × (List TSeat)) => Try.St_towncrierref26_Twin_7 a0 l1 j.1 j.2) (fun j => j.1 ≤ a0.Seats.length ∧ m_towncrierref26_Twin_loop2 (a0.Seats.drop j.1) j.2 = some x2) (fun j => a0.Seats.length - j.1) (0, []) (Nat.le_of_ble_eq_true rfl) ?_ ⟨Nat.zero_le _, hx2⟩ ?_
      · skip
        refine Goes.new0 15 52 (Nat.le_of_ble_eq_true rfl) ?_
        refine Goes.boxs 3 _ [.int .i64 a0.Me, .ref 4 2 0 l1.length (some unkC), .ref 6 15 0 0 (some unkC), .ref 5 3 0 a0.Times.length (some unkC)] rfl (.keep (.keep (.cons (.own0 6 _ _ _ (by decide)) (.refl _)))) ?_
        exact .m [1, 2, 3, 5] [0, 1, 3, 4, 6, 5] [(4, 6), (6, 7), (5, 8)]
      rintro ⟨n2, l4⟩ ⟨hi2, hx2⟩
      simp only [Try.St_towncrierref26_Twin_7]
      simp only at hi2 hx2
      refine .wfb 0 [.int .i64 a0.Me, .imm 2 (a0.All.map TGroup.d) 4, .imm 15 (a0.Seats.map TSeat.d) 4, .imm 3 (a0.Times.map TTime.d) 4] rfl ?_
      intro hln2
      replace hln2 : (a0.Seats.length : Int) ≤ 9223372036854775807 := by simp only [wf, wfL, IntKind.max, IntKind.min, IntKind.signed, IntKind.bits, List.length_map] at hln2; first | exact hln2.2 | exact hln2.1 | (simp at hln2; omega)
      refine .seq ?_
      refine .seq ?_
      refine .pl Try.S [1, 2, 3, 5] ?_
      refine .cond rfl rfl (fun hc2 => ?_) (fun hc2 => ?_)
      · skip
        have h3 : n2 < a0.Seats.length := by simpa using hc2
        have hwn2 : wr .i64 ((n2 : Int) + 1) = ((n2 + 1 : Nat) : Int) := wr_succ h3 hln2
        have hpn2 : wr .i64 ((n2 : Int) - 1) = (n2 : Int) - 1 := wr_pred h3 hln2
        rw [List.drop_eq_getElem_cons h3, m_towncrierref26_Twin_loop2_c] at hx2
        refine .skip ?_
        refine .seq ?_
        refine .block ?_
        obtain ⟨v2, hv2, hx2⟩ := bind_some hx2
        obtain ⟨k3, hx2⟩ := ite_ck hx2
        have e2 := nth_map TSeat.d a0.Seats n2 h3
        refine .rg Try.S [1, 2, 3, 5] ?_
        refine .rdx 7 (And.intro e2 hwn2) ?_
        refine .call (r := .agg [.int .i64 v2.Me, .int .i64 v2.Number, .imm 1 (v2.Group.Roster.map (D.int .i64)) 12, .imm 1 (v2.Group.Members.map (D.int .i64)) 12, .imm 1 (v2.Log.map D.str) 12, .imm 5 (v2.Votes.map TSeen.d) 12, .int .u8 v2.Try.Phase, .int .i64 v2.Try.Ballot, .imm 1 (v2.Try.Members.map (D.int .i64)) 12, .str v2.Try.Wish, .str v2.Try.Value, .imm 3 (v2.Try.Promises.map TPromise.d) 12, .imm 1 (v2.Try.Accepted.map (D.int .i64)) 12, .imm 1 (v2.Wishes.map D.str) 12, .int .i64 v2.Heard]) rfl rfl rfl rfl rfl rfl (callP_towncrierref25_Twin (a0.Seats[n2]) v2 hv2) ?_
        refine .rdx 4 (And.intro e2 hwn2) ?_
        refine .nil ⟨fun _ => schedB_of (by kernel_rfl), ?_⟩
        refine .plx Try.S hwn2 [1, 2, 3, 5] ?_
        refine ⟨(n2 + 1, _), ?_, ⟨by omega, hx2⟩, by dsimp only; omega⟩
        exact .m [1, 2, 3, 5] [0, 1, 3, 6, 10, 8] [(10, 7)]
      · skip
        have h4 : n2 = a0.Seats.length := by have h4b := of_decide_eq_false hc2; omega
        rw [List.drop_of_length_le (by omega), m_towncrierref26_Twin_loop2_n] at hx2
        refine .exit ?_
        refine ⟨_, ?_, (Option.some.inj hx2).symm⟩
        exact .m [2, 3] [1, 3, 6, 7, 8] []
    · skip
      rintro l3 hj2
      subst x2
      try dsimp only at h
      simp only [Try.St_towncrierref26_Twin_5]
      refine .seq ?_
      refine .pl Try.S [2, 3] ?_
      have hq := Option.some.inj h
      subst r
      refine .ret ⟨Try.Re_towncrierref26_Twin (⟨a0.Me, l1, l3, a0.Times⟩ : TBell), ?_, .inr rfl, retH [2, 1, 0] ?_ ?_⟩
      · skip
        exact .m [2] [6, 7, 8, 1] [(6, 0), (7, 1), (8, 2), (1, 3)]
      · exact rsi0
      · rfl

def Try.St_bell_Twin_1 (a0 : TBell) (v1 : List TTime) (l1 : List TGroup) : St := ⟨[(1, .ptr 0 0), (2, .ptr 1 0), (3, .ptr 6 0)], [(0, .box [.int .i64 a0.Me, .imm 2 (a0.All.map TGroup.d) 4, .imm 15 (a0.Seats.map TSeat.d) 4, .imm 3 (a0.Times.map TTime.d) 4]), (1, .box [.int .i64 0, .imm 0 [] 0, .imm 0 [] 0, .imm 0 [] 0]), (6, .box [.int .i64 a0.Me, .ref 7 2 0 l1.length (some unkC), .imm 0 [] 0, .ref 8 3 0 v1.length (some unkC)]), (7, .arr 45 2 true (l1.map TGroup.n)), (8, .arr 82 3 true (v1.map TTime.d))], 9⟩
attribute [local go_sem] Try.St_bell_Twin_1
def Try.St_bell_Twin_3 (a0 : TBell) (v1 : List TTime) (n1 : Nat) (l2 : List TGroup) : St := ⟨[(1, .ptr 0 0), (2, .ptr 1 0), (3, .ptr 6 0), (15, .imm 2 (a0.All.map TGroup.d) 4), (16, .int .i64 (a0.All.length : Int)), (17, .int .i64 (n1 : Int))], [(0, .box [.int .i64 a0.Me, .imm 2 (a0.All.map TGroup.d) 4, .imm 15 (a0.Seats.map TSeat.d) 4, .imm 3 (a0.Times.map TTime.d) 4]), (1, .box [.int .i64 0, .imm 0 [] 0, .imm 0 [] 0, .imm 0 [] 0]), (6, .box [.int .i64 a0.Me, .ref 7 2 0 l2.length (some unkC), .imm 0 [] 0, .ref 8 3 0 v1.length (some unkC)]), (7, .arr 45 2 true (l2.map TGroup.n)), (8, .arr 82 3 true (v1.map TTime.d))], 9⟩
attribute [local go_sem] Try.St_bell_Twin_3
def Try.St_bell_Twin_5 (a0 : TBell) (v1 : List TTime) (l1 : List TGroup) (l3 : List TSeat) : St := ⟨[(2, .ptr 1 0), (3, .ptr 6 0)], [(1, .box [.int .i64 0, .imm 0 [] 0, .imm 0 [] 0, .imm 0 [] 0]), (6, .box [.int .i64 a0.Me, .ref 9 2 0 l1.length (some unkC), .ref 10 15 0 l3.length (some unkC), .ref 11 3 0 v1.length (some unkC)]), (9, .arr 45 2 true (l1.map TGroup.n)), (10, .arr 52 15 true (l3.map TSeat.n)), (11, .arr 82 3 true (v1.map TTime.d))], 12⟩
attribute [local go_sem] Try.St_bell_Twin_5
def Try.St_bell_Twin_7 (a0 : TBell) (v1 : List TTime) (l1 : List TGroup) (n2 : Nat) (l4 : List TSeat) : St := ⟨[(2, .ptr 1 0), (3, .ptr 6 0), (35, .imm 15 (a0.Seats.map TSeat.d) 4), (36, .int .i64 (a0.Seats.length : Int)), (37, .int .i64 (n2 : Int))], [(1, .box [.int .i64 0, .imm 0 [] 0, .imm 0 [] 0, .imm 0 [] 0]), (6, .box [.int .i64 a0.Me, .ref 9 2 0 l1.length (some unkC), .ref 10 15 0 l4.length (some unkC), .ref 11 3 0 v1.length (some unkC)]), (9, .arr 45 2 true (l1.map TGroup.n)), (10, .arr 52 15 true (l4.map TSeat.n)), (11, .arr 82 3 true (v1.map TTime.d))], 12⟩
attribute [local go_sem] Try.St_bell_Twin_7
def Try.Re_bell_Twin (r : TBell) : St := ⟨[(2, .ptr 3 0)], [(0, .arr 45 2 true (r.All.map TGroup.n)), (1, .arr 52 15 true (r.Seats.map TSeat.n)), (2, .arr 82 3 true (r.Times.map TTime.d)), (3, .box [.int .i64 r.Me, .ref 0 2 0 r.All.length (some unkC), .ref 1 15 0 r.Seats.length (some unkC), .ref 2 3 0 r.Times.length (some unkC)])], 4⟩
attribute [local go_sem] Try.Re_bell_Twin
theorem callH_bell_Twin (a0 : TBell) (r : TBell) (h : m_bell_Twin a0 = some r) : CallH Try.prog 17 [.agg [.int .i64 a0.Me, .imm 2 (a0.All.map TGroup.d) 4, .imm 15 (a0.Seats.map TSeat.d) 4, .imm 3 (a0.Times.map TTime.d) 4]] [] (.agg [.int .i64 r.Me, .ref 0 2 0 r.All.length (some unkC), .ref 1 15 0 r.Seats.length (some unkC), .ref 2 3 0 r.Times.length (some unkC)]) [(0, some (.arr 45 2 true (r.All.map TGroup.n))), (1, some (.arr 52 15 true (r.Seats.map TSeat.n))), (2, some (.arr 82 3 true (r.Times.map TTime.d)))] (0, 17) := by
  refine callH_intro' Try.tmOk Try.func17 rfl (by decide) (Nat.le_of_ble_eq_true rfl) (by simp) ?_
  intro hwf
  unfold m_bell_Twin at h
  refine .ends 0 (Nat.le_refl _) ?_
  refine .seq ?_
  refine .pl Try.S [0] ?_
  refine .seq ?_
  obtain ⟨v1, hv1, h⟩ := bind_some h
  refine .rg Try.S [1, 2] ?_
  refine .rd 4 ?_
  refine .ncall (r := .ref 3 3 0 v1.length (some unkC)) (eff := [(3, some (.arr 82 3 true (v1.map TTime.d)))]) (nw := (3, 6)) [] rfl rfl rfl rfl rfl (lend2s_cons rfl lend2s_nil) rfl (callH_at 3 (Nat.le_of_ble_eq_true rfl) (callH_slices_Clone_Time_Time a0.Times v1 hv1)) (newE_cons rfl rfl (newB_arr pl0_TTime _ _ _) newE_nil) (by intro i hi; simp [D.ids, D.idsL] at hi; omega) rfl ⟨Nat.le_of_ble_eq_true rfl, Nat.le_of_ble_eq_true rfl⟩ ?_
  refine .rd 3 ?_
  refine .nil ⟨fun _ => schedB_of (by kernel_rfl), ?_⟩
  obtain ⟨x1, hx1, h⟩ := bind_some h
  refine .seqM 7 (fun (j : (List TGroup)) => Try.St_bell_Twin_1 a0 v1 j) (fun j => x1 = j) (Nat.le_of_ble_eq_true rfl) ?_ ?_
  · skip
    refine .seq ?_
    refine .pl Try.S [1, 2, 3] ?_
    refine .block ?_
    refine .loopG 7 (fun (j : Nat × (List TGroup)) => Try.St_bell_Twin_3 a0 v1 j.1 j.2) (fun j => j.1 ≤ a0.All.length ∧ m_bell_Twin_loop1 (a0.All.drop j.1) j.2 = some x1) (fun j => a0.All.length - j.1) (0, []) (Nat.le_of_ble_eq_true rfl) ?_ ⟨Nat.zero_le _, hx1⟩ ?_
    · skip
      refine Goes.new0 2 45 (Nat.le_of_ble_eq_true rfl) ?_
      refine Goes.boxs 6 _ [.int .i64 a0.Me, .ref 7 2 0 0 (some unkC), .imm 0 [] 0, .ref 3 3 0 v1.length (some unkC)] rfl (.keep (.cons (.own0 7 _ _ _ (by decide)) (.refl _))) ?_
      exact .m [1, 2, 3, 15, 16, 17] [0, 1, 6, 7, 3] [(3, 8)]
    rintro ⟨n1, l2⟩ ⟨hi1, hx1⟩
    simp only [Try.St_bell_Twin_3]
    simp only at hi1 hx1
    refine .wf 16 (.int .i64 (a0.All.length : Int)) rfl ?_
    intro hln1
    replace hln1 : (a0.All.length : Int) ≤ 9223372036854775807 := by simp only [wf, wfL, IntKind.max, IntKind.min, IntKind.signed, IntKind.bits, List.length_map] at hln1; first | exact hln1.2 | exact hln1.1 | (simp at hln1; omega)
    refine .seq ?_
    refine .pl Try.S [1, 2, 3, 15, 16, 17] ?_
    refine .seq ?_
    refine .cond rfl rfl (fun hc1 => ?_) (fun hc1 => ?_)
    · skip
      have h1 : n1 < a0.All.length := by simpa using hc1
      have hwn1 : wr .i64 ((n1 : Int) + 1) = ((n1 + 1 : Nat) : Int) := wr_succ h1 hln1
      have hpn1 : wr .i64 ((n1 : Int) - 1) = (n1 : Int) - 1 := wr_pred h1 hln1
      rw [List.drop_eq_getElem_cons h1, m_bell_Twin_loop1_c] at hx1
      refine .skip ?_
      refine .seq ?_
      refine .block ?_
      refine .seq ?_
      have e1 := nth_map TGroup.d a0.All n1 h1
      refine .plx Try.S (And.intro e1 hwn1) [1, 2, 3, 15, 16, 17] ?_
      obtain ⟨v2, hv2, hx1⟩ := bind_some hx1
      obtain ⟨v3, hv3, hx1⟩ := bind_some hx1
      obtain ⟨k1, hx1⟩ := ite_ck hx1
      refine .rg Try.S [1, 2, 3, 5, 15, 16, 17] ?_
      refine .rdx 4 hwn1 ?_
      refine .call (r := .imm 1 (v2.map (D.int .i64)) 12) rfl rfl rfl rfl rfl rfl (callP_slices_Clone_int_int (a0.All[n1].Roster) v2 hv2) ?_
      refine .rdx 2 hwn1 ?_
      refine .call (r := .imm 1 (v3.map (D.int .i64)) 12) rfl rfl rfl rfl rfl rfl (callP_slices_Clone_int_int (a0.All[n1].Members) v3 hv3) ?_
      refine .rdx 5 hwn1 ?_
      refine .nil ⟨fun _ => schedB_of (by kernel_rfl), ?_⟩
      refine .plx Try.S hwn1 [1, 2, 3, 15, 16, 17] ?_
      refine ⟨(n1 + 1, _), ?_, ⟨by omega, hx1⟩, by dsimp only; omega⟩
      exact .m [1, 2, 3, 15, 16, 17] [0, 1, 6, 11, 8] [(11, 7)]
    · skip
      have h2 : n1 = a0.All.length := by have h2b := of_decide_eq_false hc1; omega
      rw [List.drop_of_length_le (by omega), m_bell_Twin_loop1_n] at hx1
      refine .exit ?_
      refine ⟨_, ?_, (Option.some.inj hx1).symm⟩
      exact .m [1, 2, 3] [0, 1, 6, 7, 8] []
  · skip
    rintro l1 hj1
    subst x1
    try dsimp only at h
    simp only [Try.St_bell_Twin_1]
    obtain ⟨x2, hx2, h⟩ := bind_some h
    refine .seqM 9 (fun (j : (List TSeat)) => Try.St_bell_Twin_5 a0 v1 l1 j) (fun j => x2 = j) (Nat.le_of_ble_eq_true rfl) ?_ ?_
    · skip
      refine .seq ?_
      refine .pl Try.S [1, 2, 3] ?_
      refine .block ?_
      refine .loopG 9 (fun (j : Nat × (List TSeat)) => Try.St_bell_Twin_7 a0 v1 l1 j.1 j.2) (fun j => j.1 ≤ a0.Seats.length ∧ m_bell_Twin_loop2 (a0.Seats.drop j.1) j.2 = some x2) (fun j => a0.Seats.length - j.1) (0, []) (Nat.le_of_ble_eq_true rfl) ?_ ⟨Nat.zero_le _, hx2⟩ ?_
      · skip
        refine Goes.new0 15 52 (Nat.le_of_ble_eq_true rfl) ?_
        refine Goes.boxs 6 _ [.int .i64 a0.Me, .ref 7 2 0 l1.length (some unkC), .ref 9 15 0 0 (some unkC), .ref 8 3 0 v1.length (some unkC)] rfl (.keep (.keep (.cons (.own0 9 _ _ _ (by decide)) (.refl _)))) ?_
        exact .m [2, 3, 35, 36, 37] [1, 6, 7, 9, 8] [(7, 9), (9, 10), (8, 11)]
      rintro ⟨n2, l4⟩ ⟨hi2, hx2⟩
      simp only [Try.St_bell_Twin_7]
      simp only at hi2 hx2
      refine .wf 36 (.int .i64 (a0.Seats.length : Int)) rfl ?_
      intro hln2
      replace hln2 : (a0.Seats.length : Int) ≤ 9223372036854775807 := by simp only [wf, wfL, IntKind.max, IntKind.min, IntKind.signed, IntKind.bits, List.length_map] at hln2; first | exact hln2.2 | exact hln2.1 | (simp at hln2; omega)
      refine .seq ?_
      refine .pl Try.S [2, 3, 35, 36, 37] ?_
      refine .seq ?_
      refine .cond rfl rfl (fun hc2 => ?_) (fun hc2 => ?_)
      · skip
        have h3 : n2 < a0.Seats.length := by simpa using hc2
        have hwn2 : wr .i64 ((n2 : Int) + 1) = ((n2 + 1 : Nat) : Int) := wr_succ h3 hln2
        have hpn2 : wr .i64 ((n2 : Int) - 1) = (n2 : Int) - 1 := wr_pred h3 hln2
        rw [List.drop_eq_getElem_cons h3, m_bell_Twin_loop2_c] at hx2
        refine .skip ?_
        refine .seq ?_
        refine .block ?_
        refine .seq ?_
        have e2 := nth_map TSeat.d a0.Seats n2 h3
        refine .plx Try.S (And.intro e2 hwn2) [2, 3, 35, 36, 37] ?_
        obtain ⟨v4, hv4, hx2⟩ := bind_some hx2
        obtain ⟨k2, hx2⟩ := ite_ck hx2
        refine .rg Try.S [2, 3, 7, 35, 36, 37] ?_
        refine .rdx 3 hwn2 ?_
        refine .call (r := .agg [.int .i64 v4.Me, .int .i64 v4.Number, .imm 1 (v4.Group.Roster.map (D.int .i64)) 12, .imm 1 (v4.Group.Members.map (D.int .i64)) 12, .imm 1 (v4.Log.map D.str) 12, .imm 5 (v4.Votes.map TSeen.d) 12, .int .u8 v4.Try.Phase, .int .i64 v4.Try.Ballot, .imm 1 (v4.Try.Members.map (D.int .i64)) 12, .str v4.Try.Wish, .str v4.Try.Value, .imm 3 (v4.Try.Promises.map TPromise.d) 12, .imm 1 (v4.Try.Accepted.map (D.int .i64)) 12, .imm 1 (v4.Wishes.map D.str) 12, .int .i64 v4.Heard]) rfl rfl rfl rfl rfl rfl (callP_seat_Twin (a0.Seats[n2]) v4 hv4) ?_
        refine .rdx 4 hwn2 ?_
        refine .nil ⟨fun _ => schedB_of (by kernel_rfl), ?_⟩
        refine .plx Try.S hwn2 [2, 3, 35, 36, 37] ?_
        refine ⟨(n2 + 1, _), ?_, ⟨by omega, hx2⟩, by dsimp only; omega⟩
        exact .m [2, 3, 35, 36, 37] [1, 6, 9, 14, 11] [(14, 10)]
      · skip
        have h4 : n2 = a0.Seats.length := by have h4b := of_decide_eq_false hc2; omega
        rw [List.drop_of_length_le (by omega), m_bell_Twin_loop2_n] at hx2
        refine .exit ?_
        refine ⟨_, ?_, (Option.some.inj hx2).symm⟩
        exact .m [2, 3] [1, 6, 9, 10, 11] []
    · skip
      rintro l3 hj2
      subst x2
      try dsimp only at h
      simp only [Try.St_bell_Twin_5]
      refine .seq ?_
      refine .pl Try.S [2, 3] ?_
      have hq := Option.some.inj h
      subst r
      refine .ret ⟨Try.Re_bell_Twin (⟨a0.Me, l1, l3, v1⟩ : TBell), ?_, .inr rfl, retH [2, 1, 0] ?_ ?_⟩
      · skip
        exact .m [2] [9, 10, 11, 1] [(9, 0), (10, 1), (11, 2), (1, 3)]
      · exact rsi0
      · rfl

def Try.St_bell_New_1 (v2 : TBell) (l1 : List TSeat) : St := ⟨[(4, .ptr 0 0), (7, .ptr 34 0)], [(0, .box [.int .i64 0, .imm 0 [] 0, .imm 0 [] 0, .imm 0 [] 0]), (34, .box [.int .i64 v2.Me, .ref 35 2 0 v2.All.length (some unkC), .ref 36 15 0 l1.length (some unkC), .ref 37 3 0 v2.Times.length (some unkC), .imm 0 [] 0, .imm 0 [] 0]), (35, .arr 45 2 true (v2.All.map TGroup.n)), (36, .arr 52 15 true (l1.map TSeat.n)), (37, .arr 82 3 true (v2.Times.map TTime.d))], 38⟩
attribute [local go_sem] Try.St_bell_New_1
def Try.St_bell_New_3 (a0 : Int) (a1 : List TGroup) (v2 : TBell) (n1 : Nat) (l2 : List TSeat) : St := ⟨[(0, .int .i64 a0), (1, .imm 2 (a1.map TGroup.d) 4), (4, .ptr 0 0), (7, .ptr 34 0), (31, .int .i64 (a1.length : Int)), (32, .int .i64 (n1 : Int))], [(0, .box [.int .i64 0, .imm 0 [] 0, .imm 0 [] 0, .imm 0 [] 0]), (34, .box [.int .i64 v2.Me, .ref 35 2 0 v2.All.length (some unkC), .ref 36 15 0 l2.length (some unkC), .ref 37 3 0 v2.Times.length (some unkC), .imm 0 [] 0, .imm 0 [] 0]), (35, .arr 45 2 true (v2.All.map TGroup.n)), (36, .arr 52 15 true (l2.map TSeat.n)), (37, .arr 82 3 true (v2.Times.map TTime.d))], 38⟩
attribute [local go_sem] Try.St_bell_New_3
def Try.St_bell_New_5 (a0 : Int) (a1 : List TGroup) (v2 : TBell) (n1 : Nat) (l3 : List TSeat) : St := ⟨[(0, .int .i64 a0), (1, .imm 2 (a1.map TGroup.d) 4), (4, .ptr 0 0), (7, .ptr 34 0), (31, .int .i64 (a1.length : Int)), (32, .int .i64 (n1 : Int))], [(0, .box [.int .i64 0, .imm 0 [] 0, .imm 0 [] 0, .imm 0 [] 0]), (34, .box [.int .i64 v2.Me, .ref 38 2 0 v2.All.length (some unkC), .ref 39 15 0 l3.length (some unkC), .ref 40 3 0 v2.Times.length (some unkC), .imm 0 [] 0, .imm 0 [] 0]), (38, .arr 45 2 true (v2.All.map TGroup.n)), (39, .arr 52 15 true (l3.map TSeat.n)), (40, .arr 82 3 true (v2.Times.map TTime.d))], 41⟩
attribute [local go_sem] Try.St_bell_New_5
def Try.Re_bell_New (r : TBell × Int) : St := ⟨[(4, .ptr 3 0), (5, .int .i64 r.2)], [(0, .arr 45 2 true (r.1.All.map TGroup.n)), (1, .arr 52 15 true (r.1.Seats.map TSeat.n)), (2, .arr 82 3 true (r.1.Times.map TTime.d)), (3, .box [.int .i64 r.1.Me, .ref 0 2 0 r.1.All.length (some unkC), .ref 1 15 0 r.1.Seats.length (some unkC), .ref 2 3 0 r.1.Times.length (some unkC)])], 4⟩
attribute [local go_sem] Try.Re_bell_New
theorem callH_bell_New (a0 : Int) (a1 : List TGroup) (r : TBell × Int) (h : m_bell_New a0 a1 = some r) : CallH Try.prog 9 [.int .i64 a0, .imm 2 (a1.map TGroup.d) 4] [] (.tuple [.agg [.int .i64 r.1.Me, .ref 0 2 0 r.1.All.length (some unkC), .ref 1 15 0 r.1.Seats.length (some unkC), .ref 2 3 0 r.1.Times.length (some unkC)], .int .i64 r.2]) [(0, some (.arr 45 2 true (r.1.All.map TGroup.n))), (1, some (.arr 52 15 true (r.1.Seats.map TSeat.n))), (2, some (.arr 82 3 true (r.1.Times.map TTime.d)))] (0, 43) := by
  refine callH_intro' Try.tmOk Try.func9 rfl (by decide) (Nat.le_of_ble_eq_true rfl) (by simp) ?_
  intro hwf
  unfold m_bell_New at h
  refine .ends 0 (Nat.le_refl _) ?_
  refine .seq ?_
  refine .pl Try.S [0, 1] ?_
  refine .seq ?_
  refine .seq ?_
  refine .pl Try.S [0, 1, 4] ?_
  refine .cond rfl rfl (fun hc1 => ?_) (fun hc1 => ?_)
  · skip
    replace h := ite_lc h hc1
    refine .seq ?_
    refine .pl Try.S [4] ?_
    have hq := Option.some.inj h
    subst r
    refine .ret ⟨Try.Re_bell_New ((⟨0, [], [], []⟩ : TBell), 2), ?_, .inr rfl, retH [2, 1, 0] ?_ ?_⟩
    · skip
      refine Goes.new0 2 45 (Nat.le_of_ble_eq_true rfl) ?_
      refine Goes.new0 15 52 (Nat.le_of_ble_eq_true rfl) ?_
      refine Goes.new0 3 82 (Nat.le_of_ble_eq_true rfl) ?_
      refine Goes.boxs 0 _ [.int .i64 0, .ref 1 2 0 0 (some unkC), .ref 2 15 0 0 (some unkC), .ref 3 3 0 0 (some unkC)] rfl (.keep (.cons (.own0 1 _ _ _ (by decide)) (.cons (.own0 2 _ _ _ (by decide)) (.cons (.own0 3 _ _ _ (by decide)) (.refl _))))) ?_
      exact .m [4, 5] [1, 2, 3, 0] [(1, 0), (2, 1), (3, 2), (0, 3)]
    · exact rsi0
    · rfl
  · skip
    replace h := ite_rc h hc1
    refine .skip ?_
    refine .seq ?_
    refine .seq ?_
    obtain ⟨v1, hv1, h⟩ := bind_some h
    refine .rg Try.S [0, 1, 4] ?_
    refine .rn 1 ?_
    refine .call (r := .int .i64 v1) rfl rfl rfl rfl rfl rfl (callP_bell_groups a1 v1 hv1) ?_
    refine .rn 1 ?_
    refine .nil ⟨nofun, ?_⟩
    refine .seq ?_
    refine .pl Try.S [0, 1, 4, 6] ?_
    refine .cond rfl rfl (fun hc2 => ?_) (fun hc2 => ?_)
    · skip
      replace h := ite_lc h hc2
      refine .seq ?_
      refine .pl Try.S [4, 6] ?_
      have hq := Option.some.inj h
      subst r
      refine .ret ⟨Try.Re_bell_New ((⟨0, [], [], []⟩ : TBell), v1), ?_, .inr rfl, retH [2, 1, 0] ?_ ?_⟩
      · skip
        refine Goes.new0 2 45 (Nat.le_of_ble_eq_true rfl) ?_
        refine Goes.new0 15 52 (Nat.le_of_ble_eq_true rfl) ?_
        refine Goes.new0 3 82 (Nat.le_of_ble_eq_true rfl) ?_
        refine Goes.boxs 0 _ [.int .i64 0, .ref 1 2 0 0 (some unkC), .ref 2 15 0 0 (some unkC), .ref 3 3 0 0 (some unkC)] rfl (.keep (.cons (.own0 1 _ _ _ (by decide)) (.cons (.own0 2 _ _ _ (by decide)) (.cons (.own0 3 _ _ _ (by decide)) (.refl _))))) ?_
        exact .m [4, 5] [1, 2, 3, 0] [(1, 0), (2, 1), (3, 2), (0, 3)]
      · exact rsi0
      · rfl
    · skip
      replace h := ite_rc h hc2
      refine .skip ?_
      refine .seq ?_
      obtain ⟨v2, hv2, h⟩ := bind_some h
      refine .rg Try.S [0, 1, 4] ?_
      refine .rn 3 ?_
      refine .ncall (r := .agg [.int .i64 v2.Me, .ref 17 2 0 v2.All.length (some unkC), .ref 18 15 0 v2.Seats.length (some unkC), .ref 19 3 0 v2.Times.length (some unkC)]) (eff := [(17, some (.arr 45 2 true (v2.All.map TGroup.n))), (18, some (.arr 52 15 true (v2.Seats.map TSeat.n))), (19, some (.arr 82 3 true (v2.Times.map TTime.d)))]) (nw := (17, 34)) [] rfl rfl rfl rfl rfl (lend2s_cons rfl lend2s_nil) rfl (callH_at 17 (Nat.le_of_ble_eq_true rfl) (callH_wk (WkL.cons (Wk.agg (WkL.cons (Wk.refl _) (WkL.cons (Wk.refl _) (WkL.cons (Wk.nil4 0 15 0 rfl) (WkL.cons (Wk.nil4 0 3 0 rfl) (WkL.refl _)))))) (WkL.refl _)) (callH_bell_Twin (⟨a0, a1, [], []⟩ : TBell) v2 hv2))) (newE_cons rfl rfl (newB_arrN pln_TGroup _ _ _) (newE_cons rfl rfl (newB_arrN pln_TSeat _ _ _) (newE_cons rfl rfl (newB_arr pl0_TTime _ _ _) newE_nil))) (by intro i hi; simp [D.ids, D.idsL] at hi; omega) rfl ⟨Nat.le_of_ble_eq_true rfl, Nat.le_of_ble_eq_true rfl⟩ ?_
      refine .rn 3 ?_
      refine .nil ⟨nofun, ?_⟩
      obtain ⟨x1, hx1, h⟩ := bind_some h
      refine .seqM 35 (fun (j : (List TSeat)) => Try.St_bell_New_1 v2 j) (fun j => x1 = j) (Nat.le_of_ble_eq_true rfl) ?_ ?_
      · skip
        refine .seq ?_
        refine .pl Try.S [0, 1, 4, 7] ?_
        refine .block ?_
        refine .loopG 35 (fun (j : Nat × (List TSeat)) => Try.St_bell_New_3 a0 a1 v2 j.1 j.2) (fun j => j.1 ≤ a1.length ∧ m_bell_New_loop1 a0 v2 (a1.drop j.1) j.1 j.2 = some x1) (fun j => a1.length - j.1) (0, v2.Seats) (Nat.le_of_ble_eq_true rfl) ?_ ⟨Nat.zero_le _, hx1⟩ ?_
        · skip
          exact .m [0, 1, 4, 7, 31, 32] [0, 34, 17, 18, 19] [(17, 35), (18, 36), (19, 37)]
        rintro ⟨n1, l2⟩ ⟨hi1, hx1⟩
        simp only [Try.St_bell_New_3]
        simp only at hi1 hx1
        refine .wf 31 (.int .i64 (a1.length : Int)) rfl ?_
        intro hln1
        replace hln1 : (a1.length : Int) ≤ 9223372036854775807 := by simp only [wf, wfL, IntKind.max, IntKind.min, IntKind.signed, IntKind.bits, List.length_map] at hln1; first | exact hln1.2 | exact hln1.1 | (simp at hln1; omega)
        refine .seq ?_
        refine .pl Try.S [0, 1, 4, 7, 31, 32] ?_
        refine .seq ?_
        refine .cond rfl rfl (fun hc3 => ?_) (fun hc3 => ?_)
        · skip
          have h1 : n1 < a1.length := by simpa using hc3
          have hwn1 : wr .i64 ((n1 : Int) + 1) = ((n1 + 1 : Nat) : Int) := wr_succ h1 hln1
          have hpn1 : wr .i64 ((n1 : Int) - 1) = (n1 : Int) - 1 := wr_pred h1 hln1
          rw [List.drop_eq_getElem_cons h1, m_bell_New_loop1_c] at hx1
          refine .skip ?_
          obtain ⟨x2, hx2, hx1⟩ := bind_some hx1
          refine .seqM 38 (fun (j : (List TSeat)) => Try.St_bell_New_5 a0 a1 v2 n1 j) (fun j => x2 = j) (Nat.le_of_ble_eq_true rfl) ?_ ?_
          · skip
            refine .block ?_
            refine .seq ?_
            refine .plx Try.S hwn1 [0, 1, 4, 7, 31, 32] ?_
            refine .seq ?_
            obtain ⟨v3, hv3, hx2⟩ := bind_some hx2
            refine .rg Try.S [0, 1, 4, 7, 8, 31, 32] ?_
            refine .rnx 2 hwn1 ?_
            refine .lcall (r := .bool v3) [35, 36, 37] rfl rfl rfl rfl rfl (lend2s_cons (lend2_ptr rfl (lends_cons rfl (lends_cons (lend_refN pln_TGroup (by first | rfl | (simp only [go_sem, Nat.reduceBEq]; rfl)) (by first | rfl | (simp; done) | (simp <;> omega))) (lends_cons (lend_refN pln_TSeat (by first | rfl | (simp only [go_sem, Nat.reduceBEq]; rfl)) (by first | rfl | (simp; done) | (simp <;> omega))) (lends_cons (lend_ref pl_TTime (by first | rfl | (simp only [go_sem, Nat.reduceBEq]; rfl)) (by first | rfl | (simp; done) | (simp <;> omega))) (lends_cons rfl (lends_cons rfl lends_nil))))))) (lend2s_cons rfl lend2s_nil)) rfl (callP_wk (WkL.cons (Wk.iptr (WkL.cons (Wk.refl _) (WkL.cons (Wk.refl _) (WkL.cons (Wk.refl _) (WkL.cons (Wk.refl _) (WkL.cons (Wk.nil4 0 5 0 rfl) (WkL.cons (Wk.nil4 0 10 0 rfl) (WkL.refl _)))))))) (WkL.cons (Wk.refl _) (WkL.refl _))) (callP_bell_bell_own (⟨(⟨v2.Me, v2.All, l2, v2.Times⟩ : TBell), [], []⟩ : Tbell_bell) (n1 : Int) v3 hv3)) ?_
            refine .nil ⟨nofun, ?_⟩
            refine .cond rfl rfl (fun hc4 => ?_) (fun hc4 => ?_)
            · skip
              replace hx2 := ite_lc hx2 hc4
              refine .seq ?_
              obtain ⟨v4, hv4, hx2⟩ := bind_some hx2
              have e1 := nth_map TGroup.d a1 n1 h1
              refine .rg Try.S [0, 1, 4, 7, 8, 31, 32] ?_
              refine .rnx 6 (And.intro e1 hwn1) ?_
              refine .call (r := .tuple [.agg [.int .i64 v4.1.Me, .int .i64 v4.1.Number, .imm 1 (v4.1.Group.Roster.map (D.int .i64)) 12, .imm 1 (v4.1.Group.Members.map (D.int .i64)) 12, .imm 1 (v4.1.Log.map D.str) 12, .imm 5 (v4.1.Votes.map TSeen.d) 12, .int .u8 v4.1.Try.Phase, .int .i64 v4.1.Try.Ballot, .imm 1 (v4.1.Try.Members.map (D.int .i64)) 12, .str v4.1.Try.Wish, .str v4.1.Try.Value, .imm 3 (v4.1.Try.Promises.map TPromise.d) 12, .imm 1 (v4.1.Try.Accepted.map (D.int .i64)) 12, .imm 1 (v4.1.Wishes.map D.str) 12, .int .i64 v4.1.Heard], .int .i64 v4.2]) rfl rfl rfl rfl rfl rfl (callP_seat_New a0 (n1 : Int) (a1[n1]) v4 hv4) ?_
              refine .rnx 6 (And.intro e1 hwn1) ?_
              refine .nil ⟨nofun, ?_⟩
              obtain ⟨k1, hx2⟩ := ite_ck hx2
              refine .rg Try.S [0, 1, 4, 7, 9, 31, 32] ?_
              refine .rdx 6 hwn1 ?_
              refine .rdx 7 hwn1 ?_
              refine .nil ⟨fun _ => schedB_of (by kernel_rfl), ?_⟩
              refine ⟨_, ?_, (Option.some.inj hx2).symm⟩
              exact .m [0, 1, 4, 7, 31, 32] [0, 34, 35, 40, 37] [(35, 38), (40, 39), (37, 40)]
            · skip
              replace hx2 := ite_rc hx2 hc4
              refine .skip ?_
              refine ⟨_, ?_, (Option.some.inj hx2).symm⟩
              exact .m [0, 1, 4, 7, 31, 32] [0, 34, 35, 36, 37] [(35, 38), (36, 39), (37, 40)]
          · skip
            rintro l3 hj1
            subst x2
            try dsimp only at hx1
            simp only [Try.St_bell_New_5]
            refine .plx Try.S hwn1 [0, 1, 4, 7, 31, 32] ?_
            refine ⟨(n1 + 1, _), ?_, ⟨by omega, hx1⟩, by dsimp only; omega⟩
            exact .m [0, 1, 4, 7, 31, 32] [0, 34, 38, 39, 40] [(38, 35), (39, 36), (40, 37)]
        · skip
          have h2 : n1 = a1.length := by have h2b := of_decide_eq_false hc3; omega
          rw [List.drop_of_length_le (by omega), m_bell_New_loop1_n] at hx1
          refine .exit ?_
          refine ⟨_, ?_, (Option.some.inj hx1).symm⟩
          exact .m [4, 7] [0, 34, 35, 36, 37] []
      · skip
        rintro l1 hj2
        subst x1
        try dsimp only at h
        simp only [Try.St_bell_New_1]
        refine .seq ?_
        refine .pl Try.S [4, 7] ?_
        have hq := Option.some.inj h
        subst r
        refine .ret ⟨Try.Re_bell_New ((⟨v2.Me, v2.All, l1, v2.Times⟩ : TBell), 0), ?_, .inr rfl, retH [2, 1, 0] ?_ ?_⟩
        · skip
          exact .m [4, 5] [35, 36, 37, 0] [(35, 0), (36, 1), (37, 2), (0, 3)]
        · exact rsi0
        · rfl

def Try.St_towncrierref26_New_1 (v3 : TBell) (l1 : List TSeat) : St := ⟨[(4, .ptr 0 0), (7, .ptr 26 0)], [(0, .box [.int .i64 0, .imm 0 [] 0, .imm 0 [] 0, .imm 0 [] 0]), (26, .box [.int .i64 v3.Me, .ref 27 2 0 v3.All.length (some unkC), .ref 28 15 0 l1.length (some unkC), .ref 29 3 0 v3.Times.length (some unkC)]), (27, .arr 45 2 true (v3.All.map TGroup.n)), (28, .arr 52 15 true (l1.map TSeat.n)), (29, .arr 82 3 true (v3.Times.map TTime.d))], 30⟩
attribute [local go_sem] Try.St_towncrierref26_New_1
def Try.St_towncrierref26_New_3 (a0 : Int) (a1 : List TGroup) (v3 : TBell) (n1 : Nat) (l2 : List TSeat) : St := ⟨[(0, .int .i64 a0), (1, .imm 2 (a1.map TGroup.d) 4), (4, .ptr 0 0), (7, .ptr 26 0), (8, .int .i64 (n1 : Int))], [(0, .box [.int .i64 0, .imm 0 [] 0, .imm 0 [] 0, .imm 0 [] 0]), (26, .box [.int .i64 v3.Me, .ref 27 2 0 v3.All.length (some unkC), .ref 28 15 0 l2.length (some unkC), .ref 29 3 0 v3.Times.length (some unkC)]), (27, .arr 45 2 true (v3.All.map TGroup.n)), (28, .arr 52 15 true (l2.map TSeat.n)), (29, .arr 82 3 true (v3.Times.map TTime.d))], 30⟩
attribute [local go_sem] Try.St_towncrierref26_New_3
def Try.St_towncrierref26_New_5 (a0 : Int) (a1 : List TGroup) (v3 : TBell) (n1 : Nat) (l3 : List TSeat) : St := ⟨[(0, .int .i64 a0), (1, .imm 2 (a1.map TGroup.d) 4), (4, .ptr 0 0), (7, .ptr 26 0), (8, .int .i64 (n1 : Int))], [(0, .box [.int .i64 0, .imm 0 [] 0, .imm 0 [] 0, .imm 0 [] 0]), (26, .box [.int .i64 v3.Me, .ref 30 2 0 v3.All.length (some unkC), .ref 31 15 0 l3.length (some unkC), .ref 32 3 0 v3.Times.length (some unkC)]), (30, .arr 45 2 true (v3.All.map TGroup.n)), (31, .arr 52 15 true (l3.map TSeat.n)), (32, .arr 82 3 true (v3.Times.map TTime.d))], 33⟩
attribute [local go_sem] Try.St_towncrierref26_New_5
def Try.Re_towncrierref26_New (r : TBell × Int) : St := ⟨[(4, .ptr 3 0), (5, .int .i64 r.2)], [(0, .arr 45 2 true (r.1.All.map TGroup.n)), (1, .arr 52 15 true (r.1.Seats.map TSeat.n)), (2, .arr 82 3 true (r.1.Times.map TTime.d)), (3, .box [.int .i64 r.1.Me, .ref 0 2 0 r.1.All.length (some unkC), .ref 1 15 0 r.1.Seats.length (some unkC), .ref 2 3 0 r.1.Times.length (some unkC)])], 4⟩
attribute [local go_sem] Try.Re_towncrierref26_New
theorem callH_towncrierref26_New (a0 : Int) (a1 : List TGroup) (r : TBell × Int) (h : m_towncrierref26_New a0 a1 = some r) : CallH Try.prog 10 [.int .i64 a0, .imm 2 (a1.map TGroup.d) 4] [] (.tuple [.agg [.int .i64 r.1.Me, .ref 0 2 0 r.1.All.length (some unkC), .ref 1 15 0 r.1.Seats.length (some unkC), .ref 2 3 0 r.1.Times.length (some unkC)], .int .i64 r.2]) [(0, some (.arr 45 2 true (r.1.All.map TGroup.n))), (1, some (.arr 52 15 true (r.1.Seats.map TSeat.n))), (2, some (.arr 82 3 true (r.1.Times.map TTime.d)))] (0, 35) := by
  refine callH_intro' Try.tmOk Try.func10 rfl (by decide) (Nat.le_of_ble_eq_true rfl) (by simp) ?_
  intro hwf
  unfold m_towncrierref26_New at h
  refine .ends 0 (Nat.le_refl _) ?_
  refine .seq ?_
  refine .pl Try.S [0, 1] ?_
  refine .seq ?_
  refine .seq ?_
  obtain ⟨v1, hv1, h⟩ := bind_some h
  refine .rg Try.S [0, 1, 4] ?_
  refine .rn 1 ?_
  refine .call (r := .bool v1) rfl rfl rfl rfl rfl rfl (callP_towncrierref05_Node a0 v1 hv1) ?_
  refine .rn 1 ?_
  refine .nil ⟨nofun, ?_⟩
  refine .cond rfl rfl (fun hc1 => ?_) (fun hc1 => ?_)
  · skip
    replace h := ite_lc h hc1
    refine .seq ?_
    refine .pl Try.S [4] ?_
    have hq := Option.some.inj h
    subst r
    refine .ret ⟨Try.Re_towncrierref26_New ((⟨0, [], [], []⟩ : TBell), 2), ?_, .inr rfl, retH [2, 1, 0] ?_ ?_⟩
    · skip
      refine Goes.new0 2 45 (Nat.le_of_ble_eq_true rfl) ?_
      refine Goes.new0 15 52 (Nat.le_of_ble_eq_true rfl) ?_
      refine Goes.new0 3 82 (Nat.le_of_ble_eq_true rfl) ?_
      refine Goes.boxs 0 _ [.int .i64 0, .ref 1 2 0 0 (some unkC), .ref 2 15 0 0 (some unkC), .ref 3 3 0 0 (some unkC)] rfl (.keep (.cons (.own0 1 _ _ _ (by decide)) (.cons (.own0 2 _ _ _ (by decide)) (.cons (.own0 3 _ _ _ (by decide)) (.refl _))))) ?_
      exact .m [4, 5] [1, 2, 3, 0] [(1, 0), (2, 1), (3, 2), (0, 3)]
    · exact rsi0
    · rfl
  · skip
    replace h := ite_rc h hc1
    refine .skip ?_
    refine .seq ?_
    obtain ⟨v2, hv2, h⟩ := bind_some h
    refine .rg Try.S [0, 1, 4] ?_
    refine .rn 1 ?_
    refine .call (r := .int .i64 v2) rfl rfl rfl rfl rfl rfl (callP_towncrierref26_groups a1 v2 hv2) ?_
    refine .rn 1 ?_
    refine .nil ⟨nofun, ?_⟩
    refine .seq ?_
    refine .seq ?_
    refine .pl Try.S [0, 1, 4, 6] ?_
    refine .cond rfl rfl (fun hc2 => ?_) (fun hc2 => ?_)
    · skip
      replace h := ite_lc h hc2
      refine .seq ?_
      refine .pl Try.S [4, 6] ?_
      have hq := Option.some.inj h
      subst r
      refine .ret ⟨Try.Re_towncrierref26_New ((⟨0, [], [], []⟩ : TBell), v2), ?_, .inr rfl, retH [2, 1, 0] ?_ ?_⟩
      · skip
        refine Goes.new0 2 45 (Nat.le_of_ble_eq_true rfl) ?_
        refine Goes.new0 15 52 (Nat.le_of_ble_eq_true rfl) ?_
        refine Goes.new0 3 82 (Nat.le_of_ble_eq_true rfl) ?_
        refine Goes.boxs 0 _ [.int .i64 0, .ref 1 2 0 0 (some unkC), .ref 2 15 0 0 (some unkC), .ref 3 3 0 0 (some unkC)] rfl (.keep (.cons (.own0 1 _ _ _ (by decide)) (.cons (.own0 2 _ _ _ (by decide)) (.cons (.own0 3 _ _ _ (by decide)) (.refl _))))) ?_
        exact .m [4, 5] [1, 2, 3, 0] [(1, 0), (2, 1), (3, 2), (0, 3)]
      · exact rsi0
      · rfl
    · skip
      replace h := ite_rc h hc2
      refine .skip ?_
      refine .seq ?_
      obtain ⟨v3, hv3, h⟩ := bind_some h
      refine .rg Try.S [0, 1, 4] ?_
      refine .rn 3 ?_
      refine .ncall (r := .agg [.int .i64 v3.Me, .ref 13 2 0 v3.All.length (some unkC), .ref 14 15 0 v3.Seats.length (some unkC), .ref 15 3 0 v3.Times.length (some unkC)]) (eff := [(13, some (.arr 45 2 true (v3.All.map TGroup.n))), (14, some (.arr 52 15 true (v3.Seats.map TSeat.n))), (15, some (.arr 82 3 true (v3.Times.map TTime.d)))]) (nw := (13, 26)) [] rfl rfl rfl rfl rfl (lend2s_cons rfl lend2s_nil) rfl (callH_at 13 (Nat.le_of_ble_eq_true rfl) (callH_wk (WkL.cons (Wk.agg (WkL.cons (Wk.refl _) (WkL.cons (Wk.refl _) (WkL.cons (Wk.nil4 0 15 0 rfl) (WkL.cons (Wk.nil4 0 3 0 rfl) (WkL.refl _)))))) (WkL.refl _)) (callH_towncrierref26_Twin (⟨a0, a1, [], []⟩ : TBell) v3 hv3))) (newE_cons rfl rfl (newB_arrN pln_TGroup _ _ _) (newE_cons rfl rfl (newB_arrN pln_TSeat _ _ _) (newE_cons rfl rfl (newB_arr pl0_TTime _ _ _) newE_nil))) (by intro i hi; simp [D.ids, D.idsL] at hi; omega) rfl ⟨Nat.le_of_ble_eq_true rfl, Nat.le_of_ble_eq_true rfl⟩ ?_
      refine .rn 2 ?_
      refine .nil ⟨nofun, ?_⟩
      obtain ⟨x1, hx1, h⟩ := bind_some h
      refine .seqM 27 (fun (j : (List TSeat)) => Try.St_towncrierref26_New_1 v3 j) (fun j => x1 = j) (Nat.le_of_ble_eq_true rfl) ?_ ?_
      · skip
        refine .seq ?_
        refine .pl Try.S [0, 1, 4, 7] ?_
        refine .block ?_
        refine .loopG 27 (fun (j : Nat × (List TSeat)) => Try.St_towncrierref26_New_3 a0 a1 v3 j.1 j.2) (fun j => j.1 ≤ a1.length ∧ m_towncrierref26_New_loop1 a0 v3 (a1.drop j.1) j.1 j.2 = some x1) (fun j => a1.length - j.1) (0, v3.Seats) (Nat.le_of_ble_eq_true rfl) ?_ ⟨Nat.zero_le _, hx1⟩ ?_
        · skip
          exact .m [0, 1, 4, 7, 8] [0, 26, 13, 14, 15] [(13, 27), (14, 28), (15, 29)]
        rintro ⟨n1, l2⟩ ⟨hi1, hx1⟩
        simp only [Try.St_towncrierref26_New_3]
        simp only at hi1 hx1
        refine .wf 1 (.imm 2 (a1.map TGroup.d) 4) rfl ?_
        intro hln1
        replace hln1 : (a1.length : Int) ≤ 9223372036854775807 := by simp only [wf, wfL, IntKind.max, IntKind.min, IntKind.signed, IntKind.bits, List.length_map] at hln1; first | exact hln1.2 | exact hln1.1 | (simp at hln1; omega)
        refine .seq ?_
        refine .seq ?_
        refine .pl Try.S [0, 1, 4, 7, 8] ?_
        refine .cond rfl rfl (fun hc3 => ?_) (fun hc3 => ?_)
        · skip
          have h1 : n1 < a1.length := by simpa using hc3
          have hwn1 : wr .i64 ((n1 : Int) + 1) = ((n1 + 1 : Nat) : Int) := wr_succ h1 hln1
          have hpn1 : wr .i64 ((n1 : Int) - 1) = (n1 : Int) - 1 := wr_pred h1 hln1
          rw [List.drop_eq_getElem_cons h1, m_towncrierref26_New_loop1_c] at hx1
          refine .skip ?_
          obtain ⟨x2, hx2, hx1⟩ := bind_some hx1
          refine .seqM 30 (fun (j : (List TSeat)) => Try.St_towncrierref26_New_5 a0 a1 v3 n1 j) (fun j => x2 = j) (Nat.le_of_ble_eq_true rfl) ?_ ?_
          · skip
            refine .block ?_
            refine .seq ?_
            obtain ⟨v4, hv4, hx2⟩ := bind_some hx2
            refine .rg Try.S [0, 1, 4, 7, 8] ?_
            refine .rnx 2 hwn1 ?_
            refine .lcall (r := .bool v4) [] rfl rfl rfl rfl rfl (lend2s_cons (lend2_of (lend_agg (lends_cons rfl (lends_cons (lend_refN pln_TGroup (by first | rfl | (simp only [go_sem, Nat.reduceBEq]; rfl)) (by first | rfl | (simp; done) | (simp <;> omega))) (lends_cons (lend_refN pln_TSeat (by first | rfl | (simp only [go_sem, Nat.reduceBEq]; rfl)) (by first | rfl | (simp; done) | (simp <;> omega))) (lends_cons (lend_ref pl_TTime (by first | rfl | (simp only [go_sem, Nat.reduceBEq]; rfl)) (by first | rfl | (simp; done) | (simp <;> omega))) lends_nil))))) trivial) (lend2s_cons rfl lend2s_nil)) rfl (callP_towncrierref26_Own (⟨v3.Me, v3.All, l2, v3.Times⟩ : TBell) (n1 : Int) v4 hv4) ?_
            refine .nil ⟨nofun, ?_⟩
            refine .cond rfl rfl (fun hc4 => ?_) (fun hc4 => ?_)
            · skip
              replace hx2 := ite_lc hx2 hc4
              refine .seq ?_
              obtain ⟨v5, hv5, hx2⟩ := bind_some hx2
              have e1 := nth_map TGroup.d a1 n1 h1
              refine .rg Try.S [0, 1, 4, 7, 8] ?_
              refine .rnx 6 (And.intro e1 hwn1) ?_
              refine .call (r := .tuple [.agg [.int .i64 v5.1.Me, .int .i64 v5.1.Number, .imm 1 (v5.1.Group.Roster.map (D.int .i64)) 12, .imm 1 (v5.1.Group.Members.map (D.int .i64)) 12, .imm 1 (v5.1.Log.map D.str) 12, .imm 5 (v5.1.Votes.map TSeen.d) 12, .int .u8 v5.1.Try.Phase, .int .i64 v5.1.Try.Ballot, .imm 1 (v5.1.Try.Members.map (D.int .i64)) 12, .str v5.1.Try.Wish, .str v5.1.Try.Value, .imm 3 (v5.1.Try.Promises.map TPromise.d) 12, .imm 1 (v5.1.Try.Accepted.map (D.int .i64)) 12, .imm 1 (v5.1.Wishes.map D.str) 12, .int .i64 v5.1.Heard], .int .i64 v5.2]) rfl rfl rfl rfl rfl rfl (callP_towncrierref25_New a0 (n1 : Int) (a1[n1]) v5 hv5) ?_
              refine .rnx 6 (And.intro e1 hwn1) ?_
              refine .nil ⟨nofun, ?_⟩
              obtain ⟨k1, hx2⟩ := ite_ck hx2
              refine .plx Try.S hwn1 [0, 1, 4, 7, 8, 9] ?_
              refine ⟨_, ?_, (Option.some.inj hx2).symm⟩
              exact .m [0, 1, 4, 7, 8] [0, 26, 27, 32, 29] [(27, 30), (32, 31), (29, 32)]
            · skip
              replace hx2 := ite_rc hx2 hc4
              refine .skip ?_
              refine ⟨_, ?_, (Option.some.inj hx2).symm⟩
              exact .m [0, 1, 4, 7, 8] [0, 26, 27, 28, 29] [(27, 30), (28, 31), (29, 32)]
          · skip
            rintro l3 hj1
            subst x2
            try dsimp only at hx1
            simp only [Try.St_towncrierref26_New_5]
            refine .plx Try.S hwn1 [0, 1, 4, 7, 8] ?_
            refine ⟨(n1 + 1, _), ?_, ⟨by omega, hx1⟩, by dsimp only; omega⟩
            exact .m [0, 1, 4, 7, 8] [0, 26, 30, 31, 32] [(30, 27), (31, 28), (32, 29)]
        · skip
          have h2 : n1 = a1.length := by have h2b := of_decide_eq_false hc3; omega
          rw [List.drop_of_length_le (by omega), m_towncrierref26_New_loop1_n] at hx1
          refine .exit ?_
          refine ⟨_, ?_, (Option.some.inj hx1).symm⟩
          exact .m [4, 7] [0, 26, 27, 28, 29] []
      · skip
        rintro l1 hj2
        subst x1
        try dsimp only at h
        simp only [Try.St_towncrierref26_New_1]
        refine .seq ?_
        refine .pl Try.S [4, 7] ?_
        have hq := Option.some.inj h
        subst r
        refine .ret ⟨Try.Re_towncrierref26_New ((⟨v3.Me, v3.All, l1, v3.Times⟩ : TBell), 0), ?_, .inr rfl, retH [2, 1, 0] ?_ ?_⟩
        · skip
          exact .m [4, 5] [27, 28, 29, 0] [(27, 0), (28, 1), (29, 2), (0, 3)]
        · exact rsi0
        · rfl

def Try.St_towncrierref26_Same_1 (a0 : TBell) (a1 : TBell) : St := ⟨[(2, .ptr 0 0), (3, .ptr 1 0)], [(0, .box [.int .i64 a0.Me, .imm 2 (a0.All.map TGroup.d) 4, .imm 15 (a0.Seats.map TSeat.d) 4, .imm 3 (a0.Times.map TTime.d) 4]), (1, .box [.int .i64 a1.Me, .imm 2 (a1.All.map TGroup.d) 4, .imm 15 (a1.Seats.map TSeat.d) 4, .imm 3 (a1.Times.map TTime.d) 4])], 2⟩
attribute [local go_sem] Try.St_towncrierref26_Same_1
def Try.St_towncrierref26_Same_3 (a0 : TBell) (a1 : TBell) (n1 : Nat) : St := ⟨[(2, .ptr 0 0), (3, .ptr 1 0), (5, .int .i64 (n1 : Int))], [(0, .box [.int .i64 a0.Me, .imm 2 (a0.All.map TGroup.d) 4, .imm 15 (a0.Seats.map TSeat.d) 4, .imm 3 (a0.Times.map TTime.d) 4]), (1, .box [.int .i64 a1.Me, .imm 2 (a1.All.map TGroup.d) 4, .imm 15 (a1.Seats.map TSeat.d) 4, .imm 3 (a1.Times.map TTime.d) 4])], 2⟩
attribute [local go_sem] Try.St_towncrierref26_Same_3
def Try.St_towncrierref26_Same_5 : St := ⟨[], [], 2⟩
attribute [local go_sem] Try.St_towncrierref26_Same_5
def Try.St_towncrierref26_Same_7 (a0 : TBell) (a1 : TBell) (n2 : Nat) : St := ⟨[(2, .ptr 0 0), (3, .ptr 1 0), (6, .int .i64 (n2 : Int))], [(0, .box [.int .i64 a0.Me, .imm 2 (a0.All.map TGroup.d) 4, .imm 15 (a0.Seats.map TSeat.d) 4, .imm 3 (a0.Times.map TTime.d) 4]), (1, .box [.int .i64 a1.Me, .imm 2 (a1.All.map TGroup.d) 4, .imm 15 (a1.Seats.map TSeat.d) 4, .imm 3 (a1.Times.map TTime.d) 4])], 2⟩
attribute [local go_sem] Try.St_towncrierref26_Same_7
theorem callP_towncrierref26_Same (a0 : TBell) (a1 : TBell) (r : Bool) (h : m_towncrierref26_Same a0 a1 = some r) : CallP Try.prog 11 [.agg [.int .i64 a0.Me, .imm 2 (a0.All.map TGroup.d) 4, .imm 15 (a0.Seats.map TSeat.d) 4, .imm 3 (a0.Times.map TTime.d) 4], .agg [.int .i64 a1.Me, .imm 2 (a1.All.map TGroup.d) 4, .imm 15 (a1.Seats.map TSeat.d) 4, .imm 3 (a1.Times.map TTime.d) 4]] (.bool r) := by
  refine callP_intro Try.tmOk 4 Try.func11 rfl (by decide) rfl rfl (Nat.le_of_ble_eq_true rfl) ?_
  intro hwf
  unfold m_towncrierref26_Same at h
  refine .seq ?_
  refine .pl Try.S [0, 1] ?_
  refine .seq ?_
  refine .seq ?_
  obtain ⟨v1, hv1, h⟩ := bind_some h
  refine .rg Try.S [2, 3] ?_
  refine .rn 6 ?_
  refine .rn 4 ?_
  refine .gcall (r := .bool v1) rfl rfl rfl rfl rfl (fun hg => ⟨[], [.imm 2 (a0.All.map TGroup.d) 4, .imm 2 (a1.All.map TGroup.d) 4], _, rfl, gd hg, rfl, (callP_towncrierref26_SameGroups a0.All a1.All v1 (ite_lc hv1 hg))⟩) ?_
  refine .rn 6 ?_
  refine .rn 6 ?_
  refine .rn 8 ?_
  refine .nil ⟨nofun, ?_⟩
  refine .cond rfl rfl (fun hc1 => ?_) (fun hc1 => ?_)
  · skip
    replace h := ite_lc h hc1
    refine .seq ?_
    refine .pl Try.S [] ?_
    have hq := Option.some.inj h
    subst r
    exact .ret ⟨.inr rfl, rsi⟩
  · skip
    replace h := ite_rc h hc1
    refine .skip ?_
    obtain ⟨x1, hx1, h⟩ := bind_some h
    refine .seqM 2 (fun (j : Unit) => Try.St_towncrierref26_Same_1 a0 a1) (fun j => x1 = (.inr j)) (Nat.le_of_ble_eq_true rfl) ?_ ?_
    · skip
      refine .seq ?_
      refine .pl Try.S [2, 3] ?_
      refine .block ?_
      refine .loopG 2 (fun (j : Nat) => Try.St_towncrierref26_Same_3 a0 a1 j) (fun j => j ≤ a0.Seats.length ∧ m_towncrierref26_Same_loop1 a1 (a0.Seats.drop j) j  = some x1) (fun j => a0.Seats.length - j) (0) (Nat.le_of_ble_eq_true rfl) ?_ ⟨Nat.zero_le _, hx1⟩ ?_
      · skip
        exact .m [2, 3, 5] [0, 1] []
      rintro n1 ⟨hi1, hx1⟩
      simp only [Try.St_towncrierref26_Same_3]
      refine .wfb 0 [.int .i64 a0.Me, .imm 2 (a0.All.map TGroup.d) 4, .imm 15 (a0.Seats.map TSeat.d) 4, .imm 3 (a0.Times.map TTime.d) 4] rfl ?_
      intro hln1
      replace hln1 : (a0.Seats.length : Int) ≤ 9223372036854775807 := by simp only [wf, wfL, IntKind.max, IntKind.min, IntKind.signed, IntKind.bits, List.length_map] at hln1; first | exact hln1.2 | exact hln1.1 | (simp at hln1; omega)
      refine .seq ?_
      refine .seq ?_
      refine .pl Try.S [2, 3, 5] ?_
      refine .cond rfl rfl (fun hc2 => ?_) (fun hc2 => ?_)
      · skip
        have h1 : n1 < a0.Seats.length := by simpa using hc2
        have hwn1 : wr .i64 ((n1 : Int) + 1) = ((n1 + 1 : Nat) : Int) := wr_succ h1 hln1
        have hpn1 : wr .i64 ((n1 : Int) - 1) = (n1 : Int) - 1 := wr_pred h1 hln1
        rw [List.drop_eq_getElem_cons h1, m_towncrierref26_Same_loop1] at hx1
        refine .skip ?_
        refine .seq ?_
        refine .block ?_
        refine .seq ?_
        obtain ⟨k1, hx1⟩ := ite_ck hx1
        obtain ⟨v2, hv2, hx1⟩ := bind_some hx1
        have e1 := nth_map TSeat.d a0.Seats n1 h1
        have e2 := nth_mapD TSeat.d a1.Seats n1
        replace e2 := e2 k1
        refine .rg Try.S [2, 3, 5] ?_
        refine .rdx 6 (And.intro e1 (And.intro e2 hwn1)) ?_
        refine .rdx 4 (And.intro e1 (And.intro e2 hwn1)) ?_
        refine .call (r := .bool v2) rfl rfl rfl rfl rfl rfl (callP_towncrierref25_Same (a0.Seats[n1]) (a1.Seats.getD n1 default) v2 hv2) ?_
        refine .rdx 1 (And.intro e1 (And.intro e2 hwn1)) ?_
        refine .nil ⟨fun _ => schedB_of (by kernel_rfl), ?_⟩
        refine .cond rfl rfl (fun hc3 => ?_) (fun hc3 => ?_)
        · skip
          replace hx1 := ite_lc hx1 hc3
          refine .seq ?_
          refine .plx Try.S hwn1 [] ?_
          have hq := Option.some.inj hx1
          subst x1
          try dsimp only at h
          have hq := Option.some.inj h
          subst r
          exact .ret ⟨.inr rfl, rsi⟩
        · skip
          replace hx1 := ite_rc hx1 hc3
          refine .skip ?_
          refine .plx Try.S hwn1 [2, 3, 5] ?_
          refine ⟨n1 + 1, ?_, ⟨by omega, hx1⟩, by dsimp only; omega⟩
          exact .m [2, 3, 5] [0, 1] []
      · skip
        have h2 : n1 = a0.Seats.length := by have h2b := of_decide_eq_false hc2; omega
        rw [List.drop_of_length_le (by omega), m_towncrierref26_Same_loop1] at hx1
        refine .exit ?_
        refine ⟨_, ?_, (Option.some.inj hx1).symm⟩
        exact .m [2, 3] [0, 1] []
    · skip
      rintro ⟨⟩ hj1
      subst x1
      try dsimp only at h
      simp only [Try.St_towncrierref26_Same_1]
      obtain ⟨x2, hx2, h⟩ := bind_some h
      refine .seqM 2 (fun (j : Unit) => Try.St_towncrierref26_Same_5) (fun j => x2 = (.inr j)) (Nat.le_of_ble_eq_true rfl) ?_ ?_
      · skip
        refine .seq ?_
        refine .pl Try.S [2, 3] ?_
        refine .block ?_
        refine .loopG 2 (fun (j : Nat) => Try.St_towncrierref26_Same_7 a0 a1 j) (fun j => j ≤ a0.Times.length ∧ m_towncrierref26_Same_loop2 a1 (a0.Times.drop j) j  = some x2) (fun j => a0.Times.length - j) (0) (Nat.le_of_ble_eq_true rfl) ?_ ⟨Nat.zero_le _, hx2⟩ ?_
        · skip
          exact .m [2, 3, 6] [0, 1] []
        rintro n2 ⟨hi2, hx2⟩
        simp only [Try.St_towncrierref26_Same_7]
        refine .wfb 0 [.int .i64 a0.Me, .imm 2 (a0.All.map TGroup.d) 4, .imm 15 (a0.Seats.map TSeat.d) 4, .imm 3 (a0.Times.map TTime.d) 4] rfl ?_
        intro hln2
        replace hln2 : (a0.Times.length : Int) ≤ 9223372036854775807 := by simp only [wf, wfL, IntKind.max, IntKind.min, IntKind.signed, IntKind.bits, List.length_map] at hln2; first | exact hln2.2 | exact hln2.1 | (simp at hln2; omega)
        refine .seq ?_
        refine .seq ?_
        refine .pl Try.S [2, 3, 6] ?_
        refine .cond rfl rfl (fun hc4 => ?_) (fun hc4 => ?_)
        · skip
          have h3 : n2 < a0.Times.length := by simpa using hc4
          have hwn2 : wr .i64 ((n2 : Int) + 1) = ((n2 + 1 : Nat) : Int) := wr_succ h3 hln2
          have hpn2 : wr .i64 ((n2 : Int) - 1) = (n2 : Int) - 1 := wr_pred h3 hln2
          rw [List.drop_eq_getElem_cons h3, m_towncrierref26_Same_loop2] at hx2
          refine .skip ?_
          refine .seq ?_
          refine .block ?_
          refine .seq ?_
          obtain ⟨k2, hx2⟩ := ite_ck hx2
          have e3 := nth_map TTime.d a0.Times n2 h3
          have e4 := nth_mapD TTime.d a1.Times n2
          replace e4 := e4 k2
          refine .rg Try.S [2, 3, 6] ?_
          refine .rdx 6 (And.intro e3 (And.intro e4 hwn2)) ?_
          refine .rdx 5 (And.intro e3 (And.intro e4 hwn2)) ?_
          refine .nil ⟨fun _ => schedB_of (by kernel_rfl), ?_⟩
          refine .cond rfl rfl (fun hc5 => ?_) (fun hc5 => ?_)
          · skip
            replace hx2 := ite_lc hx2 hc5
            refine .seq ?_
            refine .plx Try.S hwn2 [] ?_
            have hq := Option.some.inj hx2
            subst x2
            try dsimp only at h
            have hq := Option.some.inj h
            subst r
            exact .ret ⟨.inr rfl, rsi⟩
          · skip
            replace hx2 := ite_rc hx2 hc5
            refine .skip ?_
            refine .plx Try.S hwn2 [2, 3, 6] ?_
            refine ⟨n2 + 1, ?_, ⟨by omega, hx2⟩, by dsimp only; omega⟩
            exact .m [2, 3, 6] [0, 1] []
        · skip
          have h4 : n2 = a0.Times.length := by have h4b := of_decide_eq_false hc4; omega
          rw [List.drop_of_length_le (by omega), m_towncrierref26_Same_loop2] at hx2
          refine .exit ?_
          refine ⟨_, ?_, (Option.some.inj hx2).symm⟩
          exact .m [] [] []
      · skip
        rintro ⟨⟩ hj2
        subst x2
        try dsimp only at h
        simp only [Try.St_towncrierref26_Same_5]
        refine .seq ?_
        refine .pl Try.S [] ?_
        have hq := Option.some.inj h
        subst r
        exact .ret ⟨.inr rfl, rsi⟩

def Try.St_towncrierref26_Great_1 (a0 : TBell) (n1 : Int) : St := ⟨[(1, .ptr 0 0), (3, .int .i64 n1)], [(0, .box [.int .i64 a0.Me, .imm 2 (a0.All.map TGroup.d) 4, .imm 15 (a0.Seats.map TSeat.d) 4, .imm 3 (a0.Times.map TTime.d) 4])], 1⟩
attribute [local go_sem] Try.St_towncrierref26_Great_1
def Try.St_towncrierref26_Great_3 (a0 : TBell) (n3 : Nat) (n2 : Int) : St := ⟨[(1, .ptr 0 0), (3, .int .i64 n2), (4, .int .i64 (n3 : Int))], [(0, .box [.int .i64 a0.Me, .imm 2 (a0.All.map TGroup.d) 4, .imm 15 (a0.Seats.map TSeat.d) 4, .imm 3 (a0.Times.map TTime.d) 4])], 1⟩
attribute [local go_sem] Try.St_towncrierref26_Great_3
def Try.St_towncrierref26_Great_5 (a0 : TBell) (n1 : Int) : St := ⟨[(1, .ptr 0 0), (3, .int .i64 n1)], [(0, .box [.int .i64 a0.Me, .imm 2 (a0.All.map TGroup.d) 4, .imm 15 (a0.Seats.map TSeat.d) 4, .imm 3 (a0.Times.map TTime.d) 4])], 1⟩
attribute [local go_sem] Try.St_towncrierref26_Great_5
def Try.St_towncrierref26_Great_7 (a0 : TBell) (n1 : Int) (n4 : Nat) : St := ⟨[(1, .ptr 0 0), (3, .int .i64 n1), (5, .int .i64 (n4 : Int))], [(0, .box [.int .i64 a0.Me, .imm 2 (a0.All.map TGroup.d) 4, .imm 15 (a0.Seats.map TSeat.d) 4, .imm 3 (a0.Times.map TTime.d) 4])], 1⟩
attribute [local go_sem] Try.St_towncrierref26_Great_7
theorem callP_towncrierref26_Great (a0 : TBell) (r : Bool) (h : m_towncrierref26_Great a0 = some r) : CallP Try.prog 4 [.agg [.int .i64 a0.Me, .imm 2 (a0.All.map TGroup.d) 4, .imm 15 (a0.Seats.map TSeat.d) 4, .imm 3 (a0.Times.map TTime.d) 4]] (.bool r) := by
  refine callP_intro Try.tmOk 3 Try.func4 rfl (by decide) rfl rfl (Nat.le_of_ble_eq_true rfl) ?_
  intro hwf
  unfold m_towncrierref26_Great at h
  refine .seq ?_
  refine .pl Try.S [0] ?_
  refine .seq ?_
  refine .pl Try.S [1] ?_
  obtain ⟨x1, hx1, h⟩ := bind_some h
  refine .seqM 1 (fun (j : Int) => Try.St_towncrierref26_Great_1 a0 j) (fun j => x1 = (.inr j)) (Nat.le_of_ble_eq_true rfl) ?_ ?_
  · skip
    refine .seq ?_
    refine .pl Try.S [1, 3] ?_
    refine .block ?_
    refine .loopG 1 (fun (j : Nat × Int) => Try.St_towncrierref26_Great_3 a0 j.1 j.2) (fun j => j.1 ≤ a0.Seats.length ∧ m_towncrierref26_Great_loop1 (a0.Seats.drop j.1) j.1 j.2 = some x1) (fun j => a0.Seats.length - j.1) (0, 0) (Nat.le_of_ble_eq_true rfl) ?_ ⟨Nat.zero_le _, hx1⟩ ?_
    · skip
      exact .m [1, 3, 4] [0] []
    rintro ⟨n3, n2⟩ ⟨hi1, hx1⟩
    simp only [Try.St_towncrierref26_Great_3]
    simp only at hi1 hx1
    refine .wfb 0 [.int .i64 a0.Me, .imm 2 (a0.All.map TGroup.d) 4, .imm 15 (a0.Seats.map TSeat.d) 4, .imm 3 (a0.Times.map TTime.d) 4] rfl ?_
    intro hln3
    replace hln3 : (a0.Seats.length : Int) ≤ 9223372036854775807 := by simp only [wf, wfL, IntKind.max, IntKind.min, IntKind.signed, IntKind.bits, List.length_map] at hln3; first | exact hln3.2 | exact hln3.1 | (simp at hln3; omega)
    refine .seq ?_
    refine .seq ?_
    refine .rg Try.S [1, 3, 4] ?_
    refine .rn 6 ?_
    refine .rn 3 ?_
    refine .nil ⟨nofun, ?_⟩
    refine .cond rfl rfl (fun hc1 => ?_) (fun hc1 => ?_)
    · skip
      have h1 : n3 < a0.Seats.length := by have hq := hc1; simp at hq; omega
      have hwn3 : wr .i64 ((n3 : Int) + 1) = ((n3 + 1 : Nat) : Int) := wr_succ h1 hln3
      have hpn3 : wr .i64 ((n3 : Int) - 1) = (n3 : Int) - 1 := wr_pred h1 hln3
      rw [List.drop_eq_getElem_cons h1, m_towncrierref26_Great_loop1] at hx1
      replace hx1 := ite_lc hx1 hc1
      refine .skip ?_
      refine .seq ?_
      refine .block ?_
      refine .seq ?_
      refine .seq ?_
      obtain ⟨v1, hv1, hx1⟩ := bind_some hx1
      have e1 := nth_map TSeat.d a0.Seats n3 h1
      refine .rg Try.S [1, 3, 4] ?_
      refine .rnx 5 (And.intro e1 hwn3) ?_
      refine .call (r := .bool v1) rfl rfl rfl rfl rfl rfl (callP_towncrierref25_Great (a0.Seats[n3]) v1 hv1) ?_
      refine .nil ⟨nofun, ?_⟩
      refine .cond rfl rfl (fun hc2 => ?_) (fun hc2 => ?_)
      · skip
        replace hx1 := ite_lc hx1 hc2
        refine .seq ?_
        refine .plx Try.S hwn3 [] ?_
        have hq := Option.some.inj hx1
        subst x1
        try dsimp only at h
        have hq := Option.some.inj h
        subst r
        exact .ret ⟨.inr rfl, rsi⟩
      · skip
        replace hx1 := ite_rc hx1 hc2
        refine .skip ?_
        have e2 := nth_map TSeat.d a0.Seats n3 h1
        refine .rg Try.S [1, 3, 4] ?_
        refine .rnx 6 (And.intro e2 hwn3) ?_
        refine .rnx 4 (And.intro e2 hwn3) ?_
        refine .nil ⟨nofun, ?_⟩
        refine .plx Try.S hwn3 [1, 3, 4] ?_
        refine ⟨(n3 + 1, _), ?_, ⟨by omega, hx1⟩, by dsimp only; omega⟩
        exact .m [1, 3, 4] [0] []
    · skip
      by_cases h2 : n3 < a0.Seats.length
      · skip
        rw [List.drop_eq_getElem_cons h2, m_towncrierref26_Great_loop1] at hx1
        replace hx1 := ite_r hx1 (by have hq := hc1; simp at hq ⊢; first | exact hq (by omega) | omega | grind)
        refine .exit ?_
        refine ⟨_, ?_, (Option.some.inj hx1).symm⟩
        exact .m [1, 3] [0] []
      · skip
        rw [List.drop_of_length_le (by omega), m_towncrierref26_Great_loop1] at hx1
        refine .exit ?_
        refine ⟨_, ?_, (Option.some.inj hx1).symm⟩
        exact .m [1, 3] [0] []
  · skip
    rintro n1 hj1
    subst x1
    try dsimp only at h
    simp only [Try.St_towncrierref26_Great_1]
    obtain ⟨x2, hx2, h⟩ := bind_some h
    refine .seqM 1 (fun (j : Unit) => Try.St_towncrierref26_Great_5 a0 n1) (fun j => x2 = (.inr j)) (Nat.le_of_ble_eq_true rfl) ?_ ?_
    · skip
      refine .seq ?_
      refine .pl Try.S [1, 3] ?_
      refine .block ?_
      refine .loopG 1 (fun (j : Nat) => Try.St_towncrierref26_Great_7 a0 n1 j) (fun j => j ≤ a0.All.length ∧ m_towncrierref26_Great_loop2 (a0.All.drop j) j  = some x2) (fun j => a0.All.length - j) (0) (Nat.le_of_ble_eq_true rfl) ?_ ⟨Nat.zero_le _, hx2⟩ ?_
      · skip
        exact .m [1, 3, 5] [0] []
      rintro n4 ⟨hi2, hx2⟩
      simp only [Try.St_towncrierref26_Great_7]
      refine .wfb 0 [.int .i64 a0.Me, .imm 2 (a0.All.map TGroup.d) 4, .imm 15 (a0.Seats.map TSeat.d) 4, .imm 3 (a0.Times.map TTime.d) 4] rfl ?_
      intro hln4
      replace hln4 : (a0.All.length : Int) ≤ 9223372036854775807 := by simp only [wf, wfL, IntKind.max, IntKind.min, IntKind.signed, IntKind.bits, List.length_map] at hln4; first | exact hln4.2 | exact hln4.1 | (simp at hln4; omega)
      refine .seq ?_
      refine .seq ?_
      refine .rg Try.S [1, 3, 5] ?_
      refine .rn 6 ?_
      refine .rn 3 ?_
      refine .nil ⟨nofun, ?_⟩
      refine .cond rfl rfl (fun hc3 => ?_) (fun hc3 => ?_)
      · skip
        have h3 : n4 < a0.All.length := by have hq := hc3; simp at hq; omega
        have hwn4 : wr .i64 ((n4 : Int) + 1) = ((n4 + 1 : Nat) : Int) := wr_succ h3 hln4
        have hpn4 : wr .i64 ((n4 : Int) - 1) = (n4 : Int) - 1 := wr_pred h3 hln4
        rw [List.drop_eq_getElem_cons h3, m_towncrierref26_Great_loop2] at hx2
        replace hx2 := ite_lc hx2 hc3
        refine .skip ?_
        refine .seq ?_
        refine .block ?_
        refine .seq ?_
        have e3 := nth_map TGroup.d a0.All n4 h3
        have e4 := nth_map TGroup.d a0.All n4 h3
        refine .rg Try.S [1, 3, 5] ?_
        refine .rnx 6 (And.intro e3 (And.intro e4 hwn4)) ?_
        refine .rnx 6 (And.intro e3 (And.intro e4 hwn4)) ?_
        refine .rnx 6 (And.intro e3 (And.intro e4 hwn4)) ?_
        refine .nil ⟨nofun, ?_⟩
        refine .cond rfl rfl (fun hc4 => ?_) (fun hc4 => ?_)
        · skip
          replace hx2 := ite_lc hx2 hc4
          refine .seq ?_
          refine .plx Try.S hwn4 [] ?_
          have hq := Option.some.inj hx2
          subst x2
          try dsimp only at h
          have hq := Option.some.inj h
          subst r
          exact .ret ⟨.inr rfl, rsi⟩
        · skip
          replace hx2 := ite_rc hx2 hc4
          refine .skip ?_
          refine .plx Try.S hwn4 [1, 3, 5] ?_
          refine ⟨n4 + 1, ?_, ⟨by omega, hx2⟩, by dsimp only; omega⟩
          exact .m [1, 3, 5] [0] []
      · skip
        by_cases h4 : n4 < a0.All.length
        · skip
          rw [List.drop_eq_getElem_cons h4, m_towncrierref26_Great_loop2] at hx2
          replace hx2 := ite_r hx2 (by have hq := hc3; simp at hq ⊢; first | exact hq (by omega) | omega | grind)
          refine .exit ?_
          refine ⟨_, ?_, (Option.some.inj hx2).symm⟩
          exact .m [1, 3] [0] []
        · skip
          rw [List.drop_of_length_le (by omega), m_towncrierref26_Great_loop2] at hx2
          refine .exit ?_
          refine ⟨_, ?_, (Option.some.inj hx2).symm⟩
          exact .m [1, 3] [0] []
    · skip
      rintro ⟨⟩ hj2
      subst x2
      try dsimp only at h
      simp only [Try.St_towncrierref26_Great_5]
      refine .seq ?_
      refine .rg Try.S [1, 3] ?_
      refine .rn 6 ?_
      refine .rn 6 ?_
      refine .rn 6 ?_
      refine .rn 3 ?_
      refine .nil ⟨nofun, ?_⟩
      have hq := Option.some.inj h
      subst r
      exact .ret ⟨.inr rfl, rsi⟩

def Try.Re_node_New (r : TNode × Int) : St := ⟨[(4, .ptr 6 0), (5, .int .i64 r.2)], [(0, .arr 45 2 true (r.1.Bell.All.map TGroup.n)), (1, .arr 52 15 true (r.1.Bell.Seats.map TSeat.n)), (2, .arr 82 3 true (r.1.Bell.Times.map TTime.d)), (3, .arr 5 1 true (r.1.Disk.Data.map (D.int .u8))), (4, .arr 84 2 true (r.1.Disk.Wait.map TPut.n)), (5, .arr 86 10 true (r.1.Hold.map TMail.d)), (6, .box [.bool r.1.Up, .int .i64 r.1.Bell.Me, .ref 0 2 0 r.1.Bell.All.length (some unkC), .ref 1 15 0 r.1.Bell.Seats.length (some unkC), .ref 2 3 0 r.1.Bell.Times.length (some unkC), .ref 3 1 0 r.1.Disk.Data.length (some unkC), .ref 4 2 0 r.1.Disk.Wait.length (some unkC), .ref 5 10 0 r.1.Hold.length (some unkC)])], 7⟩
attribute [local go_sem] Try.Re_node_New
theorem callH_node_New (a0 : Int) (a1 : List TGroup) (r : TNode × Int) (h : m_node_New a0 a1 = some r) : CallH Try.prog 5 [.int .i64 a0, .imm 2 (a1.map TGroup.d) 4] [] (.tuple [.agg [.bool r.1.Up, .int .i64 r.1.Bell.Me, .ref 0 2 0 r.1.Bell.All.length (some unkC), .ref 1 15 0 r.1.Bell.Seats.length (some unkC), .ref 2 3 0 r.1.Bell.Times.length (some unkC), .ref 3 1 0 r.1.Disk.Data.length (some unkC), .ref 4 2 0 r.1.Disk.Wait.length (some unkC), .ref 5 10 0 r.1.Hold.length (some unkC)], .int .i64 r.2]) [(0, some (.arr 45 2 true (r.1.Bell.All.map TGroup.n))), (1, some (.arr 52 15 true (r.1.Bell.Seats.map TSeat.n))), (2, some (.arr 82 3 true (r.1.Bell.Times.map TTime.d))), (3, some (.arr 5 1 true (r.1.Disk.Data.map (D.int .u8)))), (4, some (.arr 84 2 true (r.1.Disk.Wait.map TPut.n))), (5, some (.arr 86 10 true (r.1.Hold.map TMail.d)))] (0, 95) := by
  refine callH_intro' Try.tmOk Try.func5 rfl (by decide) (Nat.le_of_ble_eq_true rfl) (by simp) ?_
  intro hwf
  unfold m_node_New at h
  refine .ends 0 (Nat.le_refl _) ?_
  refine .seq ?_
  refine .pl Try.S [0, 1] ?_
  refine .seq ?_
  obtain ⟨v1, hv1, h⟩ := bind_some h
  refine .rg Try.S [0, 1, 4] ?_
  refine .rn 2 ?_
  refine .ncall (r := .tuple [.agg [.int .i64 v1.1.Me, .ref 43 2 0 v1.1.All.length (some unkC), .ref 44 15 0 v1.1.Seats.length (some unkC), .ref 45 3 0 v1.1.Times.length (some unkC)], .int .i64 v1.2]) (eff := [(43, some (.arr 45 2 true (v1.1.All.map TGroup.n))), (44, some (.arr 52 15 true (v1.1.Seats.map TSeat.n))), (45, some (.arr 82 3 true (v1.1.Times.map TTime.d)))]) (nw := (43, 86)) [] rfl rfl rfl rfl rfl (lend2s_cons rfl (lend2s_cons rfl lend2s_nil)) rfl (callH_at 43 (Nat.le_of_ble_eq_true rfl) (callH_bell_New a0 a1 v1 hv1)) (newE_cons rfl rfl (newB_arrN pln_TGroup _ _ _) (newE_cons rfl rfl (newB_arrN pln_TSeat _ _ _) (newE_cons rfl rfl (newB_arr pl0_TTime _ _ _) newE_nil))) (by intro i hi; simp [D.ids, D.idsL] at hi; omega) rfl ⟨Nat.le_of_ble_eq_true rfl, Nat.le_of_ble_eq_true rfl⟩ ?_
  refine .rn 6 ?_
  refine .nil ⟨nofun, ?_⟩
  refine .seq ?_
  refine .seq ?_
  refine .pl Try.S [4, 6, 7] ?_
  refine .cond rfl rfl (fun hc1 => ?_) (fun hc1 => ?_)
  · skip
    replace h := ite_lc h hc1
    refine .seq ?_
    refine .pl Try.S [4, 7] ?_
    have hq := Option.some.inj h
    subst r
    refine .ret ⟨Try.Re_node_New ((⟨false, (⟨0, [], [], []⟩ : TBell), (⟨[], []⟩ : TDisk), []⟩ : TNode), v1.2), ?_, .inr rfl, retH [5, 4, 3, 2, 1, 0] ?_ ?_⟩
    · skip
      refine Goes.new0 2 45 (Nat.le_of_ble_eq_true rfl) ?_
      refine Goes.new0 15 52 (Nat.le_of_ble_eq_true rfl) ?_
      refine Goes.new0 3 82 (Nat.le_of_ble_eq_true rfl) ?_
      refine Goes.new0 1 5 (Nat.le_of_ble_eq_true rfl) ?_
      refine Goes.new0 2 84 (Nat.le_of_ble_eq_true rfl) ?_
      refine Goes.new0 10 86 (Nat.le_of_ble_eq_true rfl) ?_
      refine Goes.boxs 0 _ [.bool false, .int .i64 0, .ref 87 2 0 0 (some unkC), .ref 88 15 0 0 (some unkC), .ref 89 3 0 0 (some unkC), .ref 90 1 0 0 (some unkC), .ref 91 2 0 0 (some unkC), .ref 92 10 0 0 (some unkC)] rfl (.keep (.keep (.cons (.own0 87 _ _ _ (by decide)) (.cons (.own0 88 _ _ _ (by decide)) (.cons (.own0 89 _ _ _ (by decide)) (.cons (.own0 90 _ _ _ (by decide)) (.cons (.own0 91 _ _ _ (by decide)) (.cons (.own0 92 _ _ _ (by decide)) (.refl _))))))))) ?_
      exact .m [4, 5] [87, 88, 89, 90, 91, 92, 0] [(87, 0), (88, 1), (89, 2), (90, 3), (91, 4), (92, 5), (0, 6)]
    · exact rsi0
    · rfl
  · skip
    replace h := ite_rc h hc1
    refine .skip ?_
    refine .seq ?_
    refine .pl Try.S [4, 6] ?_
    have hq := Option.some.inj h
    subst r
    refine .ret ⟨Try.Re_node_New ((⟨true, v1.1, (⟨[], []⟩ : TDisk), []⟩ : TNode), 0), ?_, .inr rfl, retH [5, 4, 3, 2, 1, 0] ?_ ?_⟩
    · skip
      refine Goes.new0 1 5 (Nat.le_of_ble_eq_true rfl) ?_
      refine Goes.new0 2 84 (Nat.le_of_ble_eq_true rfl) ?_
      refine Goes.new0 10 86 (Nat.le_of_ble_eq_true rfl) ?_
      refine Goes.boxs 0 _ [.bool true, .int .i64 v1.1.Me, .ref 43 2 0 v1.1.All.length (some unkC), .ref 44 15 0 v1.1.Seats.length (some unkC), .ref 45 3 0 v1.1.Times.length (some unkC), .ref 87 1 0 0 (some unkC), .ref 88 2 0 0 (some unkC), .ref 89 10 0 0 (some unkC)] rfl (.keep (.keep (.keep (.keep (.keep (.cons (.own0 87 _ _ _ (by decide)) (.cons (.own0 88 _ _ _ (by decide)) (.cons (.own0 89 _ _ _ (by decide)) (.refl _))))))))) ?_
      exact .m [4, 5] [43, 44, 45, 87, 88, 89, 0] [(43, 0), (44, 1), (45, 2), (87, 3), (88, 4), (89, 5), (0, 6)]
    · exact rsi0
    · rfl

def Try.Re_towncrierref27_New (r : TNode × Int) : St := ⟨[(4, .ptr 6 0), (5, .int .i64 r.2)], [(0, .arr 45 2 true (r.1.Bell.All.map TGroup.n)), (1, .arr 52 15 true (r.1.Bell.Seats.map TSeat.n)), (2, .arr 82 3 true (r.1.Bell.Times.map TTime.d)), (3, .arr 5 1 true (r.1.Disk.Data.map (D.int .u8))), (4, .arr 84 2 true (r.1.Disk.Wait.map TPut.n)), (5, .arr 86 10 true (r.1.Hold.map TMail.d)), (6, .box [.bool r.1.Up, .int .i64 r.1.Bell.Me, .ref 0 2 0 r.1.Bell.All.length (some unkC), .ref 1 15 0 r.1.Bell.Seats.length (some unkC), .ref 2 3 0 r.1.Bell.Times.length (some unkC), .ref 3 1 0 r.1.Disk.Data.length (some unkC), .ref 4 2 0 r.1.Disk.Wait.length (some unkC), .ref 5 10 0 r.1.Hold.length (some unkC)])], 7⟩
attribute [local go_sem] Try.Re_towncrierref27_New
theorem callH_towncrierref27_New (a0 : Int) (a1 : List TGroup) (r : TNode × Int) (h : m_towncrierref27_New a0 a1 = some r) : CallH Try.prog 6 [.int .i64 a0, .imm 2 (a1.map TGroup.d) 4] [] (.tuple [.agg [.bool r.1.Up, .int .i64 r.1.Bell.Me, .ref 0 2 0 r.1.Bell.All.length (some unkC), .ref 1 15 0 r.1.Bell.Seats.length (some unkC), .ref 2 3 0 r.1.Bell.Times.length (some unkC), .ref 3 1 0 r.1.Disk.Data.length (some unkC), .ref 4 2 0 r.1.Disk.Wait.length (some unkC), .ref 5 10 0 r.1.Hold.length (some unkC)], .int .i64 r.2]) [(0, some (.arr 45 2 true (r.1.Bell.All.map TGroup.n))), (1, some (.arr 52 15 true (r.1.Bell.Seats.map TSeat.n))), (2, some (.arr 82 3 true (r.1.Bell.Times.map TTime.d))), (3, some (.arr 5 1 true (r.1.Disk.Data.map (D.int .u8)))), (4, some (.arr 84 2 true (r.1.Disk.Wait.map TPut.n))), (5, some (.arr 86 10 true (r.1.Hold.map TMail.d)))] (0, 79) := by
  refine callH_intro' Try.tmOk Try.func6 rfl (by decide) (Nat.le_of_ble_eq_true rfl) (by simp) ?_
  intro hwf
  unfold m_towncrierref27_New at h
  refine .ends 0 (Nat.le_refl _) ?_
  refine .seq ?_
  refine .pl Try.S [0, 1] ?_
  refine .seq ?_
  obtain ⟨v1, hv1, h⟩ := bind_some h
  refine .rg Try.S [0, 1, 4] ?_
  refine .rn 2 ?_
  refine .ncall (r := .tuple [.agg [.int .i64 v1.1.Me, .ref 35 2 0 v1.1.All.length (some unkC), .ref 36 15 0 v1.1.Seats.length (some unkC), .ref 37 3 0 v1.1.Times.length (some unkC)], .int .i64 v1.2]) (eff := [(35, some (.arr 45 2 true (v1.1.All.map TGroup.n))), (36, some (.arr 52 15 true (v1.1.Seats.map TSeat.n))), (37, some (.arr 82 3 true (v1.1.Times.map TTime.d)))]) (nw := (35, 70)) [] rfl rfl rfl rfl rfl (lend2s_cons rfl (lend2s_cons rfl lend2s_nil)) rfl (callH_at 35 (Nat.le_of_ble_eq_true rfl) (callH_towncrierref26_New a0 a1 v1 hv1)) (newE_cons rfl rfl (newB_arrN pln_TGroup _ _ _) (newE_cons rfl rfl (newB_arrN pln_TSeat _ _ _) (newE_cons rfl rfl (newB_arr pl0_TTime _ _ _) newE_nil))) (by intro i hi; simp [D.ids, D.idsL] at hi; omega) rfl ⟨Nat.le_of_ble_eq_true rfl, Nat.le_of_ble_eq_true rfl⟩ ?_
  refine .rn 6 ?_
  refine .nil ⟨nofun, ?_⟩
  refine .seq ?_
  refine .seq ?_
  refine .pl Try.S [4, 6, 7] ?_
  refine .cond rfl rfl (fun hc1 => ?_) (fun hc1 => ?_)
  · skip
    replace h := ite_lc h hc1
    refine .seq ?_
    refine .pl Try.S [4, 7] ?_
    have hq := Option.some.inj h
    subst r
    refine .ret ⟨Try.Re_towncrierref27_New ((⟨false, (⟨0, [], [], []⟩ : TBell), (⟨[], []⟩ : TDisk), []⟩ : TNode), v1.2), ?_, .inr rfl, retH [5, 4, 3, 2, 1, 0] ?_ ?_⟩
    · skip
      refine Goes.new0 2 45 (Nat.le_of_ble_eq_true rfl) ?_
      refine Goes.new0 15 52 (Nat.le_of_ble_eq_true rfl) ?_
      refine Goes.new0 3 82 (Nat.le_of_ble_eq_true rfl) ?_
      refine Goes.new0 1 5 (Nat.le_of_ble_eq_true rfl) ?_
      refine Goes.new0 2 84 (Nat.le_of_ble_eq_true rfl) ?_
      refine Goes.new0 10 86 (Nat.le_of_ble_eq_true rfl) ?_
      refine Goes.boxs 0 _ [.bool false, .int .i64 0, .ref 71 2 0 0 (some unkC), .ref 72 15 0 0 (some unkC), .ref 73 3 0 0 (some unkC), .ref 74 1 0 0 (some unkC), .ref 75 2 0 0 (some unkC), .ref 76 10 0 0 (some unkC)] rfl (.keep (.keep (.cons (.own0 71 _ _ _ (by decide)) (.cons (.own0 72 _ _ _ (by decide)) (.cons (.own0 73 _ _ _ (by decide)) (.cons (.own0 74 _ _ _ (by decide)) (.cons (.own0 75 _ _ _ (by decide)) (.cons (.own0 76 _ _ _ (by decide)) (.refl _))))))))) ?_
      exact .m [4, 5] [71, 72, 73, 74, 75, 76, 0] [(71, 0), (72, 1), (73, 2), (74, 3), (75, 4), (76, 5), (0, 6)]
    · exact rsi0
    · rfl
  · skip
    replace h := ite_rc h hc1
    refine .skip ?_
    refine .seq ?_
    refine .pl Try.S [4, 6] ?_
    have hq := Option.some.inj h
    subst r
    refine .ret ⟨Try.Re_towncrierref27_New ((⟨true, v1.1, (⟨[], []⟩ : TDisk), []⟩ : TNode), 0), ?_, .inr rfl, retH [5, 4, 3, 2, 1, 0] ?_ ?_⟩
    · skip
      refine Goes.new0 1 5 (Nat.le_of_ble_eq_true rfl) ?_
      refine Goes.new0 2 84 (Nat.le_of_ble_eq_true rfl) ?_
      refine Goes.new0 10 86 (Nat.le_of_ble_eq_true rfl) ?_
      refine Goes.boxs 0 _ [.bool true, .int .i64 v1.1.Me, .ref 35 2 0 v1.1.All.length (some unkC), .ref 36 15 0 v1.1.Seats.length (some unkC), .ref 37 3 0 v1.1.Times.length (some unkC), .ref 71 1 0 0 (some unkC), .ref 72 2 0 0 (some unkC), .ref 73 10 0 0 (some unkC)] rfl (.keep (.keep (.keep (.keep (.keep (.cons (.own0 71 _ _ _ (by decide)) (.cons (.own0 72 _ _ _ (by decide)) (.cons (.own0 73 _ _ _ (by decide)) (.refl _))))))))) ?_
      exact .m [4, 5] [35, 36, 37, 71, 72, 73, 0] [(35, 0), (36, 1), (37, 2), (71, 3), (72, 4), (73, 5), (0, 6)]
    · exact rsi0
    · rfl

theorem callP_towncrierref27_Same (a0 : TNode) (a1 : TNode) (r : Bool) (h : m_towncrierref27_Same a0 a1 = some r) : CallP Try.prog 7 [.agg [.bool a0.Up, .int .i64 a0.Bell.Me, .imm 2 (a0.Bell.All.map TGroup.d) 4, .imm 15 (a0.Bell.Seats.map TSeat.d) 4, .imm 3 (a0.Bell.Times.map TTime.d) 4, .imm 1 (a0.Disk.Data.map (D.int .u8)) 4, .imm 2 (a0.Disk.Wait.map TPut.d) 4, .imm 10 (a0.Hold.map TMail.d) 4], .agg [.bool a1.Up, .int .i64 a1.Bell.Me, .imm 2 (a1.Bell.All.map TGroup.d) 4, .imm 15 (a1.Bell.Seats.map TSeat.d) 4, .imm 3 (a1.Bell.Times.map TTime.d) 4, .imm 1 (a1.Disk.Data.map (D.int .u8)) 4, .imm 2 (a1.Disk.Wait.map TPut.d) 4, .imm 10 (a1.Hold.map TMail.d) 4]] (.bool r) := by
  refine callP_intro Try.tmOk 4 Try.func7 rfl (by decide) rfl rfl (Nat.le_of_ble_eq_true rfl) ?_
  intro hwf
  unfold m_towncrierref27_Same at h
  refine .seq ?_
  refine .pl Try.S [0, 1] ?_
  refine .seq ?_
  obtain ⟨v1, hv1, h⟩ := bind_some h
  obtain ⟨v2, hv2, h⟩ := bind_some h
  obtain ⟨v3, hv3, h⟩ := bind_some h
  refine .rg Try.S [2, 3] ?_
  refine .rn 6 ?_
  refine .rn 4 ?_
  refine .gcall (r := .bool v1) rfl rfl rfl rfl rfl (fun hg => ⟨[], [.agg [.int .i64 a0.Bell.Me, .imm 2 (a0.Bell.All.map TGroup.d) 4, .imm 15 (a0.Bell.Seats.map TSeat.d) 4, .imm 3 (a0.Bell.Times.map TTime.d) 4], .agg [.int .i64 a1.Bell.Me, .imm 2 (a1.Bell.All.map TGroup.d) 4, .imm 15 (a1.Bell.Seats.map TSeat.d) 4, .imm 3 (a1.Bell.Times.map TTime.d) 4]], _, rfl, gd hg, rfl, (callP_towncrierref26_Same a0.Bell a1.Bell v1 (ite_lc hv1 hg))⟩) ?_
  refine .rn 6 ?_
  refine .gcall (r := .bool v2) rfl rfl rfl rfl rfl (fun hg => ⟨[], [.agg [.imm 1 (a0.Disk.Data.map (D.int .u8)) 4, .imm 2 (a0.Disk.Wait.map TPut.d) 4], .agg [.imm 1 (a1.Disk.Data.map (D.int .u8)) 4, .imm 2 (a1.Disk.Wait.map TPut.d) 4]], _, rfl, gd hg, rfl, (callP_towncrierref03_Same a0.Disk a1.Disk v2 (ite_lc hv2 hg))⟩) ?_
  refine .rn 6 ?_
  refine .gcall (r := .bool v3) rfl rfl rfl rfl rfl (fun hg => ⟨[], [.imm 10 (a0.Hold.map TMail.d) 4, .imm 10 (a1.Hold.map TMail.d) 4], _, rfl, gd hg, rfl, (callP_towncrierref25_SameMail a0.Hold a1.Hold v3 (ite_lc hv3 hg))⟩) ?_
  refine .rn 2 ?_
  refine .nil ⟨nofun, ?_⟩
  have hq := Option.some.inj h
  subst r
  exact .ret ⟨.inr rfl, rsi⟩


theorem callP_towncrierlaw27_NodeNews (a0 : Int) (a1 : List TGroup) (r : Bool) (h : m_towncrierlaw27_NodeNews a0 a1 = some r) : CallP Try.prog 3 [.int .i64 a0, .imm 2 (a1.map TGroup.d) 4] (.bool r) := by
  refine callP_intro Try.tmOk 273 Try.func3 rfl (by decide) rfl rfl (Nat.le_of_ble_eq_true rfl) ?_
  intro hwf
  unfold m_towncrierlaw27_NodeNews at h
  refine .seq ?_
  refine .pl Try.S [0, 1] ?_
  refine .seq ?_
  refine .seq ?_
  obtain ⟨v1, hv1, h⟩ := bind_some h
  refine .rg Try.S [0, 1] ?_
  refine .rn 2 ?_
  refine .call (r := .bool v1) rfl rfl rfl rfl rfl rfl (callP_wk (WkL.cons (Wk.agg (WkL.cons (Wk.refl _) (WkL.cons (Wk.refl _) (WkL.cons (Wk.nil4 0 15 0 rfl) (WkL.cons (Wk.nil4 0 3 0 rfl) (WkL.refl _)))))) (WkL.refl _)) (callP_towncrierref26_Great (⟨0, a1, [], []⟩ : TBell) v1 hv1)) ?_
  refine .nil ⟨nofun, ?_⟩
  refine .cond rfl rfl (fun hc1 => ?_) (fun hc1 => ?_)
  · skip
    replace h := ite_lc h hc1
    refine .seq ?_
    refine .pl Try.S [] ?_
    have hq := Option.some.inj h
    subst r
    exact .ret ⟨.inr rfl, rsi⟩
  · skip
    replace h := ite_rc h hc1
    refine .skip ?_
    refine .seq ?_
    obtain ⟨v2, hv2, h⟩ := bind_some h
    refine .rg Try.S [0, 1] ?_
    refine .rn 2 ?_
    refine .ncall (r := .tuple [.agg [.bool v2.1.Up, .int .i64 v2.1.Bell.Me, .ref 95 2 0 v2.1.Bell.All.length (some unkC), .ref 96 15 0 v2.1.Bell.Seats.length (some unkC), .ref 97 3 0 v2.1.Bell.Times.length (some unkC), .ref 98 1 0 v2.1.Disk.Data.length (some unkC), .ref 99 2 0 v2.1.Disk.Wait.length (some unkC), .ref 100 10 0 v2.1.Hold.length (some unkC)], .int .i64 v2.2]) (eff := [(95, some (.arr 45 2 true (v2.1.Bell.All.map TGroup.n))), (96, some (.arr 52 15 true (v2.1.Bell.Seats.map TSeat.n))), (97, some (.arr 82 3 true (v2.1.Bell.Times.map TTime.d))), (98, some (.arr 5 1 true (v2.1.Disk.Data.map (D.int .u8)))), (99, some (.arr 84 2 true (v2.1.Disk.Wait.map TPut.n))), (100, some (.arr 86 10 true (v2.1.Hold.map TMail.d)))]) (nw := (95, 190)) [] rfl rfl rfl rfl rfl (lend2s_cons rfl (lend2s_cons rfl lend2s_nil)) rfl (callH_at 95 (Nat.le_of_ble_eq_true rfl) (callH_node_New a0 a1 v2 hv2)) (newE_cons rfl rfl (newB_arrN pln_TGroup _ _ _) (newE_cons rfl rfl (newB_arrN pln_TSeat _ _ _) (newE_cons rfl rfl (newB_arr pl0_TTime _ _ _) (newE_cons rfl rfl (newB_arr (pl0_int .u8) _ _ _) (newE_cons rfl rfl (newB_arrN pln_TPut _ _ _) (newE_cons rfl rfl (newB_arr pl0_TMail _ _ _) newE_nil)))))) (by intro i hi; simp [D.ids, D.idsL] at hi; omega) rfl ⟨Nat.le_of_ble_eq_true rfl, Nat.le_of_ble_eq_true rfl⟩ ?_
    refine .rn 6 ?_
    refine .nil ⟨nofun, ?_⟩
    refine .seq ?_
    obtain ⟨v3, hv3, h⟩ := bind_some h
    refine .rg Try.S [0, 1, 5, 6] ?_
    refine .rn 2 ?_
    refine .ncall (r := .tuple [.agg [.bool v3.1.Up, .int .i64 v3.1.Bell.Me, .ref 191 2 0 v3.1.Bell.All.length (some unkC), .ref 192 15 0 v3.1.Bell.Seats.length (some unkC), .ref 193 3 0 v3.1.Bell.Times.length (some unkC), .ref 194 1 0 v3.1.Disk.Data.length (some unkC), .ref 195 2 0 v3.1.Disk.Wait.length (some unkC), .ref 196 10 0 v3.1.Hold.length (some unkC)], .int .i64 v3.2]) (eff := [(191, some (.arr 45 2 true (v3.1.Bell.All.map TGroup.n))), (192, some (.arr 52 15 true (v3.1.Bell.Seats.map TSeat.n))), (193, some (.arr 82 3 true (v3.1.Bell.Times.map TTime.d))), (194, some (.arr 5 1 true (v3.1.Disk.Data.map (D.int .u8)))), (195, some (.arr 84 2 true (v3.1.Disk.Wait.map TPut.n))), (196, some (.arr 86 10 true (v3.1.Hold.map TMail.d)))]) (nw := (191, 270)) [] rfl rfl rfl rfl rfl (lend2s_cons rfl (lend2s_cons rfl lend2s_nil)) rfl (callH_at 191 (Nat.le_of_ble_eq_true rfl) (callH_towncrierref27_New a0 a1 v3 hv3)) (newE_cons rfl rfl (newB_arrN pln_TGroup _ _ _) (newE_cons rfl rfl (newB_arrN pln_TSeat _ _ _) (newE_cons rfl rfl (newB_arr pl0_TTime _ _ _) (newE_cons rfl rfl (newB_arr (pl0_int .u8) _ _ _) (newE_cons rfl rfl (newB_arrN pln_TPut _ _ _) (newE_cons rfl rfl (newB_arr pl0_TMail _ _ _) newE_nil)))))) (by intro i hi; simp [D.ids, D.idsL] at hi; omega) rfl ⟨Nat.le_of_ble_eq_true rfl, Nat.le_of_ble_eq_true rfl⟩ ?_
    refine .rn 6 ?_
    refine .nil ⟨nofun, ?_⟩
    refine .seq ?_
    obtain ⟨v4, hv4, h⟩ := bind_some h
    refine .rg Try.S [5, 6, 7, 8] ?_
    refine .rn 2 ?_
    refine .lcall (r := .bool v4) [] rfl rfl rfl rfl rfl (lend2s_cons (lend2_of (lend_agg (lends_cons rfl (lends_cons rfl (lends_cons (lend_refN pln_TGroup (by first | rfl | (simp only [go_sem, Nat.reduceBEq]; rfl)) (by first | rfl | (simp; done) | (simp <;> omega))) (lends_cons (lend_refN pln_TSeat (by first | rfl | (simp only [go_sem, Nat.reduceBEq]; rfl)) (by first | rfl | (simp; done) | (simp <;> omega))) (lends_cons (lend_ref pl_TTime (by first | rfl | (simp only [go_sem, Nat.reduceBEq]; rfl)) (by first | rfl | (simp; done) | (simp <;> omega))) (lends_cons (lend_ref (pl_int .u8) (by first | rfl | (simp only [go_sem, Nat.reduceBEq]; rfl)) (by first | rfl | (simp; done) | (simp <;> omega))) (lends_cons (lend_refN pln_TPut (by first | rfl | (simp only [go_sem, Nat.reduceBEq]; rfl)) (by first | rfl | (simp; done) | (simp <;> omega))) (lends_cons (lend_ref pl_TMail (by first | rfl | (simp only [go_sem, Nat.reduceBEq]; rfl)) (by first | rfl | (simp; done) | (simp <;> omega))) lends_nil))))))))) trivial) (lend2s_cons (lend2_of (lend_agg (lends_cons rfl (lends_cons rfl (lends_cons (lend_refN pln_TGroup (by first | rfl | (simp only [go_sem, Nat.reduceBEq]; rfl)) (by first | rfl | (simp; done) | (simp <;> omega))) (lends_cons (lend_refN pln_TSeat (by first | rfl | (simp only [go_sem, Nat.reduceBEq]; rfl)) (by first | rfl | (simp; done) | (simp <;> omega))) (lends_cons (lend_ref pl_TTime (by first | rfl | (simp only [go_sem, Nat.reduceBEq]; rfl)) (by first | rfl | (simp; done) | (simp <;> omega))) (lends_cons (lend_ref (pl_int .u8) (by first | rfl | (simp only [go_sem, Nat.reduceBEq]; rfl)) (by first | rfl | (simp; done) | (simp <;> omega))) (lends_cons (lend_refN pln_TPut (by first | rfl | (simp only [go_sem, Nat.reduceBEq]; rfl)) (by first | rfl | (simp; done) | (simp <;> omega))) (lends_cons (lend_ref pl_TMail (by first | rfl | (simp only [go_sem, Nat.reduceBEq]; rfl)) (by first | rfl | (simp; done) | (simp <;> omega))) lends_nil))))))))) trivial) lend2s_nil)) rfl (callP_towncrierref27_Same v2.1 v3.1 v4 hv4) ?_
    refine .rn 6 ?_
    refine .nil ⟨nofun, ?_⟩
    have hq := Option.some.inj h
    subst r
    exact .ret ⟨.inr rfl, rsi⟩
end Go.Proofs
