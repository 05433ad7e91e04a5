/- The walks of functions, printed by gw.py. -/
import Derived.Test.YtejgahegnnbmkaaAttemptOrderPf
import Derived.Test.YtejgahegnnbmkaaAttemptOrderPg
import Derived.Test.YtejgahegnnbmkaaAttemptOrderPh
import Derived.Test.YtejgahegnnbmkaaAttemptOrderPi
import Derived.Test.YtejgahegnnbmkaaAttemptOrderPj
import Derived.Test.YtejgahegnnbmkaaAttemptOrderPk
import Derived.Test.YtejgahegnnbmkaaAttemptOrderPe
section
namespace Go.Proofs
open Go.Tm Go.RowKit Go.WideShapes
set_option maxRecDepth 100000
set_option maxHeartbeats 4000000
set_option linter.unusedSimpArgs false
set_option linter.unusedVariables false
attribute [local go_sem] argVars runE runK isCallV stepE aop opd opdsL opds opdO ev ofVal keep List.any Nat.beq Bool.false_or Bool.true_or aggEq cond_true cond_false Bool.cond_false_right Bool.cond_true_left beq_true beq_false imp_self implies_true getR getL put St.app effL del nwB blt_dec Nat.lt_irrefl Nat.lt_add_one ble_dec Nat.le_refl Nat.beq_refl roomNZ appendIn capS capK mkZ_zero mkZL_zero zeroEl D.ids D.idsL Option.getD bin arith sarith binT dpick Tm.part splice fillD oneD loadD storeD srcD sliceD idxOk decide_true gval dstAt D.cells List.map_cons List.map_nil List.take List.drop List.length_map List.append Int.toNat_natCast and_true true_and decide_false List.length_cons List.length_nil List.append_nil List.nil_append Bool.and_true Bool.true_and Bool.not_false Bool.not_true ne_eq not_false_eq_true BEq.rfl List.getElem?_cons_zero List.getElem?_cons_succ List.getElem?_nil Nat.zero_add List.all_cons List.all_nil List.isEmpty_cons List.isEmpty_nil List.any_cons List.any_nil List.drop_succ_cons List.drop_zero unfL unf okM okML low3 List.cons_append true_or or_true Nat.zero_mul Nat.zero_le fpOf opIds mvV mvH mvF pickL D.ren D.renL Blk.ren List.map_append List.length_append Bool.not_not Bool.or_not_self Bool.not_or_self Bool.or_true

def Try.St_towncrierlaw08_AttemptOrder_1 (a0 : TAttempt) (a1 : Int) (a4 : Int) (a5 : Int) (v1 : Bool) (v3 : TAttempt × Int) (v4 : TAttempt × Int) : St := ⟨[(1, .int .i64 a1), (4, .int .i64 a4), (5, .int .i64 a5), (6, .ptr 0 0), (13, .bool v1), (14, .ptr 76 0), (16, .ptr 115 0)], [(0, .box [.int .u8 a0.Phase, .int .i64 a0.Ballot, .imm 1 (a0.Members.map (D.int .i64)) 4, .str a0.Wish, .str a0.Value, .imm 3 (a0.Promises.map TPromise.d) 4, .imm 1 (a0.Accepted.map (D.int .i64)) 4]), (76, .box [.int .u8 v3.1.Phase, .int .i64 v3.1.Ballot, .ref 116 1 0 v3.1.Members.length (some unkC), .str v3.1.Wish, .str v3.1.Value, .ref 117 3 0 v3.1.Promises.length (some unkC), .ref 118 1 0 v3.1.Accepted.length (some unkC)]), (115, .box [.int .u8 v4.1.Phase, .int .i64 v4.1.Ballot, .ref 119 1 0 v4.1.Members.length (some unkC), .str v4.1.Wish, .str v4.1.Value, .ref 120 3 0 v4.1.Promises.length (some unkC), .ref 121 1 0 v4.1.Accepted.length (some unkC)]), (116, .arr 3 1 true (v3.1.Members.map (D.int .i64))), (117, .arr 31 3 true (v3.1.Promises.map TPromise.d)), (118, .arr 3 1 true (v3.1.Accepted.map (D.int .i64))), (119, .arr 3 1 true (v4.1.Members.map (D.int .i64))), (120, .arr 31 3 true (v4.1.Promises.map TPromise.d)), (121, .arr 3 1 true (v4.1.Accepted.map (D.int .i64)))], 122⟩
attribute [local go_sem] Try.St_towncrierlaw08_AttemptOrder_1
theorem callP_towncrierlaw08_AttemptOrder (a0 : TAttempt) (a1 : Int) (a2 : TPromise) (a3 : TPromise) (a4 : Int) (a5 : Int) (r : Bool) (h : m_towncrierlaw08_AttemptOrder a0 a1 a2 a3 a4 a5 = some r) : CallP Try.prog 6 [.agg [.int .u8 a0.Phase, .int .i64 a0.Ballot, .imm 1 (a0.Members.map (D.int .i64)) 4, .str a0.Wish, .str a0.Value, .imm 3 (a0.Promises.map TPromise.d) 4, .imm 1 (a0.Accepted.map (D.int .i64)) 4], .int .i64 a1, .agg [.int .i64 a2.Node, .int .i64 a2.Ballot, .str a2.Value], .agg [.int .i64 a3.Node, .int .i64 a3.Ballot, .str a3.Value], .int .i64 a4, .int .i64 a5] (.bool r) := by
  refine callP_intro Try.tmOk 270 Try.func6 rfl (by decide) rfl rfl (Nat.le_of_ble_eq_true rfl) ?_
  intro hwf
  unfold m_towncrierlaw08_AttemptOrder at h
  refine .seq ?_
  refine .plain Try.tmOk Try.tmMixed [0, 1, 2, 3, 4, 5] (by decide +kernel) (by intro q hq; simp only [go_sem, Nat.reduceSub, Int.reduceEq, Nat.reduceLT, Nat.reduceDiv, Nat.reduceAdd, Nat.reduceBEq, Nat.reduceLeDiff, reduceCtorEq, Nat.reduceEqDiff, Nat.reduceMod, appendD, Try.tm_26, Try.tm_31, TAttempt.d, TPromise.d]; exact hq) (by first | rfl | (simp only [go_sem, Nat.reduceLeDiff]; done) | (simp only [go_sem, Nat.reduceLeDiff]; rfl) | (simp; done) | (simp [oneD] <;> omega) | (simp_all; done) | (simp_all [oneD] <;> omega)) (by first | exact Nat.le_refl _ | exact Nat.le_of_ble_eq_true rfl | (dsimp only; omega) | (simp <;> omega)) ?_
  refine .seq ?_
  obtain ⟨v1, hv1, h⟩ := bind_some h
  refine .reg Try.tmOk Try.tmMixed [1, 4, 5, 6, 8, 9] (by decide +kernel) ?_
  refine .call (r := .bool v1) rfl rfl rfl rfl rfl rfl (callP_towncrierlaw08_alive  v1 hv1) ?_
  refine .RN 1 (dr := false) (.inr fun _ _ _ h => ⟨nofun, h.2⟩) (by intro q hq; simp only [go_sem, Nat.reduceSub, Int.reduceEq, Nat.reduceLT, Nat.reduceDiv, Nat.reduceAdd, Nat.reduceBEq, Nat.reduceLeDiff, reduceCtorEq, Nat.reduceEqDiff, Nat.reduceMod, appendD]; exact hq) (by first | rfl | (simp only [go_sem, Nat.reduceLeDiff]; done) | (simp only [go_sem, Nat.reduceLeDiff]; rfl) | (simp; done) | (simp [oneD] <;> omega) | (simp_all; done) | (simp_all [oneD] <;> omega)) (by first | exact Nat.le_refl _ | exact Nat.le_of_ble_eq_true rfl | (dsimp only; omega) | (simp <;> omega)) ?_
  refine .nil ⟨nofun, ?_⟩
  refine .seq ?_
  refine .seq ?_
  refine .plain Try.tmOk Try.tmMixed [1, 4, 5, 6, 8, 9, 13] (by decide +kernel) (by intro q hq; simp only [go_sem, Nat.reduceSub, Int.reduceEq, Nat.reduceLT, Nat.reduceDiv, Nat.reduceAdd, Nat.reduceBEq, Nat.reduceLeDiff, reduceCtorEq, Nat.reduceEqDiff, Nat.reduceMod, appendD]; exact hq) (by first | rfl | (simp only [go_sem, Nat.reduceLeDiff]; done) | (simp only [go_sem, Nat.reduceLeDiff]; rfl) | (simp; done) | (simp [oneD] <;> omega) | (simp_all; done) | (simp_all [oneD] <;> omega)) (by first | exact Nat.le_refl _ | exact Nat.le_of_ble_eq_true rfl | (dsimp only; omega) | (simp <;> omega)) ?_
  refine .cond rfl rfl (fun hc1 => ?_) (fun hc1 => ?_)
  · skip
    replace h := ite_l h (by first | simpa using hc1 | (simp at hc1 ⊢; omega) | (simp at hc1 ⊢; grind) | grind)
    refine .seq ?_
    refine .plain Try.tmOk Try.tmMixed [] (by decide +kernel) (by intro q hq; simp only [go_sem, Nat.reduceSub, Int.reduceEq, Nat.reduceLT, Nat.reduceDiv, Nat.reduceAdd, Nat.reduceBEq, Nat.reduceLeDiff, reduceCtorEq, Nat.reduceEqDiff, Nat.reduceMod, appendD]; exact hq) (by first | rfl | (simp only [go_sem, Nat.reduceLeDiff]; done) | (simp only [go_sem, Nat.reduceLeDiff]; rfl) | (simp; done) | (simp [oneD] <;> omega) | (simp_all; done) | (simp_all [oneD] <;> omega)) (by first | exact Nat.le_refl _ | exact Nat.le_of_ble_eq_true rfl | (dsimp only; omega) | (simp <;> omega)) ?_
    have hq := Option.some.inj h
    subst r
    refine .ret ⟨.inr rfl, ResIs.to ?_⟩
    simp only [ResIs, resL, resD, resT, go_sem, Nat.reduceSub, Int.reduceEq, Nat.reduceLT, Nat.reduceDiv, Nat.reduceAdd, Nat.reduceBEq, Nat.reduceLeDiff, reduceCtorEq, Nat.reduceEqDiff, Nat.reduceMod, Try.f6, Try.tm_4]
  · skip
    replace h := ite_r h (by first | simpa using hc1 | (simp at hc1 ⊢; omega) | (simp at hc1 ⊢; grind) | grind)
    refine .skip ?_
    refine .seq ?_
    refine .seq ?_
    obtain ⟨v2, hv2, h⟩ := bind_some h
    refine .reg Try.tmOk Try.tmMixed [1, 4, 5, 6, 8, 9, 13] (by decide +kernel) ?_
    refine .RN 1 (dr := false) (.inr fun _ _ _ h => ⟨nofun, h.2⟩) (by intro q hq; simp only [go_sem, Nat.reduceSub, Int.reduceEq, Nat.reduceLT, Nat.reduceDiv, Nat.reduceAdd, Nat.reduceBEq, Nat.reduceLeDiff, reduceCtorEq, Nat.reduceEqDiff, Nat.reduceMod, appendD, Try.tm_26, TAttempt.d, TPromise.d]; exact hq) (by first | rfl | (simp only [go_sem, Nat.reduceLeDiff]; done) | (simp only [go_sem, Nat.reduceLeDiff]; rfl) | (simp; done) | (simp [oneD] <;> omega) | (simp_all; done) | (simp_all [oneD] <;> omega)) (by first | exact Nat.le_refl _ | exact Nat.le_of_ble_eq_true rfl | (dsimp only; omega) | (simp <;> omega)) ?_
    refine .call (r := .bool v2) rfl rfl rfl rfl rfl rfl (callP_towncrierref08_Great a0 v2 hv2) ?_
    refine .RN 6 (dr := false) (.inr fun _ _ _ h => ⟨nofun, h.2⟩) (by intro q hq; simp only [go_sem, Nat.reduceSub, Int.reduceEq, Nat.reduceLT, Nat.reduceDiv, Nat.reduceAdd, Nat.reduceBEq, Nat.reduceLeDiff, reduceCtorEq, Nat.reduceEqDiff, Nat.reduceMod, appendD, Try.tm_3, Try.tm_9, Try.tm_31, TAttempt.d, TPromise.d]; exact hq) (by first | rfl | (simp only [go_sem, Nat.reduceLeDiff]; done) | (simp only [go_sem, Nat.reduceLeDiff]; rfl) | (simp; done) | (simp [oneD] <;> omega) | (simp_all; done) | (simp_all [oneD] <;> omega)) (by first | exact Nat.le_refl _ | exact Nat.le_of_ble_eq_true rfl | (dsimp only; omega) | (simp <;> omega)) ?_
    refine .RN 6 (dr := false) (.inr fun _ _ _ h => ⟨nofun, h.2⟩) (by intro q hq; simp only [go_sem, Nat.reduceSub, Int.reduceEq, Nat.reduceLT, Nat.reduceDiv, Nat.reduceAdd, Nat.reduceBEq, Nat.reduceLeDiff, reduceCtorEq, Nat.reduceEqDiff, Nat.reduceMod, appendD, Try.tm_3, Try.tm_9, Try.tm_31, TAttempt.d, TPromise.d]; exact hq) (by first | rfl | (simp only [go_sem, Nat.reduceLeDiff]; done) | (simp only [go_sem, Nat.reduceLeDiff]; rfl) | (simp; done) | (simp [oneD] <;> omega) | (simp_all; done) | (simp_all [oneD] <;> omega)) (by first | exact Nat.le_refl _ | exact Nat.le_of_ble_eq_true rfl | (dsimp only; omega) | (simp <;> omega)) ?_
    refine .nil ⟨nofun, ?_⟩
    refine .cond rfl rfl (fun hc2 => ?_) (fun hc2 => ?_)
    · skip
      replace h := ite_l h (by first | simpa using hc2 | (simp at hc2 ⊢; omega) | (simp at hc2 ⊢; grind) | grind)
      refine .seq ?_
      refine .plain Try.tmOk Try.tmMixed [13] (by decide +kernel) (by intro q hq; simp only [go_sem, Nat.reduceSub, Int.reduceEq, Nat.reduceLT, Nat.reduceDiv, Nat.reduceAdd, Nat.reduceBEq, Nat.reduceLeDiff, reduceCtorEq, Nat.reduceEqDiff, Nat.reduceMod, appendD]; exact hq) (by first | rfl | (simp only [go_sem, Nat.reduceLeDiff]; done) | (simp only [go_sem, Nat.reduceLeDiff]; rfl) | (simp; done) | (simp [oneD] <;> omega) | (simp_all; done) | (simp_all [oneD] <;> omega)) (by first | exact Nat.le_refl _ | exact Nat.le_of_ble_eq_true rfl | (dsimp only; omega) | (simp <;> omega)) ?_
      have hq := Option.some.inj h
      subst r
      refine .ret ⟨.inr rfl, ResIs.to ?_⟩
      simp only [ResIs, resL, resD, resT, go_sem, Nat.reduceSub, Int.reduceEq, Nat.reduceLT, Nat.reduceDiv, Nat.reduceAdd, Nat.reduceBEq, Nat.reduceLeDiff, reduceCtorEq, Nat.reduceEqDiff, Nat.reduceMod, Try.f6, Try.tm_4]
    · skip
      replace h := ite_r h (by first | simpa using hc2 | (simp at hc2 ⊢; omega) | (simp at hc2 ⊢; grind) | grind)
      refine .skip ?_
      refine .seq ?_
      obtain ⟨v3, hv3, h⟩ := bind_some h
      refine .reg Try.tmOk Try.tmMixed [1, 4, 5, 6, 8, 9, 13] (by decide +kernel) ?_
      refine .RN 3 (dr := false) (.inr fun _ _ _ h => ⟨nofun, h.2⟩) (by intro q hq; simp only [go_sem, Nat.reduceSub, Int.reduceEq, Nat.reduceLT, Nat.reduceDiv, Nat.reduceAdd, Nat.reduceBEq, Nat.reduceLeDiff, reduceCtorEq, Nat.reduceEqDiff, Nat.reduceMod, appendD, Try.tm_26, Try.tm_31, TAttempt.d, TPromise.d]; exact hq) (by first | rfl | (simp only [go_sem, Nat.reduceLeDiff]; done) | (simp only [go_sem, Nat.reduceLeDiff]; rfl) | (simp; done) | (simp [oneD] <;> omega) | (simp_all; done) | (simp_all [oneD] <;> omega)) (by first | exact Nat.le_refl _ | exact Nat.le_of_ble_eq_true rfl | (dsimp only; omega) | (simp <;> omega)) ?_
      refine .ncall (r := .tuple [.agg [.int .u8 v3.1.Phase, .int .i64 v3.1.Ballot, .ref 38 1 0 v3.1.Members.length (some unkC), .str v3.1.Wish, .str v3.1.Value, .ref 39 3 0 v3.1.Promises.length (some unkC), .ref 40 1 0 v3.1.Accepted.length (some unkC)], .int .i64 v3.2]) (eff := [(38, some (.arr 3 1 true (v3.1.Members.map (D.int .i64)))), (39, some (.arr 31 3 true (v3.1.Promises.map TPromise.d))), (40, some (.arr 3 1 true (v3.1.Accepted.map (D.int .i64))))]) (nw := (38, 76)) [] rfl rfl rfl rfl rfl (lend2s_cons rfl (lend2s_cons rfl (lend2s_cons rfl lend2s_nil))) rfl (callH_at 38 (Nat.le_of_ble_eq_true rfl) (callH_attempt_Promised a0 a1 a2 v3 hv3)) (newE_cons rfl rfl (newB_arr pl0_i64 _ _ _) (newE_cons rfl rfl (newB_arr pl0_TPromise _ _ _) (newE_cons rfl rfl (newB_arr pl0_i64 _ _ _) newE_nil))) (by intro i hi; simp [D.ids, D.idsL] at hi; omega) rfl ⟨Nat.le_of_ble_eq_true rfl, Nat.le_of_ble_eq_true rfl⟩ ?_
      refine .RN 6 (dr := false) (.inr fun _ _ _ h => ⟨nofun, h.2⟩) (by intro q hq; simp only [go_sem, Nat.reduceSub, Int.reduceEq, Nat.reduceLT, Nat.reduceDiv, Nat.reduceAdd, Nat.reduceBEq, Nat.reduceLeDiff, reduceCtorEq, Nat.reduceEqDiff, Nat.reduceMod, appendD, Try.tm_26, TAttempt.d, TPromise.d]; exact hq) (by first | rfl | (simp only [go_sem, Nat.reduceLeDiff]; done) | (simp only [go_sem, Nat.reduceLeDiff]; rfl) | (simp; done) | (simp [oneD] <;> omega) | (simp_all; done) | (simp_all [oneD] <;> omega)) (by first | exact Nat.le_refl _ | exact Nat.le_of_ble_eq_true rfl | (dsimp only; omega) | (simp <;> omega)) ?_
      refine .nil ⟨nofun, ?_⟩
      refine .seq ?_
      obtain ⟨v4, hv4, h⟩ := bind_some h
      refine .reg Try.tmOk Try.tmMixed [1, 4, 5, 6, 8, 9, 13, 14, 15] (by decide +kernel) ?_
      refine .RN 3 (dr := false) (.inr fun _ _ _ h => ⟨nofun, h.2⟩) (by intro q hq; simp only [go_sem, Nat.reduceSub, Int.reduceEq, Nat.reduceLT, Nat.reduceDiv, Nat.reduceAdd, Nat.reduceBEq, Nat.reduceLeDiff, reduceCtorEq, Nat.reduceEqDiff, Nat.reduceMod, appendD, Try.tm_26, Try.tm_31, TAttempt.d, TPromise.d]; exact hq) (by first | rfl | (simp only [go_sem, Nat.reduceLeDiff]; done) | (simp only [go_sem, Nat.reduceLeDiff]; rfl) | (simp; done) | (simp [oneD] <;> omega) | (simp_all; done) | (simp_all [oneD] <;> omega)) (by first | exact Nat.le_refl _ | exact Nat.le_of_ble_eq_true rfl | (dsimp only; omega) | (simp <;> omega)) ?_
      refine .ncall (r := .tuple [.agg [.int .u8 v4.1.Phase, .int .i64 v4.1.Ballot, .ref 77 1 0 v4.1.Members.length (some unkC), .str v4.1.Wish, .str v4.1.Value, .ref 78 3 0 v4.1.Promises.length (some unkC), .ref 79 1 0 v4.1.Accepted.length (some unkC)], .int .i64 v4.2]) (eff := [(77, some (.arr 3 1 true (v4.1.Members.map (D.int .i64)))), (78, some (.arr 31 3 true (v4.1.Promises.map TPromise.d))), (79, some (.arr 3 1 true (v4.1.Accepted.map (D.int .i64))))]) (nw := (77, 115)) [] rfl rfl rfl rfl rfl (lend2s_cons rfl (lend2s_cons rfl (lend2s_cons rfl lend2s_nil))) rfl (callH_at 77 (Nat.le_of_ble_eq_true rfl) (callH_attempt_Promised a0 a1 a3 v4 hv4)) (newE_cons rfl rfl (newB_arr pl0_i64 _ _ _) (newE_cons rfl rfl (newB_arr pl0_TPromise _ _ _) (newE_cons rfl rfl (newB_arr pl0_i64 _ _ _) newE_nil))) (by intro i hi; simp [D.ids, D.idsL] at hi; omega) rfl ⟨Nat.le_of_ble_eq_true rfl, Nat.le_of_ble_eq_true rfl⟩ ?_
      refine .RN 6 (dr := false) (.inr fun _ _ _ h => ⟨nofun, h.2⟩) (by intro q hq; simp only [go_sem, Nat.reduceSub, Int.reduceEq, Nat.reduceLT, Nat.reduceDiv, Nat.reduceAdd, Nat.reduceBEq, Nat.reduceLeDiff, reduceCtorEq, Nat.reduceEqDiff, Nat.reduceMod, appendD, Try.tm_26, TAttempt.d, TPromise.d]; exact hq) (by first | rfl | (simp only [go_sem, Nat.reduceLeDiff]; done) | (simp only [go_sem, Nat.reduceLeDiff]; rfl) | (simp; done) | (simp [oneD] <;> omega) | (simp_all; done) | (simp_all [oneD] <;> omega)) (by first | exact Nat.le_refl _ | exact Nat.le_of_ble_eq_true rfl | (dsimp only; omega) | (simp <;> omega)) ?_
      refine .nil ⟨nofun, ?_⟩
      obtain ⟨x1, hx1, h⟩ := bind_some h
      refine .seqM 116 (fun (j : Unit) => Try.St_towncrierlaw08_AttemptOrder_1 a0 a1 a4 a5 v1 v3 v4) (fun j => x1 = (.inr j)) (Nat.le_of_ble_eq_true rfl) ?_ ?_
      · skip
        refine .seq ?_
        refine .reg Try.tmOk Try.tmMixed [1, 4, 5, 6, 8, 9, 13, 14, 15, 16, 17] (by decide +kernel) ?_
        refine .RN 6 (dr := false) (.inr fun _ _ _ h => ⟨nofun, h.2⟩) (by intro q hq; simp only [go_sem, Nat.reduceSub, Int.reduceEq, Nat.reduceLT, Nat.reduceDiv, Nat.reduceAdd, Nat.reduceBEq, Nat.reduceLeDiff, reduceCtorEq, Nat.reduceEqDiff, Nat.reduceMod, appendD, Try.tm_27, TAttempt.d, TPromise.d]; exact hq) (by first | rfl | (simp only [go_sem, Nat.reduceLeDiff]; done) | (simp only [go_sem, Nat.reduceLeDiff]; rfl) | (simp; done) | (simp [oneD] <;> omega) | (simp_all; done) | (simp_all [oneD] <;> omega)) (by first | exact Nat.le_refl _ | exact Nat.le_of_ble_eq_true rfl | (dsimp only; omega) | (simp <;> omega)) ?_
        refine .RN 6 (dr := false) (.inr fun _ _ _ h => ⟨nofun, h.2⟩) (by intro q hq; simp only [go_sem, Nat.reduceSub, Int.reduceEq, Nat.reduceLT, Nat.reduceDiv, Nat.reduceAdd, Nat.reduceBEq, Nat.reduceLeDiff, reduceCtorEq, Nat.reduceEqDiff, Nat.reduceMod, appendD, Try.tm_5, Try.tm_26, TAttempt.d, TPromise.d]; exact hq) (by first | rfl | (simp only [go_sem, Nat.reduceLeDiff]; done) | (simp only [go_sem, Nat.reduceLeDiff]; rfl) | (simp; done) | (simp [oneD] <;> omega) | (simp_all; done) | (simp_all [oneD] <;> omega)) (by first | exact Nat.le_refl _ | exact Nat.le_of_ble_eq_true rfl | (dsimp only; omega) | (simp <;> omega)) ?_
        refine .RN 6 (dr := false) (.inr fun _ _ _ h => ⟨nofun, h.2⟩) (by intro q hq; simp only [go_sem, Nat.reduceSub, Int.reduceEq, Nat.reduceLT, Nat.reduceDiv, Nat.reduceAdd, Nat.reduceBEq, Nat.reduceLeDiff, reduceCtorEq, Nat.reduceEqDiff, Nat.reduceMod, appendD, Try.tm_5, Try.tm_26, Try.tm_31, TAttempt.d, TPromise.d]; exact hq) (by first | rfl | (simp only [go_sem, Nat.reduceLeDiff]; done) | (simp only [go_sem, Nat.reduceLeDiff]; rfl) | (simp; done) | (simp [oneD] <;> omega) | (simp_all; done) | (simp_all [oneD] <;> omega)) (by first | exact Nat.le_refl _ | exact Nat.le_of_ble_eq_true rfl | (dsimp only; omega) | (simp <;> omega)) ?_
        refine .RN 5 (dr := false) (.inr fun _ _ _ h => ⟨nofun, h.2⟩) (by intro q hq; simp only [go_sem, Nat.reduceSub, Int.reduceEq, Nat.reduceLT, Nat.reduceDiv, Nat.reduceAdd, Nat.reduceBEq, Nat.reduceLeDiff, reduceCtorEq, Nat.reduceEqDiff, Nat.reduceMod, appendD, Try.tm_3, Try.tm_31, TAttempt.d, TPromise.d]; exact hq) (by first | rfl | (simp only [go_sem, Nat.reduceLeDiff]; done) | (simp only [go_sem, Nat.reduceLeDiff]; rfl) | (simp; done) | (simp [oneD] <;> omega) | (simp_all; done) | (simp_all [oneD] <;> omega)) (by first | exact Nat.le_refl _ | exact Nat.le_of_ble_eq_true rfl | (dsimp only; omega) | (simp <;> omega)) ?_
        refine .nil ⟨nofun, ?_⟩
        refine .cond rfl rfl (fun hc3 => ?_) (fun hc3 => ?_)
        · skip
          replace hx1 := ite_l hx1 (by first | simpa using hc3 | (simp at hc3 ⊢; omega) | (simp at hc3 ⊢; grind) | grind)
          refine .seq ?_
          obtain ⟨v5, hv5, hx1⟩ := bind_some hx1
          refine .reg Try.tmOk Try.tmMixed [1, 4, 5, 6, 8, 9, 13, 14, 16] (by decide +kernel) ?_
          refine .RN 3 (dr := false) (.inr fun _ _ _ h => ⟨nofun, h.2⟩) (by intro q hq; simp only [go_sem, Nat.reduceSub, Int.reduceEq, Nat.reduceLT, Nat.reduceDiv, Nat.reduceAdd, Nat.reduceBEq, Nat.reduceLeDiff, reduceCtorEq, Nat.reduceEqDiff, Nat.reduceMod, appendD, Try.tm_26, Try.tm_31, TAttempt.d, TPromise.d]; exact hq) (by first | rfl | (simp only [go_sem, Nat.reduceLeDiff]; done) | (simp only [go_sem, Nat.reduceLeDiff]; rfl) | (simp; done) | (simp [oneD] <;> omega) | (simp_all; done) | (simp_all [oneD] <;> omega)) (by first | exact Nat.le_refl _ | exact Nat.le_of_ble_eq_true rfl | (dsimp only; omega) | (simp <;> omega)) ?_
          refine .ncall (r := .tuple [.agg [.int .u8 v5.1.Phase, .int .i64 v5.1.Ballot, .ref 116 1 0 v5.1.Members.length (some unkC), .str v5.1.Wish, .str v5.1.Value, .ref 117 3 0 v5.1.Promises.length (some unkC), .ref 118 1 0 v5.1.Accepted.length (some unkC)], .int .i64 v5.2]) (eff := [(116, some (.arr 3 1 true (v5.1.Members.map (D.int .i64)))), (117, some (.arr 31 3 true (v5.1.Promises.map TPromise.d))), (118, some (.arr 3 1 true (v5.1.Accepted.map (D.int .i64))))]) (nw := (116, 154)) [] rfl rfl rfl rfl rfl (lend2s_cons (lend2_of (lend_agg (lends_cons rfl (lends_cons rfl (lends_cons (lend_ref (pl_int .i64) (by first | rfl | (simp only [go_sem, Nat.reduceBEq]; rfl)) (by first | rfl | (simp; done) | (simp <;> omega))) (lends_cons rfl (lends_cons rfl (lends_cons (lend_ref pl_TPromise (by first | rfl | (simp only [go_sem, Nat.reduceBEq]; rfl)) (by first | rfl | (simp; done) | (simp <;> omega))) (lends_cons (lend_ref (pl_int .i64) (by first | rfl | (simp only [go_sem, Nat.reduceBEq]; rfl)) (by first | rfl | (simp; done) | (simp <;> omega))) lends_nil)))))))) trivial) (lend2s_cons rfl (lend2s_cons rfl lend2s_nil))) rfl (callH_at 116 (Nat.le_of_ble_eq_true rfl) (callH_attempt_Promised v3.1 a1 a3 v5 hv5)) (newE_cons rfl rfl (newB_arr pl0_i64 _ _ _) (newE_cons rfl rfl (newB_arr pl0_TPromise _ _ _) (newE_cons rfl rfl (newB_arr pl0_i64 _ _ _) newE_nil))) (by intro i hi; simp [D.ids, D.idsL] at hi; omega) rfl ⟨Nat.le_of_ble_eq_true rfl, Nat.le_of_ble_eq_true rfl⟩ ?_
          refine .RN 6 (dr := false) (.inr fun _ _ _ h => ⟨nofun, h.2⟩) (by intro q hq; simp only [go_sem, Nat.reduceSub, Int.reduceEq, Nat.reduceLT, Nat.reduceDiv, Nat.reduceAdd, Nat.reduceBEq, Nat.reduceLeDiff, reduceCtorEq, Nat.reduceEqDiff, Nat.reduceMod, appendD, Try.tm_26, TAttempt.d, TPromise.d]; exact hq) (by first | rfl | (simp only [go_sem, Nat.reduceLeDiff]; done) | (simp only [go_sem, Nat.reduceLeDiff]; rfl) | (simp; done) | (simp [oneD] <;> omega) | (simp_all; done) | (simp_all [oneD] <;> omega)) (by first | exact Nat.le_refl _ | exact Nat.le_of_ble_eq_true rfl | (dsimp only; omega) | (simp <;> omega)) ?_
          refine .nil ⟨nofun, ?_⟩
          refine .seq ?_
          obtain ⟨v6, hv6, hx1⟩ := bind_some hx1
          refine .reg Try.tmOk Try.tmMixed [1, 4, 5, 6, 8, 13, 14, 16, 18, 19] (by decide +kernel) ?_
          refine .RN 3 (dr := false) (.inr fun _ _ _ h => ⟨nofun, h.2⟩) (by intro q hq; simp only [go_sem, Nat.reduceSub, Int.reduceEq, Nat.reduceLT, Nat.reduceDiv, Nat.reduceAdd, Nat.reduceBEq, Nat.reduceLeDiff, reduceCtorEq, Nat.reduceEqDiff, Nat.reduceMod, appendD, Try.tm_26, Try.tm_31, TAttempt.d, TPromise.d]; exact hq) (by first | rfl | (simp only [go_sem, Nat.reduceLeDiff]; done) | (simp only [go_sem, Nat.reduceLeDiff]; rfl) | (simp; done) | (simp [oneD] <;> omega) | (simp_all; done) | (simp_all [oneD] <;> omega)) (by first | exact Nat.le_refl _ | exact Nat.le_of_ble_eq_true rfl | (dsimp only; omega) | (simp <;> omega)) ?_
          refine .ncall (r := .tuple [.agg [.int .u8 v6.1.Phase, .int .i64 v6.1.Ballot, .ref 155 1 0 v6.1.Members.length (some unkC), .str v6.1.Wish, .str v6.1.Value, .ref 156 3 0 v6.1.Promises.length (some unkC), .ref 157 1 0 v6.1.Accepted.length (some unkC)], .int .i64 v6.2]) (eff := [(155, some (.arr 3 1 true (v6.1.Members.map (D.int .i64)))), (156, some (.arr 31 3 true (v6.1.Promises.map TPromise.d))), (157, some (.arr 3 1 true (v6.1.Accepted.map (D.int .i64))))]) (nw := (155, 193)) [] rfl rfl rfl rfl rfl (lend2s_cons (lend2_of (lend_agg (lends_cons rfl (lends_cons rfl (lends_cons (lend_ref (pl_int .i64) (by first | rfl | (simp only [go_sem, Nat.reduceBEq]; rfl)) (by first | rfl | (simp; done) | (simp <;> omega))) (lends_cons rfl (lends_cons rfl (lends_cons (lend_ref pl_TPromise (by first | rfl | (simp only [go_sem, Nat.reduceBEq]; rfl)) (by first | rfl | (simp; done) | (simp <;> omega))) (lends_cons (lend_ref (pl_int .i64) (by first | rfl | (simp only [go_sem, Nat.reduceBEq]; rfl)) (by first | rfl | (simp; done) | (simp <;> omega))) lends_nil)))))))) trivial) (lend2s_cons rfl (lend2s_cons rfl lend2s_nil))) rfl (callH_at 155 (Nat.le_of_ble_eq_true rfl) (callH_attempt_Promised v4.1 a1 a2 v6 hv6)) (newE_cons rfl rfl (newB_arr pl0_i64 _ _ _) (newE_cons rfl rfl (newB_arr pl0_TPromise _ _ _) (newE_cons rfl rfl (newB_arr pl0_i64 _ _ _) newE_nil))) (by intro i hi; simp [D.ids, D.idsL] at hi; omega) rfl ⟨Nat.le_of_ble_eq_true rfl, Nat.le_of_ble_eq_true rfl⟩ ?_
          refine .RN 6 (dr := false) (.inr fun _ _ _ h => ⟨nofun, h.2⟩) (by intro q hq; simp only [go_sem, Nat.reduceSub, Int.reduceEq, Nat.reduceLT, Nat.reduceDiv, Nat.reduceAdd, Nat.reduceBEq, Nat.reduceLeDiff, reduceCtorEq, Nat.reduceEqDiff, Nat.reduceMod, appendD, Try.tm_26, TAttempt.d, TPromise.d]; exact hq) (by first | rfl | (simp only [go_sem, Nat.reduceLeDiff]; done) | (simp only [go_sem, Nat.reduceLeDiff]; rfl) | (simp; done) | (simp [oneD] <;> omega) | (simp_all; done) | (simp_all [oneD] <;> omega)) (by first | exact Nat.le_refl _ | exact Nat.le_of_ble_eq_true rfl | (dsimp only; omega) | (simp <;> omega)) ?_
          refine .nil ⟨nofun, ?_⟩
          refine .seq ?_
          obtain ⟨v7, hv7, hx1⟩ := bind_some hx1
          refine .reg Try.tmOk Try.tmMixed [1, 4, 5, 6, 13, 14, 16, 18, 19, 20, 21] (by decide +kernel) ?_
          refine .RN 6 (dr := false) (.inr fun _ _ _ h => ⟨nofun, h.2⟩) (by intro q hq; simp only [go_sem, Nat.reduceSub, Int.reduceEq, Nat.reduceLT, Nat.reduceDiv, Nat.reduceAdd, Nat.reduceBEq, Nat.reduceLeDiff, reduceCtorEq, Nat.reduceEqDiff, Nat.reduceMod, appendD, Try.tm_27, TAttempt.d]; exact hq) (by first | rfl | (simp only [go_sem, Nat.reduceLeDiff]; done) | (simp only [go_sem, Nat.reduceLeDiff]; rfl) | (simp; done) | (simp [oneD] <;> omega) | (simp_all; done) | (simp_all [oneD] <;> omega)) (by first | exact Nat.le_refl _ | exact Nat.le_of_ble_eq_true rfl | (dsimp only; omega) | (simp <;> omega)) ?_
          refine .RN 3 (dr := false) (.inr fun _ _ _ h => ⟨nofun, h.2⟩) (by intro q hq; simp only [go_sem, Nat.reduceSub, Int.reduceEq, Nat.reduceLT, Nat.reduceDiv, Nat.reduceAdd, Nat.reduceBEq, Nat.reduceLeDiff, reduceCtorEq, Nat.reduceEqDiff, Nat.reduceMod, appendD, Try.tm_26, TAttempt.d]; exact hq) (by first | rfl | (simp only [go_sem, Nat.reduceLeDiff]; done) | (simp only [go_sem, Nat.reduceLeDiff]; rfl) | (simp; done) | (simp [oneD] <;> omega) | (simp_all; done) | (simp_all [oneD] <;> omega)) (by first | exact Nat.le_refl _ | exact Nat.le_of_ble_eq_true rfl | (dsimp only; omega) | (simp <;> omega)) ?_
          refine .glcall (r := .bool v7) [] rfl rfl rfl rfl rfl (fun hg => ⟨[], [.agg [.int .u8 v5.1.Phase, .int .i64 v5.1.Ballot, .ref 116 1 0 v5.1.Members.length (some unkC), .str v5.1.Wish, .str v5.1.Value, .ref 117 3 0 v5.1.Promises.length (some unkC), .ref 118 1 0 v5.1.Accepted.length (some unkC)], .agg [.int .u8 v6.1.Phase, .int .i64 v6.1.Ballot, .ref 155 1 0 v6.1.Members.length (some unkC), .str v6.1.Wish, .str v6.1.Value, .ref 156 3 0 v6.1.Promises.length (some unkC), .ref 157 1 0 v6.1.Accepted.length (some unkC)]], _, rfl, (by first | (simp only [opds, opd, ev, ofVal, getR, getL, Nat.beq, cond_true, cond_false, Bool.not_true, Bool.false_or, Bool.and_true, Bool.true_and, Prod.mk.injEq, true_and]; done) | (simp only [opds, opd, ev, ofVal, getR, getL, Nat.beq, cond_true, cond_false, Bool.not_true, Bool.false_or, Bool.and_true, Bool.true_and, Prod.mk.injEq, true_and]; first | exact hg | simpa using hg | (simp at hg ⊢; grind)) | rfl), (lend2s_cons (lend2_of (lend_agg (lends_cons rfl (lends_cons rfl (lends_cons (lend_ref (pl_int .i64) (by first | rfl | (simp only [go_sem, Nat.reduceBEq]; rfl)) (by first | rfl | (simp; done) | (simp <;> omega))) (lends_cons rfl (lends_cons rfl (lends_cons (lend_ref pl_TPromise (by first | rfl | (simp only [go_sem, Nat.reduceBEq]; rfl)) (by first | rfl | (simp; done) | (simp <;> omega))) (lends_cons (lend_ref (pl_int .i64) (by first | rfl | (simp only [go_sem, Nat.reduceBEq]; rfl)) (by first | rfl | (simp; done) | (simp <;> omega))) lends_nil)))))))) trivial) (lend2s_cons (lend2_of (lend_agg (lends_cons rfl (lends_cons rfl (lends_cons (lend_ref (pl_int .i64) (by first | rfl | (simp only [go_sem, Nat.reduceBEq]; rfl)) (by first | rfl | (simp; done) | (simp <;> omega))) (lends_cons rfl (lends_cons rfl (lends_cons (lend_ref pl_TPromise (by first | rfl | (simp only [go_sem, Nat.reduceBEq]; rfl)) (by first | rfl | (simp; done) | (simp <;> omega))) (lends_cons (lend_ref (pl_int .i64) (by first | rfl | (simp only [go_sem, Nat.reduceBEq]; rfl)) (by first | rfl | (simp; done) | (simp <;> omega))) lends_nil)))))))) trivial) lend2s_nil)), rfl, (callP_towncrierref08_Same v5.1 v6.1 v7 (ite_l hv7 (by first | simpa using hg | (simp at hg ⊢; omega) | (simp at hg ⊢; grind) | grind)))⟩) ?_
          refine .RN 2 (dr := false) (.inr fun _ _ _ h => ⟨nofun, h.2⟩) (by intro q hq; simp only [go_sem, Nat.reduceSub, Int.reduceEq, Nat.reduceLT, Nat.reduceDiv, Nat.reduceAdd, Nat.reduceBEq, Nat.reduceLeDiff, reduceCtorEq, Nat.reduceEqDiff, Nat.reduceMod, appendD, TAttempt.d]; exact hq) (by first | rfl | (simp only [go_sem, Nat.reduceLeDiff]; done) | (simp only [go_sem, Nat.reduceLeDiff]; rfl) | (simp; done) | (simp [oneD] <;> omega) | (simp_all; done) | (simp_all [oneD] <;> omega)) (by first | exact Nat.le_refl _ | exact Nat.le_of_ble_eq_true rfl | (dsimp only; omega) | (simp <;> omega)) ?_
          refine .nil ⟨nofun, ?_⟩
          refine .cond rfl rfl (fun hc4 => ?_) (fun hc4 => ?_)
          · skip
            replace hx1 := ite_l hx1 (by first | simpa using hc4 | (simp at hc4 ⊢; omega) | (simp at hc4 ⊢; grind) | grind)
            refine .seq ?_
            refine .plain Try.tmOk Try.tmMixed [] (by decide +kernel) (by intro q hq; simp only [go_sem, Nat.reduceSub, Int.reduceEq, Nat.reduceLT, Nat.reduceDiv, Nat.reduceAdd, Nat.reduceBEq, Nat.reduceLeDiff, reduceCtorEq, Nat.reduceEqDiff, Nat.reduceMod, appendD]; exact hq) (by first | rfl | (simp only [go_sem, Nat.reduceLeDiff]; done) | (simp only [go_sem, Nat.reduceLeDiff]; rfl) | (simp; done) | (simp [oneD] <;> omega) | (simp_all; done) | (simp_all [oneD] <;> omega)) (by first | exact Nat.le_refl _ | exact Nat.le_of_ble_eq_true rfl | (dsimp only; omega) | (simp <;> omega)) ?_
            have hq := Option.some.inj hx1
            subst x1
            try dsimp only at h
            have hq := Option.some.inj h
            subst r
            refine .ret ⟨.inr rfl, ResIs.to ?_⟩
            simp only [ResIs, resL, resD, resT, go_sem, Nat.reduceSub, Int.reduceEq, Nat.reduceLT, Nat.reduceDiv, Nat.reduceAdd, Nat.reduceBEq, Nat.reduceLeDiff, reduceCtorEq, Nat.reduceEqDiff, Nat.reduceMod, Try.f6, Try.tm_4]
          · skip
            replace hx1 := ite_r hx1 (by first | simpa using hc4 | (simp at hc4 ⊢; omega) | (simp at hc4 ⊢; grind) | grind)
            refine .skip ?_
            refine ⟨_, ?_, (Option.some.inj hx1).symm⟩
            refine Goes.mv [1, 4, 5, 6, 13, 14, 16] [0, 76, 115, 38, 39, 40, 77, 78, 79] [(38, 116), (39, 117), (40, 118), (77, 119), (78, 120), (79, 121)] ?_ (Nat.le_of_ble_eq_true rfl) (Nat.le_of_ble_eq_true rfl) rfl
            first | rfl | (simp only [go_sem, Nat.reduceBEq, Nat.reduceAdd]; done) | (simp only [go_sem, Nat.reduceBEq, Nat.reduceAdd]; rfl)
        · skip
          replace hx1 := ite_r hx1 (by first | simpa using hc3 | (simp at hc3 ⊢; omega) | (simp at hc3 ⊢; grind) | grind)
          refine .skip ?_
          refine ⟨_, ?_, (Option.some.inj hx1).symm⟩
          refine Goes.mv [1, 4, 5, 6, 13, 14, 16] [0, 76, 115, 38, 39, 40, 77, 78, 79] [(38, 116), (39, 117), (40, 118), (77, 119), (78, 120), (79, 121)] ?_ (Nat.le_of_ble_eq_true rfl) (Nat.le_of_ble_eq_true rfl) rfl
          first | rfl | (simp only [go_sem, Nat.reduceBEq, Nat.reduceAdd]; done) | (simp only [go_sem, Nat.reduceBEq, Nat.reduceAdd]; rfl)
      · skip
        rintro ⟨⟩ hj1
        subst x1
        try dsimp only at h
        simp only [Try.St_towncrierlaw08_AttemptOrder_1]
        refine .seq ?_
        obtain ⟨v8, hv8, h⟩ := bind_some h
        refine .reg Try.tmOk Try.tmMixed [1, 4, 5, 6, 13, 14, 16] (by decide +kernel) ?_
        refine .RN 3 (dr := false) (.inr fun _ _ _ h => ⟨nofun, h.2⟩) (by intro q hq; simp only [go_sem, Nat.reduceSub, Int.reduceEq, Nat.reduceLT, Nat.reduceDiv, Nat.reduceAdd, Nat.reduceBEq, Nat.reduceLeDiff, reduceCtorEq, Nat.reduceEqDiff, Nat.reduceMod, appendD, Try.tm_26, TAttempt.d]; exact hq) (by first | rfl | (simp only [go_sem, Nat.reduceLeDiff]; done) | (simp only [go_sem, Nat.reduceLeDiff]; rfl) | (simp; done) | (simp [oneD] <;> omega) | (simp_all; done) | (simp_all [oneD] <;> omega)) (by first | exact Nat.le_refl _ | exact Nat.le_of_ble_eq_true rfl | (dsimp only; omega) | (simp <;> omega)) ?_
        refine .ncall (r := .tuple [.agg [.int .u8 v8.1.Phase, .int .i64 v8.1.Ballot, .ref 122 1 0 v8.1.Members.length (some unkC), .str v8.1.Wish, .str v8.1.Value, .ref 123 3 0 v8.1.Promises.length (some unkC), .ref 124 1 0 v8.1.Accepted.length (some unkC)], .int .i64 v8.2]) (eff := [(122, some (.arr 3 1 true (v8.1.Members.map (D.int .i64)))), (123, some (.arr 31 3 true (v8.1.Promises.map TPromise.d))), (124, some (.arr 3 1 true (v8.1.Accepted.map (D.int .i64))))]) (nw := (122, 158)) [] rfl rfl rfl rfl rfl (lend2s_cons rfl (lend2s_cons rfl (lend2s_cons rfl lend2s_nil))) rfl (callH_at 122 (Nat.le_of_ble_eq_true rfl) (callH_attempt_Accepted a0 a1 a4 v8 hv8)) (newE_cons rfl rfl (newB_arr pl0_i64 _ _ _) (newE_cons rfl rfl (newB_arr pl0_TPromise _ _ _) (newE_cons rfl rfl (newB_arr pl0_i64 _ _ _) newE_nil))) (by intro i hi; simp [D.ids, D.idsL] at hi; omega) rfl ⟨Nat.le_of_ble_eq_true rfl, Nat.le_of_ble_eq_true rfl⟩ ?_
        refine .RN 5 (dr := false) (.inr fun _ _ _ h => ⟨nofun, h.2⟩) (by intro q hq; simp only [go_sem, Nat.reduceSub, Int.reduceEq, Nat.reduceLT, Nat.reduceDiv, Nat.reduceAdd, Nat.reduceBEq, Nat.reduceLeDiff, reduceCtorEq, Nat.reduceEqDiff, Nat.reduceMod, appendD, Try.tm_26, TAttempt.d]; exact hq) (by first | rfl | (simp only [go_sem, Nat.reduceLeDiff]; done) | (simp only [go_sem, Nat.reduceLeDiff]; rfl) | (simp; done) | (simp [oneD] <;> omega) | (simp_all; done) | (simp_all [oneD] <;> omega)) (by first | exact Nat.le_refl _ | exact Nat.le_of_ble_eq_true rfl | (dsimp only; omega) | (simp <;> omega)) ?_
        refine .nil ⟨nofun, ?_⟩
        refine .seq ?_
        obtain ⟨v9, hv9, h⟩ := bind_some h
        refine .reg Try.tmOk Try.tmMixed [1, 4, 5, 6, 13, 14, 15, 16] (by decide +kernel) ?_
        refine .RN 3 (dr := false) (.inr fun _ _ _ h => ⟨nofun, h.2⟩) (by intro q hq; simp only [go_sem, Nat.reduceSub, Int.reduceEq, Nat.reduceLT, Nat.reduceDiv, Nat.reduceAdd, Nat.reduceBEq, Nat.reduceLeDiff, reduceCtorEq, Nat.reduceEqDiff, Nat.reduceMod, appendD, Try.tm_26, TAttempt.d]; exact hq) (by first | rfl | (simp only [go_sem, Nat.reduceLeDiff]; done) | (simp only [go_sem, Nat.reduceLeDiff]; rfl) | (simp; done) | (simp [oneD] <;> omega) | (simp_all; done) | (simp_all [oneD] <;> omega)) (by first | exact Nat.le_refl _ | exact Nat.le_of_ble_eq_true rfl | (dsimp only; omega) | (simp <;> omega)) ?_
        refine .ncall (r := .tuple [.agg [.int .u8 v9.1.Phase, .int .i64 v9.1.Ballot, .ref 158 1 0 v9.1.Members.length (some unkC), .str v9.1.Wish, .str v9.1.Value, .ref 159 3 0 v9.1.Promises.length (some unkC), .ref 160 1 0 v9.1.Accepted.length (some unkC)], .int .i64 v9.2]) (eff := [(158, some (.arr 3 1 true (v9.1.Members.map (D.int .i64)))), (159, some (.arr 31 3 true (v9.1.Promises.map TPromise.d))), (160, some (.arr 3 1 true (v9.1.Accepted.map (D.int .i64))))]) (nw := (158, 194)) [] rfl rfl rfl rfl rfl (lend2s_cons rfl (lend2s_cons rfl (lend2s_cons rfl lend2s_nil))) rfl (callH_at 158 (Nat.le_of_ble_eq_true rfl) (callH_attempt_Accepted a0 a1 a5 v9 hv9)) (newE_cons rfl rfl (newB_arr pl0_i64 _ _ _) (newE_cons rfl rfl (newB_arr pl0_TPromise _ _ _) (newE_cons rfl rfl (newB_arr pl0_i64 _ _ _) newE_nil))) (by intro i hi; simp [D.ids, D.idsL] at hi; omega) rfl ⟨Nat.le_of_ble_eq_true rfl, Nat.le_of_ble_eq_true rfl⟩ ?_
        refine .RN 5 (dr := false) (.inr fun _ _ _ h => ⟨nofun, h.2⟩) (by intro q hq; simp only [go_sem, Nat.reduceSub, Int.reduceEq, Nat.reduceLT, Nat.reduceDiv, Nat.reduceAdd, Nat.reduceBEq, Nat.reduceLeDiff, reduceCtorEq, Nat.reduceEqDiff, Nat.reduceMod, appendD, Try.tm_26, TAttempt.d]; exact hq) (by first | rfl | (simp only [go_sem, Nat.reduceLeDiff]; done) | (simp only [go_sem, Nat.reduceLeDiff]; rfl) | (simp; done) | (simp [oneD] <;> omega) | (simp_all; done) | (simp_all [oneD] <;> omega)) (by first | exact Nat.le_refl _ | exact Nat.le_of_ble_eq_true rfl | (dsimp only; omega) | (simp <;> omega)) ?_
        refine .nil ⟨nofun, ?_⟩
        refine .seq ?_
        refine .seq ?_
        refine .plain Try.tmOk Try.tmMixed [1, 4, 5, 13, 14, 15, 16, 17] (by decide +kernel) (by intro q hq; simp only [go_sem, Nat.reduceSub, Int.reduceEq, Nat.reduceLT, Nat.reduceDiv, Nat.reduceAdd, Nat.reduceBEq, Nat.reduceLeDiff, reduceCtorEq, Nat.reduceEqDiff, Nat.reduceMod, appendD, Try.tm_27]; exact hq) (by first | rfl | (simp only [go_sem, Nat.reduceLeDiff]; done) | (simp only [go_sem, Nat.reduceLeDiff]; rfl) | (simp; done) | (simp [oneD] <;> omega) | (simp_all; done) | (simp_all [oneD] <;> omega)) (by first | exact Nat.le_refl _ | exact Nat.le_of_ble_eq_true rfl | (dsimp only; omega) | (simp <;> omega)) ?_
        refine .cond rfl rfl (fun hc5 => ?_) (fun hc5 => ?_)
        · skip
          replace h := ite_l h (by first | simpa using hc5 | (simp at hc5 ⊢; omega) | (simp at hc5 ⊢; grind) | grind)
          refine .seq ?_
          refine .plain Try.tmOk Try.tmMixed [13] (by decide +kernel) (by intro q hq; simp only [go_sem, Nat.reduceSub, Int.reduceEq, Nat.reduceLT, Nat.reduceDiv, Nat.reduceAdd, Nat.reduceBEq, Nat.reduceLeDiff, reduceCtorEq, Nat.reduceEqDiff, Nat.reduceMod, appendD]; exact hq) (by first | rfl | (simp only [go_sem, Nat.reduceLeDiff]; done) | (simp only [go_sem, Nat.reduceLeDiff]; rfl) | (simp; done) | (simp [oneD] <;> omega) | (simp_all; done) | (simp_all [oneD] <;> omega)) (by first | exact Nat.le_refl _ | exact Nat.le_of_ble_eq_true rfl | (dsimp only; omega) | (simp <;> omega)) ?_
          have hq := Option.some.inj h
          subst r
          refine .ret ⟨.inr rfl, ResIs.to ?_⟩
          simp only [ResIs, resL, resD, resT, go_sem, Nat.reduceSub, Int.reduceEq, Nat.reduceLT, Nat.reduceDiv, Nat.reduceAdd, Nat.reduceBEq, Nat.reduceLeDiff, reduceCtorEq, Nat.reduceEqDiff, Nat.reduceMod, Try.f6, Try.tm_4]
        · skip
          replace h := ite_r h (by first | simpa using hc5 | (simp at hc5 ⊢; omega) | (simp at hc5 ⊢; grind) | grind)
          refine .skip ?_
          refine .seq ?_
          obtain ⟨v10, hv10, h⟩ := bind_some h
          refine .reg Try.tmOk Try.tmMixed [1, 4, 5, 13, 14, 16] (by decide +kernel) ?_
          refine .RN 3 (dr := false) (.inr fun _ _ _ h => ⟨nofun, h.2⟩) (by intro q hq; simp only [go_sem, Nat.reduceSub, Int.reduceEq, Nat.reduceLT, Nat.reduceDiv, Nat.reduceAdd, Nat.reduceBEq, Nat.reduceLeDiff, reduceCtorEq, Nat.reduceEqDiff, Nat.reduceMod, appendD, Try.tm_26, TAttempt.d]; exact hq) (by first | rfl | (simp only [go_sem, Nat.reduceLeDiff]; done) | (simp only [go_sem, Nat.reduceLeDiff]; rfl) | (simp; done) | (simp [oneD] <;> omega) | (simp_all; done) | (simp_all [oneD] <;> omega)) (by first | exact Nat.le_refl _ | exact Nat.le_of_ble_eq_true rfl | (dsimp only; omega) | (simp <;> omega)) ?_
          refine .ncall (r := .tuple [.agg [.int .u8 v10.1.Phase, .int .i64 v10.1.Ballot, .ref 194 1 0 v10.1.Members.length (some unkC), .str v10.1.Wish, .str v10.1.Value, .ref 195 3 0 v10.1.Promises.length (some unkC), .ref 196 1 0 v10.1.Accepted.length (some unkC)], .int .i64 v10.2]) (eff := [(194, some (.arr 3 1 true (v10.1.Members.map (D.int .i64)))), (195, some (.arr 31 3 true (v10.1.Promises.map TPromise.d))), (196, some (.arr 3 1 true (v10.1.Accepted.map (D.int .i64))))]) (nw := (194, 230)) [] rfl rfl rfl rfl rfl (lend2s_cons (lend2_of (lend_agg (lends_cons rfl (lends_cons rfl (lends_cons (lend_ref (pl_int .i64) (by first | rfl | (simp only [go_sem, Nat.reduceBEq]; rfl)) (by first | rfl | (simp; done) | (simp <;> omega))) (lends_cons rfl (lends_cons rfl (lends_cons (lend_ref pl_TPromise (by first | rfl | (simp only [go_sem, Nat.reduceBEq]; rfl)) (by first | rfl | (simp; done) | (simp <;> omega))) (lends_cons (lend_ref (pl_int .i64) (by first | rfl | (simp only [go_sem, Nat.reduceBEq]; rfl)) (by first | rfl | (simp; done) | (simp <;> omega))) lends_nil)))))))) trivial) (lend2s_cons rfl (lend2s_cons rfl lend2s_nil))) rfl (callH_at 194 (Nat.le_of_ble_eq_true rfl) (callH_attempt_Accepted v8.1 a1 a5 v10 hv10)) (newE_cons rfl rfl (newB_arr pl0_i64 _ _ _) (newE_cons rfl rfl (newB_arr pl0_TPromise _ _ _) (newE_cons rfl rfl (newB_arr pl0_i64 _ _ _) newE_nil))) (by intro i hi; simp [D.ids, D.idsL] at hi; omega) rfl ⟨Nat.le_of_ble_eq_true rfl, Nat.le_of_ble_eq_true rfl⟩ ?_
          refine .RN 6 (dr := false) (.inr fun _ _ _ h => ⟨nofun, h.2⟩) (by intro q hq; simp only [go_sem, Nat.reduceSub, Int.reduceEq, Nat.reduceLT, Nat.reduceDiv, Nat.reduceAdd, Nat.reduceBEq, Nat.reduceLeDiff, reduceCtorEq, Nat.reduceEqDiff, Nat.reduceMod, appendD, Try.tm_26, TAttempt.d]; exact hq) (by first | rfl | (simp only [go_sem, Nat.reduceLeDiff]; done) | (simp only [go_sem, Nat.reduceLeDiff]; rfl) | (simp; done) | (simp [oneD] <;> omega) | (simp_all; done) | (simp_all [oneD] <;> omega)) (by first | exact Nat.le_refl _ | exact Nat.le_of_ble_eq_true rfl | (dsimp only; omega) | (simp <;> omega)) ?_
          refine .nil ⟨nofun, ?_⟩
          refine .seq ?_
          obtain ⟨v11, hv11, h⟩ := bind_some h
          refine .reg Try.tmOk Try.tmMixed [1, 4, 13, 16, 22, 23] (by decide +kernel) ?_
          refine .RN 3 (dr := false) (.inr fun _ _ _ h => ⟨nofun, h.2⟩) (by intro q hq; simp only [go_sem, Nat.reduceSub, Int.reduceEq, Nat.reduceLT, Nat.reduceDiv, Nat.reduceAdd, Nat.reduceBEq, Nat.reduceLeDiff, reduceCtorEq, Nat.reduceEqDiff, Nat.reduceMod, appendD, Try.tm_26, TAttempt.d]; exact hq) (by first | rfl | (simp only [go_sem, Nat.reduceLeDiff]; done) | (simp only [go_sem, Nat.reduceLeDiff]; rfl) | (simp; done) | (simp [oneD] <;> omega) | (simp_all; done) | (simp_all [oneD] <;> omega)) (by first | exact Nat.le_refl _ | exact Nat.le_of_ble_eq_true rfl | (dsimp only; omega) | (simp <;> omega)) ?_
          refine .ncall (r := .tuple [.agg [.int .u8 v11.1.Phase, .int .i64 v11.1.Ballot, .ref 231 1 0 v11.1.Members.length (some unkC), .str v11.1.Wish, .str v11.1.Value, .ref 232 3 0 v11.1.Promises.length (some unkC), .ref 233 1 0 v11.1.Accepted.length (some unkC)], .int .i64 v11.2]) (eff := [(231, some (.arr 3 1 true (v11.1.Members.map (D.int .i64)))), (232, some (.arr 31 3 true (v11.1.Promises.map TPromise.d))), (233, some (.arr 3 1 true (v11.1.Accepted.map (D.int .i64))))]) (nw := (231, 267)) [] rfl rfl rfl rfl rfl (lend2s_cons (lend2_of (lend_agg (lends_cons rfl (lends_cons rfl (lends_cons (lend_ref (pl_int .i64) (by first | rfl | (simp only [go_sem, Nat.reduceBEq]; rfl)) (by first | rfl | (simp; done) | (simp <;> omega))) (lends_cons rfl (lends_cons rfl (lends_cons (lend_ref pl_TPromise (by first | rfl | (simp only [go_sem, Nat.reduceBEq]; rfl)) (by first | rfl | (simp; done) | (simp <;> omega))) (lends_cons (lend_ref (pl_int .i64) (by first | rfl | (simp only [go_sem, Nat.reduceBEq]; rfl)) (by first | rfl | (simp; done) | (simp <;> omega))) lends_nil)))))))) trivial) (lend2s_cons rfl (lend2s_cons rfl lend2s_nil))) rfl (callH_at 231 (Nat.le_of_ble_eq_true rfl) (callH_attempt_Accepted v9.1 a1 a4 v11 hv11)) (newE_cons rfl rfl (newB_arr pl0_i64 _ _ _) (newE_cons rfl rfl (newB_arr pl0_TPromise _ _ _) (newE_cons rfl rfl (newB_arr pl0_i64 _ _ _) newE_nil))) (by intro i hi; simp [D.ids, D.idsL] at hi; omega) rfl ⟨Nat.le_of_ble_eq_true rfl, Nat.le_of_ble_eq_true rfl⟩ ?_
          refine .RN 6 (dr := false) (.inr fun _ _ _ h => ⟨nofun, h.2⟩) (by intro q hq; simp only [go_sem, Nat.reduceSub, Int.reduceEq, Nat.reduceLT, Nat.reduceDiv, Nat.reduceAdd, Nat.reduceBEq, Nat.reduceLeDiff, reduceCtorEq, Nat.reduceEqDiff, Nat.reduceMod, appendD, Try.tm_26, TAttempt.d]; exact hq) (by first | rfl | (simp only [go_sem, Nat.reduceLeDiff]; done) | (simp only [go_sem, Nat.reduceLeDiff]; rfl) | (simp; done) | (simp [oneD] <;> omega) | (simp_all; done) | (simp_all [oneD] <;> omega)) (by first | exact Nat.le_refl _ | exact Nat.le_of_ble_eq_true rfl | (dsimp only; omega) | (simp <;> omega)) ?_
          refine .nil ⟨nofun, ?_⟩
          refine .seq ?_
          obtain ⟨v12, hv12, h⟩ := bind_some h
          refine .reg Try.tmOk Try.tmMixed [13, 22, 23, 24, 25] (by decide +kernel) ?_
          refine .RN 6 (dr := false) (.inr fun _ _ _ h => ⟨nofun, h.2⟩) (by intro q hq; simp only [go_sem, Nat.reduceSub, Int.reduceEq, Nat.reduceLT, Nat.reduceDiv, Nat.reduceAdd, Nat.reduceBEq, Nat.reduceLeDiff, reduceCtorEq, Nat.reduceEqDiff, Nat.reduceMod, appendD, Try.tm_27, TAttempt.d]; exact hq) (by first | rfl | (simp only [go_sem, Nat.reduceLeDiff]; done) | (simp only [go_sem, Nat.reduceLeDiff]; rfl) | (simp; done) | (simp [oneD] <;> omega) | (simp_all; done) | (simp_all [oneD] <;> omega)) (by first | exact Nat.le_refl _ | exact Nat.le_of_ble_eq_true rfl | (dsimp only; omega) | (simp <;> omega)) ?_
          refine .RN 6 (dr := false) (.inr fun _ _ _ h => ⟨nofun, h.2⟩) (by intro q hq; simp only [go_sem, Nat.reduceSub, Int.reduceEq, Nat.reduceLT, Nat.reduceDiv, Nat.reduceAdd, Nat.reduceBEq, Nat.reduceLeDiff, reduceCtorEq, Nat.reduceEqDiff, Nat.reduceMod, appendD, Try.tm_26, Try.tm_27, TAttempt.d]; exact hq) (by first | rfl | (simp only [go_sem, Nat.reduceLeDiff]; done) | (simp only [go_sem, Nat.reduceLeDiff]; rfl) | (simp; done) | (simp [oneD] <;> omega) | (simp_all; done) | (simp_all [oneD] <;> omega)) (by first | exact Nat.le_refl _ | exact Nat.le_of_ble_eq_true rfl | (dsimp only; omega) | (simp <;> omega)) ?_
          refine .glcall (r := .bool v12) [] rfl rfl rfl rfl rfl (fun hg => ⟨[], [.agg [.int .u8 v10.1.Phase, .int .i64 v10.1.Ballot, .ref 194 1 0 v10.1.Members.length (some unkC), .str v10.1.Wish, .str v10.1.Value, .ref 195 3 0 v10.1.Promises.length (some unkC), .ref 196 1 0 v10.1.Accepted.length (some unkC)], .agg [.int .u8 v11.1.Phase, .int .i64 v11.1.Ballot, .ref 231 1 0 v11.1.Members.length (some unkC), .str v11.1.Wish, .str v11.1.Value, .ref 232 3 0 v11.1.Promises.length (some unkC), .ref 233 1 0 v11.1.Accepted.length (some unkC)]], _, rfl, (by first | (simp only [opds, opd, ev, ofVal, getR, getL, Nat.beq, cond_true, cond_false, Bool.not_true, Bool.false_or, Bool.and_true, Bool.true_and, Prod.mk.injEq, true_and]; done) | (simp only [opds, opd, ev, ofVal, getR, getL, Nat.beq, cond_true, cond_false, Bool.not_true, Bool.false_or, Bool.and_true, Bool.true_and, Prod.mk.injEq, true_and]; first | exact hg | simpa using hg | (simp at hg ⊢; grind)) | rfl), (lend2s_cons (lend2_of (lend_agg (lends_cons rfl (lends_cons rfl (lends_cons (lend_ref (pl_int .i64) (by first | rfl | (simp only [go_sem, Nat.reduceBEq]; rfl)) (by first | rfl | (simp; done) | (simp <;> omega))) (lends_cons rfl (lends_cons rfl (lends_cons (lend_ref pl_TPromise (by first | rfl | (simp only [go_sem, Nat.reduceBEq]; rfl)) (by first | rfl | (simp; done) | (simp <;> omega))) (lends_cons (lend_ref (pl_int .i64) (by first | rfl | (simp only [go_sem, Nat.reduceBEq]; rfl)) (by first | rfl | (simp; done) | (simp <;> omega))) lends_nil)))))))) trivial) (lend2s_cons (lend2_of (lend_agg (lends_cons rfl (lends_cons rfl (lends_cons (lend_ref (pl_int .i64) (by first | rfl | (simp only [go_sem, Nat.reduceBEq]; rfl)) (by first | rfl | (simp; done) | (simp <;> omega))) (lends_cons rfl (lends_cons rfl (lends_cons (lend_ref pl_TPromise (by first | rfl | (simp only [go_sem, Nat.reduceBEq]; rfl)) (by first | rfl | (simp; done) | (simp <;> omega))) (lends_cons (lend_ref (pl_int .i64) (by first | rfl | (simp only [go_sem, Nat.reduceBEq]; rfl)) (by first | rfl | (simp; done) | (simp <;> omega))) lends_nil)))))))) trivial) lend2s_nil)), rfl, (callP_towncrierref08_Same v10.1 v11.1 v12 (ite_l hv12 (by first | simpa using hg | (simp at hg ⊢; omega) | (simp at hg ⊢; grind) | grind)))⟩) ?_
          refine .RN 2 (dr := false) (.inr fun _ _ _ h => ⟨nofun, h.2⟩) (by intro q hq; simp only [go_sem, Nat.reduceSub, Int.reduceEq, Nat.reduceLT, Nat.reduceDiv, Nat.reduceAdd, Nat.reduceBEq, Nat.reduceLeDiff, reduceCtorEq, Nat.reduceEqDiff, Nat.reduceMod, appendD, TAttempt.d]; exact hq) (by first | rfl | (simp only [go_sem, Nat.reduceLeDiff]; done) | (simp only [go_sem, Nat.reduceLeDiff]; rfl) | (simp; done) | (simp [oneD] <;> omega) | (simp_all; done) | (simp_all [oneD] <;> omega)) (by first | exact Nat.le_refl _ | exact Nat.le_of_ble_eq_true rfl | (dsimp only; omega) | (simp <;> omega)) ?_
          refine .nil ⟨nofun, ?_⟩
          have hq := Option.some.inj h
          subst r
          refine .ret ⟨.inr rfl, ResIs.to ?_⟩
          simp only [ResIs, resL, resD, resT, go_sem, Nat.reduceSub, Int.reduceEq, Nat.reduceLT, Nat.reduceDiv, Nat.reduceAdd, Nat.reduceBEq, Nat.reduceLeDiff, reduceCtorEq, Nat.reduceEqDiff, Nat.reduceMod, Try.f6, Try.tm_4]
end Go.Proofs
end
section
/- What the bits of two quorums tell, in plain words. -/

namespace Go.Proofs
open Go.Tm

/-- rising lists of numbers up to 5, from behind a number on -/
def risesP : Int → List Int → Bool
  | _, [] => true
  | last, n :: r => decide (last < n) && decide (n < 6) && risesP n r
def gen : Nat → Int → List (List Int)
  | 0, _ => [[]]
  | f + 1, lo => gen f (lo + 1) ++ (gen f (lo + 1)).map fun r => (lo + 1) :: r

theorem nil_gen : ∀ (f : Nat) (lo : Int), [] ∈ gen f lo
  | 0, _ => by simp [gen]
  | f + 1, lo => by simp only [gen, List.mem_append]; exact .inl (nil_gen f _)

theorem mem_gen : ∀ (f : Nat) (lo : Int) (l : List Int), 5 - lo ≤ f → risesP lo l = true → l ∈ gen f lo
  | f, lo, [], _, _ => nil_gen f lo
  | 0, lo, x :: r, hf, h => by
    simp only [risesP, Bool.and_eq_true, decide_eq_true_eq] at h
    omega
  | f + 1, lo, x :: r, hf, h => by
    have h' := h
    simp only [risesP, Bool.and_eq_true, decide_eq_true_eq] at h'
    simp only [gen, List.mem_append, List.mem_map]
    by_cases hx : x = lo + 1
    · subst hx
      exact .inr ⟨r, mem_gen f (lo + 1) r (by omega) h'.2, rfl⟩
    · refine .inl (mem_gen f (lo + 1) (x :: r) (by omega) ?_)
      simp only [risesP, Bool.and_eq_true, decide_eq_true_eq]
      exact ⟨⟨by omega, h'.1.2⟩, h'.2⟩

def setB (l : List Int) : Int := l.foldl (fun s n => bif decide (n ≥ 0) && decide (n < 6) then bitw .or .u64 s (shw true .u64 1 n) else s) 0
def hasI (l : List Int) (n : Int) : Bool := l.any fun x => x == n
end Go.Proofs
end
section
/- How many members are among some nodes, by bits, in plain words. -/

namespace Go.Proofs
open Go.Tm

def popI (n : Int) : Int :=
  let a := wr .u64 (bitw .and .u64 (shw false .u64 n 1) 6148914691236517205 + bitw .and .u64 n 6148914691236517205)
  let b := wr .u64 (bitw .and .u64 (shw false .u64 a 2) 3689348814741910323 + bitw .and .u64 a 3689348814741910323)
  let c := bitw .and .u64 (wr .u64 (shw false .u64 b 4 + b)) 1085102592571150095
  let d := wr .u64 (c + shw false .u64 c 8)
  let e := wr .u64 (d + shw false .u64 d 16)
  let f := wr .u64 (e + shw false .u64 e 32)
  bitw .and .i64 (wr .i64 f) 127

def mask (p : Int → Bool) : List Int := [0, 1, 2, 3, 4, 5].filter p

theorem mask_gen (p : Int → Bool) : mask p ∈ gen 6 (-1) := by
  refine mem_gen 6 (-1) _ (by omega) ?_
  unfold mask
  cases h0 : p 0 <;> cases h1 : p 1 <;> cases h2 : p 2 <;> cases h3 : p 3 <;> cases h4 : p 4 <;> cases h5 : p 5 <;> simp [h0, h1, h2, h3, h4, h5, risesP]

def setStep (s n : Int) : Int := bif decide (n ≥ 0) && decide (n < 6) then bitw .or .u64 s (shw true .u64 1 n) else s
theorem setB_snoc (l : List Int) (n : Int) : setB (l ++ [n]) = setStep (setB l) n := by
  unfold setB
  rw [List.foldl_append]
  rfl

theorem step_all : ((gen 6 (-1)).all fun k => [0, 1, 2, 3, 4, 5].all fun n => setStep (setB k) n == setB (mask fun x => hasI k x || x == n)) = true := by decide +kernel
theorem mask_congr {p q : Int → Bool} (h : ∀ x ∈ [(0 : Int), 1, 2, 3, 4, 5], p x = q x) : mask p = mask q := by
  unfold mask
  exact List.filter_congr h

theorem hasI_mask (p : Int → Bool) (x : Int) (hx : x ∈ [(0 : Int), 1, 2, 3, 4, 5]) : hasI (mask p) x = p x := by
  unfold hasI mask
  rw [List.any_filter]
  simp only [List.any_cons, List.any_nil]
  simp only [List.mem_cons, List.not_mem_nil, or_false] at hx
  rcases hx with rfl | rfl | rfl | rfl | rfl | rfl <;> simp

theorem hasI_snoc (l : List Int) (n x : Int) : hasI (l ++ [n]) x = (hasI l x || n == x) := by
  unfold hasI
  simp

theorem setB_mask (l : List Int) : setB l = setB (mask (hasI l)) := by
  generalize hm : l.reverse = r
  have hl : l = r.reverse := by rw [← hm, List.reverse_reverse]
  clear hm
  subst hl
  induction r with
  | nil => decide +kernel
  | cons n r ih =>
    rw [List.reverse_cons, setB_snoc, ih]
    by_cases hn : n ∈ [(0 : Int), 1, 2, 3, 4, 5]
    · have h := List.all_eq_true.1 (List.all_eq_true.1 step_all _ (mask_gen (hasI r.reverse))) n hn
      rw [eq_of_beq h]
      congr 1
      refine mask_congr fun x hx => ?_
      rw [hasI_mask _ x hx, hasI_snoc]
      congr 1
      rw [Bool.eq_iff_iff, beq_iff_eq, beq_iff_eq]
      exact eq_comm
    · have h1 : setStep (setB (mask (hasI r.reverse))) n = setB (mask (hasI r.reverse)) := by
        unfold setStep
        have : (decide (n ≥ 0) && decide (n < 6)) = false := by
          rw [Bool.eq_false_iff]
          intro hh
          simp only [Bool.and_eq_true, decide_eq_true_eq] at hh
          exact hn (by simp only [List.mem_cons, List.not_mem_nil, or_false]; omega)
        rw [this]; rfl
      rw [h1]
      congr 1
      refine mask_congr fun x hx => ?_
      rw [hasI_snoc]
      have : (n == x) = false := by
        rw [Bool.eq_false_iff]
        intro hh
        rw [eq_of_beq hh] at hn
        exact hn hx
      rw [this, Bool.or_false]

theorem pop_all : ((gen 6 (-1)).all fun m => (gen 6 (-1)).all fun k => popI (bitw .and .u64 (setB m) (setB k)) == ((m.filter (hasI k)).length : Int)) = true := by decide +kernel

theorem rises_mem {m : List Int} (hm : risesP (-1) m = true) : ∀ x ∈ m, x ∈ [(0 : Int), 1, 2, 3, 4, 5] := by
  have key : ∀ (l : List Int) (k : Int), risesP k l = true → ∀ x ∈ l, k < x ∧ x < 6 := by
    intro l
    induction l with
    | nil => intro _ _ x hx; cases hx
    | cons y l ih =>
      intro k h x hx
      simp only [risesP, Bool.and_eq_true, decide_eq_true_eq] at h
      rcases List.mem_cons.1 hx with rfl | hx
      · exact h.1
      · have := ih y h.2 x hx
        omega
  intro x hx
  have := key m (-1) hm x hx
  simp only [List.mem_cons, List.not_mem_nil, or_false]
  omega

/-- as many members are among them as the bits tell -/
theorem pop_count {m : List Int} (hm : risesP (-1) m = true) (s : List Int) : popI (bitw .and .u64 (setB m) (setB s)) = ((m.filter (hasI s)).length : Int) := by
  rw [setB_mask s]
  have h := List.all_eq_true.1 (List.all_eq_true.1 pop_all m (mem_gen 6 (-1) m (by omega) hm)) _ (mask_gen (hasI s))
  rw [eq_of_beq h]
  congr 2
  exact List.filter_congr fun x hx => hasI_mask _ x (rises_mem hm x hx)
end Go.Proofs
end
section
/- Plain facts about the models of chapter 08. -/


namespace Go.Proofs
open Go.Tm
set_option linter.unusedSimpArgs false

theorem nodes_loop (l : List TPromise) : ∀ acc : List Int, acc.length + l.length < 1000000 → m_attempt_nodes_loop1 l acc = some (acc ++ l.map TPromise.Node) := by
  induction l with
  | nil => intro acc _; simp [m_attempt_nodes_loop1]
  | cons y l ih =>
    intro acc h
    simp only [List.length_cons] at h
    rw [m_attempt_nodes_loop1, if_pos (by simp; omega), ih _ (by simp; omega)]
    simp
theorem nodes_eq (l : List TPromise) (h : l.length < 1000000) : m_attempt_nodes l = some (l.map TPromise.Node) := by
  rw [m_attempt_nodes, nodes_loop l [] (by simpa using h)]; rfl
def bestS : List TPromise → List UInt8 → Int → List UInt8
  | [], s, _ => s
  | y :: l, s, n => if y.Ballot > n then bestS l y.Value y.Ballot else bestS l s n
theorem best_loop (l : List TPromise) : ∀ s n, m_attempt_Best_loop1 l s n = some (bestS l s n) := by
  induction l with
  | nil => intro s n; rfl
  | cons y l ih =>
    intro s n
    rw [m_attempt_Best_loop1, bestS]
    split <;> simp only [Option.bind_some] <;> exact ih _ _
theorem best_eq (l : List TPromise) (w : List UInt8) : m_attempt_Best l w = some (bestS l w 0) := by
  rw [m_attempt_Best, best_loop]; rfl

theorem index_loop (v : Int) (l : List Int) : ∀ n : Nat, (v ∈ l → ∃ k : Nat, m_slices_Index_int_int_loop1 v l n = some (.inl (k : Int))) ∧ (v ∉ l → m_slices_Index_int_int_loop1 v l n = some (.inr ())) := by
  induction l with
  | nil => intro n; exact ⟨(fun h => by cases h), fun _ => rfl⟩
  | cons y l ih =>
    intro n
    rw [m_slices_Index_int_int_loop1]
    by_cases h : v = y
    · rw [if_pos h]
      exact ⟨fun _ => ⟨n, rfl⟩, fun hn => absurd (h ▸ List.mem_cons_self) hn⟩
    · rw [if_neg h]
      refine ⟨fun hv => (ih (n + 1)).1 ?_, fun hv => (ih (n + 1)).2 fun hh => hv (List.mem_cons_of_mem _ hh)⟩
      rcases List.mem_cons.1 hv with hv | hv
      · exact absurd hv h
      · exact hv
theorem has_eq (l : List Int) (v : Int) : m_quorum_Has l v = some (decide (v ∈ l)) := by
  rw [m_quorum_Has, m_slices_Contains_int_int, m_slices_Index_int_int]
  by_cases h : v ∈ l
  · obtain ⟨k, hk⟩ := (index_loop v l 0).1 h
    rw [hk]
    simp [h]
  · rw [(index_loop v l 0).2 h]
    simp [h]
end Go.Proofs
end
section
/- Plain facts about quorums and ballots. -/

namespace Go.Proofs
open Go.Tm
set_option linter.unusedSimpArgs false

theorem rises_lt : ∀ (l : List Int) (k : Int), risesP k l = true → ∀ x ∈ l, k < x ∧ x < 6 := by
  intro l
  induction l with
  | nil => intro _ _ x hx; cases hx
  | cons y l ih =>
    intro k h x hx
    simp only [risesP, Bool.and_eq_true, decide_eq_true_eq] at h
    rcases List.mem_cons.1 hx with rfl | hx
    · exact h.1
    · have := ih y h.2 x hx
      omega
theorem qcheck_loop (l : List Int) : ∀ n, m_quorum_Check_loop1 l n = some (if risesP n l = true then .inr (l.getLastD n) else .inl 60) := by
  induction l with
  | nil => intro n; simp [m_quorum_Check_loop1, risesP]
  | cons y l ih =>
    intro n
    rw [m_quorum_Check_loop1]
    by_cases h : (y ≤ n) ∨ (y ≥ 6)
    · rw [if_pos h, if_neg (by simp only [risesP, Bool.and_eq_true, decide_eq_true_eq]; omega)]
    · rw [if_neg h, ih]
      have : risesP n (y :: l) = risesP y l := by
        simp only [risesP]
        have h1 : decide (n < y) = true := by simp; omega
        have h2 : decide (y < 6) = true := by simp; omega
        simp [h1, h2]
      rw [this, List.getLastD_cons]
def QOk (l : List Int) : Prop := l.length ≤ 6 ∧ risesP (-1) l = true ∧ l ≠ []
instance (l : List Int) : Decidable (QOk l) := by unfold QOk; infer_instance
theorem qcheck_eq (l : List Int) : m_quorum_Check l = some (if l.length > 6 then 4 else if risesP (-1) l = true ∧ l ≠ [] then 0 else 60) := by
  rw [m_quorum_Check]
  by_cases h : (l.length : Int) > 6
  · rw [if_pos h, if_pos (by omega)]
  · rw [if_neg h, if_neg (by omega), qcheck_loop]
    by_cases hr : risesP (-1) l = true
    · rw [if_pos hr]
      cases l with
      | nil => simp
      | cons y l =>
        have hl := (rises_lt (y :: l) (-1) hr ((y :: l).getLastD (-1)) (by rw [List.getLastD_eq_getLast?, List.getLast?_eq_some_getLast (by simp)]; exact List.getLast_mem (by simp))).1
        simp only [Option.bind_some, ne_eq, reduceCtorEq, not_false_eq_true, and_true, if_pos hr]
        rw [if_neg (by omega)]
    · rw [if_neg hr]
      simp [hr]
theorem qok_iff (l : List Int) : m_quorum_Check l = some 0 ↔ QOk l := by
  rw [qcheck_eq]
  unfold QOk
  by_cases h : l.length > 6
  · rw [if_pos h]; simp; omega
  · rw [if_neg h]
    by_cases h2 : risesP (-1) l = true ∧ l ≠ []
    · rw [if_pos h2]; simp only [true_iff]; exact ⟨by omega, h2⟩
    · rw [if_neg h2]; simp; intro _ h3; exact Classical.byContradiction fun h4 => h2 ⟨h3, h4⟩
end Go.Proofs
end
section
/- Plain facts about ballots, promises and rising lists. -/

namespace Go.Proofs
open Go.Tm
set_option linter.unusedSimpArgs false

/-- may this number be a ballot's? -/
def BOk (b : Int) : Prop := ¬ (wr .i64 (b.tdiv 8) < 1 ∨ wr .i64 (b.tdiv 8) > 1048576) ∧ b.tmod 8 ≥ 0 ∧ b.tmod 8 < 6
instance (b : Int) : Decidable (BOk b) := by unfold BOk; infer_instance
theorem bcheck_eq (b : Int) : m_ballot_Check b = some (if BOk b then 0 else 50) := by
  rw [m_ballot_Check, m_ballot_Of, m_ballot_node]
  unfold BOk
  by_cases h : wr .i64 (b.tdiv 8) < 1 ∨ wr .i64 (b.tdiv 8) > 1048576
  · simp [h]
  · by_cases h1 : b.tmod 8 ≥ 0 <;> by_cases h2 : b.tmod 8 < 6 <;> simp [h, h1, h2]
/-- may this be promised to a ballot? -/
def MayS (p : TPromise) (b : Int) : Prop := if p.Ballot = 0 then p.Value = [] else BOk p.Ballot ∧ p.Ballot < b ∧ p.Value.length ≤ 1024
instance (p : TPromise) (b : Int) : Decidable (MayS p b) := by unfold MayS; infer_instance
theorem may_eq (p : TPromise) (b : Int) : m_attempt_may p b = some (decide (MayS p b)) := by
  rw [m_attempt_may, bcheck_eq]
  by_cases h : p.Ballot = 0
  · have e : MayS p b ↔ p.Value = [] := by unfold MayS; rw [if_pos h]
    have e2 : decide (MayS p b) = decide (p.Value = []) := decide_eq_decide.2 e
    rw [if_pos h, e2]
    congr 1
    rw [Bool.eq_iff_iff]
    simp
  · have e : MayS p b ↔ (BOk p.Ballot ∧ p.Ballot < b ∧ p.Value.length ≤ 1024) := by unfold MayS; rw [if_neg h]
    have e2 : decide (MayS p b) = decide (BOk p.Ballot ∧ p.Ballot < b ∧ p.Value.length ≤ 1024) := decide_eq_decide.2 e
    rw [if_neg h, e2]
    by_cases h1 : BOk p.Ballot <;> simp [h1]
    rw [Bool.eq_iff_iff]
    simp
    intro _
    omega
end Go.Proofs
end
section
/- Plain facts about rising lists among members. -/

namespace Go.Proofs
open Go.Tm
set_option linter.unusedSimpArgs false

/-- rising, all of them members, from behind a number on -/
def riseS (m : List Int) : Option Int → List Int → Bool
  | _, [] => true
  | k, y :: l => (match k with | none => true | some k => decide (k < y)) && decide (y ∈ m) && riseS m (some y) l
theorem rising_loop (m a0 : List Int) : ∀ (l : List Int) (n : Nat), a0.drop n = l → m_attempt_rising_loop1 a0 m l n = some (if riseS m (if n = 0 then none else some (a0.getD (n - 1) default)) l = true then .inr () else .inl false) := by
  intro l
  induction l with
  | nil => intro n _; simp [m_attempt_rising_loop1, riseS]
  | cons y l ih =>
    intro n h
    have hn : n < a0.length := by
      rcases Nat.lt_or_ge n a0.length with h1 | h1
      · exact h1
      · rw [List.drop_eq_nil_of_le h1] at h; cases h
    have hy : a0.getD n default = y := by
      have := List.drop_eq_getElem_cons hn
      rw [h] at this
      simp only [List.cons.injEq] at this
      simp [List.getD, List.getElem?_eq_getElem hn, this.1]
    have hl : a0.drop (n + 1) = l := by
      have := List.drop_eq_getElem_cons hn
      rw [h] at this
      simp only [List.cons.injEq] at this
      exact this.2.symm
    rw [m_attempt_rising_loop1, has_eq]
    have key := ih (n + 1) hl
    rw [if_neg (show ¬ (n + 1 = 0) by omega), show n + 1 - 1 = n from rfl, hy] at key
    by_cases h0 : n = 0
    · subst h0
      by_cases hm : y ∈ m
      · simp [hm, key, riseS]
      · simp [hm, riseS]
    · have hp : (n : Int) > 0 := by omega
      rw [if_neg h0]
      generalize a0.getD (n - 1) default = z
      by_cases hle : y ≤ z
      · have : ¬ (z < y) := by omega
        have hn0 : 0 < n := by omega
        simp [hle, riseS, this, h0, hn0]
      · have : z < y := by omega
        by_cases hm : y ∈ m
        · simp [hle, riseS, this, hm, key]
        · simp [hle, riseS, this, hm]
theorem rising_eq (l m : List Int) : m_attempt_rising l m = some (riseS m none l) := by
  rw [m_attempt_rising, rising_loop m l l 0 (by simp)]
  rw [if_pos rfl]
  cases h : riseS m none l <;> simp
end Go.Proofs
end
section
/- Plain facts about majorities. -/

namespace Go.Proofs
open Go.Tm
set_option linter.unusedSimpArgs false

theorem set_loop (l : List Int) : ∀ s, m_quorum_set_loop1 l s = some (l.foldl (fun s n => bif decide (n ≥ 0) && decide (n < 6) then bitw .or .u64 s (shw true .u64 1 n) else s) s) := by
  induction l with
  | nil => intro s; rfl
  | cons y l ih =>
    intro s
    rw [m_quorum_set_loop1, List.foldl_cons]
    by_cases h0 : y ≥ 0
    · by_cases h6 : y < 6
      · have : 0 ≤ y := h0
        simp [h0, h6, this, ih]
      · simp [h0, h6, ih]
    · simp [h0, ih]
theorem set_eq (l : List Int) : m_quorum_set l = some (setB l) := by
  rw [m_quorum_set, set_loop]; rfl
theorem ones_eq (n : Int) : m_math_bits_OnesCount n = some (popI n) := by
  rw [m_math_bits_OnesCount, m_math_bits_OnesCount64]
  rfl
/-- as many members as a majority needs -/
def mostS (m l : List Int) : Bool := decide (((m.filter (hasI l)).length : Int) ≥ (m.length / 2 + 1 : Nat))
theorem most_eq (m l : List Int) (hm : QOk m) (hl : l.length ≤ 1000) : m_quorum_Most m l = some (mostS m l, 0) := by
  have hn : wr .i64 (wr .i64 ((m.length : Int).tdiv 2) + 1) = ((m.length / 2 + 1 : Nat) : Int) := by
    have h6 := hm.1
    generalize m.length = k at h6
    match k, h6 with
    | 0, _ => decide +kernel
    | 1, _ => decide +kernel
    | 2, _ => decide +kernel
    | 3, _ => decide +kernel
    | 4, _ => decide +kernel
    | 5, _ => decide +kernel
    | 6, _ => decide +kernel
    | k + 7, h => omega
  rw [m_quorum_Most, m_quorum_Need, (qok_iff m).2 hm]
  simp only [Option.bind_some, not_true_eq_false, if_false, hn]
  rw [if_neg (by omega), set_eq, set_eq]
  simp only [Option.bind_some, ones_eq, pop_count hm.2.1 l]
  rfl
end Go.Proofs
end
section
/- Plain facts about valid attempts. -/

namespace Go.Proofs
open Go.Tm
set_option linter.unusedSimpArgs false

theorem indexFunc_loop (f : TPromise → Option Bool) (g : TPromise → Bool) (hf : ∀ x, f x = some (g x)) (l : List TPromise) : ∀ n : Nat, (l.any g = true → ∃ k : Nat, m_slices_IndexFunc_Promise_Promise_loop1 f l n = some (.inl (k : Int))) ∧ (l.any g = false → m_slices_IndexFunc_Promise_Promise_loop1 f l n = some (.inr ())) := by
  induction l with
  | nil => intro n; exact ⟨(fun h => by cases h), fun _ => rfl⟩
  | cons y l ih =>
    intro n
    rw [m_slices_IndexFunc_Promise_Promise_loop1, hf, List.any_cons]
    cases hg : g y with
    | true => exact ⟨fun _ => ⟨n, by simp⟩, fun h => by cases h⟩
    | false => simpa using ih (n + 1)
theorem containsFunc_eq (f : TPromise → Option Bool) (g : TPromise → Bool) (hf : ∀ x, f x = some (g x)) (l : List TPromise) : m_slices_ContainsFunc_Promise_Promise l f = some (l.any g) := by
  rw [m_slices_ContainsFunc_Promise_Promise, m_slices_IndexFunc_Promise_Promise]
  cases h : l.any g with
  | true => obtain ⟨k, hk⟩ := (indexFunc_loop f g hf l 0).1 h; rw [hk]; simp
  | false => rw [(indexFunc_loop f g hf l 0).2 h]; simp

theorem equal_loop (b : List Int) : ∀ (l : List Int) (n : Nat), n + l.length = b.length → m_slices_Equal_int_int_loop1 b l n = some (if l = b.drop n then .inr () else .inl false) := by
  intro l
  induction l with
  | nil => intro n h; simp [m_slices_Equal_int_int_loop1]; simp at h; omega
  | cons y l ih =>
    intro n h
    simp only [List.length_cons] at h
    have hn : n < b.length := by omega
    have hg : b.getD n default = b[n] := by simp [List.getD, List.getElem?_eq_getElem hn]
    have hd := List.drop_eq_getElem_cons hn
    rw [m_slices_Equal_int_int_loop1, if_pos hn, hg]
    generalize b[n] = z at hd
    rw [hd]
    by_cases hy : y = z
    · rw [if_neg (by simpa using hy), ih (n + 1) (by omega)]
      simp only [hy, List.cons.injEq, true_and]
    · rw [if_pos hy]
      simp only [hy, List.cons.injEq, false_and, if_false]
theorem equal_eq (a b : List Int) : m_slices_Equal_int_int a b = some (decide (a = b)) := by
  rw [m_slices_Equal_int_int]
  by_cases h : (a.length : Int) = (b.length : Int)
  · rw [if_neg (by simpa using h), equal_loop b a 0 (by omega), List.drop_zero]
    by_cases hab : a = b <;> simp [hab]
  · rw [if_pos h]
    have : a ≠ b := fun hh => h (by rw [hh])
    simp [this]

theorem equalP_loop (b : List TPromise) : ∀ (l : List TPromise) (n : Nat), n + l.length = b.length → m_slices_Equal_Promise_Promise_loop1 b l n = some (if l = b.drop n then .inr () else .inl false) := by
  intro l
  induction l with
  | nil => intro n h; simp [m_slices_Equal_Promise_Promise_loop1]; simp at h; omega
  | cons y l ih =>
    intro n h
    simp only [List.length_cons] at h
    have hn : n < b.length := by omega
    have hg : b.getD n default = b[n] := by simp [List.getD, List.getElem?_eq_getElem hn]
    have hd := List.drop_eq_getElem_cons hn
    rw [m_slices_Equal_Promise_Promise_loop1, if_pos hn, hg]
    generalize b[n] = z at hd
    rw [hd]
    have e : (y.Node = z.Node ∧ y.Ballot = z.Ballot ∧ y.Value = z.Value) ↔ y = z := by cases y; cases z; simp
    by_cases hy : y = z
    · rw [if_neg (by simpa using e.2 hy), ih (n + 1) (by omega)]
      simp only [hy, List.cons.injEq, true_and]
    · rw [if_pos (fun hh => hy (e.1 hh))]
      simp only [hy, List.cons.injEq, false_and, if_false]
theorem equalP_eq (a b : List TPromise) : m_slices_Equal_Promise_Promise a b = some (decide (a = b)) := by
  rw [m_slices_Equal_Promise_Promise]
  by_cases h : (a.length : Int) = (b.length : Int)
  · rw [if_neg (by simpa using h), equalP_loop b a 0 (by omega), List.drop_zero]
    by_cases hab : a = b <;> simp [hab]
  · rw [if_pos h]
    have : a ≠ b := fun hh => h (by rw [hh])
    simp [this]
theorem same_eq (a b : TAttempt) : m_attempt_Same a b = some (decide (a = b)) := by
  obtain ⟨p, bl, m, w, v, pr, ac⟩ := a
  obtain ⟨p', bl', m', w', v', pr', ac'⟩ := b
  simp only [m_attempt_Same, equal_eq, equalP_eq, TAttempt.mk.injEq]
  by_cases h1 : p = p' <;> by_cases h2 : bl = bl' <;> by_cases h3 : m = m' <;> by_cases h4 : w = w' <;> by_cases h5 : v = v' <;> by_cases h6 : pr = pr' <;> simp [h1, h2, h3, h4, h5, h6]
end Go.Proofs
end
section
/- Plain facts about valid attempts: what attempt.Check tells. -/

namespace Go.Proofs
open Go.Tm
set_option linter.unusedSimpArgs false

/-- what every begun attempt keeps -/
structure Kept (a : TAttempt) : Prop where
  ballot : BOk a.Ballot
  members : QOk a.Members
  wish : a.Wish.length ≤ 1024
  nodes : riseS a.Members none (a.Promises.map TPromise.Node) = true
  accepted : riseS a.Members none a.Accepted = true
  may : ∀ p ∈ a.Promises, MayS p a.Ballot
  most : mostS a.Members (a.Promises.map TPromise.Node) = decide (a.Phase > 1)
  chosen : mostS a.Members a.Accepted = (a.Phase == 3)
  value : a.Phase = 1 ∨ a.Value = bestS a.Promises a.Wish 0
def Valid (a : TAttempt) : Prop :=
  if a.Phase = 0 then a = ⟨0, 0, [], [], [], [], []⟩
  else ((a.Phase = 1 ∧ a.Value = [] ∧ a.Accepted = []) ∨ a.Phase = 2 ∨ a.Phase = 3) ∧ Kept a
theorem any_may (l : List TPromise) (b : Int) : (l.any fun x => !decide (MayS x b)) = true ↔ ¬ ∀ p ∈ l, MayS p b := by
  simp

theorem risesP_len : ∀ (l : List Int) (k : Int), risesP k l = true → k < 6 → (l.length : Int) ≤ 5 - k := by
  intro l
  induction l with
  | nil => intro k _ h; simp; omega
  | cons y l ih =>
    intro k h hk
    simp only [risesP, Bool.and_eq_true, decide_eq_true_eq] at h
    have := ih y h.2 h.1.2
    simp only [List.length_cons]
    omega
theorem riseS_risesP {m : List Int} (hm : QOk m) : ∀ (l : List Int) (k : Int), riseS m (some k) l = true → risesP k l = true := by
  intro l
  induction l with
  | nil => intro _ _; rfl
  | cons y l ih =>
    intro k h
    simp only [riseS, Bool.and_eq_true, decide_eq_true_eq] at h
    have := (rises_lt m (-1) hm.2.1 y h.1.2).2
    simp only [risesP, Bool.and_eq_true, decide_eq_true_eq]
    exact ⟨⟨h.1.1, this⟩, ih y h.2⟩
theorem riseS_none {m : List Int} (hm : QOk m) (l : List Int) (h : riseS m none l = true) : risesP (-1) l = true := by
  cases l with
  | nil => rfl
  | cons y l =>
    simp only [riseS, Bool.and_eq_true, decide_eq_true_eq, true_and] at h
    have := rises_lt m (-1) hm.2.1 y h.1
    simp only [risesP, Bool.and_eq_true, decide_eq_true_eq]
    exact ⟨this, riseS_risesP hm l y h.2⟩
theorem riseS_len {m : List Int} (hm : QOk m) (l : List Int) (h : riseS m none l = true) : l.length ≤ 6 := by
  have := risesP_len l (-1) (riseS_none hm l h) (by omega)
  omega

theorem amost_eq (m l : List Int) (hm : QOk m) (hl : l.length ≤ 1000) : m_attempt_most m l = some (mostS m l) := by
  rw [m_attempt_most, most_eq m l hm hl]; rfl
theorem check1_eq (x : TPromise) (a : TAttempt) : m_attempt_Check_1 x a = some (!decide (MayS x a.Ballot)) := by
  rw [m_attempt_Check_1, may_eq]; rfl
theorem qcheck_ne {m : List Int} (h : ¬ QOk m) : ∃ e, m_quorum_Check m = some e ∧ e ≠ 0 := by
  have h2 : m_quorum_Check m ≠ some 0 := fun hh => h ((qok_iff m).1 hh)
  rw [qcheck_eq] at h2 ⊢
  exact ⟨_, rfl, fun hh => h2 (by rw [hh])⟩

theorem kept_iff (a : TAttempt) : Kept a ↔ BOk a.Ballot ∧ QOk a.Members ∧ a.Wish.length ≤ 1024 ∧ riseS a.Members none (a.Promises.map TPromise.Node) = true ∧ riseS a.Members none a.Accepted = true ∧ (∀ p ∈ a.Promises, MayS p a.Ballot) ∧ mostS a.Members (a.Promises.map TPromise.Node) = decide (a.Phase > 1) ∧ mostS a.Members a.Accepted = (a.Phase == 3) ∧ (a.Phase = 1 ∨ a.Value = bestS a.Promises a.Wish 0) :=
  ⟨fun h => ⟨h.1, h.2, h.3, h.4, h.5, h.6, h.7, h.8, h.9⟩, fun ⟨h1, h2, h3, h4, h5, h6, h7, h8, h9⟩ => ⟨h1, h2, h3, h4, h5, h6, h7, h8, h9⟩⟩

/-- what attempt.Check asks of all begun attempts -/
def checkTail (a0 : TAttempt) (b2 : Bool) : Option Bool :=
  Option.bind (if b2 = true then m_ballot_Check a0.Ballot else some default) fun v2 =>
  Option.bind (if (b2 = true) ∧ (v2 = 0) then m_quorum_Check a0.Members else some default) fun v3 =>
  Option.bind (if (((b2 = true) ∧ (v2 = 0)) ∧ (v3 = 0)) ∧ ((a0.Wish.length : Int) ≤ 1024) then m_attempt_nodes a0.Promises else some default) fun v4 =>
  Option.bind (if (((b2 = true) ∧ (v2 = 0)) ∧ (v3 = 0)) ∧ ((a0.Wish.length : Int) ≤ 1024) then m_attempt_rising v4 a0.Members else some default) fun v5 =>
  Option.bind (if ((((b2 = true) ∧ (v2 = 0)) ∧ (v3 = 0)) ∧ ((a0.Wish.length : Int) ≤ 1024)) ∧ (v5 = true) then m_attempt_rising a0.Accepted a0.Members else some default) fun v6 =>
  Option.bind (if (((((b2 = true) ∧ (v2 = 0)) ∧ (v3 = 0)) ∧ ((a0.Wish.length : Int) ≤ 1024)) ∧ (v5 = true)) ∧ (v6 = true) then m_slices_ContainsFunc_Promise_Promise a0.Promises (fun x0 => m_attempt_Check_1 x0 a0) else some default) fun v7 =>
  Option.bind (if ((((((b2 = true) ∧ (v2 = 0)) ∧ (v3 = 0)) ∧ ((a0.Wish.length : Int) ≤ 1024)) ∧ (v5 = true)) ∧ (v6 = true)) ∧ (¬ (v7 = true)) then m_attempt_nodes a0.Promises else some default) fun v8 =>
  Option.bind (if ((((((b2 = true) ∧ (v2 = 0)) ∧ (v3 = 0)) ∧ ((a0.Wish.length : Int) ≤ 1024)) ∧ (v5 = true)) ∧ (v6 = true)) ∧ (¬ (v7 = true)) then m_attempt_most a0.Members v8 else some default) fun v9 =>
  Option.bind (if (((((((b2 = true) ∧ (v2 = 0)) ∧ (v3 = 0)) ∧ ((a0.Wish.length : Int) ≤ 1024)) ∧ (v5 = true)) ∧ (v6 = true)) ∧ (¬ (v7 = true))) ∧ ((v9 == (decide (a0.Phase > 1))) = true) then m_attempt_most a0.Members a0.Accepted else some default) fun v10 =>
  Option.bind (if (((((((((b2 = true) ∧ (v2 = 0)) ∧ (v3 = 0)) ∧ ((a0.Wish.length : Int) ≤ 1024)) ∧ (v5 = true)) ∧ (v6 = true)) ∧ (¬ (v7 = true))) ∧ ((v9 == (decide (a0.Phase > 1))) = true)) ∧ ((v10 == (a0.Phase == 3)) = true)) ∧ (¬ (a0.Phase = 1)) then m_attempt_Best a0.Promises a0.Wish else some default) fun v11 =>
  some (((((((((b2 && (v2 == 0)) && (v3 == 0)) && (decide ((a0.Wish.length : Int) ≤ 1024))) && v5) && v6) && (!v7)) && (v9 == (decide (a0.Phase > 1)))) && (v10 == (a0.Phase == 3))) && ((a0.Phase == 1) || (a0.Value == v11)))

theorem tail_eq (a : TAttempt) (hl : a.Promises.length < 1000000) (b2 : Bool) : ∃ r, checkTail a b2 = some r ∧ (r = true ↔ b2 = true ∧ Kept a) := by
  unfold checkTail
  rw [kept_iff]
  cases b2 with
  | false => simp
  | true =>
    rw [bcheck_eq]
    by_cases hb : BOk a.Ballot
    · by_cases hq : QOk a.Members
      · have hq0 := (qok_iff _).2 hq
        by_cases hw : a.Wish.length ≤ 1024
        · have hw' : (a.Wish.length : Int) ≤ 1024 := by omega
          simp only [hb, hq0, hw', if_true, and_self, Option.bind_some, nodes_eq _ hl, rising_eq]
          by_cases h5 : riseS a.Members none (a.Promises.map TPromise.Node) = true
          · by_cases h6 : riseS a.Members none a.Accepted = true
            · have l1 := riseS_len hq _ h5
              have l2 := riseS_len hq _ h6
              rw [containsFunc_eq _ (fun x => !decide (MayS x a.Ballot)) (fun x => check1_eq x a)]
              simp only [h5, h6, and_self, if_true, Option.bind_some]
              by_cases h7 : ∀ p ∈ a.Promises, MayS p a.Ballot
              · have h7' : (a.Promises.any fun x => !decide (MayS x a.Ballot)) = false := by
                  rw [Bool.eq_false_iff]; intro hh; exact (any_may _ _).1 hh h7
                simp only [h7', Bool.false_eq_true, not_false_eq_true, and_self, if_true, Option.bind_some, amost_eq _ _ hq (Nat.le_trans l1 (by omega)), amost_eq _ _ hq (Nat.le_trans l2 (by omega)), best_eq]
                by_cases h9 : mostS a.Members (a.Promises.map TPromise.Node) = decide (a.Phase > 1)
                · by_cases h10 : mostS a.Members a.Accepted = (a.Phase == 3)
                  · by_cases h11 : a.Phase = 1
                    · simp [h9, h10, h11, hq, hw]
                      exact h7
                    · simp [h9, h10, h11, hq, hw]
                      exact fun _ => h7
                  · simp [h9, h10]
                · simp [h9]
              · have h7' := (any_may _ _).2 h7
                simp [h7', h7]
            · simp [h5, h6]
          · simp [h5]
        · have hw' : ¬ (a.Wish.length : Int) ≤ 1024 := by omega
          simp [hb, hq0, hw, hw']
      · obtain ⟨e, he, hne⟩ := qcheck_ne hq
        simp [hb, he, hne, hq]
    · simp [hb]

theorem check_eq (a : TAttempt) (hl : a.Promises.length < 1000000) : ∃ e, m_attempt_Check a = some e ∧ (e = 0 ↔ Valid a) := by
  unfold Valid
  rw [m_attempt_Check]
  by_cases h0 : a.Phase = 0
  · rw [if_pos h0, if_pos h0, same_eq]
    by_cases hz : a = ⟨0, 0, [], [], [], [], []⟩ <;> simp [hz]
  · rw [if_neg h0, if_neg h0]
    have key : ∀ b2 : Bool, ∃ e, (Option.bind (checkTail a b2) fun b1 => if ¬ (b1 = true) then some (8 : Int) else some 0) = some e ∧ (e = 0 ↔ b2 = true ∧ Kept a) := by
      intro b2
      obtain ⟨r, h1, h2⟩ := tail_eq a hl b2
      rw [h1, ← h2]
      cases r <;> simp
    by_cases h1 : a.Phase = 1
    · rw [if_pos h1]
      obtain ⟨e, he, h2⟩ := key ((a.Value == []) && ((a.Accepted.length : Int) == 0))
      refine ⟨e, he, ?_⟩
      rw [h2]
      simp [h1]
    · rw [if_neg h1]
      by_cases h2 : a.Phase = 2
      · obtain ⟨e, he, h3⟩ := key true
        refine ⟨e, ?_, ?_⟩
        · have hb : (a.Phase == 2) = true := by simp [h2]
          rw [if_pos h2, hb]
          exact he
        · rw [h3]
          simp [h2]
      · by_cases h3 : a.Phase = 3
        · obtain ⟨e, he, h4⟩ := key true
          refine ⟨e, ?_, ?_⟩
          · have hb : (a.Phase == 3) = true := by simp [h3]
            rw [if_neg h2]
            refine Eq.trans ?_ he
            show Option.bind (Option.bind (Option.bind (some (a.Phase == 3)) _) _) _ = _
            generalize hg : (a.Phase == 3) = q at hb
            subst hb
            unfold checkTail
            rw [hg]
            rfl
          · rw [h4]
            simp [h3]
        · exact ⟨8, by simp [h2, h3], by simp [h1, h2, h3]⟩
end Go.Proofs
end
section
/- Plain facts about sort.Search. -/

namespace Go.Proofs
open Go.Tm
set_option linter.unusedSimpArgs false

theorem half_eq (i j : Nat) (h : i + j < 4000000) : wr .i64 (shw false .u64 (wr .u64 (wr .i64 ((i : Int) + (j : Int)))) 1) = (((i + j) / 2 : Nat) : Int) := by
  have e1 : wr .i64 ((i : Int) + (j : Int)) = (i : Int) + (j : Int) := wr_eq _ _ (by show (-9223372036854775808 : Int) ≤ _; omega) (by show _ ≤ (9223372036854775807 : Int); omega)
  have e2 : wr .u64 ((i : Int) + (j : Int)) = (i : Int) + (j : Int) := wr_eq _ _ (by show (0 : Int) ≤ _; omega) (by show _ ≤ (18446744073709551615 : Int); omega)
  have e3 : shw false .u64 ((i : Int) + (j : Int)) 1 = (((i + j) / 2 : Nat) : Int) := by
    unfold shw
    show Int.fdiv ((i : Int) + (j : Int)) 2 = _
    rw [Int.fdiv_eq_ediv_of_nonneg _ (by omega)]
    omega
  rw [e1, e2, e3]
  exact wr_eq _ _ (by show (-9223372036854775808 : Int) ≤ _; omega) (by show _ ≤ (9223372036854775807 : Int); omega)
theorem search_loop (f : Int → Option Bool) (K n : Nat) (hn : n < 1000000) (hf : ∀ x : Nat, x < n → f (x : Int) = some (decide (K ≤ x))) : ∀ (fu i j : Nat), j - i < fu → i ≤ K → K ≤ j → j ≤ n → m_sort_Search_loop1 f fu (i : Int) (j : Int) = some (K : Int) := by
  intro fu
  induction fu with
  | zero => intro i j h; omega
  | succ fu ih =>
    intro i j h h1 h2 h3
    rw [m_sort_Search_loop1]
    by_cases hij : i < j
    · rw [if_pos (by omega), half_eq i j (by omega), hf _ (by omega)]
      simp only [Option.bind_some]
      by_cases hk : K ≤ (i + j) / 2
      · rw [if_neg (by simpa using hk)]
        exact ih i ((i + j) / 2) (by omega) h1 hk (by omega)
      · rw [if_pos (by simpa using hk)]
        have e : wr .i64 ((((i + j) / 2 : Nat) : Int) + 1) = (((i + j) / 2 + 1 : Nat) : Int) := wr_eq _ _ (by show (-9223372036854775808 : Int) ≤ _; omega) (by show _ ≤ (9223372036854775807 : Int); omega)
        rw [e]
        exact ih _ j (by omega) (by omega) h2 h3
    · rw [if_neg (by omega)]
      congr 2
      omega
theorem search_eq (f : Int → Option Bool) (K n : Nat) (hn : n < 1000000) (hK : K ≤ n) (hf : ∀ x : Nat, x < n → f (x : Int) = some (decide (K ≤ x))) : m_sort_Search (n : Int) f = some (K : Int) := by
  rw [m_sort_Search]
  have h := search_loop f K n hn hf ((n : Int).toNat + 1) 0 n (by simp) (by omega) hK (by omega)
  rw [show ((0 : Nat) : Int) = 0 from rfl] at h
  rw [h]
  rfl
end Go.Proofs
end
section
/- Plain facts about sorted insertion by a key. -/

namespace Go.Proofs
open Go.Tm
set_option linter.unusedSimpArgs false

section
variable {α : Type} (key : α → Int)

/-- put in ahead of the first that is not less -/
def insK (p : α) : List α → List α
  | [] => [p]
  | y :: l => if key y < key p then y :: insK p l else p :: y :: l
/-- the place of the first that is not less -/
def plc (v : Int) : List α → Nat
  | [] => 0
  | y :: l => if key y < v then plc v l + 1 else 0

theorem plc_le (v : Int) : ∀ l : List α, plc key v l ≤ l.length := by
  intro l
  induction l with
  | nil => exact Nat.le_refl _
  | cons y l ih =>
    simp only [plc, List.length_cons]
    split <;> omega
theorem plc_test [Inhabited α] (v : Int) : ∀ (l : List α), (l.map key).Pairwise (· < ·) → ∀ x, x < l.length → (key (l.getD x default) ≥ v ↔ plc key v l ≤ x) := by
  intro l
  induction l with
  | nil => intro _ x hx; cases hx
  | cons y l ih =>
    intro h x hx
    simp only [List.map_cons, List.pairwise_cons] at h
    simp only [plc]
    cases x with
    | zero =>
      simp only [List.getD_cons_zero]
      by_cases hy : key y < v
      · rw [if_pos hy]
        omega
      · rw [if_neg hy]
        omega
    | succ x =>
      simp only [List.getD_cons_succ]
      simp only [List.length_cons] at hx
      by_cases hy : key y < v
      · rw [if_pos hy, ih h.2 x (by omega)]
        omega
      · rw [if_neg hy]
        have hm : l.getD x default ∈ l := by
          rw [List.getD_eq_getElem?_getD, List.getElem?_eq_getElem (by omega)]
          exact List.getElem_mem _
        have := h.1 _ (List.mem_map_of_mem hm)
        omega
theorem plc_has [Inhabited α] (v : Int) : ∀ (l : List α), (l.map key).Pairwise (· < ·) → ((plc key v l < l.length ∧ key (l.getD (plc key v l) default) = v) ↔ v ∈ l.map key) := by
  intro l
  induction l with
  | nil => intro _; simp [plc]
  | cons y l ih =>
    intro h
    simp only [List.map_cons, List.pairwise_cons] at h
    simp only [plc]
    by_cases hy : key y < v
    · rw [if_pos hy, List.getD_cons_succ, List.map_cons, List.mem_cons, ← ih h.2]
      simp only [List.length_cons]
      have : v ≠ key y := by omega
      simp only [this, false_or]
      omega
    · rw [if_neg hy, List.getD_cons_zero, List.map_cons, List.mem_cons]
      simp only [List.length_cons]
      constructor
      · intro hh; exact .inl hh.2.symm
      · rintro (hh | hh)
        · exact ⟨by omega, hh.symm⟩
        · have := h.1 _ hh
          omega
theorem ins_take (p : α) : ∀ l : List α, l.take (plc key (key p) l) ++ p :: l.drop (plc key (key p) l) = insK key p l := by
  intro l
  induction l with
  | nil => rfl
  | cons y l ih =>
    simp only [plc, insK]
    split
    · simp only [List.take_succ_cons, List.drop_succ_cons, List.cons_append, ih]
    · rfl
theorem ins_comm (p q : α) (h : key p ≠ key q) : ∀ l : List α, insK key p (insK key q l) = insK key q (insK key p l) := by
  intro l
  induction l with
  | nil =>
    simp only [insK]
    by_cases h1 : key q < key p
    · rw [if_pos h1, if_neg (by omega)]
    · rw [if_neg h1, if_pos (by omega)]
  | cons y l ih =>
    simp only [insK]
    by_cases hp : key y < key p <;> by_cases hq : key y < key q
    · simp only [if_pos hp, if_pos hq, insK, ih]
    · simp only [if_pos hp, if_neg hq, insK]
      rw [if_pos (show key q < key p by omega)]
    · simp only [if_neg hp, if_pos hq, insK]
      rw [if_pos (show key p < key q by omega)]
    · simp only [if_neg hp, if_neg hq, insK]
      by_cases h1 : key q < key p
      · rw [if_pos h1, if_neg (show ¬ key p < key q by omega)]
      · rw [if_neg h1, if_pos (show key p < key q by omega)]
theorem ins_mem (p : α) (x : α) : ∀ l : List α, x ∈ insK key p l ↔ x = p ∨ x ∈ l := by
  intro l
  induction l with
  | nil => simp [insK]
  | cons y l ih =>
    simp only [insK]
    split
    · simp only [List.mem_cons, ih]
      constructor
      · rintro (h | h | h) <;> simp [h]
      · rintro (h | h | h) <;> simp [h]
    · simp only [List.mem_cons]
theorem ins_len (p : α) : ∀ l : List α, (insK key p l).length = l.length + 1 := by
  intro l
  induction l with
  | nil => rfl
  | cons y l ih =>
    simp only [insK]
    split <;> simp [ih]
theorem ins_keys (p : α) (v : Int) (l : List α) : v ∈ (insK key p l).map key ↔ v = key p ∨ v ∈ l.map key := by
  simp only [List.mem_map, ins_mem]
  constructor
  · rintro ⟨x, rfl | hx, rfl⟩
    · exact .inl rfl
    · exact .inr ⟨x, hx, rfl⟩
  · rintro (rfl | ⟨x, hx, rfl⟩)
    · exact ⟨p, .inl rfl, rfl⟩
    · exact ⟨x, .inr hx, rfl⟩
theorem ins_rise (m : List Int) (p : α) (hp : key p ∈ m) : ∀ (l : List α) (k : Option Int), (match k with | none => True | some k => k < key p) → key p ∉ l.map key → riseS m k (l.map key) = true → riseS m k ((insK key p l).map key) = true := by
  intro l
  induction l with
  | nil =>
    intro k hk _ _
    cases k with
    | none => simp [insK, riseS, hp]
    | some k =>
      have : k < key p := hk
      simp [insK, riseS, hp, this]
  | cons y l ih =>
    intro k hk hn h
    simp only [List.map_cons, List.mem_cons, not_or] at hn
    simp only [List.map_cons, riseS, Bool.and_eq_true] at h
    simp only [insK]
    by_cases hy : key y < key p
    · rw [if_pos hy]
      simp only [List.map_cons, riseS, Bool.and_eq_true]
      exact ⟨h.1, ih (some (key y)) hy hn.2 h.2⟩
    · rw [if_neg hy]
      have hlt : key p < key y := by omega
      simp only [List.map_cons, riseS, Bool.and_eq_true]
      refine ⟨⟨?_, by simpa using hp⟩, ⟨⟨by simpa using hlt, h.1.2⟩, h.2⟩⟩
      cases k with
      | none => rfl
      | some k => simpa using hk
end

theorem rise_lt {m : List Int} : ∀ (l : List Int) (k : Int), riseS m (some k) l = true → ∀ x ∈ l, k < x := by
  intro l
  induction l with
  | nil => intro _ _ x hx; cases hx
  | cons y l ih =>
    intro k h x hx
    simp only [riseS, Bool.and_eq_true, decide_eq_true_eq] at h
    rcases List.mem_cons.1 hx with rfl | hx
    · exact h.1.1
    · have := ih y h.2 x hx; omega
theorem rise_pw {m : List Int} : ∀ (l : List Int) (k : Option Int), riseS m k l = true → l.Pairwise (· < ·) := by
  intro l
  induction l with
  | nil => intro _ _; exact .nil
  | cons y l ih =>
    intro k h
    simp only [riseS, Bool.and_eq_true] at h
    exact .cons (rise_lt l y h.2) (ih _ h.2)
/-- the search for a key's place -/
theorem searchK {α : Type} [Inhabited α] (key : α → Int) (l : List α) (v : Int) (f : Int → Option Bool) (hl : l.length < 1000000) (hs : (l.map key).Pairwise (· < ·)) (hf : ∀ x : Nat, x < l.length → f (x : Int) = some (decide (key (l.getD x default) ≥ v))) : m_sort_Search (l.length : Int) f = some (plc key v l : Int) :=
  search_eq f _ _ hl (plc_le key v l) fun x hx => by rw [hf x hx, decide_eq_decide.2 (plc_test key v l hs x hx)]
theorem searchInts_eq (l : List Int) (v : Int) (hl : l.length < 1000000) (hs : l.Pairwise (· < ·)) : m_sort_SearchInts l v = some (plc (fun x => x) v l : Int) := by
  rw [m_sort_SearchInts, searchK (fun x => x) l v _ hl (by simpa using hs)]
  · rfl
  · intro x hx
    rw [m_sort_SearchInts_1, if_pos (by omega)]
    rfl

theorem filter_le {α : Type} (p q : α → Bool) (h : ∀ x, p x = true → q x = true) : ∀ l : List α, (l.filter p).length ≤ (l.filter q).length := by
  intro l
  induction l with
  | nil => exact Nat.le_refl _
  | cons y l ih =>
    simp only [List.filter_cons]
    cases hp : p y with
    | true => rw [h y hp]; simp only [if_true, List.length_cons]; omega
    | false => cases hq : q y <;> simp <;> omega
theorem most_mono {m l l' : List Int} (h : ∀ x, x ∈ l → x ∈ l') (hm : mostS m l = true) : mostS m l' = true := by
  unfold mostS at hm ⊢
  simp only [decide_eq_true_eq] at hm ⊢
  have := filter_le (hasI l) (hasI l') (fun x hx => by
    unfold hasI at hx ⊢
    simp only [List.any_eq_true, beq_iff_eq, exists_eq_right] at hx ⊢
    exact h x hx) m
  omega
end Go.Proofs
end
section
/- What attempt.Promised and attempt.Accepted do to valid attempts. -/


namespace Go.Proofs
open Go.Tm
set_option linter.unusedSimpArgs false

abbrev insN := insK TPromise.Node
abbrev insI := insK (fun x : Int => x)
theorem insI_keys (v x : Int) (l : List Int) : x ∈ insI v l ↔ x = v ∨ x ∈ l := ins_mem _ v x l

/-- the attempt, as its promises are -/
def withP (a : TAttempt) (l : List TPromise) : TAttempt :=
  if mostS a.Members (l.map TPromise.Node) = true then { a with Phase := 2, Value := bestS l a.Wish 0, Promises := l } else { a with Promises := l }
def promisedS (a : TAttempt) (p : TPromise) : TAttempt :=
  if p.Node ∈ a.Promises.map TPromise.Node then a else withP a (insN p a.Promises)
def CanP (a : TAttempt) (b : Int) (p : TPromise) : Prop := Valid a ∧ a.Phase = 1 ∧ b = a.Ballot ∧ p.Node ∈ a.Members ∧ MayS p b

theorem Valid.kept {a : TAttempt} (h : Valid a) (h0 : a.Phase ≠ 0) : Kept a := by
  unfold Valid at h
  rw [if_neg h0] at h
  exact h.2
theorem twin_eq (a : TAttempt) (h1 : a.Members.length < 1000000) (h2 : a.Promises.length < 1000000) (h3 : a.Accepted.length < 1000000) : m_attempt_Twin a = some a := by
  rw [m_attempt_Twin, m_slices_Clone_int_int, m_slices_Clone_Promise_Promise, m_slices_Clone_int_int, if_pos h1, if_pos h2, if_pos h3]
  rfl
theorem Kept.lens {a : TAttempt} (h : Kept a) : a.Members.length ≤ 6 ∧ a.Promises.length ≤ 6 ∧ a.Accepted.length ≤ 6 := by
  have h1 := riseS_len h.members _ h.nodes
  rw [List.length_map] at h1
  exact ⟨h.members.1, h1, riseS_len h.members _ h.accepted⟩

theorem promised1_eq (a : TAttempt) (p : TPromise) (x : Nat) (hx : x < a.Promises.length) : m_attempt_Promised_1 (x : Int) a p = some (decide ((a.Promises.getD x default).Node ≥ p.Node)) := by
  rw [m_attempt_Promised_1, if_pos (by omega)]
  rfl

theorem promised_eq (a : TAttempt) (b : Int) (p : TPromise) (hl : a.Promises.length < 1000000) : ∃ r, m_attempt_Promised a b p = some r ∧ (r.2 = 0 ↔ CanP a b p) ∧ (r.2 = 0 → r.1 = promisedS a p) := by
  rw [m_attempt_Promised]
  obtain ⟨e, he, hv⟩ := check_eq a hl
  rw [he]
  simp only [Option.bind_some]
  by_cases hva : Valid a
  · have h0 := hv.2 hva
    subst h0
    rw [if_neg (by simp)]
    by_cases h1 : a.Phase = 1 ∧ b = a.Ballot
    · obtain ⟨h1, h2⟩ := h1
      rw [if_pos (by simp [h1, h2]), has_eq]
      simp only [Option.bind_some]
      by_cases h3 : p.Node ∈ a.Members
      · rw [if_neg (by simp [h1, h2, h3]), may_eq]
        simp only [Option.bind_some]
        by_cases h4 : MayS p b
        · rw [if_neg (by simp [h4])]
          have hk := hva.kept (by omega)
          obtain ⟨l1, l2, l3⟩ := hk.lens
          rw [twin_eq a (by omega) (by omega) (by omega)]
          simp only [Option.bind_some]
          have hpw : (a.Promises.map TPromise.Node).Pairwise (· < ·) := rise_pw _ _ hk.nodes
          rw [searchK TPromise.Node a.Promises p.Node _ (by omega) hpw (fun x hx => promised1_eq a p x hx)]
          simp only [Option.bind_some, Int.toNat_natCast]
          have hle := plc_le TPromise.Node p.Node a.Promises
          have hhas := plc_has TPromise.Node p.Node a.Promises hpw
          have htake := ins_take TPromise.Node p a.Promises
          have hkeys := ins_keys TPromise.Node p
          have hlen := ins_len TPromise.Node p a.Promises
          have hrise := ins_rise TPromise.Node a.Members p h3 a.Promises none trivial
          generalize plc TPromise.Node p.Node a.Promises = K at *
          rw [if_pos (by omega)]
          have hcan : CanP a b p := ⟨hva, h1, h2, h3, h4⟩
          by_cases hin : p.Node ∈ a.Promises.map TPromise.Node
          · rw [if_pos (by have := hhas.2 hin; exact ⟨by omega, this.2⟩)]
            refine ⟨_, rfl, by simp [hcan], fun _ => ?_⟩
            unfold promisedS
            rw [if_pos hin]
          · rw [if_neg (fun hh => hin (hhas.1 ⟨by omega, hh.2⟩)), if_pos (by omega), if_pos (by omega), htake, nodes_eq _ (by omega)]
            have hr := hrise hin hk.nodes
            have hln := riseS_len hk.members _ hr
            simp only [Option.bind_some, amost_eq _ _ hk.members (Nat.le_trans hln (by omega)), best_eq]
            unfold promisedS
            rw [if_neg hin]
            unfold withP
            cases hm : mostS a.Members ((insK TPromise.Node p a.Promises).map TPromise.Node) with
            | true => exact ⟨_, rfl, by simp [hcan], fun _ => rfl⟩
            | false => exact ⟨_, rfl, by simp [hcan], fun _ => rfl⟩
        · rw [if_pos (by simp [h4])]
          exact ⟨_, rfl, by simp [CanP, h4], by simp⟩
      · rw [if_pos (by simp [h3])]
        exact ⟨_, rfl, by simp [CanP, h3], by simp⟩
    · have h2 : (¬ (a.Phase = 1)) ∨ (¬ (b = a.Ballot)) := by
        by_cases h : a.Phase = 1
        · exact .inr fun hh => h1 ⟨h, hh⟩
        · exact .inl h
      rw [if_neg (fun h => h h2)]
      simp only [Option.bind_some]
      rw [if_pos (.inl h2)]
      exact ⟨_, rfl, ⟨fun h => by simp at h, fun h => absurd ⟨h.2.1, h.2.2.1⟩ h1⟩, by simp⟩
  · have h0 : e ≠ 0 := fun h => hva (hv.1 h)
    rw [if_pos h0]
    exact ⟨_, rfl, ⟨fun h => absurd h h0, fun h => absurd h.1 hva⟩, fun h => absurd h h0⟩

theorem promised_kept {a : TAttempt} {p : TPromise} (h : CanP a a.Ballot p) : Valid (promisedS a p) := by
  obtain ⟨hv, h1, _, h3, h4⟩ := h
  unfold promisedS
  split
  · exact hv
  · rename_i hin
    have hk := hv.kept (by omega)
    have hacc : a.Value = [] ∧ a.Accepted = [] := by
      unfold Valid at hv
      rw [if_neg (by omega)] at hv
      rcases hv.1 with h | h | h
      · exact h.2
      · omega
      · omega
    have hr := ins_rise TPromise.Node a.Members p h3 a.Promises none trivial hin hk.nodes
    have hmay : ∀ q ∈ insN p a.Promises, MayS q a.Ballot := by
      intro q hq
      rcases (ins_mem TPromise.Node p q a.Promises).1 hq with rfl | hq
      · exact h4
      · exact hk.may q hq
    unfold withP
    split
    · rename_i hm
      unfold Valid
      rw [if_neg (by simp)]
      exact ⟨.inr (.inl rfl), ⟨hk.ballot, hk.members, hk.wish, hr, hk.accepted, hmay, by simpa using hm, by rw [hk.chosen, h1]; rfl, .inr rfl⟩⟩
    · rename_i hm
      unfold Valid
      rw [if_neg (by simp [h1])]
      exact ⟨.inl ⟨h1, hacc⟩, ⟨hk.ballot, hk.members, hk.wish, hr, hk.accepted, hmay, by simpa [h1] using hm, hk.chosen, .inl h1⟩⟩

/-! ### acceptances -/
def acceptedS (a : TAttempt) (n : Int) : TAttempt :=
  let l := if n ∈ a.Accepted then a.Accepted else insI n a.Accepted
  { a with Accepted := l, Phase := if mostS a.Members l = true then 3 else a.Phase }
def CanA (a : TAttempt) (b : Int) (n : Int) : Prop := Valid a ∧ 2 ≤ a.Phase ∧ b = a.Ballot ∧ n ∈ a.Members

theorem accepted_eq (a : TAttempt) (b n : Int) (hl : a.Promises.length < 1000000) : ∃ r, m_attempt_Accepted a b n = some r ∧ (r.2 = 0 ↔ CanA a b n) ∧ (r.2 = 0 → r.1 = acceptedS a n) := by
  rw [m_attempt_Accepted]
  obtain ⟨e, he, hv⟩ := check_eq a hl
  rw [he]
  simp only [Option.bind_some]
  by_cases hva : Valid a
  · have h0 := hv.2 hva
    subst h0
    rw [if_neg (by simp)]
    by_cases h1 : 2 ≤ a.Phase ∧ b = a.Ballot
    · obtain ⟨h1, h2⟩ := h1
      have h1' : ¬ a.Phase < 2 := by omega
      rw [if_pos (by simp [h1', h2]), has_eq]
      simp only [Option.bind_some]
      by_cases h3 : n ∈ a.Members
      · rw [if_neg (by simp [h1', h2, h3])]
        have hk := hva.kept (by omega)
        obtain ⟨l1, l2, l3⟩ := hk.lens
        rw [twin_eq a (by omega) (by omega) (by omega)]
        simp only [Option.bind_some]
        have hpw : a.Accepted.Pairwise (· < ·) := rise_pw _ _ hk.accepted
        rw [searchInts_eq a.Accepted n (by omega) hpw]
        simp only [Option.bind_some, Int.toNat_natCast]
        have hle := plc_le (fun x : Int => x) n a.Accepted
        have hhas := plc_has (fun x : Int => x) n a.Accepted (by simpa using hpw)
        have htake := ins_take (fun x : Int => x) n a.Accepted
        have hlen := ins_len (fun x : Int => x) n a.Accepted
        have hrise := ins_rise (fun x : Int => x) a.Members n h3 a.Accepted none trivial
        simp only [List.map_id'] at hhas hrise
        generalize plc (fun x : Int => x) n a.Accepted = K at *
        rw [if_pos (by omega)]
        have hcan : CanA a b n := ⟨hva, h1, h2, h3⟩
        have hfin : ∀ l : List Int, l.length ≤ 6 → (if n ∈ a.Accepted then a.Accepted else insI n a.Accepted) = l → ∃ r, (Option.bind (α := Int) (Option.bind (m_attempt_most a.Members l) fun v5 => if v5 = true then some 3 else some a.Phase) fun n1 => some ((⟨n1, a.Ballot, a.Members, a.Wish, a.Value, a.Promises, l⟩ : TAttempt), (0 : Int))) = some r ∧ (r.2 = 0 ↔ CanA a b n) ∧ (r.2 = 0 → r.1 = acceptedS a n) := by
          intro l hl hh
          rw [amost_eq _ _ hk.members (by omega)]
          unfold acceptedS
          rw [hh]
          simp only [Option.bind_some]
          cases hm : mostS a.Members l with
          | true => exact ⟨_, rfl, by simp [hcan], fun _ => rfl⟩
          | false => exact ⟨_, rfl, by simp [hcan], fun _ => rfl⟩
        by_cases hin : n ∈ a.Accepted
        · have := hhas.2 hin
          rw [if_neg (by
            rintro (hh | hh)
            · omega
            · exact hh this.2)]
          simp only [Option.bind_some]
          exact hfin _ l3 (if_pos hin)
        · rw [if_pos (by
            by_cases hK : K = a.Accepted.length
            · exact .inl (by omega)
            · exact .inr fun hh => hin (hhas.1 ⟨by omega, hh⟩)), if_pos (by omega), if_pos (by omega), htake]
          simp only [Option.bind_some]
          have hr := hrise hin hk.accepted
          exact hfin _ (riseS_len hk.members _ hr) (if_neg hin)
      · rw [if_pos (by simp [h3])]
        exact ⟨_, rfl, by simp [CanA, h3], by simp⟩
    · have h2 : (a.Phase < 2) ∨ (¬ (b = a.Ballot)) := by
        by_cases h : a.Phase < 2
        · exact .inl h
        · exact .inr fun hh => h1 ⟨by omega, hh⟩
      rw [if_neg (fun h => h h2)]
      simp only [Option.bind_some]
      rw [if_pos (.inl h2)]
      exact ⟨_, rfl, ⟨fun h => by simp at h, fun h => absurd ⟨h.2.1, h.2.2.1⟩ h1⟩, by simp⟩
  · have h0 : e ≠ 0 := fun h => hva (hv.1 h)
    rw [if_pos h0]
    exact ⟨_, rfl, ⟨fun h => absurd h h0, fun h => absurd h.1 hva⟩, fun h => absurd h h0⟩

theorem acc_mem (a : TAttempt) (n x : Int) : x ∈ (acceptedS a n).Accepted ↔ x = n ∨ x ∈ a.Accepted := by
  unfold acceptedS
  dsimp only
  split
  · rename_i h
    constructor
    · exact .inr
    · rintro (rfl | h2)
      · exact h
      · exact h2
  · exact insI_keys n x _
theorem accepted_kept {a : TAttempt} {n : Int} (h : CanA a a.Ballot n) : Valid (acceptedS a n) ∧ a.Phase ≤ (acceptedS a n).Phase := by
  obtain ⟨hv, h1, _, h3⟩ := h
  have hk := hv.kept (by omega)
  have hph : a.Phase = 2 ∨ a.Phase = 3 := by
    unfold Valid at hv
    rw [if_neg (by omega)] at hv
    rcases hv.1 with h | h | h
    · omega
    · exact .inl h
    · exact .inr h
  have hval : a.Value = bestS a.Promises a.Wish 0 := by
    rcases hk.value with h | h
    · omega
    · exact h
  have hmem := acc_mem a n
  have hrise : riseS a.Members none (acceptedS a n).Accepted = true := by
    unfold acceptedS
    dsimp only
    split
    · exact hk.accepted
    · rename_i hin
      have := ins_rise (fun x : Int => x) a.Members n h3 a.Accepted none trivial (by simpa using hin)
      simp only [List.map_id'] at this
      exact this hk.accepted
  have hmono : a.Phase = 3 → mostS a.Members (acceptedS a n).Accepted = true := by
    intro h
    refine most_mono (l := a.Accepted) (fun x hx => (hmem x).2 (.inr hx)) ?_
    rw [hk.chosen, h]; rfl
  have hphase : (acceptedS a n).Phase = if mostS a.Members (acceptedS a n).Accepted = true then 3 else a.Phase := rfl
  have hp2 : (acceptedS a n).Phase = 2 ∨ (acceptedS a n).Phase = 3 := by
    rw [hphase]
    split
    · exact .inr rfl
    · exact hph
  have hmost : mostS a.Members (acceptedS a n).Accepted = ((acceptedS a n).Phase == 3) := by
    rw [hphase]
    cases hm : mostS a.Members (acceptedS a n).Accepted with
    | true => simp
    | false =>
      have : a.Phase ≠ 3 := fun h => by rw [hmono h] at hm; cases hm
      simp [this]
  refine ⟨?_, ?_⟩
  · unfold Valid
    rw [if_neg (by omega)]
    refine ⟨.inr hp2, ⟨hk.ballot, hk.members, hk.wish, hk.nodes, hrise, hk.may, ?_, hmost, .inr hval⟩⟩
    show mostS a.Members (a.Promises.map TPromise.Node) = _
    rw [hk.most]
    rw [decide_eq_decide]
    omega
  · rw [hphase]
    split <;> omega
end Go.Proofs
end
section
/- Models of functions, printed by gw.py. -/








namespace Go.Proofs
open Go.Tm

end Go.Proofs
end
section
/- Models of functions, printed by gw.py. -/








namespace Go.Proofs
open Go.Tm

end Go.Proofs
end
section
/- The law AttemptTells, in plain Lean. -/





namespace Go.Proofs
open Go.Tm
set_option linter.unusedSimpArgs false

theorem alive_eq : m_towncrierlaw08_alive = some true := by decide +kernel

theorem getD_drop {α : Type} [Inhabited α] (l : List α) (k : Nat) (h : k < l.length) : l.drop k = l.getD k default :: l.drop (k + 1) := by
  rw [List.drop_eq_getElem_cons h]
  simp [List.getD, List.getElem?_eq_getElem h]
end Go.Proofs
end
section
/- The laws AttemptChosen and AttemptOrder, in plain Lean. -/

namespace Go.Proofs
open Go.Tm
set_option linter.unusedSimpArgs false

theorem sameR_intsLoop (b : List Int) : ∀ (l : List Int) (n : Nat), n + l.length = b.length → m_towncrierref01_SameInts_loop1 b l n = some (if l = b.drop n then .inr () else .inl false) := by
  intro l
  induction l with
  | nil => intro n h; simp [m_towncrierref01_SameInts_loop1]; simp at h; omega
  | cons y l ih =>
    intro n h
    simp only [List.length_cons] at h
    have hn : n < b.length := by omega
    have hd := getD_drop b n hn
    rw [m_towncrierref01_SameInts_loop1, if_pos hn]
    generalize b.getD n default = z at hd
    rw [hd]
    by_cases hy : y = z
    · rw [if_neg (by simpa using hy), ih (n + 1) (by omega)]
      simp only [hy, List.cons.injEq, true_and]
    · rw [if_pos hy]
      simp only [hy, List.cons.injEq, false_and, if_false]
theorem sameInts_eq (a b : List Int) : m_towncrierref01_SameInts a b = some (decide (a = b)) := by
  rw [m_towncrierref01_SameInts]
  by_cases h : (a.length : Int) = (b.length : Int)
  · rw [if_neg (by simpa using h), sameR_intsLoop b a 0 (by omega), List.drop_zero]
    by_cases hab : a = b <;> simp [hab]
  · rw [if_pos h]
    have : a ≠ b := fun hh => h (by rw [hh])
    simp [this]
theorem sameR_loop (b : TAttempt) : ∀ (l : List TPromise) (n : Nat), n + l.length = b.Promises.length → m_towncrierref08_Same_loop1 b l n = some (if l = b.Promises.drop n then .inr () else .inl false) := by
  intro l
  induction l with
  | nil => intro n h; simp [m_towncrierref08_Same_loop1]; simp at h; omega
  | cons y l ih =>
    intro n h
    simp only [List.length_cons] at h
    have hn : n < b.Promises.length := by omega
    have hd := getD_drop b.Promises n hn
    rw [m_towncrierref08_Same_loop1, if_pos hn]
    generalize b.Promises.getD n default = z at hd
    rw [hd]
    have e : (y.Node = z.Node ∧ y.Ballot = z.Ballot ∧ y.Value = z.Value) ↔ y = z := by cases y; cases z; simp
    by_cases hy : y = z
    · rw [if_neg (by simpa using e.2 hy), ih (n + 1) (by omega)]
      simp only [hy, List.cons.injEq, true_and]
    · rw [if_pos (fun hh => hy (e.1 hh))]
      simp only [hy, List.cons.injEq, false_and, if_false]
theorem sameR_eq (a b : TAttempt) : m_towncrierref08_Same a b = some (decide (a = b)) := by
  have e : a = b ↔ a.Phase = b.Phase ∧ a.Ballot = b.Ballot ∧ a.Members = b.Members ∧ a.Wish = b.Wish ∧ a.Value = b.Value ∧ a.Promises = b.Promises ∧ a.Accepted = b.Accepted := by
    cases a; cases b; simp
  rw [show decide (a = b) = decide (a.Phase = b.Phase ∧ a.Ballot = b.Ballot ∧ a.Members = b.Members ∧ a.Wish = b.Wish ∧ a.Value = b.Value ∧ a.Promises = b.Promises ∧ a.Accepted = b.Accepted) from decide_eq_decide.2 e, m_towncrierref08_Same]
  simp only [sameInts_eq]
  by_cases h1 : a.Phase = b.Phase
  · by_cases h2 : a.Ballot = b.Ballot
    · by_cases h3 : a.Members = b.Members
      · by_cases h4 : a.Wish = b.Wish
        · by_cases h5 : a.Value = b.Value
          · by_cases h6 : (a.Promises.length : Int) = (b.Promises.length : Int)
            · by_cases h7 : a.Accepted = b.Accepted
              · have hs := sameR_loop b a.Promises 0 (by omega)
                rw [List.drop_zero] at hs
                simp only [h1, h2, h3, h4, h5, h6, h7, not_true_eq_false, or_self, if_true, not_false_eq_true, decide_true, Option.bind_some, if_false, hs, true_and, and_true]
                by_cases h8 : a.Promises = b.Promises <;> simp [h8]
              · simp [h1, h2, h3, h4, h5, h6, h7]
            · have : ¬ a.Promises = b.Promises := fun h => h6 (by rw [h])
              simp [h1, h2, h3, h4, h5, h6, this]
          · simp [h1, h2, h3, h4, h5]
        · simp [h1, h2, h3, h4]
      · simp [h1, h2, h3]
    · simp [h1, h2]
  · simp [h1]

theorem great_loop : ∀ (l : List TPromise) (n3 : Nat) (n2 : Int), ∃ r, m_towncrierref08_Great_loop1 l n3 n2 = some r := by
  intro l
  induction l with
  | nil => intro n3 n2; exact ⟨_, rfl⟩
  | cons y l ih =>
    intro n3 n2
    rw [m_towncrierref08_Great_loop1]
    split
    · exact ih _ _
    · exact ⟨_, rfl⟩
theorem great_eq (a : TAttempt) : ∃ r, m_towncrierref08_Great a = some r ∧ (r = false → a.Members.length ≤ 100 ∧ a.Promises.length ≤ 50 ∧ a.Accepted.length ≤ 100) := by
  rw [m_towncrierref08_Great]
  obtain ⟨n, hn⟩ := great_loop a.Promises 0 (wr .i64 ((a.Wish.length : Int) + (a.Value.length : Int)))
  rw [hn]
  refine ⟨_, rfl, fun h => ?_⟩
  simp only [Bool.or_eq_false_iff, decide_eq_false_iff_not] at h
  omega

/-! ### AttemptChosen -/
theorem Valid.lens {a : TAttempt} (h : Valid a) : a.Members.length ≤ 6 ∧ a.Promises.length ≤ 6 ∧ a.Accepted.length ≤ 6 := by
  by_cases h0 : a.Phase = 0
  · unfold Valid at h
    rw [if_pos h0] at h
    rw [h]
    simp
  · exact (h.kept h0).lens
/-! ### AttemptOrder -/
def addP (p : TPromise) (l : List TPromise) : List TPromise := if p.Node ∈ l.map TPromise.Node then l else insN p l
theorem addP_keys (p : TPromise) (v : Int) (l : List TPromise) : v ∈ (addP p l).map TPromise.Node ↔ v = p.Node ∨ v ∈ l.map TPromise.Node := by
  unfold addP
  split
  · rename_i h
    constructor
    · exact .inr
    · rintro (rfl | h2)
      · exact h
      · exact h2
  · exact ins_keys TPromise.Node p v l
theorem addP_comm (p q : TPromise) (h : p.Node ≠ q.Node) (l : List TPromise) : addP p (addP q l) = addP q (addP p l) := by
  have e1 : p.Node ∈ (addP q l).map TPromise.Node ↔ p.Node ∈ l.map TPromise.Node := by
    rw [addP_keys]; exact ⟨fun hh => hh.resolve_left h, .inr⟩
  have e2 : q.Node ∈ (addP p l).map TPromise.Node ↔ q.Node ∈ l.map TPromise.Node := by
    rw [addP_keys]; exact ⟨fun hh => hh.resolve_left (Ne.symm h), .inr⟩
  rw [addP, addP.eq_1 q (addP p l)]
  simp only [e1, e2]
  by_cases hp : p.Node ∈ l.map TPromise.Node <;> by_cases hq : q.Node ∈ l.map TPromise.Node
  · simp only [if_pos hp, if_pos hq, addP]
  · simp only [if_pos hp, if_neg hq, addP]
  · simp only [if_neg hp, if_pos hq, addP]
  · simp only [if_neg hp, if_neg hq, addP]
    exact ins_comm TPromise.Node p q h l
theorem promisedS_add {a : TAttempt} (p : TPromise) (hv : Valid a) (h1 : a.Phase = 1) : promisedS a p = withP a (addP p a.Promises) := by
  unfold promisedS addP
  split
  · have hk := hv.kept (by omega)
    unfold withP
    have := hk.most
    rw [h1] at this
    rw [this]
    rfl
  · rfl
theorem withP_one {a : TAttempt} {l : List TPromise} (h : (withP a l).Phase = 1) : withP a l = { a with Promises := l } := by
  unfold withP at h ⊢
  split
  · rename_i hm
    rw [if_pos hm] at h
    cases h
  · rfl
def addI (n : Int) (l : List Int) : List Int := if n ∈ l then l else insI n l
theorem addI_mem (n x : Int) (l : List Int) : x ∈ addI n l ↔ x = n ∨ x ∈ l := by
  unfold addI
  split
  · rename_i h
    constructor
    · exact .inr
    · rintro (rfl | h2)
      · exact h
      · exact h2
  · exact insI_keys n x l
theorem addI_comm (n m : Int) (l : List Int) : addI n (addI m l) = addI m (addI n l) := by
  by_cases h : n = m
  · rw [h]
  have e1 : n ∈ addI m l ↔ n ∈ l := by
    rw [addI_mem]; exact ⟨fun hh => hh.resolve_left h, .inr⟩
  have e2 : m ∈ addI n l ↔ m ∈ l := by
    rw [addI_mem]; exact ⟨fun hh => hh.resolve_left (Ne.symm h), .inr⟩
  rw [addI, addI.eq_1 m (addI n l)]
  simp only [e1, e2]
  by_cases hp : n ∈ l <;> by_cases hq : m ∈ l
  · simp only [if_pos hp, if_pos hq, addI]
  · simp only [if_pos hp, if_neg hq, addI]
  · simp only [if_neg hp, if_pos hq, addI]
  · simp only [if_neg hp, if_neg hq, addI]
    exact ins_comm (fun x : Int => x) n m h l
theorem acceptedS_two (a : TAttempt) (n m : Int) : acceptedS (acceptedS a n) m = { a with Accepted := addI m (addI n a.Accepted), Phase := if mostS a.Members (addI m (addI n a.Accepted)) = true then 3 else a.Phase } := by
  have h : acceptedS (acceptedS a n) m = { a with Accepted := addI m (addI n a.Accepted), Phase := if mostS a.Members (addI m (addI n a.Accepted)) = true then 3 else (if mostS a.Members (addI n a.Accepted) = true then 3 else a.Phase) } := rfl
  rw [h]
  congr 1
  by_cases h1 : mostS a.Members (addI m (addI n a.Accepted)) = true
  · rw [if_pos h1, if_pos h1]
  · rw [if_neg h1, if_neg h1, if_neg (fun h2 => h1 (most_mono (fun x hx => (addI_mem m x _).2 (.inr hx)) h2))]
theorem order_law (a : TAttempt) (b : Int) (p q : TPromise) (n m : Int) : m_towncrierlaw08_AttemptOrder a b p q n m = some true := by
  rw [m_towncrierlaw08_AttemptOrder, alive_eq]
  simp only [Option.bind_some, not_true_eq_false, if_false]
  obtain ⟨g, hg, hg0⟩ := great_eq a
  rw [hg]
  simp only [Option.bind_some]
  by_cases h0 : ((g = true) ∨ ((p.Value.length : Int) > 5000)) ∨ ((q.Value.length : Int) > 5000)
  · rw [if_pos h0]
  · rw [if_neg h0]
    have hgf : g = false := by cases g; rfl; exact absurd (.inl (.inl rfl)) h0
    obtain ⟨g1, g2, g3⟩ := hg0 hgf
    obtain ⟨r1, hr1, c1, d1⟩ := promised_eq a b p (by omega)
    obtain ⟨r2, hr2, c2, d2⟩ := promised_eq a b q (by omega)
    rw [hr1, hr2]
    simp only [Option.bind_some]
    obtain ⟨s1, hs1, e1, f1⟩ := accepted_eq a b n (by omega)
    obtain ⟨s2, hs2, e2, f2⟩ := accepted_eq a b m (by omega)
    have tail : (Option.bind (m_attempt_Accepted a b n) fun v8 =>
        Option.bind (m_attempt_Accepted a b m) fun v9 =>
        if (¬ (v8.2 = 0)) ∨ (¬ (v9.2 = 0)) then
        some true
        else
        Option.bind (m_attempt_Accepted v8.1 b m) fun v10 =>
        Option.bind (m_attempt_Accepted v9.1 b n) fun v11 =>
        Option.bind (if (True ∧ (v10.2 = 0)) ∧ (v11.2 = 0) then m_towncrierref08_Same v10.1 v11.1 else some default) fun v12 =>
        some (((true && (v10.2 == 0)) && (v11.2 == 0)) && v12)) = some true := by
      rw [hs1, hs2]
      simp only [Option.bind_some]
      by_cases hz : (¬ (s1.2 = 0)) ∨ (¬ (s2.2 = 0))
      · rw [if_pos hz]
      · rw [if_neg hz]
        have z1 : s1.2 = 0 := Classical.byContradiction fun h => hz (.inl h)
        have z2 : s2.2 = 0 := Classical.byContradiction fun h => hz (.inr h)
        rw [f1 z1, f2 z2]
        have k1 := e1.1 z1
        have k2 := e2.1 z2
        have hb : b = a.Ballot := k1.2.2.1
        subst hb
        have v1 := accepted_kept k1
        have v2 := accepted_kept k2
        obtain ⟨t1, ht1, i1, j1⟩ := accepted_eq (acceptedS a n) a.Ballot m (by have := v1.1.lens; omega)
        obtain ⟨t2, ht2, i2, j2⟩ := accepted_eq (acceptedS a m) a.Ballot n (by have := v2.1.lens; omega)
        have y1 : t1.2 = 0 := i1.2 ⟨v1.1, by have := k1.2.1; have := v1.2; omega, rfl, k2.2.2.2⟩
        have y2 : t2.2 = 0 := i2.2 ⟨v2.1, by have := k1.2.1; have := v2.2; omega, rfl, k1.2.2.2⟩
        rw [ht1, ht2]
        simp only [Option.bind_some, y1, y2, and_self, if_true]
        rw [j1 y1, j2 y2, sameR_eq, acceptedS_two, acceptedS_two, addI_comm]
        simp
    by_cases hz : ((((r1.2 = 0) ∧ (r2.2 = 0)) ∧ (r1.1.Phase = 1)) ∧ (r2.1.Phase = 1)) ∧ (¬ (p.Node = q.Node))
    · rw [if_pos hz]
      obtain ⟨⟨⟨⟨z1, z2⟩, p1⟩, p2⟩, hne⟩ := hz
      have k1 := c1.1 z1
      have k2 := c2.1 z2
      have hb : b = a.Ballot := k1.2.2.1
      subst hb
      have w1 := promisedS_add p k1.1 k1.2.1
      have w2 := promisedS_add q k1.1 k1.2.1
      have v1 := promised_kept k1
      have v2 := promised_kept k2
      rw [d1 z1] at p1
      rw [d2 z2] at p2
      rw [d1 z1, d2 z2]
      rw [w1] at p1 v1
      rw [w2] at p2 v2
      have u1 := withP_one p1
      have u2 := withP_one p2
      rw [w1, w2]
      rw [u1] at p1 v1 ⊢
      rw [u2] at p2 v2 ⊢
      obtain ⟨t1, ht1, i1, j1⟩ := promised_eq { a with Promises := addP p a.Promises } a.Ballot q (by have := v1.lens; omega)
      obtain ⟨t2, ht2, i2, j2⟩ := promised_eq { a with Promises := addP q a.Promises } a.Ballot p (by have := v2.lens; omega)
      have y1 : t1.2 = 0 := i1.2 ⟨v1, p1, rfl, k2.2.2.2.1, k2.2.2.2.2⟩
      have y2 : t2.2 = 0 := i2.2 ⟨v2, p2, rfl, k1.2.2.2.1, k1.2.2.2.2⟩
      rw [ht1, ht2]
      simp only [Option.bind_some, y1, y2, not_true_eq_false, or_self, not_false_eq_true, if_true]
      have heq : t1.1 = t2.1 := by
        rw [j1 y1, j2 y2, promisedS_add q v1 p1, promisedS_add p v2 p2]
        show withP a (addP q (addP p a.Promises)) = withP a (addP p (addP q a.Promises))
        rw [addP_comm p q hne]
      rw [heq, sameR_eq]
      simp only [decide_true, Option.bind_some, not_true_eq_false, or_self, if_false]
      exact tail
    · rw [if_neg hz]
      exact tail
end Go.Proofs
end
