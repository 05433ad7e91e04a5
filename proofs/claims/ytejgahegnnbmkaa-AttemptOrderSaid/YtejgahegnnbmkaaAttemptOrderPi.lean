/- The walks of functions, printed by gw.py. -/
import Derived.Test.YtejgahegnnbmkaaAttemptOrderPf
import Derived.Test.YtejgahegnnbmkaaAttemptOrderPg
import Derived.Test.YtejgahegnnbmkaaAttemptOrderPh
section
namespace Go.Proofs
open Go.Tm Go.RowKit Go.WideShapes
set_option maxRecDepth 100000
set_option maxHeartbeats 4000000
set_option linter.unusedSimpArgs false
set_option linter.unusedVariables false
attribute [local go_sem] argVars runE runK isCallV stepE aop opd opdsL opds opdO ev ofVal keep List.any Nat.beq Bool.false_or Bool.true_or aggEq cond_true cond_false Bool.cond_false_right Bool.cond_true_left beq_true beq_false imp_self implies_true getR getL put St.app effL del nwB blt_dec Nat.lt_irrefl Nat.lt_add_one ble_dec Nat.le_refl Nat.beq_refl roomNZ appendIn capS capK mkZ_zero mkZL_zero zeroEl D.ids D.idsL Option.getD bin arith sarith binT dpick Tm.part splice fillD oneD loadD storeD srcD sliceD idxOk decide_true gval dstAt D.cells List.map_cons List.map_nil List.take List.drop List.length_map List.append Int.toNat_natCast and_true true_and decide_false List.length_cons List.length_nil List.append_nil List.nil_append Bool.and_true Bool.true_and Bool.not_false Bool.not_true ne_eq not_false_eq_true BEq.rfl List.getElem?_cons_zero List.getElem?_cons_succ List.getElem?_nil Nat.zero_add List.all_cons List.all_nil List.isEmpty_cons List.isEmpty_nil List.any_cons List.any_nil List.drop_succ_cons List.drop_zero unfL unf okM okML low3 List.cons_append true_or or_true Nat.zero_mul Nat.zero_le fpOf opIds mvV mvH mvF pickL D.ren D.renL Blk.ren List.map_append List.length_append Bool.not_not Bool.or_not_self Bool.not_or_self Bool.or_true

def Try.St_quorum_set_1 (n1 : Int) : St := ⟨[(2, .int .u64 n1)], [], 0⟩
attribute [local go_sem] Try.St_quorum_set_1
def Try.St_quorum_set_3 (a0 : List Int) (n3 : Nat) (n2 : Int) : St := ⟨[(2, .int .u64 n2), (5, .imm 1 (a0.map (D.int .i64)) 4), (6, .int .i64 (a0.length : Int)), (7, .int .i64 (n3 : Int))], [], 0⟩
attribute [local go_sem] Try.St_quorum_set_3
def Try.St_quorum_set_5 (a0 : List Int) (n3 : Nat) (n4 : Int) : St := ⟨[(2, .int .u64 n4), (5, .imm 1 (a0.map (D.int .i64)) 4), (6, .int .i64 (a0.length : Int)), (7, .int .i64 (n3 : Int))], [], 0⟩
attribute [local go_sem] Try.St_quorum_set_5
theorem callP_quorum_set (a0 : List Int) (r : Int) (h : m_quorum_set a0 = some r) : CallP Try.prog 91 [.imm 1 (a0.map (D.int .i64)) 4] (.int .u64 r) := by
  refine callP_intro Try.tmOk 2 Try.func91 rfl (by decide) rfl rfl (Nat.le_of_ble_eq_true rfl) ?_
  intro hwf
  unfold m_quorum_set at h
  refine .seq ?_
  refine .plain Try.tmOk Try.tmMixed [0] (by decide +kernel) (by intro q hq; simp only [go_sem, Nat.reduceSub, Int.reduceEq, Nat.reduceLT, Nat.reduceDiv, Nat.reduceAdd, Nat.reduceBEq, Nat.reduceLeDiff, reduceCtorEq, Nat.reduceEqDiff, Nat.reduceMod, appendD]; exact hq) (by first | rfl | (simp only [go_sem, Nat.reduceLeDiff]; done) | (simp only [go_sem, Nat.reduceLeDiff]; rfl) | (simp; done) | (simp [oneD] <;> omega) | (simp_all; done) | (simp_all [oneD] <;> omega)) (by first | exact Nat.le_refl _ | exact Nat.le_of_ble_eq_true rfl | (dsimp only; omega) | (simp <;> omega)) ?_
  obtain ⟨x1, hx1, h⟩ := bind_some h
  refine .seqM 0 (fun (j : Int) => Try.St_quorum_set_1 j) (fun j => x1 = j) (Nat.le_of_ble_eq_true rfl) ?_ ?_
  · skip
    refine .seq ?_
    refine .plain Try.tmOk Try.tmMixed [0, 2] (by decide +kernel) (by intro q hq; simp only [go_sem, Nat.reduceSub, Int.reduceEq, Nat.reduceLT, Nat.reduceDiv, Nat.reduceAdd, Nat.reduceBEq, Nat.reduceLeDiff, reduceCtorEq, Nat.reduceEqDiff, Nat.reduceMod, appendD, Try.tm_22]; exact hq) (by first | rfl | (simp only [go_sem, Nat.reduceLeDiff]; done) | (simp only [go_sem, Nat.reduceLeDiff]; rfl) | (simp; done) | (simp [oneD] <;> omega) | (simp_all; done) | (simp_all [oneD] <;> omega)) (by first | exact Nat.le_refl _ | exact Nat.le_of_ble_eq_true rfl | (dsimp only; omega) | (simp <;> omega)) ?_
    refine .block ?_
    refine .loopG 0 (fun (j : Nat × Int) => Try.St_quorum_set_3 a0 j.1 j.2) (fun j => j.1 ≤ a0.length ∧ m_quorum_set_loop1 (a0.drop j.1) j.2 = some x1) (fun j => a0.length - j.1) (0, 0) (Nat.le_of_ble_eq_true rfl) ?_ ⟨Nat.zero_le _, hx1⟩ ?_
    · skip
      refine Goes.mv [2, 5, 6, 7] [] [] ?_ (Nat.le_of_ble_eq_true rfl) (Nat.le_of_ble_eq_true rfl) rfl
      first | rfl | (simp only [go_sem, Nat.reduceBEq, Nat.reduceAdd]; done) | (simp only [go_sem, Nat.reduceBEq, Nat.reduceAdd]; rfl)
    rintro ⟨n3, n2⟩ ⟨hi1, hx1⟩
    simp only [Try.St_quorum_set_3]
    simp only at hi1 hx1
    refine .wf 6 (.int .i64 (a0.length : Int)) rfl ?_
    intro hln3
    replace hln3 : (a0.length : Int) ≤ 9223372036854775807 := by simp only [wf, wfL, IntKind.max, IntKind.min, IntKind.signed, IntKind.bits, List.length_map] at hln3; first | exact hln3.2 | exact hln3.1 | (simp at hln3; omega)
    refine .seq ?_
    refine .plain Try.tmOk Try.tmMixed [2, 5, 6, 7] (by decide +kernel) (by intro q hq; simp only [go_sem, Nat.reduceSub, Int.reduceEq, Nat.reduceLT, Nat.reduceDiv, Nat.reduceAdd, Nat.reduceBEq, Nat.reduceLeDiff, reduceCtorEq, Nat.reduceEqDiff, Nat.reduceMod, appendD, Try.tm_3]; exact hq) (by first | rfl | (simp only [go_sem, Nat.reduceLeDiff]; done) | (simp only [go_sem, Nat.reduceLeDiff]; rfl) | (simp; done) | (simp [oneD] <;> omega) | (simp_all; done) | (simp_all [oneD] <;> omega)) (by first | exact Nat.le_refl _ | exact Nat.le_of_ble_eq_true rfl | (dsimp only; omega) | (simp <;> omega)) ?_
    refine .seq ?_
    refine .cond rfl rfl (fun hc1 => ?_) (fun hc1 => ?_)
    · skip
      have h1 : n3 < a0.length := by simpa using hc1
      have hwn3 : wr .i64 ((n3 : Int) + 1) = ((n3 + 1 : Nat) : Int) := wr_succ h1 hln3
      have hpn3 : wr .i64 ((n3 : Int) - 1) = (n3 : Int) - 1 := wr_pred h1 hln3
      rw [List.drop_eq_getElem_cons h1, m_quorum_set_loop1] at hx1
      refine .skip ?_
      obtain ⟨x2, hx2, hx1⟩ := bind_some hx1
      refine .seqM 0 (fun (j : Int) => Try.St_quorum_set_5 a0 n3 j) (fun j => x2 = j) (Nat.le_of_ble_eq_true rfl) ?_ ?_
      · skip
        refine .block ?_
        refine .seq ?_
        have e1 := nth_map (D.int .i64) a0 n3 h1
        refine .plain Try.tmOk Try.tmMixed [2, 5, 6, 7] (by decide +kernel) (by intro q hq; simp only [go_sem, Nat.reduceSub, Int.reduceEq, Nat.reduceLT, Nat.reduceDiv, Nat.reduceAdd, Nat.reduceBEq, Nat.reduceLeDiff, reduceCtorEq, Nat.reduceEqDiff, Nat.reduceMod, appendD, Try.tm_3, Try.tm_22, e1, hwn3]; exact hq) (by first | rfl | (simp only [go_sem, Nat.reduceLeDiff]; done) | (simp only [go_sem, Nat.reduceLeDiff]; rfl) | (simp; done) | (simp [oneD] <;> omega) | (simp_all; done) | (simp_all [oneD] <;> omega)) (by first | exact Nat.le_refl _ | exact Nat.le_of_ble_eq_true rfl | (dsimp only; omega) | (simp <;> omega)) ?_
        refine .seq ?_
        refine .plain Try.tmOk Try.tmMixed [2, 4, 5, 6, 7] (by decide +kernel) (by intro q hq; simp only [go_sem, Nat.reduceSub, Int.reduceEq, Nat.reduceLT, Nat.reduceDiv, Nat.reduceAdd, Nat.reduceBEq, Nat.reduceLeDiff, reduceCtorEq, Nat.reduceEqDiff, Nat.reduceMod, appendD, Try.tm_3, hwn3]; exact hq) (by first | rfl | (simp only [go_sem, Nat.reduceLeDiff]; done) | (simp only [go_sem, Nat.reduceLeDiff]; rfl) | (simp; done) | (simp [oneD] <;> omega) | (simp_all; done) | (simp_all [oneD] <;> omega)) (by first | exact Nat.le_refl _ | exact Nat.le_of_ble_eq_true rfl | (dsimp only; omega) | (simp <;> omega)) ?_
        refine .cond rfl rfl (fun hc2 => ?_) (fun hc2 => ?_)
        · skip
          replace hx2 := ite_l hx2 (by first | simpa using hc2 | (simp at hc2 ⊢; omega) | (simp at hc2 ⊢; grind) | grind)
          obtain ⟨k1, hx2⟩ := ite_ck hx2
          refine .plain Try.tmOk Try.tmMixed [2, 4, 5, 6, 7] (by decide +kernel) (by intro q hq; simp only [go_sem, Nat.reduceSub, Int.reduceEq, Nat.reduceLT, Nat.reduceDiv, Nat.reduceAdd, Nat.reduceBEq, Nat.reduceLeDiff, reduceCtorEq, Nat.reduceEqDiff, Nat.reduceMod, appendD, Try.tm_142, hwn3]; exact hq) (by first | rfl | (simp only [go_sem, Nat.reduceLeDiff]; done) | (simp only [go_sem, Nat.reduceLeDiff]; rfl) | (simp; done) | (simp [oneD] <;> omega) | (simp_all; done) | (simp_all [oneD] <;> omega)) (by first | exact Nat.le_refl _ | exact Nat.le_of_ble_eq_true rfl | (dsimp only; omega) | (simp <;> omega)) ?_
          refine ⟨_, ?_, (Option.some.inj hx2).symm⟩
          refine Goes.mv [2, 5, 6, 7] [] [] ?_ (Nat.le_of_ble_eq_true rfl) (Nat.le_of_ble_eq_true rfl) rfl
          first | rfl | (simp only [go_sem, Nat.reduceBEq, Nat.reduceAdd]; done) | (simp only [go_sem, Nat.reduceBEq, Nat.reduceAdd]; rfl)
        · skip
          replace hx2 := ite_r hx2 (by first | simpa using hc2 | (simp at hc2 ⊢; omega) | (simp at hc2 ⊢; grind) | grind)
          refine .skip ?_
          refine ⟨_, ?_, (Option.some.inj hx2).symm⟩
          refine Goes.mv [2, 5, 6, 7] [] [] ?_ (Nat.le_of_ble_eq_true rfl) (Nat.le_of_ble_eq_true rfl) rfl
          first | rfl | (simp only [go_sem, Nat.reduceBEq, Nat.reduceAdd]; done) | (simp only [go_sem, Nat.reduceBEq, Nat.reduceAdd]; rfl)
      · skip
        rintro n4 hj1
        subst x2
        try dsimp only at hx1
        simp only [Try.St_quorum_set_5]
        refine .plain Try.tmOk Try.tmMixed [2, 5, 6, 7] (by decide +kernel) (by intro q hq; simp only [go_sem, Nat.reduceSub, Int.reduceEq, Nat.reduceLT, Nat.reduceDiv, Nat.reduceAdd, Nat.reduceBEq, Nat.reduceLeDiff, reduceCtorEq, Nat.reduceEqDiff, Nat.reduceMod, appendD, Try.tm_3, hwn3]; exact hq) (by first | rfl | (simp only [go_sem, Nat.reduceLeDiff]; done) | (simp only [go_sem, Nat.reduceLeDiff]; rfl) | (simp; done) | (simp [oneD] <;> omega) | (simp_all; done) | (simp_all [oneD] <;> omega)) (by first | exact Nat.le_refl _ | exact Nat.le_of_ble_eq_true rfl | (dsimp only; omega) | (simp <;> omega)) ?_
        refine ⟨(n3 + 1, _), ?_, ⟨by omega, hx1⟩, by dsimp only; omega⟩
        refine Goes.mv [2, 5, 6, 7] [] [] ?_ (Nat.le_of_ble_eq_true rfl) (Nat.le_of_ble_eq_true rfl) rfl
        first | rfl | (simp only [go_sem, Nat.reduceBEq, Nat.reduceAdd]; done) | (simp only [go_sem, Nat.reduceBEq, Nat.reduceAdd]; rfl)
    · skip
      have h2 : n3 = a0.length := by have h2b := of_decide_eq_false hc1; omega
      rw [List.drop_of_length_le (by omega), m_quorum_set_loop1] at hx1
      refine .exit ?_
      refine ⟨_, ?_, (Option.some.inj hx1).symm⟩
      refine Goes.mv [2] [] [] ?_ (Nat.le_of_ble_eq_true rfl) (Nat.le_of_ble_eq_true rfl) rfl
      first | rfl | (simp only [go_sem, Nat.reduceBEq, Nat.reduceAdd]; done) | (simp only [go_sem, Nat.reduceBEq, Nat.reduceAdd]; rfl)
  · skip
    rintro n1 hj2
    subst x1
    try dsimp only at h
    simp only [Try.St_quorum_set_1]
    refine .seq ?_
    refine .plain Try.tmOk Try.tmMixed [2] (by decide +kernel) (by intro q hq; simp only [go_sem, Nat.reduceSub, Int.reduceEq, Nat.reduceLT, Nat.reduceDiv, Nat.reduceAdd, Nat.reduceBEq, Nat.reduceLeDiff, reduceCtorEq, Nat.reduceEqDiff, Nat.reduceMod, appendD]; exact hq) (by first | rfl | (simp only [go_sem, Nat.reduceLeDiff]; done) | (simp only [go_sem, Nat.reduceLeDiff]; rfl) | (simp; done) | (simp [oneD] <;> omega) | (simp_all; done) | (simp_all [oneD] <;> omega)) (by first | exact Nat.le_refl _ | exact Nat.le_of_ble_eq_true rfl | (dsimp only; omega) | (simp <;> omega)) ?_
    have hq := Option.some.inj h
    subst r
    refine .ret ⟨.inr rfl, ResIs.to ?_⟩
    simp only [ResIs, resL, resD, resT, go_sem, Nat.reduceSub, Int.reduceEq, Nat.reduceLT, Nat.reduceDiv, Nat.reduceAdd, Nat.reduceBEq, Nat.reduceLeDiff, reduceCtorEq, Nat.reduceEqDiff, Nat.reduceMod, Try.f91, Try.tm_142]


theorem callP_quorum_Most (a0 : List Int) (a1 : List Int) (r : Bool × Int) (h : m_quorum_Most a0 a1 = some r) : CallP Try.prog 18 [.imm 1 (a0.map (D.int .i64)) 4, .imm 1 (a1.map (D.int .i64)) 4] (.tuple [.bool r.1, .int .i64 r.2]) := by
  refine callP_intro Try.tmOk 2 Try.func18 rfl (by decide) rfl rfl (Nat.le_of_ble_eq_true rfl) ?_
  intro hwf
  unfold m_quorum_Most at h
  refine .seq ?_
  refine .plain Try.tmOk Try.tmMixed [0, 1] (by decide +kernel) (by intro q hq; simp only [go_sem, Nat.reduceSub, Int.reduceEq, Nat.reduceLT, Nat.reduceDiv, Nat.reduceAdd, Nat.reduceBEq, Nat.reduceLeDiff, reduceCtorEq, Nat.reduceEqDiff, Nat.reduceMod, appendD]; exact hq) (by first | rfl | (simp only [go_sem, Nat.reduceLeDiff]; done) | (simp only [go_sem, Nat.reduceLeDiff]; rfl) | (simp; done) | (simp [oneD] <;> omega) | (simp_all; done) | (simp_all [oneD] <;> omega)) (by first | exact Nat.le_refl _ | exact Nat.le_of_ble_eq_true rfl | (dsimp only; omega) | (simp <;> omega)) ?_
  refine .seq ?_
  obtain ⟨v1, hv1, h⟩ := bind_some h
  refine .reg Try.tmOk Try.tmMixed [0, 1] (by decide +kernel) ?_
  refine .RN 1 (dr := false) (.inr fun _ _ _ h => ⟨nofun, h.2⟩) (by intro q hq; simp only [go_sem, Nat.reduceSub, Int.reduceEq, Nat.reduceLT, Nat.reduceDiv, Nat.reduceAdd, Nat.reduceBEq, Nat.reduceLeDiff, reduceCtorEq, Nat.reduceEqDiff, Nat.reduceMod, appendD]; exact hq) (by first | rfl | (simp only [go_sem, Nat.reduceLeDiff]; done) | (simp only [go_sem, Nat.reduceLeDiff]; rfl) | (simp; done) | (simp [oneD] <;> omega) | (simp_all; done) | (simp_all [oneD] <;> omega)) (by first | exact Nat.le_refl _ | exact Nat.le_of_ble_eq_true rfl | (dsimp only; omega) | (simp <;> omega)) ?_
  refine .call (r := .tuple [.int .i64 v1.1, .int .i64 v1.2]) rfl rfl rfl rfl rfl rfl (callP_quorum_Need a0 v1 hv1) ?_
  refine .RN 5 (dr := false) (.inr fun _ _ _ h => ⟨nofun, h.2⟩) (by intro q hq; simp only [go_sem, Nat.reduceSub, Int.reduceEq, Nat.reduceLT, Nat.reduceDiv, Nat.reduceAdd, Nat.reduceBEq, Nat.reduceLeDiff, reduceCtorEq, Nat.reduceEqDiff, Nat.reduceMod, appendD]; exact hq) (by first | rfl | (simp only [go_sem, Nat.reduceLeDiff]; done) | (simp only [go_sem, Nat.reduceLeDiff]; rfl) | (simp; done) | (simp [oneD] <;> omega) | (simp_all; done) | (simp_all [oneD] <;> omega)) (by first | exact Nat.le_refl _ | exact Nat.le_of_ble_eq_true rfl | (dsimp only; omega) | (simp <;> omega)) ?_
  refine .nil ⟨nofun, ?_⟩
  refine .seq ?_
  refine .seq ?_
  refine .plain Try.tmOk Try.tmMixed [0, 1, 6, 7] (by decide +kernel) (by intro q hq; simp only [go_sem, Nat.reduceSub, Int.reduceEq, Nat.reduceLT, Nat.reduceDiv, Nat.reduceAdd, Nat.reduceBEq, Nat.reduceLeDiff, reduceCtorEq, Nat.reduceEqDiff, Nat.reduceMod, appendD, Try.tm_27]; exact hq) (by first | rfl | (simp only [go_sem, Nat.reduceLeDiff]; done) | (simp only [go_sem, Nat.reduceLeDiff]; rfl) | (simp; done) | (simp [oneD] <;> omega) | (simp_all; done) | (simp_all [oneD] <;> omega)) (by first | exact Nat.le_refl _ | exact Nat.le_of_ble_eq_true rfl | (dsimp only; omega) | (simp <;> omega)) ?_
  refine .cond rfl rfl (fun hc1 => ?_) (fun hc1 => ?_)
  · skip
    replace h := ite_l h (by first | simpa using hc1 | (simp at hc1 ⊢; omega) | (simp at hc1 ⊢; grind) | grind)
    refine .seq ?_
    refine .plain Try.tmOk Try.tmMixed [7] (by decide +kernel) (by intro q hq; simp only [go_sem, Nat.reduceSub, Int.reduceEq, Nat.reduceLT, Nat.reduceDiv, Nat.reduceAdd, Nat.reduceBEq, Nat.reduceLeDiff, reduceCtorEq, Nat.reduceEqDiff, Nat.reduceMod, appendD]; exact hq) (by first | rfl | (simp only [go_sem, Nat.reduceLeDiff]; done) | (simp only [go_sem, Nat.reduceLeDiff]; rfl) | (simp; done) | (simp [oneD] <;> omega) | (simp_all; done) | (simp_all [oneD] <;> omega)) (by first | exact Nat.le_refl _ | exact Nat.le_of_ble_eq_true rfl | (dsimp only; omega) | (simp <;> omega)) ?_
    have hq := Option.some.inj h
    subst r
    refine .ret ⟨.inr rfl, ResIs.to ?_⟩
    simp only [ResIs, resL, resD, resT, go_sem, Nat.reduceSub, Int.reduceEq, Nat.reduceLT, Nat.reduceDiv, Nat.reduceAdd, Nat.reduceBEq, Nat.reduceLeDiff, reduceCtorEq, Nat.reduceEqDiff, Nat.reduceMod, Try.f18, Try.tm_4, Try.tm_27]
  · skip
    replace h := ite_r h (by first | simpa using hc1 | (simp at hc1 ⊢; omega) | (simp at hc1 ⊢; grind) | grind)
    refine .skip ?_
    refine .seq ?_
    refine .seq ?_
    refine .plain Try.tmOk Try.tmMixed [0, 1, 6] (by decide +kernel) (by intro q hq; simp only [go_sem, Nat.reduceSub, Int.reduceEq, Nat.reduceLT, Nat.reduceDiv, Nat.reduceAdd, Nat.reduceBEq, Nat.reduceLeDiff, reduceCtorEq, Nat.reduceEqDiff, Nat.reduceMod, appendD, Try.tm_3, Try.tm_22]; exact hq) (by first | rfl | (simp only [go_sem, Nat.reduceLeDiff]; done) | (simp only [go_sem, Nat.reduceLeDiff]; rfl) | (simp; done) | (simp [oneD] <;> omega) | (simp_all; done) | (simp_all [oneD] <;> omega)) (by first | exact Nat.le_refl _ | exact Nat.le_of_ble_eq_true rfl | (dsimp only; omega) | (simp <;> omega)) ?_
    refine .cond rfl rfl (fun hc2 => ?_) (fun hc2 => ?_)
    · skip
      replace h := ite_l h (by first | simpa using hc2 | (simp at hc2 ⊢; omega) | (simp at hc2 ⊢; grind) | grind)
      refine .seq ?_
      refine .plain Try.tmOk Try.tmMixed [] (by decide +kernel) (by intro q hq; simp only [go_sem, Nat.reduceSub, Int.reduceEq, Nat.reduceLT, Nat.reduceDiv, Nat.reduceAdd, Nat.reduceBEq, Nat.reduceLeDiff, reduceCtorEq, Nat.reduceEqDiff, Nat.reduceMod, appendD]; exact hq) (by first | rfl | (simp only [go_sem, Nat.reduceLeDiff]; done) | (simp only [go_sem, Nat.reduceLeDiff]; rfl) | (simp; done) | (simp [oneD] <;> omega) | (simp_all; done) | (simp_all [oneD] <;> omega)) (by first | exact Nat.le_refl _ | exact Nat.le_of_ble_eq_true rfl | (dsimp only; omega) | (simp <;> omega)) ?_
      have hq := Option.some.inj h
      subst r
      refine .ret ⟨.inr rfl, ResIs.to ?_⟩
      simp only [ResIs, resL, resD, resT, go_sem, Nat.reduceSub, Int.reduceEq, Nat.reduceLT, Nat.reduceDiv, Nat.reduceAdd, Nat.reduceBEq, Nat.reduceLeDiff, reduceCtorEq, Nat.reduceEqDiff, Nat.reduceMod, Try.f18, Try.tm_4, Try.tm_27]
    · skip
      replace h := ite_r h (by first | simpa using hc2 | (simp at hc2 ⊢; omega) | (simp at hc2 ⊢; grind) | grind)
      refine .skip ?_
      refine .seq ?_
      obtain ⟨v2, hv2, h⟩ := bind_some h
      obtain ⟨v3, hv3, h⟩ := bind_some h
      obtain ⟨v4, hv4, h⟩ := bind_some h
      refine .reg Try.tmOk Try.tmMixed [0, 1, 6] (by decide +kernel) ?_
      refine .RN 1 (dr := false) (.inr fun _ _ _ h => ⟨nofun, h.2⟩) (by intro q hq; simp only [go_sem, Nat.reduceSub, Int.reduceEq, Nat.reduceLT, Nat.reduceDiv, Nat.reduceAdd, Nat.reduceBEq, Nat.reduceLeDiff, reduceCtorEq, Nat.reduceEqDiff, Nat.reduceMod, appendD]; exact hq) (by first | rfl | (simp only [go_sem, Nat.reduceLeDiff]; done) | (simp only [go_sem, Nat.reduceLeDiff]; rfl) | (simp; done) | (simp [oneD] <;> omega) | (simp_all; done) | (simp_all [oneD] <;> omega)) (by first | exact Nat.le_refl _ | exact Nat.le_of_ble_eq_true rfl | (dsimp only; omega) | (simp <;> omega)) ?_
      refine .call (r := .int .u64 v2) rfl rfl rfl rfl rfl rfl (callP_quorum_set a0 v2 hv2) ?_
      refine .RN 1 (dr := false) (.inr fun _ _ _ h => ⟨nofun, h.2⟩) (by intro q hq; simp only [go_sem, Nat.reduceSub, Int.reduceEq, Nat.reduceLT, Nat.reduceDiv, Nat.reduceAdd, Nat.reduceBEq, Nat.reduceLeDiff, reduceCtorEq, Nat.reduceEqDiff, Nat.reduceMod, appendD]; exact hq) (by first | rfl | (simp only [go_sem, Nat.reduceLeDiff]; done) | (simp only [go_sem, Nat.reduceLeDiff]; rfl) | (simp; done) | (simp [oneD] <;> omega) | (simp_all; done) | (simp_all [oneD] <;> omega)) (by first | exact Nat.le_refl _ | exact Nat.le_of_ble_eq_true rfl | (dsimp only; omega) | (simp <;> omega)) ?_
      refine .call (r := .int .u64 v3) rfl rfl rfl rfl rfl rfl (callP_quorum_set a1 v3 hv3) ?_
      refine .RN 1 (dr := false) (.inr fun _ _ _ h => ⟨nofun, h.2⟩) (by intro q hq; simp only [go_sem, Nat.reduceSub, Int.reduceEq, Nat.reduceLT, Nat.reduceDiv, Nat.reduceAdd, Nat.reduceBEq, Nat.reduceLeDiff, reduceCtorEq, Nat.reduceEqDiff, Nat.reduceMod, appendD, Try.tm_142]; exact hq) (by first | rfl | (simp only [go_sem, Nat.reduceLeDiff]; done) | (simp only [go_sem, Nat.reduceLeDiff]; rfl) | (simp; done) | (simp [oneD] <;> omega) | (simp_all; done) | (simp_all [oneD] <;> omega)) (by first | exact Nat.le_refl _ | exact Nat.le_of_ble_eq_true rfl | (dsimp only; omega) | (simp <;> omega)) ?_
      refine .call (r := .int .i64 v4) rfl rfl rfl rfl rfl rfl (callP_math_bits_OnesCount (bitw .and .u64 v2 v3) v4 hv4) ?_
      refine .RN 4 (dr := false) (.inr fun _ _ _ h => ⟨nofun, h.2⟩) (by intro q hq; simp only [go_sem, Nat.reduceSub, Int.reduceEq, Nat.reduceLT, Nat.reduceDiv, Nat.reduceAdd, Nat.reduceBEq, Nat.reduceLeDiff, reduceCtorEq, Nat.reduceEqDiff, Nat.reduceMod, appendD, Try.tm_3]; exact hq) (by first | rfl | (simp only [go_sem, Nat.reduceLeDiff]; done) | (simp only [go_sem, Nat.reduceLeDiff]; rfl) | (simp; done) | (simp [oneD] <;> omega) | (simp_all; done) | (simp_all [oneD] <;> omega)) (by first | exact Nat.le_refl _ | exact Nat.le_of_ble_eq_true rfl | (dsimp only; omega) | (simp <;> omega)) ?_
      refine .nil ⟨nofun, ?_⟩
      have hq := Option.some.inj h
      subst r
      refine .ret ⟨.inr rfl, ResIs.to ?_⟩
      simp only [ResIs, resL, resD, resT, go_sem, Nat.reduceSub, Int.reduceEq, Nat.reduceLT, Nat.reduceDiv, Nat.reduceAdd, Nat.reduceBEq, Nat.reduceLeDiff, reduceCtorEq, Nat.reduceEqDiff, Nat.reduceMod, Try.f18, Try.tm_4, Try.tm_27]


theorem callP_attempt_most (a0 : List Int) (a1 : List Int) (r : Bool) (h : m_attempt_most a0 a1 = some r) : CallP Try.prog 86 [.imm 1 (a0.map (D.int .i64)) 4, .imm 1 (a1.map (D.int .i64)) 4] (.bool r) := by
  refine callP_intro Try.tmOk 2 Try.func86 rfl (by decide) rfl rfl (Nat.le_of_ble_eq_true rfl) ?_
  intro hwf
  unfold m_attempt_most at h
  refine .seq ?_
  refine .plain Try.tmOk Try.tmMixed [0, 1] (by decide +kernel) (by intro q hq; simp only [go_sem, Nat.reduceSub, Int.reduceEq, Nat.reduceLT, Nat.reduceDiv, Nat.reduceAdd, Nat.reduceBEq, Nat.reduceLeDiff, reduceCtorEq, Nat.reduceEqDiff, Nat.reduceMod, appendD]; exact hq) (by first | rfl | (simp only [go_sem, Nat.reduceLeDiff]; done) | (simp only [go_sem, Nat.reduceLeDiff]; rfl) | (simp; done) | (simp [oneD] <;> omega) | (simp_all; done) | (simp_all [oneD] <;> omega)) (by first | exact Nat.le_refl _ | exact Nat.le_of_ble_eq_true rfl | (dsimp only; omega) | (simp <;> omega)) ?_
  refine .seq ?_
  obtain ⟨v1, hv1, h⟩ := bind_some h
  refine .reg Try.tmOk Try.tmMixed [0, 1] (by decide +kernel) ?_
  refine .RN 2 (dr := false) (.inr fun _ _ _ h => ⟨nofun, h.2⟩) (by intro q hq; simp only [go_sem, Nat.reduceSub, Int.reduceEq, Nat.reduceLT, Nat.reduceDiv, Nat.reduceAdd, Nat.reduceBEq, Nat.reduceLeDiff, reduceCtorEq, Nat.reduceEqDiff, Nat.reduceMod, appendD]; exact hq) (by first | rfl | (simp only [go_sem, Nat.reduceLeDiff]; done) | (simp only [go_sem, Nat.reduceLeDiff]; rfl) | (simp; done) | (simp [oneD] <;> omega) | (simp_all; done) | (simp_all [oneD] <;> omega)) (by first | exact Nat.le_refl _ | exact Nat.le_of_ble_eq_true rfl | (dsimp only; omega) | (simp <;> omega)) ?_
  refine .call (r := .tuple [.bool v1.1, .int .i64 v1.2]) rfl rfl rfl rfl rfl rfl (callP_quorum_Most a0 a1 v1 hv1) ?_
  refine .RN 5 (dr := false) (.inr fun _ _ _ h => ⟨nofun, h.2⟩) (by intro q hq; simp only [go_sem, Nat.reduceSub, Int.reduceEq, Nat.reduceLT, Nat.reduceDiv, Nat.reduceAdd, Nat.reduceBEq, Nat.reduceLeDiff, reduceCtorEq, Nat.reduceEqDiff, Nat.reduceMod, appendD]; exact hq) (by first | rfl | (simp only [go_sem, Nat.reduceLeDiff]; done) | (simp only [go_sem, Nat.reduceLeDiff]; rfl) | (simp; done) | (simp [oneD] <;> omega) | (simp_all; done) | (simp_all [oneD] <;> omega)) (by first | exact Nat.le_refl _ | exact Nat.le_of_ble_eq_true rfl | (dsimp only; omega) | (simp <;> omega)) ?_
  refine .nil ⟨nofun, ?_⟩
  refine .seq ?_
  refine .plain Try.tmOk Try.tmMixed [5] (by decide +kernel) (by intro q hq; simp only [go_sem, Nat.reduceSub, Int.reduceEq, Nat.reduceLT, Nat.reduceDiv, Nat.reduceAdd, Nat.reduceBEq, Nat.reduceLeDiff, reduceCtorEq, Nat.reduceEqDiff, Nat.reduceMod, appendD]; exact hq) (by first | rfl | (simp only [go_sem, Nat.reduceLeDiff]; done) | (simp only [go_sem, Nat.reduceLeDiff]; rfl) | (simp; done) | (simp [oneD] <;> omega) | (simp_all; done) | (simp_all [oneD] <;> omega)) (by first | exact Nat.le_refl _ | exact Nat.le_of_ble_eq_true rfl | (dsimp only; omega) | (simp <;> omega)) ?_
  have hq := Option.some.inj h
  subst r
  refine .ret ⟨.inr rfl, ResIs.to ?_⟩
  simp only [ResIs, resL, resD, resT, go_sem, Nat.reduceSub, Int.reduceEq, Nat.reduceLT, Nat.reduceDiv, Nat.reduceAdd, Nat.reduceBEq, Nat.reduceLeDiff, reduceCtorEq, Nat.reduceEqDiff, Nat.reduceMod, Try.f86, Try.tm_4]


theorem callP_attempt_Same (a0 : TAttempt) (a1 : TAttempt) (r : Bool) (h : m_attempt_Same a0 a1 = some r) : CallP Try.prog 29 [.agg [.int .u8 a0.Phase, .int .i64 a0.Ballot, .imm 1 (a0.Members.map (D.int .i64)) 4, .str a0.Wish, .str a0.Value, .imm 3 (a0.Promises.map TPromise.d) 4, .imm 1 (a0.Accepted.map (D.int .i64)) 4], .agg [.int .u8 a1.Phase, .int .i64 a1.Ballot, .imm 1 (a1.Members.map (D.int .i64)) 4, .str a1.Wish, .str a1.Value, .imm 3 (a1.Promises.map TPromise.d) 4, .imm 1 (a1.Accepted.map (D.int .i64)) 4]] (.bool r) := by
  refine callP_intro Try.tmOk 4 Try.func29 rfl (by decide) rfl rfl (Nat.le_of_ble_eq_true rfl) ?_
  intro hwf
  unfold m_attempt_Same at h
  refine .seq ?_
  refine .plain Try.tmOk Try.tmMixed [0, 1] (by decide +kernel) (by intro q hq; simp only [go_sem, Nat.reduceSub, Int.reduceEq, Nat.reduceLT, Nat.reduceDiv, Nat.reduceAdd, Nat.reduceBEq, Nat.reduceLeDiff, reduceCtorEq, Nat.reduceEqDiff, Nat.reduceMod, appendD, Try.tm_26, TAttempt.d]; exact hq) (by first | rfl | (simp only [go_sem, Nat.reduceLeDiff]; done) | (simp only [go_sem, Nat.reduceLeDiff]; rfl) | (simp; done) | (simp [oneD] <;> omega) | (simp_all; done) | (simp_all [oneD] <;> omega)) (by first | exact Nat.le_refl _ | exact Nat.le_of_ble_eq_true rfl | (dsimp only; omega) | (simp <;> omega)) ?_
  refine .seq ?_
  obtain ⟨v1, hv1, h⟩ := bind_some h
  obtain ⟨v2, hv2, h⟩ := bind_some h
  obtain ⟨v3, hv3, h⟩ := bind_some h
  refine .reg Try.tmOk Try.tmMixed [2, 3] (by decide +kernel) ?_
  refine .RN 6 (dr := false) (.inr fun _ _ _ h => ⟨nofun, h.2⟩) (by intro q hq; simp only [go_sem, Nat.reduceSub, Int.reduceEq, Nat.reduceLT, Nat.reduceDiv, Nat.reduceAdd, Nat.reduceBEq, Nat.reduceLeDiff, reduceCtorEq, Nat.reduceEqDiff, Nat.reduceMod, appendD, Try.tm_5, Try.tm_26, TAttempt.d, TPromise.d]; exact hq) (by first | rfl | (simp only [go_sem, Nat.reduceLeDiff]; done) | (simp only [go_sem, Nat.reduceLeDiff]; rfl) | (simp; done) | (simp [oneD] <;> omega) | (simp_all; done) | (simp_all [oneD] <;> omega)) (by first | exact Nat.le_refl _ | exact Nat.le_of_ble_eq_true rfl | (dsimp only; omega) | (simp <;> omega)) ?_
  refine .RN 6 (dr := false) (.inr fun _ _ _ h => ⟨nofun, h.2⟩) (by intro q hq; simp only [go_sem, Nat.reduceSub, Int.reduceEq, Nat.reduceLT, Nat.reduceDiv, Nat.reduceAdd, Nat.reduceBEq, Nat.reduceLeDiff, reduceCtorEq, Nat.reduceEqDiff, Nat.reduceMod, appendD, Try.tm_3, Try.tm_26, TAttempt.d, TPromise.d]; exact hq) (by first | rfl | (simp only [go_sem, Nat.reduceLeDiff]; done) | (simp only [go_sem, Nat.reduceLeDiff]; rfl) | (simp; done) | (simp [oneD] <;> omega) | (simp_all; done) | (simp_all [oneD] <;> omega)) (by first | exact Nat.le_refl _ | exact Nat.le_of_ble_eq_true rfl | (dsimp only; omega) | (simp <;> omega)) ?_
  refine .RN 5 (dr := false) (.inr fun _ _ _ h => ⟨nofun, h.2⟩) (by intro q hq; simp only [go_sem, Nat.reduceSub, Int.reduceEq, Nat.reduceLT, Nat.reduceDiv, Nat.reduceAdd, Nat.reduceBEq, Nat.reduceLeDiff, reduceCtorEq, Nat.reduceEqDiff, Nat.reduceMod, appendD, Try.tm_22, Try.tm_26, TAttempt.d, TPromise.d]; exact hq) (by first | rfl | (simp only [go_sem, Nat.reduceLeDiff]; done) | (simp only [go_sem, Nat.reduceLeDiff]; rfl) | (simp; done) | (simp [oneD] <;> omega) | (simp_all; done) | (simp_all [oneD] <;> omega)) (by first | exact Nat.le_refl _ | exact Nat.le_of_ble_eq_true rfl | (dsimp only; omega) | (simp <;> omega)) ?_
  refine .gcall (r := .bool v1) rfl rfl rfl rfl rfl (fun hg => ⟨[], [.imm 1 (a0.Members.map (D.int .i64)) 4, .imm 1 (a1.Members.map (D.int .i64)) 4], _, rfl, (by first | (simp only [opds, opd, ev, ofVal, getR, getL, Nat.beq, cond_true, cond_false, Bool.not_true, Bool.false_or, Bool.and_true, Bool.true_and, Prod.mk.injEq, true_and]; done) | (simp only [opds, opd, ev, ofVal, getR, getL, Nat.beq, cond_true, cond_false, Bool.not_true, Bool.false_or, Bool.and_true, Bool.true_and, Prod.mk.injEq, true_and]; first | exact hg | simpa using hg | (simp at hg ⊢; grind)) | rfl), rfl, (callP_slices_Equal_int_int a0.Members a1.Members v1 (ite_l hv1 (by first | simpa using hg | (simp at hg ⊢; omega) | (simp at hg ⊢; grind) | grind)))⟩) ?_
  refine .RN 6 (dr := false) (.inr fun _ _ _ h => ⟨nofun, h.2⟩) (by intro q hq; simp only [go_sem, Nat.reduceSub, Int.reduceEq, Nat.reduceLT, Nat.reduceDiv, Nat.reduceAdd, Nat.reduceBEq, Nat.reduceLeDiff, reduceCtorEq, Nat.reduceEqDiff, Nat.reduceMod, appendD, Try.tm_9, Try.tm_26, TAttempt.d, TPromise.d]; exact hq) (by first | rfl | (simp only [go_sem, Nat.reduceLeDiff]; done) | (simp only [go_sem, Nat.reduceLeDiff]; rfl) | (simp; done) | (simp [oneD] <;> omega) | (simp_all; done) | (simp_all [oneD] <;> omega)) (by first | exact Nat.le_refl _ | exact Nat.le_of_ble_eq_true rfl | (dsimp only; omega) | (simp <;> omega)) ?_
  refine .RN 6 (dr := false) (.inr fun _ _ _ h => ⟨nofun, h.2⟩) (by intro q hq; simp only [go_sem, Nat.reduceSub, Int.reduceEq, Nat.reduceLT, Nat.reduceDiv, Nat.reduceAdd, Nat.reduceBEq, Nat.reduceLeDiff, reduceCtorEq, Nat.reduceEqDiff, Nat.reduceMod, appendD, Try.tm_9, Try.tm_26, TAttempt.d, TPromise.d]; exact hq) (by first | rfl | (simp only [go_sem, Nat.reduceLeDiff]; done) | (simp only [go_sem, Nat.reduceLeDiff]; rfl) | (simp; done) | (simp [oneD] <;> omega) | (simp_all; done) | (simp_all [oneD] <;> omega)) (by first | exact Nat.le_refl _ | exact Nat.le_of_ble_eq_true rfl | (dsimp only; omega) | (simp <;> omega)) ?_
  refine .RN 8 (dr := false) (.inr fun _ _ _ h => ⟨nofun, h.2⟩) (by intro q hq; simp only [go_sem, Nat.reduceSub, Int.reduceEq, Nat.reduceLT, Nat.reduceDiv, Nat.reduceAdd, Nat.reduceBEq, Nat.reduceLeDiff, reduceCtorEq, Nat.reduceEqDiff, Nat.reduceMod, appendD, Try.tm_9, Try.tm_23, Try.tm_26, TAttempt.d, TPromise.d]; exact hq) (by first | rfl | (simp only [go_sem, Nat.reduceLeDiff]; done) | (simp only [go_sem, Nat.reduceLeDiff]; rfl) | (simp; done) | (simp [oneD] <;> omega) | (simp_all; done) | (simp_all [oneD] <;> omega)) (by first | exact Nat.le_refl _ | exact Nat.le_of_ble_eq_true rfl | (dsimp only; omega) | (simp <;> omega)) ?_
  refine .gcall (r := .bool v2) rfl rfl rfl rfl rfl (fun hg => ⟨[], [.imm 3 (a0.Promises.map TPromise.d) 4, .imm 3 (a1.Promises.map TPromise.d) 4], _, rfl, (by first | (simp only [opds, opd, ev, ofVal, getR, getL, Nat.beq, cond_true, cond_false, Bool.not_true, Bool.false_or, Bool.and_true, Bool.true_and, Prod.mk.injEq, true_and]; done) | (simp only [opds, opd, ev, ofVal, getR, getL, Nat.beq, cond_true, cond_false, Bool.not_true, Bool.false_or, Bool.and_true, Bool.true_and, Prod.mk.injEq, true_and]; first | exact hg | simpa using hg | (simp at hg ⊢; grind)) | rfl), rfl, (callP_slices_Equal_Promise_Promise a0.Promises a1.Promises v2 (ite_l hv2 (by first | simpa using hg | (simp at hg ⊢; omega) | (simp at hg ⊢; grind) | grind)))⟩) ?_
  refine .RN 6 (dr := false) (.inr fun _ _ _ h => ⟨nofun, h.2⟩) (by intro q hq; simp only [go_sem, Nat.reduceSub, Int.reduceEq, Nat.reduceLT, Nat.reduceDiv, Nat.reduceAdd, Nat.reduceBEq, Nat.reduceLeDiff, reduceCtorEq, Nat.reduceEqDiff, Nat.reduceMod, appendD, Try.tm_22, Try.tm_26, TAttempt.d, TPromise.d]; exact hq) (by first | rfl | (simp only [go_sem, Nat.reduceLeDiff]; done) | (simp only [go_sem, Nat.reduceLeDiff]; rfl) | (simp; done) | (simp [oneD] <;> omega) | (simp_all; done) | (simp_all [oneD] <;> omega)) (by first | exact Nat.le_refl _ | exact Nat.le_of_ble_eq_true rfl | (dsimp only; omega) | (simp <;> omega)) ?_
  refine .gcall (r := .bool v3) rfl rfl rfl rfl rfl (fun hg => ⟨[], [.imm 1 (a0.Accepted.map (D.int .i64)) 4, .imm 1 (a1.Accepted.map (D.int .i64)) 4], _, rfl, (by first | (simp only [opds, opd, ev, ofVal, getR, getL, Nat.beq, cond_true, cond_false, Bool.not_true, Bool.false_or, Bool.and_true, Bool.true_and, Prod.mk.injEq, true_and]; done) | (simp only [opds, opd, ev, ofVal, getR, getL, Nat.beq, cond_true, cond_false, Bool.not_true, Bool.false_or, Bool.and_true, Bool.true_and, Prod.mk.injEq, true_and]; first | exact hg | simpa using hg | (simp at hg ⊢; grind)) | rfl), rfl, (callP_slices_Equal_int_int a0.Accepted a1.Accepted v3 (ite_l hv3 (by first | simpa using hg | (simp at hg ⊢; omega) | (simp at hg ⊢; grind) | grind)))⟩) ?_
  refine .RN 2 (dr := false) (.inr fun _ _ _ h => ⟨nofun, h.2⟩) (by intro q hq; simp only [go_sem, Nat.reduceSub, Int.reduceEq, Nat.reduceLT, Nat.reduceDiv, Nat.reduceAdd, Nat.reduceBEq, Nat.reduceLeDiff, reduceCtorEq, Nat.reduceEqDiff, Nat.reduceMod, appendD, TAttempt.d, TPromise.d]; exact hq) (by first | rfl | (simp only [go_sem, Nat.reduceLeDiff]; done) | (simp only [go_sem, Nat.reduceLeDiff]; rfl) | (simp; done) | (simp [oneD] <;> omega) | (simp_all; done) | (simp_all [oneD] <;> omega)) (by first | exact Nat.le_refl _ | exact Nat.le_of_ble_eq_true rfl | (dsimp only; omega) | (simp <;> omega)) ?_
  refine .nil ⟨nofun, ?_⟩
  have hq := Option.some.inj h
  subst r
  refine .ret ⟨.inr rfl, ResIs.to ?_⟩
  simp only [ResIs, resL, resD, resT, go_sem, Nat.reduceSub, Int.reduceEq, Nat.reduceLT, Nat.reduceDiv, Nat.reduceAdd, Nat.reduceBEq, Nat.reduceLeDiff, reduceCtorEq, Nat.reduceEqDiff, Nat.reduceMod, Try.f29, Try.tm_4]

def Try.St_towncrierref08_Same_1 : St := ⟨[], [], 2⟩
attribute [local go_sem] Try.St_towncrierref08_Same_1
def Try.St_towncrierref08_Same_3 (a0 : TAttempt) (a1 : TAttempt) (n1 : Nat) : St := ⟨[(2, .ptr 0 0), (3, .ptr 1 0), (5, .int .i64 (n1 : Int))], [(0, .box [.int .u8 a0.Phase, .int .i64 a0.Ballot, .imm 1 (a0.Members.map (D.int .i64)) 4, .str a0.Wish, .str a0.Value, .imm 3 (a0.Promises.map TPromise.d) 4, .imm 1 (a0.Accepted.map (D.int .i64)) 4]), (1, .box [.int .u8 a1.Phase, .int .i64 a1.Ballot, .imm 1 (a1.Members.map (D.int .i64)) 4, .str a1.Wish, .str a1.Value, .imm 3 (a1.Promises.map TPromise.d) 4, .imm 1 (a1.Accepted.map (D.int .i64)) 4])], 2⟩
attribute [local go_sem] Try.St_towncrierref08_Same_3
theorem callP_towncrierref08_Same (a0 : TAttempt) (a1 : TAttempt) (r : Bool) (h : m_towncrierref08_Same a0 a1 = some r) : CallP Try.prog 27 [.agg [.int .u8 a0.Phase, .int .i64 a0.Ballot, .imm 1 (a0.Members.map (D.int .i64)) 4, .str a0.Wish, .str a0.Value, .imm 3 (a0.Promises.map TPromise.d) 4, .imm 1 (a0.Accepted.map (D.int .i64)) 4], .agg [.int .u8 a1.Phase, .int .i64 a1.Ballot, .imm 1 (a1.Members.map (D.int .i64)) 4, .str a1.Wish, .str a1.Value, .imm 3 (a1.Promises.map TPromise.d) 4, .imm 1 (a1.Accepted.map (D.int .i64)) 4]] (.bool r) := by
  refine callP_intro Try.tmOk 4 Try.func27 rfl (by decide) rfl rfl (Nat.le_of_ble_eq_true rfl) ?_
  intro hwf
  unfold m_towncrierref08_Same at h
  refine .seq ?_
  refine .plain Try.tmOk Try.tmMixed [0, 1] (by decide +kernel) (by intro q hq; simp only [go_sem, Nat.reduceSub, Int.reduceEq, Nat.reduceLT, Nat.reduceDiv, Nat.reduceAdd, Nat.reduceBEq, Nat.reduceLeDiff, reduceCtorEq, Nat.reduceEqDiff, Nat.reduceMod, appendD, Try.tm_26, TAttempt.d]; exact hq) (by first | rfl | (simp only [go_sem, Nat.reduceLeDiff]; done) | (simp only [go_sem, Nat.reduceLeDiff]; rfl) | (simp; done) | (simp [oneD] <;> omega) | (simp_all; done) | (simp_all [oneD] <;> omega)) (by first | exact Nat.le_refl _ | exact Nat.le_of_ble_eq_true rfl | (dsimp only; omega) | (simp <;> omega)) ?_
  refine .seq ?_
  refine .seq ?_
  obtain ⟨v1, hv1, h⟩ := bind_some h
  obtain ⟨v2, hv2, h⟩ := bind_some h
  refine .reg Try.tmOk Try.tmMixed [2, 3] (by decide +kernel) ?_
  refine .RN 6 (dr := false) (.inr fun _ _ _ h => ⟨nofun, h.2⟩) (by intro q hq; simp only [go_sem, Nat.reduceSub, Int.reduceEq, Nat.reduceLT, Nat.reduceDiv, Nat.reduceAdd, Nat.reduceBEq, Nat.reduceLeDiff, reduceCtorEq, Nat.reduceEqDiff, Nat.reduceMod, appendD, Try.tm_5, Try.tm_26, TAttempt.d, TPromise.d]; exact hq) (by first | rfl | (simp only [go_sem, Nat.reduceLeDiff]; done) | (simp only [go_sem, Nat.reduceLeDiff]; rfl) | (simp; done) | (simp [oneD] <;> omega) | (simp_all; done) | (simp_all [oneD] <;> omega)) (by first | exact Nat.le_refl _ | exact Nat.le_of_ble_eq_true rfl | (dsimp only; omega) | (simp <;> omega)) ?_
  refine .RN 6 (dr := false) (.inr fun _ _ _ h => ⟨nofun, h.2⟩) (by intro q hq; simp only [go_sem, Nat.reduceSub, Int.reduceEq, Nat.reduceLT, Nat.reduceDiv, Nat.reduceAdd, Nat.reduceBEq, Nat.reduceLeDiff, reduceCtorEq, Nat.reduceEqDiff, Nat.reduceMod, appendD, Try.tm_3, Try.tm_26, TAttempt.d, TPromise.d]; exact hq) (by first | rfl | (simp only [go_sem, Nat.reduceLeDiff]; done) | (simp only [go_sem, Nat.reduceLeDiff]; rfl) | (simp; done) | (simp [oneD] <;> omega) | (simp_all; done) | (simp_all [oneD] <;> omega)) (by first | exact Nat.le_refl _ | exact Nat.le_of_ble_eq_true rfl | (dsimp only; omega) | (simp <;> omega)) ?_
  refine .RN 5 (dr := false) (.inr fun _ _ _ h => ⟨nofun, h.2⟩) (by intro q hq; simp only [go_sem, Nat.reduceSub, Int.reduceEq, Nat.reduceLT, Nat.reduceDiv, Nat.reduceAdd, Nat.reduceBEq, Nat.reduceLeDiff, reduceCtorEq, Nat.reduceEqDiff, Nat.reduceMod, appendD, Try.tm_22, Try.tm_26, TAttempt.d, TPromise.d]; exact hq) (by first | rfl | (simp only [go_sem, Nat.reduceLeDiff]; done) | (simp only [go_sem, Nat.reduceLeDiff]; rfl) | (simp; done) | (simp [oneD] <;> omega) | (simp_all; done) | (simp_all [oneD] <;> omega)) (by first | exact Nat.le_refl _ | exact Nat.le_of_ble_eq_true rfl | (dsimp only; omega) | (simp <;> omega)) ?_
  refine .gcall (r := .bool v1) rfl rfl rfl rfl rfl (fun hg => ⟨[], [.imm 1 (a0.Members.map (D.int .i64)) 4, .imm 1 (a1.Members.map (D.int .i64)) 4], _, rfl, (by first | (simp only [opds, opd, ev, ofVal, getR, getL, Nat.beq, cond_true, cond_false, Bool.not_true, Bool.false_or, Bool.and_true, Bool.true_and, Prod.mk.injEq, true_and]; done) | (simp only [opds, opd, ev, ofVal, getR, getL, Nat.beq, cond_true, cond_false, Bool.not_true, Bool.false_or, Bool.and_true, Bool.true_and, Prod.mk.injEq, true_and]; first | exact hg | simpa using hg | (simp at hg ⊢; grind)) | rfl), rfl, (callP_towncrierref01_SameInts a0.Members a1.Members v1 (ite_l hv1 (by first | simpa using hg | (simp at hg ⊢; omega) | (simp at hg ⊢; grind) | grind)))⟩) ?_
  refine .RN 6 (dr := false) (.inr fun _ _ _ h => ⟨nofun, h.2⟩) (by intro q hq; simp only [go_sem, Nat.reduceSub, Int.reduceEq, Nat.reduceLT, Nat.reduceDiv, Nat.reduceAdd, Nat.reduceBEq, Nat.reduceLeDiff, reduceCtorEq, Nat.reduceEqDiff, Nat.reduceMod, appendD, Try.tm_9, Try.tm_26, TAttempt.d, TPromise.d]; exact hq) (by first | rfl | (simp only [go_sem, Nat.reduceLeDiff]; done) | (simp only [go_sem, Nat.reduceLeDiff]; rfl) | (simp; done) | (simp [oneD] <;> omega) | (simp_all; done) | (simp_all [oneD] <;> omega)) (by first | exact Nat.le_refl _ | exact Nat.le_of_ble_eq_true rfl | (dsimp only; omega) | (simp <;> omega)) ?_
  refine .RN 6 (dr := false) (.inr fun _ _ _ h => ⟨nofun, h.2⟩) (by intro q hq; simp only [go_sem, Nat.reduceSub, Int.reduceEq, Nat.reduceLT, Nat.reduceDiv, Nat.reduceAdd, Nat.reduceBEq, Nat.reduceLeDiff, reduceCtorEq, Nat.reduceEqDiff, Nat.reduceMod, appendD, Try.tm_9, Try.tm_26, TAttempt.d, TPromise.d]; exact hq) (by first | rfl | (simp only [go_sem, Nat.reduceLeDiff]; done) | (simp only [go_sem, Nat.reduceLeDiff]; rfl) | (simp; done) | (simp [oneD] <;> omega) | (simp_all; done) | (simp_all [oneD] <;> omega)) (by first | exact Nat.le_refl _ | exact Nat.le_of_ble_eq_true rfl | (dsimp only; omega) | (simp <;> omega)) ?_
  refine .RN 6 (dr := false) (.inr fun _ _ _ h => ⟨nofun, h.2⟩) (by intro q hq; simp only [go_sem, Nat.reduceSub, Int.reduceEq, Nat.reduceLT, Nat.reduceDiv, Nat.reduceAdd, Nat.reduceBEq, Nat.reduceLeDiff, reduceCtorEq, Nat.reduceEqDiff, Nat.reduceMod, appendD, Try.tm_9, Try.tm_26, TAttempt.d, TPromise.d]; exact hq) (by first | rfl | (simp only [go_sem, Nat.reduceLeDiff]; done) | (simp only [go_sem, Nat.reduceLeDiff]; rfl) | (simp; done) | (simp [oneD] <;> omega) | (simp_all; done) | (simp_all [oneD] <;> omega)) (by first | exact Nat.le_refl _ | exact Nat.le_of_ble_eq_true rfl | (dsimp only; omega) | (simp <;> omega)) ?_
  refine .RN 6 (dr := false) (.inr fun _ _ _ h => ⟨nofun, h.2⟩) (by intro q hq; simp only [go_sem, Nat.reduceSub, Int.reduceEq, Nat.reduceLT, Nat.reduceDiv, Nat.reduceAdd, Nat.reduceBEq, Nat.reduceLeDiff, reduceCtorEq, Nat.reduceEqDiff, Nat.reduceMod, appendD, Try.tm_3, Try.tm_23, Try.tm_26, TAttempt.d, TPromise.d]; exact hq) (by first | rfl | (simp only [go_sem, Nat.reduceLeDiff]; done) | (simp only [go_sem, Nat.reduceLeDiff]; rfl) | (simp; done) | (simp [oneD] <;> omega) | (simp_all; done) | (simp_all [oneD] <;> omega)) (by first | exact Nat.le_refl _ | exact Nat.le_of_ble_eq_true rfl | (dsimp only; omega) | (simp <;> omega)) ?_
  refine .RN 6 (dr := false) (.inr fun _ _ _ h => ⟨nofun, h.2⟩) (by intro q hq; simp only [go_sem, Nat.reduceSub, Int.reduceEq, Nat.reduceLT, Nat.reduceDiv, Nat.reduceAdd, Nat.reduceBEq, Nat.reduceLeDiff, reduceCtorEq, Nat.reduceEqDiff, Nat.reduceMod, appendD, Try.tm_22, Try.tm_26, TAttempt.d, TPromise.d]; exact hq) (by first | rfl | (simp only [go_sem, Nat.reduceLeDiff]; done) | (simp only [go_sem, Nat.reduceLeDiff]; rfl) | (simp; done) | (simp [oneD] <;> omega) | (simp_all; done) | (simp_all [oneD] <;> omega)) (by first | exact Nat.le_refl _ | exact Nat.le_of_ble_eq_true rfl | (dsimp only; omega) | (simp <;> omega)) ?_
  refine .gcall (r := .bool v2) rfl rfl rfl rfl rfl (fun hg => ⟨[], [.imm 1 (a0.Accepted.map (D.int .i64)) 4, .imm 1 (a1.Accepted.map (D.int .i64)) 4], _, rfl, (by first | (simp only [opds, opd, ev, ofVal, getR, getL, Nat.beq, cond_true, cond_false, Bool.not_true, Bool.false_or, Bool.and_true, Bool.true_and, Prod.mk.injEq, true_and]; done) | (simp only [opds, opd, ev, ofVal, getR, getL, Nat.beq, cond_true, cond_false, Bool.not_true, Bool.false_or, Bool.and_true, Bool.true_and, Prod.mk.injEq, true_and]; first | exact hg | simpa using hg | (simp at hg ⊢; grind)) | rfl), rfl, (callP_towncrierref01_SameInts a0.Accepted a1.Accepted v2 (ite_l hv2 (by first | simpa using hg | (simp at hg ⊢; omega) | (simp at hg ⊢; grind) | grind)))⟩) ?_
  refine .RN 2 (dr := false) (.inr fun _ _ _ h => ⟨nofun, h.2⟩) (by intro q hq; simp only [go_sem, Nat.reduceSub, Int.reduceEq, Nat.reduceLT, Nat.reduceDiv, Nat.reduceAdd, Nat.reduceBEq, Nat.reduceLeDiff, reduceCtorEq, Nat.reduceEqDiff, Nat.reduceMod, appendD, TAttempt.d, TPromise.d]; exact hq) (by first | rfl | (simp only [go_sem, Nat.reduceLeDiff]; done) | (simp only [go_sem, Nat.reduceLeDiff]; rfl) | (simp; done) | (simp [oneD] <;> omega) | (simp_all; done) | (simp_all [oneD] <;> omega)) (by first | exact Nat.le_refl _ | exact Nat.le_of_ble_eq_true rfl | (dsimp only; omega) | (simp <;> omega)) ?_
  refine .nil ⟨nofun, ?_⟩
  refine .cond rfl rfl (fun hc1 => ?_) (fun hc1 => ?_)
  · skip
    replace h := ite_l h (by first | simpa using hc1 | (simp at hc1 ⊢; omega) | (simp at hc1 ⊢; grind) | grind)
    refine .seq ?_
    refine .plain Try.tmOk Try.tmMixed [] (by decide +kernel) (by intro q hq; simp only [go_sem, Nat.reduceSub, Int.reduceEq, Nat.reduceLT, Nat.reduceDiv, Nat.reduceAdd, Nat.reduceBEq, Nat.reduceLeDiff, reduceCtorEq, Nat.reduceEqDiff, Nat.reduceMod, appendD]; exact hq) (by first | rfl | (simp only [go_sem, Nat.reduceLeDiff]; done) | (simp only [go_sem, Nat.reduceLeDiff]; rfl) | (simp; done) | (simp [oneD] <;> omega) | (simp_all; done) | (simp_all [oneD] <;> omega)) (by first | exact Nat.le_refl _ | exact Nat.le_of_ble_eq_true rfl | (dsimp only; omega) | (simp <;> omega)) ?_
    have hq := Option.some.inj h
    subst r
    refine .ret ⟨.inr rfl, ResIs.to ?_⟩
    simp only [ResIs, resL, resD, resT, go_sem, Nat.reduceSub, Int.reduceEq, Nat.reduceLT, Nat.reduceDiv, Nat.reduceAdd, Nat.reduceBEq, Nat.reduceLeDiff, reduceCtorEq, Nat.reduceEqDiff, Nat.reduceMod, Try.f27, Try.tm_4]
  · skip
    replace h := ite_r h (by first | simpa using hc1 | (simp at hc1 ⊢; omega) | (simp at hc1 ⊢; grind) | grind)
    refine .skip ?_
    obtain ⟨x1, hx1, h⟩ := bind_some h
    refine .seqM 2 (fun (j : Unit) => Try.St_towncrierref08_Same_1) (fun j => x1 = (.inr j)) (Nat.le_of_ble_eq_true rfl) ?_ ?_
    · skip
      refine .seq ?_
      refine .plain Try.tmOk Try.tmMixed [2, 3] (by decide +kernel) (by intro q hq; simp only [go_sem, Nat.reduceSub, Int.reduceEq, Nat.reduceLT, Nat.reduceDiv, Nat.reduceAdd, Nat.reduceBEq, Nat.reduceLeDiff, reduceCtorEq, Nat.reduceEqDiff, Nat.reduceMod, appendD]; exact hq) (by first | rfl | (simp only [go_sem, Nat.reduceLeDiff]; done) | (simp only [go_sem, Nat.reduceLeDiff]; rfl) | (simp; done) | (simp [oneD] <;> omega) | (simp_all; done) | (simp_all [oneD] <;> omega)) (by first | exact Nat.le_refl _ | exact Nat.le_of_ble_eq_true rfl | (dsimp only; omega) | (simp <;> omega)) ?_
      refine .block ?_
      refine .loopG 2 (fun (j : Nat) => Try.St_towncrierref08_Same_3 a0 a1 j) (fun j => j ≤ a0.Promises.length ∧ m_towncrierref08_Same_loop1 a1 (a0.Promises.drop j) j  = some x1) (fun j => a0.Promises.length - j) (0) (Nat.le_of_ble_eq_true rfl) ?_ ⟨Nat.zero_le _, hx1⟩ ?_
      · skip
        refine Goes.mv [2, 3, 5] [0, 1] [] ?_ (Nat.le_of_ble_eq_true rfl) (Nat.le_of_ble_eq_true rfl) rfl
        first | rfl | (simp only [go_sem, Nat.reduceBEq, Nat.reduceAdd]; done) | (simp only [go_sem, Nat.reduceBEq, Nat.reduceAdd]; rfl)
      rintro n1 ⟨hi1, hx1⟩
      simp only [Try.St_towncrierref08_Same_3]
      refine .wfb 0 [.int .u8 a0.Phase, .int .i64 a0.Ballot, .imm 1 (a0.Members.map (D.int .i64)) 4, .str a0.Wish, .str a0.Value, .imm 3 (a0.Promises.map TPromise.d) 4, .imm 1 (a0.Accepted.map (D.int .i64)) 4] rfl ?_
      intro hln1
      replace hln1 : (a0.Promises.length : Int) ≤ 9223372036854775807 := by simp only [wf, wfL, IntKind.max, IntKind.min, IntKind.signed, IntKind.bits, List.length_map] at hln1; first | exact hln1.2 | exact hln1.1 | (simp at hln1; omega)
      refine .seq ?_
      refine .seq ?_
      refine .plain Try.tmOk Try.tmMixed [2, 3, 5] (by decide +kernel) (by intro q hq; simp only [go_sem, Nat.reduceSub, Int.reduceEq, Nat.reduceLT, Nat.reduceDiv, Nat.reduceAdd, Nat.reduceBEq, Nat.reduceLeDiff, reduceCtorEq, Nat.reduceEqDiff, Nat.reduceMod, appendD, Try.tm_3, Try.tm_23, Try.tm_26, TAttempt.d, TPromise.d]; exact hq) (by first | rfl | (simp only [go_sem, Nat.reduceLeDiff]; done) | (simp only [go_sem, Nat.reduceLeDiff]; rfl) | (simp; done) | (simp [oneD] <;> omega) | (simp_all; done) | (simp_all [oneD] <;> omega)) (by first | exact Nat.le_refl _ | exact Nat.le_of_ble_eq_true rfl | (dsimp only; omega) | (simp <;> omega)) ?_
      refine .cond rfl rfl (fun hc2 => ?_) (fun hc2 => ?_)
      · skip
        have h1 : n1 < a0.Promises.length := by simpa using hc2
        have hwn1 : wr .i64 ((n1 : Int) + 1) = ((n1 + 1 : Nat) : Int) := wr_succ h1 hln1
        have hpn1 : wr .i64 ((n1 : Int) - 1) = (n1 : Int) - 1 := wr_pred h1 hln1
        rw [List.drop_eq_getElem_cons h1, m_towncrierref08_Same_loop1] at hx1
        refine .skip ?_
        refine .seq ?_
        refine .block ?_
        refine .seq ?_
        obtain ⟨k1, hx1⟩ := ite_ck hx1
        have e1 := nth_map TPromise.d a0.Promises n1 h1
        have e2 := nth_mapD TPromise.d a1.Promises n1
        replace e2 := e2 k1
        refine .reg Try.tmOk Try.tmMixed [2, 3, 5] (by decide +kernel) ?_
        refine .RN 6 (dr := true) (.inl rfl) (by intro q hq; simp only [go_sem, Nat.reduceSub, Int.reduceEq, Nat.reduceLT, Nat.reduceDiv, Nat.reduceAdd, Nat.reduceBEq, Nat.reduceLeDiff, reduceCtorEq, Nat.reduceEqDiff, Nat.reduceMod, appendD, Try.tm_23, Try.tm_26, Try.tm_31, e1, e2, TAttempt.d, TPromise.d, hwn1]; exact hq) (by first | rfl | (simp only [go_sem, Nat.reduceLeDiff]; done) | (simp only [go_sem, Nat.reduceLeDiff]; rfl) | (simp; done) | (simp [oneD] <;> omega) | (simp_all; done) | (simp_all [oneD] <;> omega)) (by first | exact Nat.le_refl _ | exact Nat.le_of_ble_eq_true rfl | (dsimp only; omega) | (simp <;> omega)) ?_
        refine .RN 5 (dr := true) (.inl rfl) (by intro q hq; simp only [go_sem, Nat.reduceSub, Int.reduceEq, Nat.reduceLT, Nat.reduceDiv, Nat.reduceAdd, Nat.reduceBEq, Nat.reduceLeDiff, reduceCtorEq, Nat.reduceEqDiff, Nat.reduceMod, appendD, Try.tm_23, Try.tm_31, e1, e2, TAttempt.d, TPromise.d, hwn1]; exact hq) (by first | rfl | (simp only [go_sem, Nat.reduceLeDiff]; done) | (simp only [go_sem, Nat.reduceLeDiff]; rfl) | (simp; done) | (simp [oneD] <;> omega) | (simp_all; done) | (simp_all [oneD] <;> omega)) (by first | exact Nat.le_refl _ | exact Nat.le_of_ble_eq_true rfl | (dsimp only; omega) | (simp <;> omega)) ?_
        refine .nil ⟨fun _ => schedB_of (by kernel_rfl), ?_⟩
        refine .cond rfl rfl (fun hc3 => ?_) (fun hc3 => ?_)
        · skip
          replace hx1 := ite_l hx1 (by first | simpa using hc3 | (simp at hc3 ⊢; omega) | (simp at hc3 ⊢; grind) | grind)
          refine .seq ?_
          refine .plain Try.tmOk Try.tmMixed [] (by decide +kernel) (by intro q hq; simp only [go_sem, Nat.reduceSub, Int.reduceEq, Nat.reduceLT, Nat.reduceDiv, Nat.reduceAdd, Nat.reduceBEq, Nat.reduceLeDiff, reduceCtorEq, Nat.reduceEqDiff, Nat.reduceMod, appendD, hwn1]; exact hq) (by first | rfl | (simp only [go_sem, Nat.reduceLeDiff]; done) | (simp only [go_sem, Nat.reduceLeDiff]; rfl) | (simp; done) | (simp [oneD] <;> omega) | (simp_all; done) | (simp_all [oneD] <;> omega)) (by first | exact Nat.le_refl _ | exact Nat.le_of_ble_eq_true rfl | (dsimp only; omega) | (simp <;> omega)) ?_
          have hq := Option.some.inj hx1
          subst x1
          try dsimp only at h
          have hq := Option.some.inj h
          subst r
          refine .ret ⟨.inr rfl, ResIs.to ?_⟩
          simp only [ResIs, resL, resD, resT, go_sem, Nat.reduceSub, Int.reduceEq, Nat.reduceLT, Nat.reduceDiv, Nat.reduceAdd, Nat.reduceBEq, Nat.reduceLeDiff, reduceCtorEq, Nat.reduceEqDiff, Nat.reduceMod, Try.f27, Try.tm_4]
        · skip
          replace hx1 := ite_r hx1 (by first | simpa using hc3 | (simp at hc3 ⊢; omega) | (simp at hc3 ⊢; grind) | grind)
          refine .skip ?_
          refine .plain Try.tmOk Try.tmMixed [2, 3, 5] (by decide +kernel) (by intro q hq; simp only [go_sem, Nat.reduceSub, Int.reduceEq, Nat.reduceLT, Nat.reduceDiv, Nat.reduceAdd, Nat.reduceBEq, Nat.reduceLeDiff, reduceCtorEq, Nat.reduceEqDiff, Nat.reduceMod, appendD, Try.tm_3, hwn1]; exact hq) (by first | rfl | (simp only [go_sem, Nat.reduceLeDiff]; done) | (simp only [go_sem, Nat.reduceLeDiff]; rfl) | (simp; done) | (simp [oneD] <;> omega) | (simp_all; done) | (simp_all [oneD] <;> omega)) (by first | exact Nat.le_refl _ | exact Nat.le_of_ble_eq_true rfl | (dsimp only; omega) | (simp <;> omega)) ?_
          refine ⟨n1 + 1, ?_, ⟨by omega, hx1⟩, by dsimp only; omega⟩
          refine Goes.mv [2, 3, 5] [0, 1] [] ?_ (Nat.le_of_ble_eq_true rfl) (Nat.le_of_ble_eq_true rfl) rfl
          first | rfl | (simp only [go_sem, Nat.reduceBEq, Nat.reduceAdd]; done) | (simp only [go_sem, Nat.reduceBEq, Nat.reduceAdd]; rfl)
      · skip
        have h2 : n1 = a0.Promises.length := by have h2b := of_decide_eq_false hc2; omega
        rw [List.drop_of_length_le (by omega), m_towncrierref08_Same_loop1] at hx1
        refine .exit ?_
        refine ⟨_, ?_, (Option.some.inj hx1).symm⟩
        refine Goes.mv [] [] [] ?_ (Nat.le_of_ble_eq_true rfl) (Nat.le_of_ble_eq_true rfl) rfl
        first | rfl | (simp only [go_sem, Nat.reduceBEq, Nat.reduceAdd]; done) | (simp only [go_sem, Nat.reduceBEq, Nat.reduceAdd]; rfl)
    · skip
      rintro ⟨⟩ hj1
      subst x1
      try dsimp only at h
      simp only [Try.St_towncrierref08_Same_1]
      refine .seq ?_
      refine .plain Try.tmOk Try.tmMixed [] (by decide +kernel) (by intro q hq; simp only [go_sem, Nat.reduceSub, Int.reduceEq, Nat.reduceLT, Nat.reduceDiv, Nat.reduceAdd, Nat.reduceBEq, Nat.reduceLeDiff, reduceCtorEq, Nat.reduceEqDiff, Nat.reduceMod, appendD]; exact hq) (by first | rfl | (simp only [go_sem, Nat.reduceLeDiff]; done) | (simp only [go_sem, Nat.reduceLeDiff]; rfl) | (simp; done) | (simp [oneD] <;> omega) | (simp_all; done) | (simp_all [oneD] <;> omega)) (by first | exact Nat.le_refl _ | exact Nat.le_of_ble_eq_true rfl | (dsimp only; omega) | (simp <;> omega)) ?_
      have hq := Option.some.inj h
      subst r
      refine .ret ⟨.inr rfl, ResIs.to ?_⟩
      simp only [ResIs, resL, resD, resT, go_sem, Nat.reduceSub, Int.reduceEq, Nat.reduceLT, Nat.reduceDiv, Nat.reduceAdd, Nat.reduceBEq, Nat.reduceLeDiff, reduceCtorEq, Nat.reduceEqDiff, Nat.reduceMod, Try.f27, Try.tm_4]


end Go.Proofs
end
section
/- Models of functions, printed by gw.py. -/




namespace Go.Proofs
open Go.Tm

def m_attempt_Check_1 (a0 : TPromise) (c0 : TAttempt) : Option Bool :=
  Option.bind (m_attempt_may a0 c0.Ballot) fun v1 =>
  some (!v1)

def m_attempt_Check (a0 : TAttempt) : Option Int :=
  Option.bind (α := Bool) (Option.bind (α := Bool ⊕ (Bool ⊕ Bool)) (if a0.Phase = 0 then
  Option.bind (m_attempt_Same a0 (⟨0, 0, [], [], [], [], []⟩ : TAttempt)) fun v1 =>
  some (.inl v1)
  else
  if a0.Phase = 1 then
  some (.inr (.inr ((a0.Value == []) && ((a0.Accepted.length : Int) == 0))))
  else
  Option.bind (α := Bool) (if a0.Phase = 2 then
  some (a0.Phase == 2)
  else
  some (a0.Phase == 3)) fun b5 =>
  if b5 = true then
  some (.inr (.inr true))
  else
  some (.inr (.inl b5))) fun z => match z with
  | (.inl b3) => some b3
  | (.inr (.inl b4)) => some false
  | (.inr (.inr b2)) =>
  Option.bind (if b2 = true then m_ballot_Check a0.Ballot else some default) fun v2 =>
  Option.bind (if (b2 = true) ∧ (v2 = 0) then m_quorum_Check a0.Members else some default) fun v3 =>
  Option.bind (if (((b2 = true) ∧ (v2 = 0)) ∧ (v3 = 0)) ∧ ((a0.Wish.length : Int) ≤ 1024) then m_attempt_nodes a0.Promises else some default) fun v4 =>
  Option.bind (if (((b2 = true) ∧ (v2 = 0)) ∧ (v3 = 0)) ∧ ((a0.Wish.length : Int) ≤ 1024) then m_attempt_rising v4 a0.Members else some default) fun v5 =>
  Option.bind (if ((((b2 = true) ∧ (v2 = 0)) ∧ (v3 = 0)) ∧ ((a0.Wish.length : Int) ≤ 1024)) ∧ (v5 = true) then m_attempt_rising a0.Accepted a0.Members else some default) fun v6 =>
  Option.bind (if (((((b2 = true) ∧ (v2 = 0)) ∧ (v3 = 0)) ∧ ((a0.Wish.length : Int) ≤ 1024)) ∧ (v5 = true)) ∧ (v6 = true) then m_slices_ContainsFunc_Promise_Promise a0.Promises (fun x0 => m_attempt_Check_1 x0 a0) else some default) fun v7 =>
  Option.bind (if ((((((b2 = true) ∧ (v2 = 0)) ∧ (v3 = 0)) ∧ ((a0.Wish.length : Int) ≤ 1024)) ∧ (v5 = true)) ∧ (v6 = true)) ∧ (¬ (v7 = true)) then m_attempt_nodes a0.Promises else some default) fun v8 =>
  Option.bind (if ((((((b2 = true) ∧ (v2 = 0)) ∧ (v3 = 0)) ∧ ((a0.Wish.length : Int) ≤ 1024)) ∧ (v5 = true)) ∧ (v6 = true)) ∧ (¬ (v7 = true)) then m_attempt_most a0.Members v8 else some default) fun v9 =>
  Option.bind (if (((((((b2 = true) ∧ (v2 = 0)) ∧ (v3 = 0)) ∧ ((a0.Wish.length : Int) ≤ 1024)) ∧ (v5 = true)) ∧ (v6 = true)) ∧ (¬ (v7 = true))) ∧ ((v9 == (decide (a0.Phase > 1))) = true) then m_attempt_most a0.Members a0.Accepted else some default) fun v10 =>
  Option.bind (if (((((((((b2 = true) ∧ (v2 = 0)) ∧ (v3 = 0)) ∧ ((a0.Wish.length : Int) ≤ 1024)) ∧ (v5 = true)) ∧ (v6 = true)) ∧ (¬ (v7 = true))) ∧ ((v9 == (decide (a0.Phase > 1))) = true)) ∧ ((v10 == (a0.Phase == 3)) = true)) ∧ (¬ (a0.Phase = 1)) then m_attempt_Best a0.Promises a0.Wish else some default) fun v11 =>
  some (((((((((b2 && (v2 == 0)) && (v3 == 0)) && (decide ((a0.Wish.length : Int) ≤ 1024))) && v5) && v6) && (!v7)) && (v9 == (decide (a0.Phase > 1)))) && (v10 == (a0.Phase == 3))) && ((a0.Phase == 1) || (a0.Value == v11)))) fun b1 =>
  if ¬ (b1 = true) then
  some 8
  else
  some 0

def m_towncrierref08_Great_loop1 : List TPromise → Nat → Int → Option (Int)
  | [], n3, n2 =>
    some n2
  | y1 :: rest1, n3, n2 =>
    if ((n3 : Int) < 100) then
    m_towncrierref08_Great_loop1 rest1 (n3 + 1) (wr .i64 (n2 + (min ((y1.Value).length : Int) 100000)))
    else
    some n2
def m_towncrierref08_Great (a0 : TAttempt) : Option Bool :=
  Option.bind (α := Int) (m_towncrierref08_Great_loop1 a0.Promises 0 (wr .i64 ((a0.Wish.length : Int) + (a0.Value.length : Int)))) fun n1 =>
  some ((((decide ((a0.Members.length : Int) > 100)) || (decide ((a0.Promises.length : Int) > 50))) || (decide ((a0.Accepted.length : Int) > 100))) || (decide (n1 > 50000)))
end Go.Proofs
end
section
/- The walks of functions, printed by gw.py. -/






namespace Go.Proofs
open Go.Tm Go.RowKit Go.WideShapes
set_option maxRecDepth 100000
set_option maxHeartbeats 4000000
set_option linter.unusedSimpArgs false
set_option linter.unusedVariables false
attribute [local go_sem] argVars runE runK isCallV stepE aop opd opdsL opds opdO ev ofVal keep List.any Nat.beq Bool.false_or Bool.true_or aggEq cond_true cond_false Bool.cond_false_right Bool.cond_true_left beq_true beq_false imp_self implies_true getR getL put St.app effL del nwB blt_dec Nat.lt_irrefl Nat.lt_add_one ble_dec Nat.le_refl Nat.beq_refl roomNZ appendIn capS capK mkZ_zero mkZL_zero zeroEl D.ids D.idsL Option.getD bin arith sarith binT dpick Tm.part splice fillD oneD loadD storeD srcD sliceD idxOk decide_true gval dstAt D.cells List.map_cons List.map_nil List.take List.drop List.length_map List.append Int.toNat_natCast and_true true_and decide_false List.length_cons List.length_nil List.append_nil List.nil_append Bool.and_true Bool.true_and Bool.not_false Bool.not_true ne_eq not_false_eq_true BEq.rfl List.getElem?_cons_zero List.getElem?_cons_succ List.getElem?_nil Nat.zero_add List.all_cons List.all_nil List.isEmpty_cons List.isEmpty_nil List.any_cons List.any_nil List.drop_succ_cons List.drop_zero unfL unf okM okML low3 List.cons_append true_or or_true Nat.zero_mul Nat.zero_le fpOf opIds mvV mvH mvF pickL D.ren D.renL Blk.ren List.map_append List.length_append Bool.not_not Bool.or_not_self Bool.not_or_self Bool.or_true

theorem callP_attempt_Check_1 (a0 : TPromise) (c0 : TAttempt) (r : Bool) (h : m_attempt_Check_1 a0 c0 = some r) : CallP Try.prog 94 [.agg [.int .i64 a0.Node, .int .i64 a0.Ballot, .str a0.Value], .iptr 0 [.int .u8 c0.Phase, .int .i64 c0.Ballot, .imm 1 (c0.Members.map (D.int .i64)) 4, .str c0.Wish, .str c0.Value, .imm 3 (c0.Promises.map TPromise.d) 4, .imm 1 (c0.Accepted.map (D.int .i64)) 4]] (.bool r) := by
  refine callP_intro Try.tmOk 3 Try.func94 rfl (by decide) rfl rfl (Nat.le_of_ble_eq_true rfl) ?_
  intro hwf
  unfold m_attempt_Check_1 at h
  refine .seq ?_
  refine .plain Try.tmOk Try.tmMixed [0, 1] (by decide +kernel) (by intro q hq; simp only [go_sem, Nat.reduceSub, Int.reduceEq, Nat.reduceLT, Nat.reduceDiv, Nat.reduceAdd, Nat.reduceBEq, Nat.reduceLeDiff, reduceCtorEq, Nat.reduceEqDiff, Nat.reduceMod, appendD, Try.tm_31, TPromise.d]; exact hq) (by first | rfl | (simp only [go_sem, Nat.reduceLeDiff]; done) | (simp only [go_sem, Nat.reduceLeDiff]; rfl) | (simp; done) | (simp [oneD] <;> omega) | (simp_all; done) | (simp_all [oneD] <;> omega)) (by first | exact Nat.le_refl _ | exact Nat.le_of_ble_eq_true rfl | (dsimp only; omega) | (simp <;> omega)) ?_
  refine .seq ?_
  obtain ⟨v1, hv1, h⟩ := bind_some h
  refine .reg Try.tmOk Try.tmMixed [1, 2] (by decide +kernel) ?_
  refine .RN 3 (dr := false) (.inr fun _ _ _ h => ⟨nofun, h.2⟩) (by intro q hq; simp only [go_sem, Nat.reduceSub, Int.reduceEq, Nat.reduceLT, Nat.reduceDiv, Nat.reduceAdd, Nat.reduceBEq, Nat.reduceLeDiff, reduceCtorEq, Nat.reduceEqDiff, Nat.reduceMod, appendD, Try.tm_3, Try.tm_26, Try.tm_31, TAttempt.d, TPromise.d]; exact hq) (by first | rfl | (simp only [go_sem, Nat.reduceLeDiff]; done) | (simp only [go_sem, Nat.reduceLeDiff]; rfl) | (simp; done) | (simp [oneD] <;> omega) | (simp_all; done) | (simp_all [oneD] <;> omega)) (by first | exact Nat.le_refl _ | exact Nat.le_of_ble_eq_true rfl | (dsimp only; omega) | (simp <;> omega)) ?_
  refine .call (r := .bool v1) rfl rfl rfl rfl rfl rfl (callP_attempt_may a0 c0.Ballot v1 hv1) ?_
  refine .RN 2 (dr := false) (.inr fun _ _ _ h => ⟨nofun, h.2⟩) (by intro q hq; simp only [go_sem, Nat.reduceSub, Int.reduceEq, Nat.reduceLT, Nat.reduceDiv, Nat.reduceAdd, Nat.reduceBEq, Nat.reduceLeDiff, reduceCtorEq, Nat.reduceEqDiff, Nat.reduceMod, appendD, TAttempt.d, TPromise.d]; exact hq) (by first | rfl | (simp only [go_sem, Nat.reduceLeDiff]; done) | (simp only [go_sem, Nat.reduceLeDiff]; rfl) | (simp; done) | (simp [oneD] <;> omega) | (simp_all; done) | (simp_all [oneD] <;> omega)) (by first | exact Nat.le_refl _ | exact Nat.le_of_ble_eq_true rfl | (dsimp only; omega) | (simp <;> omega)) ?_
  refine .nil ⟨nofun, ?_⟩
  have hq := Option.some.inj h
  subst r
  refine .ret ⟨.inr rfl, ResIs.to ?_⟩
  simp only [ResIs, resL, resD, resT, go_sem, Nat.reduceSub, Int.reduceEq, Nat.reduceLT, Nat.reduceDiv, Nat.reduceAdd, Nat.reduceBEq, Nat.reduceLeDiff, reduceCtorEq, Nat.reduceEqDiff, Nat.reduceMod, Try.f94, Try.tm_4]

def Try.St_attempt_Check_1 (b1 : Bool) : St := ⟨[(3, .bool b1)], [], 1⟩
attribute [local go_sem] Try.St_attempt_Check_1
def Try.St_attempt_Check_3 (a0 : TAttempt) (b2 : Bool) : St := ⟨[(1, .ptr 0 0), (3, .bool b2)], [(0, .box [.int .u8 a0.Phase, .int .i64 a0.Ballot, .imm 1 (a0.Members.map (D.int .i64)) 4, .str a0.Wish, .str a0.Value, .imm 3 (a0.Promises.map TPromise.d) 4, .imm 1 (a0.Accepted.map (D.int .i64)) 4])], 1⟩
attribute [local go_sem] Try.St_attempt_Check_3
def Try.St_attempt_Check_5 (a0 : TAttempt) (b5 : Bool) : St := ⟨[(1, .ptr 0 0), (3, .bool true), (10, .bool b5)], [(0, .box [.int .u8 a0.Phase, .int .i64 a0.Ballot, .imm 1 (a0.Members.map (D.int .i64)) 4, .str a0.Wish, .str a0.Value, .imm 3 (a0.Promises.map TPromise.d) 4, .imm 1 (a0.Accepted.map (D.int .i64)) 4])], 1⟩
attribute [local go_sem] Try.St_attempt_Check_5
theorem callP_attempt_Check (a0 : TAttempt) (r : Int) (h : m_attempt_Check a0 = some r) : CallP Try.prog 20 [.agg [.int .u8 a0.Phase, .int .i64 a0.Ballot, .imm 1 (a0.Members.map (D.int .i64)) 4, .str a0.Wish, .str a0.Value, .imm 3 (a0.Promises.map TPromise.d) 4, .imm 1 (a0.Accepted.map (D.int .i64)) 4]] (.int .i64 r) := by
  refine callP_intro Try.tmOk 3 Try.func20 rfl (by decide) rfl rfl (Nat.le_of_ble_eq_true rfl) ?_
  intro hwf
  unfold m_attempt_Check at h
  refine .seq ?_
  refine .plain Try.tmOk Try.tmMixed [0] (by decide +kernel) (by intro q hq; simp only [go_sem, Nat.reduceSub, Int.reduceEq, Nat.reduceLT, Nat.reduceDiv, Nat.reduceAdd, Nat.reduceBEq, Nat.reduceLeDiff, reduceCtorEq, Nat.reduceEqDiff, Nat.reduceMod, appendD, Try.tm_26, TAttempt.d]; exact hq) (by first | rfl | (simp only [go_sem, Nat.reduceLeDiff]; done) | (simp only [go_sem, Nat.reduceLeDiff]; rfl) | (simp; done) | (simp [oneD] <;> omega) | (simp_all; done) | (simp_all [oneD] <;> omega)) (by first | exact Nat.le_refl _ | exact Nat.le_of_ble_eq_true rfl | (dsimp only; omega) | (simp <;> omega)) ?_
  refine .seq ?_
  refine .plain Try.tmOk Try.tmMixed [1] (by decide +kernel) (by intro q hq; simp only [go_sem, Nat.reduceSub, Int.reduceEq, Nat.reduceLT, Nat.reduceDiv, Nat.reduceAdd, Nat.reduceBEq, Nat.reduceLeDiff, reduceCtorEq, Nat.reduceEqDiff, Nat.reduceMod, appendD]; exact hq) (by first | rfl | (simp only [go_sem, Nat.reduceLeDiff]; done) | (simp only [go_sem, Nat.reduceLeDiff]; rfl) | (simp; done) | (simp [oneD] <;> omega) | (simp_all; done) | (simp_all [oneD] <;> omega)) (by first | exact Nat.le_refl _ | exact Nat.le_of_ble_eq_true rfl | (dsimp only; omega) | (simp <;> omega)) ?_
  obtain ⟨x1, hx1, h⟩ := bind_some h
  refine .seqM 1 (fun (j : Bool) => Try.St_attempt_Check_1 j) (fun j => x1 = j) (Nat.le_of_ble_eq_true rfl) ?_ ?_
  · skip
    refine .seq ?_
    refine .plain Try.tmOk Try.tmMixed [1, 3] (by decide +kernel) (by intro q hq; simp only [go_sem, Nat.reduceSub, Int.reduceEq, Nat.reduceLT, Nat.reduceDiv, Nat.reduceAdd, Nat.reduceBEq, Nat.reduceLeDiff, reduceCtorEq, Nat.reduceEqDiff, Nat.reduceMod, appendD, Try.tm_5, Try.tm_26, TAttempt.d]; exact hq) (by first | rfl | (simp only [go_sem, Nat.reduceLeDiff]; done) | (simp only [go_sem, Nat.reduceLeDiff]; rfl) | (simp; done) | (simp [oneD] <;> omega) | (simp_all; done) | (simp_all [oneD] <;> omega)) (by first | exact Nat.le_refl _ | exact Nat.le_of_ble_eq_true rfl | (dsimp only; omega) | (simp <;> omega)) ?_
    refine .block ?_
    refine .seq ?_
    refine .block ?_
    obtain ⟨x2, hx2, hx1⟩ := bind_some hx1
    refine .seqM 1 (fun (j : Bool) => Try.St_attempt_Check_3 a0 j) (fun j => x2 = (.inr (.inr j))) (Nat.le_of_ble_eq_true rfl) ?_ ?_
    · skip
      refine .block ?_
      refine .seq ?_
      refine .block ?_
      refine .seq ?_
      refine .block ?_
      refine .seq ?_
      refine .seq ?_
      refine .seq ?_
      refine .plain Try.tmOk Try.tmMixed [1, 3, 5] (by decide +kernel) (by intro q hq; simp only [go_sem, Nat.reduceSub, Int.reduceEq, Nat.reduceLT, Nat.reduceDiv, Nat.reduceAdd, Nat.reduceBEq, Nat.reduceLeDiff, reduceCtorEq, Nat.reduceEqDiff, Nat.reduceMod, appendD, Try.tm_5]; exact hq) (by first | rfl | (simp only [go_sem, Nat.reduceLeDiff]; done) | (simp only [go_sem, Nat.reduceLeDiff]; rfl) | (simp; done) | (simp [oneD] <;> omega) | (simp_all; done) | (simp_all [oneD] <;> omega)) (by first | exact Nat.le_refl _ | exact Nat.le_of_ble_eq_true rfl | (dsimp only; omega) | (simp <;> omega)) ?_
      refine .cond rfl rfl (fun hc1 => ?_) (fun hc1 => ?_)
      · skip
        replace hx2 := ite_l hx2 (by first | simpa using hc1 | (simp at hc1 ⊢; omega) | (simp at hc1 ⊢; grind) | grind)
        refine .exit ?_
        refine .seq ?_
        obtain ⟨v1, hv1, hx2⟩ := bind_some hx2
        refine .reg Try.tmOk Try.tmMixed [1] (by decide +kernel) ?_
        refine .RN 2 (dr := false) (.inr fun _ _ _ h => ⟨nofun, h.2⟩) (by intro q hq; simp only [go_sem, Nat.reduceSub, Int.reduceEq, Nat.reduceLT, Nat.reduceDiv, Nat.reduceAdd, Nat.reduceBEq, Nat.reduceLeDiff, reduceCtorEq, Nat.reduceEqDiff, Nat.reduceMod, appendD, Try.tm_26, TAttempt.d]; exact hq) (by first | rfl | (simp only [go_sem, Nat.reduceLeDiff]; done) | (simp only [go_sem, Nat.reduceLeDiff]; rfl) | (simp; done) | (simp [oneD] <;> omega) | (simp_all; done) | (simp_all [oneD] <;> omega)) (by first | exact Nat.le_refl _ | exact Nat.le_of_ble_eq_true rfl | (dsimp only; omega) | (simp <;> omega)) ?_
        refine .call (r := .bool v1) rfl rfl rfl rfl rfl rfl (callP_wk (WkL.cons (Wk.refl _) (WkL.cons (Wk.agg (WkL.cons (Wk.refl _) (WkL.cons (Wk.refl _) (WkL.cons (Wk.nil4 0 1 0 rfl) (WkL.cons (Wk.refl _) (WkL.cons (Wk.refl _) (WkL.cons (Wk.nil4 0 3 0 rfl) (WkL.cons (Wk.nil4 0 1 0 rfl) (WkL.refl _))))))))) (WkL.refl _))) (callP_attempt_Same a0 (⟨0, 0, [], [], [], [], []⟩ : TAttempt) v1 hv1)) ?_
        refine .RN 1 (dr := false) (.inr fun _ _ _ h => ⟨nofun, h.2⟩) (by intro q hq; simp only [go_sem, Nat.reduceSub, Int.reduceEq, Nat.reduceLT, Nat.reduceDiv, Nat.reduceAdd, Nat.reduceBEq, Nat.reduceLeDiff, reduceCtorEq, Nat.reduceEqDiff, Nat.reduceMod, appendD, TAttempt.d]; exact hq) (by first | rfl | (simp only [go_sem, Nat.reduceLeDiff]; done) | (simp only [go_sem, Nat.reduceLeDiff]; rfl) | (simp; done) | (simp [oneD] <;> omega) | (simp_all; done) | (simp_all [oneD] <;> omega)) (by first | exact Nat.le_refl _ | exact Nat.le_of_ble_eq_true rfl | (dsimp only; omega) | (simp <;> omega)) ?_
        refine .nil ⟨nofun, ?_⟩
        refine .exit ?_
        have hq := Option.some.inj hx2
        subst x2
        try dsimp only at hx1
        refine ⟨_, ?_, (Option.some.inj hx1).symm⟩
        refine Goes.mv [3] [] [] ?_ (Nat.le_of_ble_eq_true rfl) (Nat.le_of_ble_eq_true rfl) rfl
        first | rfl | (simp only [go_sem, Nat.reduceBEq, Nat.reduceAdd]; done) | (simp only [go_sem, Nat.reduceBEq, Nat.reduceAdd]; rfl)
      · skip
        replace hx2 := ite_r hx2 (by first | simpa using hc1 | (simp at hc1 ⊢; omega) | (simp at hc1 ⊢; grind) | grind)
        refine .skip ?_
        refine .seq ?_
        refine .seq ?_
        refine .plain Try.tmOk Try.tmMixed [1, 3, 5] (by decide +kernel) (by intro q hq; simp only [go_sem, Nat.reduceSub, Int.reduceEq, Nat.reduceLT, Nat.reduceDiv, Nat.reduceAdd, Nat.reduceBEq, Nat.reduceLeDiff, reduceCtorEq, Nat.reduceEqDiff, Nat.reduceMod, appendD, Try.tm_5]; exact hq) (by first | rfl | (simp only [go_sem, Nat.reduceLeDiff]; done) | (simp only [go_sem, Nat.reduceLeDiff]; rfl) | (simp; done) | (simp [oneD] <;> omega) | (simp_all; done) | (simp_all [oneD] <;> omega)) (by first | exact Nat.le_refl _ | exact Nat.le_of_ble_eq_true rfl | (dsimp only; omega) | (simp <;> omega)) ?_
        refine .cond rfl rfl (fun hc2 => ?_) (fun hc2 => ?_)
        · skip
          replace hx2 := ite_l hx2 (by first | simpa using hc2 | (simp at hc2 ⊢; omega) | (simp at hc2 ⊢; grind) | grind)
          refine .exit ?_
          refine .reg Try.tmOk Try.tmMixed [1] (by decide +kernel) ?_
          refine .RN 6 (dr := false) (.inr fun _ _ _ h => ⟨nofun, h.2⟩) (by intro q hq; simp only [go_sem, Nat.reduceSub, Int.reduceEq, Nat.reduceLT, Nat.reduceDiv, Nat.reduceAdd, Nat.reduceBEq, Nat.reduceLeDiff, reduceCtorEq, Nat.reduceEqDiff, Nat.reduceMod, appendD, Try.tm_9, Try.tm_22, Try.tm_26, TAttempt.d]; exact hq) (by first | rfl | (simp only [go_sem, Nat.reduceLeDiff]; done) | (simp only [go_sem, Nat.reduceLeDiff]; rfl) | (simp; done) | (simp [oneD] <;> omega) | (simp_all; done) | (simp_all [oneD] <;> omega)) (by first | exact Nat.le_refl _ | exact Nat.le_of_ble_eq_true rfl | (dsimp only; omega) | (simp <;> omega)) ?_
          refine .RN 4 (dr := false) (.inr fun _ _ _ h => ⟨nofun, h.2⟩) (by intro q hq; simp only [go_sem, Nat.reduceSub, Int.reduceEq, Nat.reduceLT, Nat.reduceDiv, Nat.reduceAdd, Nat.reduceBEq, Nat.reduceLeDiff, reduceCtorEq, Nat.reduceEqDiff, Nat.reduceMod, appendD, Try.tm_3, Try.tm_22, TAttempt.d]; exact hq) (by first | rfl | (simp only [go_sem, Nat.reduceLeDiff]; done) | (simp only [go_sem, Nat.reduceLeDiff]; rfl) | (simp; done) | (simp [oneD] <;> omega) | (simp_all; done) | (simp_all [oneD] <;> omega)) (by first | exact Nat.le_refl _ | exact Nat.le_of_ble_eq_true rfl | (dsimp only; omega) | (simp <;> omega)) ?_
          refine .nil ⟨nofun, ?_⟩
          refine ⟨_, ?_, (Option.some.inj hx2).symm⟩
          refine Goes.mv [1, 3] [0] [] ?_ (Nat.le_of_ble_eq_true rfl) (Nat.le_of_ble_eq_true rfl) rfl
          first | rfl | (simp only [go_sem, Nat.reduceBEq, Nat.reduceAdd]; done) | (simp only [go_sem, Nat.reduceBEq, Nat.reduceAdd]; rfl)
        · skip
          replace hx2 := ite_r hx2 (by first | simpa using hc2 | (simp at hc2 ⊢; omega) | (simp at hc2 ⊢; grind) | grind)
          refine .skip ?_
          obtain ⟨x3, hx3, hx2⟩ := bind_some hx2
          refine .seqM 1 (fun (j : Bool) => Try.St_attempt_Check_5 a0 j) (fun j => x3 = j) (Nat.le_of_ble_eq_true rfl) ?_ ?_
          · skip
            refine .seq ?_
            refine .plain Try.tmOk Try.tmMixed [1, 3, 5] (by decide +kernel) (by intro q hq; simp only [go_sem, Nat.reduceSub, Int.reduceEq, Nat.reduceLT, Nat.reduceDiv, Nat.reduceAdd, Nat.reduceBEq, Nat.reduceLeDiff, reduceCtorEq, Nat.reduceEqDiff, Nat.reduceMod, appendD, Try.tm_5]; exact hq) (by first | rfl | (simp only [go_sem, Nat.reduceLeDiff]; done) | (simp only [go_sem, Nat.reduceLeDiff]; rfl) | (simp; done) | (simp [oneD] <;> omega) | (simp_all; done) | (simp_all [oneD] <;> omega)) (by first | exact Nat.le_refl _ | exact Nat.le_of_ble_eq_true rfl | (dsimp only; omega) | (simp <;> omega)) ?_
            refine .cond rfl rfl (fun hc3 => ?_) (fun hc3 => ?_)
            · skip
              replace hx3 := ite_l hx3 (by first | simpa using hc3 | (simp at hc3 ⊢; omega) | (simp at hc3 ⊢; grind) | grind)
              refine .skip ?_
              refine ⟨_, ?_, (Option.some.inj hx3).symm⟩
              refine Goes.mv [1, 3, 10] [0] [] ?_ (Nat.le_of_ble_eq_true rfl) (Nat.le_of_ble_eq_true rfl) rfl
              first | rfl | (simp only [go_sem, Nat.reduceBEq, Nat.reduceAdd]; done) | (simp only [go_sem, Nat.reduceBEq, Nat.reduceAdd]; rfl)
            · skip
              replace hx3 := ite_r hx3 (by first | simpa using hc3 | (simp at hc3 ⊢; omega) | (simp at hc3 ⊢; grind) | grind)
              refine .plain Try.tmOk Try.tmMixed [1, 3, 5] (by decide +kernel) (by intro q hq; simp only [go_sem, Nat.reduceSub, Int.reduceEq, Nat.reduceLT, Nat.reduceDiv, Nat.reduceAdd, Nat.reduceBEq, Nat.reduceLeDiff, reduceCtorEq, Nat.reduceEqDiff, Nat.reduceMod, appendD, Try.tm_5]; exact hq) (by first | rfl | (simp only [go_sem, Nat.reduceLeDiff]; done) | (simp only [go_sem, Nat.reduceLeDiff]; rfl) | (simp; done) | (simp [oneD] <;> omega) | (simp_all; done) | (simp_all [oneD] <;> omega)) (by first | exact Nat.le_refl _ | exact Nat.le_of_ble_eq_true rfl | (dsimp only; omega) | (simp <;> omega)) ?_
              refine ⟨_, ?_, (Option.some.inj hx3).symm⟩
              refine Goes.mv [1, 3, 10] [0] [] ?_ (Nat.le_of_ble_eq_true rfl) (Nat.le_of_ble_eq_true rfl) rfl
              first | rfl | (simp only [go_sem, Nat.reduceBEq, Nat.reduceAdd]; done) | (simp only [go_sem, Nat.reduceBEq, Nat.reduceAdd]; rfl)
          · skip
            rintro b5 hj1
            subst x3
            try dsimp only at hx2
            simp only [Try.St_attempt_Check_5]
            refine .cond rfl rfl (fun hc4 => ?_) (fun hc4 => ?_)
            · skip
              replace hx2 := ite_l hx2 (by first | simpa using hc4 | (simp at hc4 ⊢; omega) | (simp at hc4 ⊢; grind) | grind)
              refine .exit ?_
              refine ⟨_, ?_, (Option.some.inj hx2).symm⟩
              refine Goes.mv [1, 3] [0] [] ?_ (Nat.le_of_ble_eq_true rfl) (Nat.le_of_ble_eq_true rfl) rfl
              first | rfl | (simp only [go_sem, Nat.reduceBEq, Nat.reduceAdd]; done) | (simp only [go_sem, Nat.reduceBEq, Nat.reduceAdd]; rfl)
            · skip
              replace hx2 := ite_r hx2 (by first | simpa using hc4 | (simp at hc4 ⊢; omega) | (simp at hc4 ⊢; grind) | grind)
              refine .skip ?_
              refine .exit ?_
              have hq := Option.some.inj hx2
              subst x2
              try dsimp only at hx1
              refine .seq ?_
              refine .plain Try.tmOk Try.tmMixed [] (by decide +kernel) (by intro q hq; simp only [go_sem, Nat.reduceSub, Int.reduceEq, Nat.reduceLT, Nat.reduceDiv, Nat.reduceAdd, Nat.reduceBEq, Nat.reduceLeDiff, reduceCtorEq, Nat.reduceEqDiff, Nat.reduceMod, appendD]; exact hq) (by first | rfl | (simp only [go_sem, Nat.reduceLeDiff]; done) | (simp only [go_sem, Nat.reduceLeDiff]; rfl) | (simp; done) | (simp [oneD] <;> omega) | (simp_all; done) | (simp_all [oneD] <;> omega)) (by first | exact Nat.le_refl _ | exact Nat.le_of_ble_eq_true rfl | (dsimp only; omega) | (simp <;> omega)) ?_
              refine .exit ?_
              refine ⟨_, ?_, (Option.some.inj hx1).symm⟩
              refine Goes.mv [3] [] [] ?_ (Nat.le_of_ble_eq_true rfl) (Nat.le_of_ble_eq_true rfl) rfl
              first | rfl | (simp only [go_sem, Nat.reduceBEq, Nat.reduceAdd]; done) | (simp only [go_sem, Nat.reduceBEq, Nat.reduceAdd]; rfl)
    · skip
      rintro b2 hj2
      subst x2
      try dsimp only at hx1
      simp only [Try.St_attempt_Check_3]
      refine .seq ?_
      refine .seq ?_
      obtain ⟨v2, hv2, hx1⟩ := bind_some hx1
      obtain ⟨v3, hv3, hx1⟩ := bind_some hx1
      refine .reg Try.tmOk Try.tmMixed [1, 3] (by decide +kernel) ?_
      refine .RN 4 (dr := false) (.inr fun _ _ _ h => ⟨nofun, h.2⟩) (by intro q hq; simp only [go_sem, Nat.reduceSub, Int.reduceEq, Nat.reduceLT, Nat.reduceDiv, Nat.reduceAdd, Nat.reduceBEq, Nat.reduceLeDiff, reduceCtorEq, Nat.reduceEqDiff, Nat.reduceMod, appendD, Try.tm_3, Try.tm_26, TAttempt.d]; exact hq) (by first | rfl | (simp only [go_sem, Nat.reduceLeDiff]; done) | (simp only [go_sem, Nat.reduceLeDiff]; rfl) | (simp; done) | (simp [oneD] <;> omega) | (simp_all; done) | (simp_all [oneD] <;> omega)) (by first | exact Nat.le_refl _ | exact Nat.le_of_ble_eq_true rfl | (dsimp only; omega) | (simp <;> omega)) ?_
      refine .gcall (r := .int .i64 v2) rfl rfl rfl rfl rfl (fun hg => ⟨[], [.int .i64 a0.Ballot], _, rfl, (by first | (simp only [opds, opd, ev, ofVal, getR, getL, Nat.beq, cond_true, cond_false, Bool.not_true, Bool.false_or, Bool.and_true, Bool.true_and, Prod.mk.injEq, true_and]; done) | (simp only [opds, opd, ev, ofVal, getR, getL, Nat.beq, cond_true, cond_false, Bool.not_true, Bool.false_or, Bool.and_true, Bool.true_and, Prod.mk.injEq, true_and]; first | exact hg | simpa using hg | (simp at hg ⊢; grind)) | rfl), rfl, (callP_ballot_Check a0.Ballot v2 (ite_l hv2 (by first | simpa using hg | (simp at hg ⊢; omega) | (simp at hg ⊢; grind) | grind)))⟩) ?_
      refine .RN 5 (dr := false) (.inr fun _ _ _ h => ⟨nofun, h.2⟩) (by intro q hq; simp only [go_sem, Nat.reduceSub, Int.reduceEq, Nat.reduceLT, Nat.reduceDiv, Nat.reduceAdd, Nat.reduceBEq, Nat.reduceLeDiff, reduceCtorEq, Nat.reduceEqDiff, Nat.reduceMod, appendD, Try.tm_22, Try.tm_26, Try.tm_27, TAttempt.d]; exact hq) (by first | rfl | (simp only [go_sem, Nat.reduceLeDiff]; done) | (simp only [go_sem, Nat.reduceLeDiff]; rfl) | (simp; done) | (simp [oneD] <;> omega) | (simp_all; done) | (simp_all [oneD] <;> omega)) (by first | exact Nat.le_refl _ | exact Nat.le_of_ble_eq_true rfl | (dsimp only; omega) | (simp <;> omega)) ?_
      refine .gcall (r := .int .i64 v3) rfl rfl rfl rfl rfl (fun hg => ⟨[], [.imm 1 (a0.Members.map (D.int .i64)) 4], _, rfl, (by first | (simp only [opds, opd, ev, ofVal, getR, getL, Nat.beq, cond_true, cond_false, Bool.not_true, Bool.false_or, Bool.and_true, Bool.true_and, Prod.mk.injEq, true_and]; done) | (simp only [opds, opd, ev, ofVal, getR, getL, Nat.beq, cond_true, cond_false, Bool.not_true, Bool.false_or, Bool.and_true, Bool.true_and, Prod.mk.injEq, true_and]; first | exact hg | simpa using hg | (simp at hg ⊢; grind)) | rfl), rfl, (callP_quorum_Check a0.Members v3 (ite_l hv3 (by first | simpa using hg | (simp at hg ⊢; omega) | (simp at hg ⊢; grind) | grind)))⟩) ?_
      refine .RN 6 (dr := false) (.inr fun _ _ _ h => ⟨nofun, h.2⟩) (by intro q hq; simp only [go_sem, Nat.reduceSub, Int.reduceEq, Nat.reduceLT, Nat.reduceDiv, Nat.reduceAdd, Nat.reduceBEq, Nat.reduceLeDiff, reduceCtorEq, Nat.reduceEqDiff, Nat.reduceMod, appendD, Try.tm_9, Try.tm_26, Try.tm_27, TAttempt.d]; exact hq) (by first | rfl | (simp only [go_sem, Nat.reduceLeDiff]; done) | (simp only [go_sem, Nat.reduceLeDiff]; rfl) | (simp; done) | (simp [oneD] <;> omega) | (simp_all; done) | (simp_all [oneD] <;> omega)) (by first | exact Nat.le_refl _ | exact Nat.le_of_ble_eq_true rfl | (dsimp only; omega) | (simp <;> omega)) ?_
      refine .RN 3 (dr := false) (.inr fun _ _ _ h => ⟨nofun, h.2⟩) (by intro q hq; simp only [go_sem, Nat.reduceSub, Int.reduceEq, Nat.reduceLT, Nat.reduceDiv, Nat.reduceAdd, Nat.reduceBEq, Nat.reduceLeDiff, reduceCtorEq, Nat.reduceEqDiff, Nat.reduceMod, appendD, Try.tm_3, TAttempt.d]; exact hq) (by first | rfl | (simp only [go_sem, Nat.reduceLeDiff]; done) | (simp only [go_sem, Nat.reduceLeDiff]; rfl) | (simp; done) | (simp [oneD] <;> omega) | (simp_all; done) | (simp_all [oneD] <;> omega)) (by first | exact Nat.le_refl _ | exact Nat.le_of_ble_eq_true rfl | (dsimp only; omega) | (simp <;> omega)) ?_
      refine .nil ⟨nofun, ?_⟩
      refine .seq ?_
      obtain ⟨v4, hv4, hx1⟩ := bind_some hx1
      obtain ⟨v5, hv5, hx1⟩ := bind_some hx1
      obtain ⟨v6, hv6, hx1⟩ := bind_some hx1
      refine .reg Try.tmOk Try.tmMixed [1, 3] (by decide +kernel) ?_
      refine .RN 4 (dr := true) (.inl rfl) (by intro q hq; simp only [go_sem, Nat.reduceSub, Int.reduceEq, Nat.reduceLT, Nat.reduceDiv, Nat.reduceAdd, Nat.reduceBEq, Nat.reduceLeDiff, reduceCtorEq, Nat.reduceEqDiff, Nat.reduceMod, appendD, Try.tm_23, Try.tm_26, TAttempt.d, TPromise.d]; exact hq) (by first | rfl | (simp only [go_sem, Nat.reduceLeDiff]; done) | (simp only [go_sem, Nat.reduceLeDiff]; rfl) | (simp; done) | (simp [oneD] <;> omega) | (simp_all; done) | (simp_all [oneD] <;> omega)) (by first | exact Nat.le_refl _ | exact Nat.le_of_ble_eq_true rfl | (dsimp only; omega) | (simp <;> omega)) ?_
      refine .gcall (r := .imm 1 (v4.map (D.int .i64)) 12) rfl rfl rfl rfl rfl (fun hg => ⟨[], [.imm 3 (a0.Promises.map TPromise.d) 4], _, rfl, (by first | (simp only [opds, opd, ev, ofVal, getR, getL, Nat.beq, cond_true, cond_false, Bool.not_true, Bool.false_or, Bool.and_true, Bool.true_and, Prod.mk.injEq, true_and]; done) | (simp only [opds, opd, ev, ofVal, getR, getL, Nat.beq, cond_true, cond_false, Bool.not_true, Bool.false_or, Bool.and_true, Bool.true_and, Prod.mk.injEq, true_and]; first | exact hg | simpa using hg | (simp at hg ⊢; grind)) | rfl), rfl, (callP_attempt_nodes a0.Promises v4 (ite_l hv4 (by first | simpa using hg | (simp at hg ⊢; omega) | (simp at hg ⊢; grind) | grind)))⟩) ?_
      refine .RN 2 (dr := true) (.inl rfl) (by intro q hq; simp only [go_sem, Nat.reduceSub, Int.reduceEq, Nat.reduceLT, Nat.reduceDiv, Nat.reduceAdd, Nat.reduceBEq, Nat.reduceLeDiff, reduceCtorEq, Nat.reduceEqDiff, Nat.reduceMod, appendD, Try.tm_22, Try.tm_26, TAttempt.d, TPromise.d]; exact hq) (by first | rfl | (simp only [go_sem, Nat.reduceLeDiff]; done) | (simp only [go_sem, Nat.reduceLeDiff]; rfl) | (simp; done) | (simp [oneD] <;> omega) | (simp_all; done) | (simp_all [oneD] <;> omega)) (by first | exact Nat.le_refl _ | exact Nat.le_of_ble_eq_true rfl | (dsimp only; omega) | (simp <;> omega)) ?_
      refine .gcall (r := .bool v5) rfl rfl rfl rfl rfl (fun hg => ⟨[], [.imm 1 (v4.map (D.int .i64)) 12, .imm 1 (a0.Members.map (D.int .i64)) 4], _, rfl, (by first | (simp only [opds, opd, ev, ofVal, getR, getL, Nat.beq, cond_true, cond_false, Bool.not_true, Bool.false_or, Bool.and_true, Bool.true_and, Prod.mk.injEq, true_and]; done) | (simp only [opds, opd, ev, ofVal, getR, getL, Nat.beq, cond_true, cond_false, Bool.not_true, Bool.false_or, Bool.and_true, Bool.true_and, Prod.mk.injEq, true_and]; first | exact hg | simpa using hg | (simp at hg ⊢; grind)) | rfl), rfl, (callP_attempt_rising v4 a0.Members v5 (ite_l hv5 (by first | simpa using hg | (simp at hg ⊢; omega) | (simp at hg ⊢; grind) | grind)))⟩) ?_
      refine .RN 6 (dr := true) (.inl rfl) (by intro q hq; simp only [go_sem, Nat.reduceSub, Int.reduceEq, Nat.reduceLT, Nat.reduceDiv, Nat.reduceAdd, Nat.reduceBEq, Nat.reduceLeDiff, reduceCtorEq, Nat.reduceEqDiff, Nat.reduceMod, appendD, Try.tm_22, Try.tm_26, TAttempt.d, TPromise.d]; exact hq) (by first | rfl | (simp only [go_sem, Nat.reduceLeDiff]; done) | (simp only [go_sem, Nat.reduceLeDiff]; rfl) | (simp; done) | (simp [oneD] <;> omega) | (simp_all; done) | (simp_all [oneD] <;> omega)) (by first | exact Nat.le_refl _ | exact Nat.le_of_ble_eq_true rfl | (dsimp only; omega) | (simp <;> omega)) ?_
      refine .gcall (r := .bool v6) rfl rfl rfl rfl rfl (fun hg => ⟨[], [.imm 1 (a0.Accepted.map (D.int .i64)) 4, .imm 1 (a0.Members.map (D.int .i64)) 4], _, rfl, (by first | (simp only [opds, opd, ev, ofVal, getR, getL, Nat.beq, cond_true, cond_false, Bool.not_true, Bool.false_or, Bool.and_true, Bool.true_and, Prod.mk.injEq, true_and]; done) | (simp only [opds, opd, ev, ofVal, getR, getL, Nat.beq, cond_true, cond_false, Bool.not_true, Bool.false_or, Bool.and_true, Bool.true_and, Prod.mk.injEq, true_and]; first | exact hg | simpa using hg | (simp at hg ⊢; grind)) | rfl), rfl, (callP_attempt_rising a0.Accepted a0.Members v6 (ite_l hv6 (by first | simpa using hg | (simp at hg ⊢; omega) | (simp at hg ⊢; grind) | grind)))⟩) ?_
      refine .RN 2 (dr := true) (.inl rfl) (by intro q hq; simp only [go_sem, Nat.reduceSub, Int.reduceEq, Nat.reduceLT, Nat.reduceDiv, Nat.reduceAdd, Nat.reduceBEq, Nat.reduceLeDiff, reduceCtorEq, Nat.reduceEqDiff, Nat.reduceMod, appendD, TAttempt.d, TPromise.d]; exact hq) (by first | rfl | (simp only [go_sem, Nat.reduceLeDiff]; done) | (simp only [go_sem, Nat.reduceLeDiff]; rfl) | (simp; done) | (simp [oneD] <;> omega) | (simp_all; done) | (simp_all [oneD] <;> omega)) (by first | exact Nat.le_refl _ | exact Nat.le_of_ble_eq_true rfl | (dsimp only; omega) | (simp <;> omega)) ?_
      refine .nil ⟨fun _ => schedB_of (by kernel_rfl), ?_⟩
      refine .seq ?_
      obtain ⟨v7, hv7, hx1⟩ := bind_some hx1
      refine .reg Try.tmOk Try.tmMixed [1, 3] (by decide +kernel) ?_
      refine .RN 5 (dr := false) (.inr fun _ _ _ h => ⟨nofun, h.2⟩) (by intro q hq; simp only [go_sem, Nat.reduceSub, Int.reduceEq, Nat.reduceLT, Nat.reduceDiv, Nat.reduceAdd, Nat.reduceBEq, Nat.reduceLeDiff, reduceCtorEq, Nat.reduceEqDiff, Nat.reduceMod, appendD, Try.tm_23, Try.tm_26, TAttempt.d, TPromise.d]; exact hq) (by first | rfl | (simp only [go_sem, Nat.reduceLeDiff]; done) | (simp only [go_sem, Nat.reduceLeDiff]; rfl) | (simp; done) | (simp [oneD] <;> omega) | (simp_all; done) | (simp_all [oneD] <;> omega)) (by first | exact Nat.le_refl _ | exact Nat.le_of_ble_eq_true rfl | (dsimp only; omega) | (simp <;> omega)) ?_
      refine .glcall (r := .bool v7) [] rfl rfl rfl rfl rfl (fun hg => ⟨[], [.imm 3 (a0.Promises.map TPromise.d) 4, .fn (.func 94) [.ptr 0 0]], _, rfl, (by first | (simp only [opds, opd, ev, ofVal, getR, getL, Nat.beq, cond_true, cond_false, Bool.not_true, Bool.false_or, Bool.and_true, Bool.true_and, Prod.mk.injEq, true_and]; done) | (simp only [opds, opd, ev, ofVal, getR, getL, Nat.beq, cond_true, cond_false, Bool.not_true, Bool.false_or, Bool.and_true, Bool.true_and, Prod.mk.injEq, true_and]; first | exact hg | simpa using hg | (simp at hg ⊢; grind)) | rfl), (lend2s_cons rfl (lend2s_cons (lend2_fn (lend2s_cons (lend2_ptr rfl (lends_cons rfl (lends_cons rfl (lends_cons rfl (lends_cons rfl (lends_cons rfl (lends_cons rfl (lends_cons rfl lends_nil)))))))) lend2s_nil)) lend2s_nil)), rfl, (callP_slices_ContainsFunc_Promise_Promise a0.Promises 94 [.iptr 0 [.int .u8 a0.Phase, .int .i64 a0.Ballot, .imm 1 (a0.Members.map (D.int .i64)) 4, .str a0.Wish, .str a0.Value, .imm 3 (a0.Promises.map TPromise.d) 4, .imm 1 (a0.Accepted.map (D.int .i64)) 4]] (fun _ => rfl) (fun _ => rfl) (fun _ => rfl) (fun x0 => m_attempt_Check_1 x0 a0) (fun x0 y hy => callP_attempt_Check_1 x0 a0 y hy) v7 (ite_l hv7 (by first | simpa using hg | (simp at hg ⊢; omega) | (simp at hg ⊢; grind) | grind)))⟩) ?_
      refine .RN 3 (dr := false) (.inr fun _ _ _ h => ⟨nofun, h.2⟩) (by intro q hq; simp only [go_sem, Nat.reduceSub, Int.reduceEq, Nat.reduceLT, Nat.reduceDiv, Nat.reduceAdd, Nat.reduceBEq, Nat.reduceLeDiff, reduceCtorEq, Nat.reduceEqDiff, Nat.reduceMod, appendD, TAttempt.d, TPromise.d]; exact hq) (by first | rfl | (simp only [go_sem, Nat.reduceLeDiff]; done) | (simp only [go_sem, Nat.reduceLeDiff]; rfl) | (simp; done) | (simp [oneD] <;> omega) | (simp_all; done) | (simp_all [oneD] <;> omega)) (by first | exact Nat.le_refl _ | exact Nat.le_of_ble_eq_true rfl | (dsimp only; omega) | (simp <;> omega)) ?_
      refine .nil ⟨nofun, ?_⟩
      refine .seq ?_
      obtain ⟨v8, hv8, hx1⟩ := bind_some hx1
      obtain ⟨v9, hv9, hx1⟩ := bind_some hx1
      obtain ⟨v10, hv10, hx1⟩ := bind_some hx1
      refine .reg Try.tmOk Try.tmMixed [1, 3] (by decide +kernel) ?_
      refine .RN 6 (dr := true) (.inl rfl) (by intro q hq; simp only [go_sem, Nat.reduceSub, Int.reduceEq, Nat.reduceLT, Nat.reduceDiv, Nat.reduceAdd, Nat.reduceBEq, Nat.reduceLeDiff, reduceCtorEq, Nat.reduceEqDiff, Nat.reduceMod, appendD, Try.tm_22, Try.tm_23, Try.tm_26, TAttempt.d, TPromise.d]; exact hq) (by first | rfl | (simp only [go_sem, Nat.reduceLeDiff]; done) | (simp only [go_sem, Nat.reduceLeDiff]; rfl) | (simp; done) | (simp [oneD] <;> omega) | (simp_all; done) | (simp_all [oneD] <;> omega)) (by first | exact Nat.le_refl _ | exact Nat.le_of_ble_eq_true rfl | (dsimp only; omega) | (simp <;> omega)) ?_
      refine .gcall (r := .imm 1 (v8.map (D.int .i64)) 12) rfl rfl rfl rfl rfl (fun hg => ⟨[], [.imm 3 (a0.Promises.map TPromise.d) 4], _, rfl, (by first | (simp only [opds, opd, ev, ofVal, getR, getL, Nat.beq, cond_true, cond_false, Bool.not_true, Bool.false_or, Bool.and_true, Bool.true_and, Prod.mk.injEq, true_and]; done) | (simp only [opds, opd, ev, ofVal, getR, getL, Nat.beq, cond_true, cond_false, Bool.not_true, Bool.false_or, Bool.and_true, Bool.true_and, Prod.mk.injEq, true_and]; first | exact hg | simpa using hg | (simp at hg ⊢; grind)) | rfl), rfl, (callP_attempt_nodes a0.Promises v8 (ite_l hv8 (by first | simpa using hg | (simp at hg ⊢; omega) | (simp at hg ⊢; grind) | grind)))⟩) ?_
      refine .RN 0 (dr := true) (.inl rfl) (by intro q hq; simp only [go_sem, Nat.reduceSub, Int.reduceEq, Nat.reduceLT, Nat.reduceDiv, Nat.reduceAdd, Nat.reduceBEq, Nat.reduceLeDiff, reduceCtorEq, Nat.reduceEqDiff, Nat.reduceMod, appendD, TAttempt.d, TPromise.d]; exact hq) (by first | rfl | (simp only [go_sem, Nat.reduceLeDiff]; done) | (simp only [go_sem, Nat.reduceLeDiff]; rfl) | (simp; done) | (simp [oneD] <;> omega) | (simp_all; done) | (simp_all [oneD] <;> omega)) (by first | exact Nat.le_refl _ | exact Nat.le_of_ble_eq_true rfl | (dsimp only; omega) | (simp <;> omega)) ?_
      refine .gcall (r := .bool v9) rfl rfl rfl rfl rfl (fun hg => ⟨[], [.imm 1 (a0.Members.map (D.int .i64)) 4, .imm 1 (v8.map (D.int .i64)) 12], _, rfl, (by first | (simp only [opds, opd, ev, ofVal, getR, getL, Nat.beq, cond_true, cond_false, Bool.not_true, Bool.false_or, Bool.and_true, Bool.true_and, Prod.mk.injEq, true_and]; done) | (simp only [opds, opd, ev, ofVal, getR, getL, Nat.beq, cond_true, cond_false, Bool.not_true, Bool.false_or, Bool.and_true, Bool.true_and, Prod.mk.injEq, true_and]; first | exact hg | simpa using hg | (simp at hg ⊢; grind)) | rfl), rfl, (callP_attempt_most a0.Members v8 v9 (ite_l hv9 (by first | simpa using hg | (simp at hg ⊢; omega) | (simp at hg ⊢; grind) | grind)))⟩) ?_
      refine .RN 6 (dr := true) (.inl rfl) (by intro q hq; simp only [go_sem, Nat.reduceSub, Int.reduceEq, Nat.reduceLT, Nat.reduceDiv, Nat.reduceAdd, Nat.reduceBEq, Nat.reduceLeDiff, reduceCtorEq, Nat.reduceEqDiff, Nat.reduceMod, appendD, Try.tm_4, Try.tm_5, Try.tm_26, TAttempt.d, TPromise.d]; exact hq) (by first | rfl | (simp only [go_sem, Nat.reduceLeDiff]; done) | (simp only [go_sem, Nat.reduceLeDiff]; rfl) | (simp; done) | (simp [oneD] <;> omega) | (simp_all; done) | (simp_all [oneD] <;> omega)) (by first | exact Nat.le_refl _ | exact Nat.le_of_ble_eq_true rfl | (dsimp only; omega) | (simp <;> omega)) ?_
      refine .RN 4 (dr := true) (.inl rfl) (by intro q hq; simp only [go_sem, Nat.reduceSub, Int.reduceEq, Nat.reduceLT, Nat.reduceDiv, Nat.reduceAdd, Nat.reduceBEq, Nat.reduceLeDiff, reduceCtorEq, Nat.reduceEqDiff, Nat.reduceMod, appendD, Try.tm_22, Try.tm_26, TAttempt.d, TPromise.d]; exact hq) (by first | rfl | (simp only [go_sem, Nat.reduceLeDiff]; done) | (simp only [go_sem, Nat.reduceLeDiff]; rfl) | (simp; done) | (simp [oneD] <;> omega) | (simp_all; done) | (simp_all [oneD] <;> omega)) (by first | exact Nat.le_refl _ | exact Nat.le_of_ble_eq_true rfl | (dsimp only; omega) | (simp <;> omega)) ?_
      refine .gcall (r := .bool v10) rfl rfl rfl rfl rfl (fun hg => ⟨[], [.imm 1 (a0.Members.map (D.int .i64)) 4, .imm 1 (a0.Accepted.map (D.int .i64)) 4], _, rfl, (by first | (simp only [opds, opd, ev, ofVal, getR, getL, Nat.beq, cond_true, cond_false, Bool.not_true, Bool.false_or, Bool.and_true, Bool.true_and, Prod.mk.injEq, true_and]; done) | (simp only [opds, opd, ev, ofVal, getR, getL, Nat.beq, cond_true, cond_false, Bool.not_true, Bool.false_or, Bool.and_true, Bool.true_and, Prod.mk.injEq, true_and]; first | exact hg | simpa using hg | (simp at hg ⊢; grind)) | rfl), rfl, (callP_attempt_most a0.Members a0.Accepted v10 (ite_l hv10 (by first | simpa using hg | (simp at hg ⊢; omega) | (simp at hg ⊢; grind) | grind)))⟩) ?_
      refine .RN 6 (dr := true) (.inl rfl) (by intro q hq; simp only [go_sem, Nat.reduceSub, Int.reduceEq, Nat.reduceLT, Nat.reduceDiv, Nat.reduceAdd, Nat.reduceBEq, Nat.reduceLeDiff, reduceCtorEq, Nat.reduceEqDiff, Nat.reduceMod, appendD, Try.tm_4, Try.tm_5, Try.tm_26, TAttempt.d, TPromise.d]; exact hq) (by first | rfl | (simp only [go_sem, Nat.reduceLeDiff]; done) | (simp only [go_sem, Nat.reduceLeDiff]; rfl) | (simp; done) | (simp [oneD] <;> omega) | (simp_all; done) | (simp_all [oneD] <;> omega)) (by first | exact Nat.le_refl _ | exact Nat.le_of_ble_eq_true rfl | (dsimp only; omega) | (simp <;> omega)) ?_
      refine .nil ⟨fun _ => schedB_of (by kernel_rfl), ?_⟩
      obtain ⟨v11, hv11, hx1⟩ := bind_some hx1
      refine .reg Try.tmOk Try.tmMixed [1, 3] (by decide +kernel) ?_
      refine .RN 6 (dr := true) (.inl rfl) (by intro q hq; simp only [go_sem, Nat.reduceSub, Int.reduceEq, Nat.reduceLT, Nat.reduceDiv, Nat.reduceAdd, Nat.reduceBEq, Nat.reduceLeDiff, reduceCtorEq, Nat.reduceEqDiff, Nat.reduceMod, appendD, Try.tm_5, Try.tm_26, TAttempt.d, TPromise.d]; exact hq) (by first | rfl | (simp only [go_sem, Nat.reduceLeDiff]; done) | (simp only [go_sem, Nat.reduceLeDiff]; rfl) | (simp; done) | (simp [oneD] <;> omega) | (simp_all; done) | (simp_all [oneD] <;> omega)) (by first | exact Nat.le_refl _ | exact Nat.le_of_ble_eq_true rfl | (dsimp only; omega) | (simp <;> omega)) ?_
      refine .RN 6 (dr := true) (.inl rfl) (by intro q hq; simp only [go_sem, Nat.reduceSub, Int.reduceEq, Nat.reduceLT, Nat.reduceDiv, Nat.reduceAdd, Nat.reduceBEq, Nat.reduceLeDiff, reduceCtorEq, Nat.reduceEqDiff, Nat.reduceMod, appendD, Try.tm_9, Try.tm_23, Try.tm_26, TAttempt.d, TPromise.d]; exact hq) (by first | rfl | (simp only [go_sem, Nat.reduceLeDiff]; done) | (simp only [go_sem, Nat.reduceLeDiff]; rfl) | (simp; done) | (simp [oneD] <;> omega) | (simp_all; done) | (simp_all [oneD] <;> omega)) (by first | exact Nat.le_refl _ | exact Nat.le_of_ble_eq_true rfl | (dsimp only; omega) | (simp <;> omega)) ?_
      refine .gcall (r := .str v11) rfl rfl rfl rfl rfl (fun hg => ⟨[], [.imm 3 (a0.Promises.map TPromise.d) 4, .str a0.Wish], _, rfl, (by first | (simp only [opds, opd, ev, ofVal, getR, getL, Nat.beq, cond_true, cond_false, Bool.not_true, Bool.false_or, Bool.and_true, Bool.true_and, Prod.mk.injEq, true_and]; done) | (simp only [opds, opd, ev, ofVal, getR, getL, Nat.beq, cond_true, cond_false, Bool.not_true, Bool.false_or, Bool.and_true, Bool.true_and, Prod.mk.injEq, true_and]; first | exact hg | simpa using hg | (simp at hg ⊢; grind)) | rfl), rfl, (callP_attempt_Best a0.Promises a0.Wish v11 (ite_l hv11 (by first | simpa using hg | (simp at hg ⊢; omega) | (simp at hg ⊢; grind) | grind)))⟩) ?_
      refine .RN 4 (dr := true) (.inl rfl) (by intro q hq; simp only [go_sem, Nat.reduceSub, Int.reduceEq, Nat.reduceLT, Nat.reduceDiv, Nat.reduceAdd, Nat.reduceBEq, Nat.reduceLeDiff, reduceCtorEq, Nat.reduceEqDiff, Nat.reduceMod, appendD, Try.tm_9, TAttempt.d, TPromise.d]; exact hq) (by first | rfl | (simp only [go_sem, Nat.reduceLeDiff]; done) | (simp only [go_sem, Nat.reduceLeDiff]; rfl) | (simp; done) | (simp [oneD] <;> omega) | (simp_all; done) | (simp_all [oneD] <;> omega)) (by first | exact Nat.le_refl _ | exact Nat.le_of_ble_eq_true rfl | (dsimp only; omega) | (simp <;> omega)) ?_
      refine .nil ⟨fun _ => schedB_of (by kernel_rfl), ?_⟩
      refine .exit ?_
      refine ⟨_, ?_, (Option.some.inj hx1).symm⟩
      refine Goes.mv [3] [] [] ?_ (Nat.le_of_ble_eq_true rfl) (Nat.le_of_ble_eq_true rfl) rfl
      first | rfl | (simp only [go_sem, Nat.reduceBEq, Nat.reduceAdd]; done) | (simp only [go_sem, Nat.reduceBEq, Nat.reduceAdd]; rfl)
  · skip
    rintro b1 hj3
    subst x1
    try dsimp only at h
    simp only [Try.St_attempt_Check_1]
    refine .seq ?_
    refine .seq ?_
    refine .plain Try.tmOk Try.tmMixed [3] (by decide +kernel) (by intro q hq; simp only [go_sem, Nat.reduceSub, Int.reduceEq, Nat.reduceLT, Nat.reduceDiv, Nat.reduceAdd, Nat.reduceBEq, Nat.reduceLeDiff, reduceCtorEq, Nat.reduceEqDiff, Nat.reduceMod, appendD]; exact hq) (by first | rfl | (simp only [go_sem, Nat.reduceLeDiff]; done) | (simp only [go_sem, Nat.reduceLeDiff]; rfl) | (simp; done) | (simp [oneD] <;> omega) | (simp_all; done) | (simp_all [oneD] <;> omega)) (by first | exact Nat.le_refl _ | exact Nat.le_of_ble_eq_true rfl | (dsimp only; omega) | (simp <;> omega)) ?_
    refine .cond rfl rfl (fun hc5 => ?_) (fun hc5 => ?_)
    · skip
      replace h := ite_l h (by first | simpa using hc5 | (simp at hc5 ⊢; omega) | (simp at hc5 ⊢; grind) | grind)
      refine .seq ?_
      refine .plain Try.tmOk Try.tmMixed [] (by decide +kernel) (by intro q hq; simp only [go_sem, Nat.reduceSub, Int.reduceEq, Nat.reduceLT, Nat.reduceDiv, Nat.reduceAdd, Nat.reduceBEq, Nat.reduceLeDiff, reduceCtorEq, Nat.reduceEqDiff, Nat.reduceMod, appendD]; exact hq) (by first | rfl | (simp only [go_sem, Nat.reduceLeDiff]; done) | (simp only [go_sem, Nat.reduceLeDiff]; rfl) | (simp; done) | (simp [oneD] <;> omega) | (simp_all; done) | (simp_all [oneD] <;> omega)) (by first | exact Nat.le_refl _ | exact Nat.le_of_ble_eq_true rfl | (dsimp only; omega) | (simp <;> omega)) ?_
      have hq := Option.some.inj h
      subst r
      refine .ret ⟨.inr rfl, ResIs.to ?_⟩
      simp only [ResIs, resL, resD, resT, go_sem, Nat.reduceSub, Int.reduceEq, Nat.reduceLT, Nat.reduceDiv, Nat.reduceAdd, Nat.reduceBEq, Nat.reduceLeDiff, reduceCtorEq, Nat.reduceEqDiff, Nat.reduceMod, Try.f20, Try.tm_27]
    · skip
      replace h := ite_r h (by first | simpa using hc5 | (simp at hc5 ⊢; omega) | (simp at hc5 ⊢; grind) | grind)
      refine .skip ?_
      refine .seq ?_
      refine .plain Try.tmOk Try.tmMixed [] (by decide +kernel) (by intro q hq; simp only [go_sem, Nat.reduceSub, Int.reduceEq, Nat.reduceLT, Nat.reduceDiv, Nat.reduceAdd, Nat.reduceBEq, Nat.reduceLeDiff, reduceCtorEq, Nat.reduceEqDiff, Nat.reduceMod, appendD]; exact hq) (by first | rfl | (simp only [go_sem, Nat.reduceLeDiff]; done) | (simp only [go_sem, Nat.reduceLeDiff]; rfl) | (simp; done) | (simp [oneD] <;> omega) | (simp_all; done) | (simp_all [oneD] <;> omega)) (by first | exact Nat.le_refl _ | exact Nat.le_of_ble_eq_true rfl | (dsimp only; omega) | (simp <;> omega)) ?_
      have hq := Option.some.inj h
      subst r
      refine .ret ⟨.inr rfl, ResIs.to ?_⟩
      simp only [ResIs, resL, resD, resT, go_sem, Nat.reduceSub, Int.reduceEq, Nat.reduceLT, Nat.reduceDiv, Nat.reduceAdd, Nat.reduceBEq, Nat.reduceLeDiff, reduceCtorEq, Nat.reduceEqDiff, Nat.reduceMod, Try.f20, Try.tm_27]

def Try.St_towncrierref08_Great_1 (a0 : TAttempt) (n1 : Int) : St := ⟨[(1, .ptr 0 0), (3, .int .i64 n1)], [(0, .box [.int .u8 a0.Phase, .int .i64 a0.Ballot, .imm 1 (a0.Members.map (D.int .i64)) 4, .str a0.Wish, .str a0.Value, .imm 3 (a0.Promises.map TPromise.d) 4, .imm 1 (a0.Accepted.map (D.int .i64)) 4])], 1⟩
attribute [local go_sem] Try.St_towncrierref08_Great_1
def Try.St_towncrierref08_Great_3 (a0 : TAttempt) (n3 : Nat) (n2 : Int) : St := ⟨[(1, .ptr 0 0), (3, .int .i64 n2), (4, .int .i64 (n3 : Int))], [(0, .box [.int .u8 a0.Phase, .int .i64 a0.Ballot, .imm 1 (a0.Members.map (D.int .i64)) 4, .str a0.Wish, .str a0.Value, .imm 3 (a0.Promises.map TPromise.d) 4, .imm 1 (a0.Accepted.map (D.int .i64)) 4])], 1⟩
attribute [local go_sem] Try.St_towncrierref08_Great_3
theorem callP_towncrierref08_Great (a0 : TAttempt) (r : Bool) (h : m_towncrierref08_Great a0 = some r) : CallP Try.prog 21 [.agg [.int .u8 a0.Phase, .int .i64 a0.Ballot, .imm 1 (a0.Members.map (D.int .i64)) 4, .str a0.Wish, .str a0.Value, .imm 3 (a0.Promises.map TPromise.d) 4, .imm 1 (a0.Accepted.map (D.int .i64)) 4]] (.bool r) := by
  refine callP_intro Try.tmOk 3 Try.func21 rfl (by decide) rfl rfl (Nat.le_of_ble_eq_true rfl) ?_
  intro hwf
  unfold m_towncrierref08_Great at h
  refine .seq ?_
  refine .plain Try.tmOk Try.tmMixed [0] (by decide +kernel) (by intro q hq; simp only [go_sem, Nat.reduceSub, Int.reduceEq, Nat.reduceLT, Nat.reduceDiv, Nat.reduceAdd, Nat.reduceBEq, Nat.reduceLeDiff, reduceCtorEq, Nat.reduceEqDiff, Nat.reduceMod, appendD, Try.tm_26, TAttempt.d]; exact hq) (by first | rfl | (simp only [go_sem, Nat.reduceLeDiff]; done) | (simp only [go_sem, Nat.reduceLeDiff]; rfl) | (simp; done) | (simp [oneD] <;> omega) | (simp_all; done) | (simp_all [oneD] <;> omega)) (by first | exact Nat.le_refl _ | exact Nat.le_of_ble_eq_true rfl | (dsimp only; omega) | (simp <;> omega)) ?_
  refine .seq ?_
  refine .plain Try.tmOk Try.tmMixed [1] (by decide +kernel) (by intro q hq; simp only [go_sem, Nat.reduceSub, Int.reduceEq, Nat.reduceLT, Nat.reduceDiv, Nat.reduceAdd, Nat.reduceBEq, Nat.reduceLeDiff, reduceCtorEq, Nat.reduceEqDiff, Nat.reduceMod, appendD, Try.tm_3, Try.tm_9, Try.tm_26, TAttempt.d]; exact hq) (by first | rfl | (simp only [go_sem, Nat.reduceLeDiff]; done) | (simp only [go_sem, Nat.reduceLeDiff]; rfl) | (simp; done) | (simp [oneD] <;> omega) | (simp_all; done) | (simp_all [oneD] <;> omega)) (by first | exact Nat.le_refl _ | exact Nat.le_of_ble_eq_true rfl | (dsimp only; omega) | (simp <;> omega)) ?_
  obtain ⟨x1, hx1, h⟩ := bind_some h
  refine .seqM 1 (fun (j : Int) => Try.St_towncrierref08_Great_1 a0 j) (fun j => x1 = j) (Nat.le_of_ble_eq_true rfl) ?_ ?_
  · skip
    refine .seq ?_
    refine .plain Try.tmOk Try.tmMixed [1, 3] (by decide +kernel) (by intro q hq; simp only [go_sem, Nat.reduceSub, Int.reduceEq, Nat.reduceLT, Nat.reduceDiv, Nat.reduceAdd, Nat.reduceBEq, Nat.reduceLeDiff, reduceCtorEq, Nat.reduceEqDiff, Nat.reduceMod, appendD]; exact hq) (by first | rfl | (simp only [go_sem, Nat.reduceLeDiff]; done) | (simp only [go_sem, Nat.reduceLeDiff]; rfl) | (simp; done) | (simp [oneD] <;> omega) | (simp_all; done) | (simp_all [oneD] <;> omega)) (by first | exact Nat.le_refl _ | exact Nat.le_of_ble_eq_true rfl | (dsimp only; omega) | (simp <;> omega)) ?_
    refine .block ?_
    refine .loopG 1 (fun (j : Nat × Int) => Try.St_towncrierref08_Great_3 a0 j.1 j.2) (fun j => j.1 ≤ a0.Promises.length ∧ m_towncrierref08_Great_loop1 (a0.Promises.drop j.1) j.1 j.2 = some x1) (fun j => a0.Promises.length - j.1) (0, (wr .i64 ((a0.Wish.length : Int) + (a0.Value.length : Int)))) (Nat.le_of_ble_eq_true rfl) ?_ ⟨Nat.zero_le _, hx1⟩ ?_
    · skip
      refine Goes.mv [1, 3, 4] [0] [] ?_ (Nat.le_of_ble_eq_true rfl) (Nat.le_of_ble_eq_true rfl) rfl
      first | rfl | (simp only [go_sem, Nat.reduceBEq, Nat.reduceAdd]; done) | (simp only [go_sem, Nat.reduceBEq, Nat.reduceAdd]; rfl)
    rintro ⟨n3, n2⟩ ⟨hi1, hx1⟩
    simp only [Try.St_towncrierref08_Great_3]
    simp only at hi1 hx1
    refine .wfb 0 [.int .u8 a0.Phase, .int .i64 a0.Ballot, .imm 1 (a0.Members.map (D.int .i64)) 4, .str a0.Wish, .str a0.Value, .imm 3 (a0.Promises.map TPromise.d) 4, .imm 1 (a0.Accepted.map (D.int .i64)) 4] rfl ?_
    intro hln3
    replace hln3 : (a0.Promises.length : Int) ≤ 9223372036854775807 := by simp only [wf, wfL, IntKind.max, IntKind.min, IntKind.signed, IntKind.bits, List.length_map] at hln3; first | exact hln3.2 | exact hln3.1 | (simp at hln3; omega)
    refine .seq ?_
    refine .seq ?_
    refine .reg Try.tmOk Try.tmMixed [1, 3, 4] (by decide +kernel) ?_
    refine .RN 6 (dr := false) (.inr fun _ _ _ h => ⟨nofun, h.2⟩) (by intro q hq; simp only [go_sem, Nat.reduceSub, Int.reduceEq, Nat.reduceLT, Nat.reduceDiv, Nat.reduceAdd, Nat.reduceBEq, Nat.reduceLeDiff, reduceCtorEq, Nat.reduceEqDiff, Nat.reduceMod, appendD, Try.tm_3, Try.tm_23, Try.tm_26, TAttempt.d, TPromise.d]; exact hq) (by first | rfl | (simp only [go_sem, Nat.reduceLeDiff]; done) | (simp only [go_sem, Nat.reduceLeDiff]; rfl) | (simp; done) | (simp [oneD] <;> omega) | (simp_all; done) | (simp_all [oneD] <;> omega)) (by first | exact Nat.le_refl _ | exact Nat.le_of_ble_eq_true rfl | (dsimp only; omega) | (simp <;> omega)) ?_
    refine .RN 3 (dr := false) (.inr fun _ _ _ h => ⟨nofun, h.2⟩) (by intro q hq; simp only [go_sem, Nat.reduceSub, Int.reduceEq, Nat.reduceLT, Nat.reduceDiv, Nat.reduceAdd, Nat.reduceBEq, Nat.reduceLeDiff, reduceCtorEq, Nat.reduceEqDiff, Nat.reduceMod, appendD, Try.tm_3, TAttempt.d, TPromise.d]; exact hq) (by first | rfl | (simp only [go_sem, Nat.reduceLeDiff]; done) | (simp only [go_sem, Nat.reduceLeDiff]; rfl) | (simp; done) | (simp [oneD] <;> omega) | (simp_all; done) | (simp_all [oneD] <;> omega)) (by first | exact Nat.le_refl _ | exact Nat.le_of_ble_eq_true rfl | (dsimp only; omega) | (simp <;> omega)) ?_
    refine .nil ⟨nofun, ?_⟩
    refine .cond rfl rfl (fun hc1 => ?_) (fun hc1 => ?_)
    · skip
      have h1 : n3 < a0.Promises.length := by have hq := hc1; simp at hq; omega
      have hwn3 : wr .i64 ((n3 : Int) + 1) = ((n3 + 1 : Nat) : Int) := wr_succ h1 hln3
      have hpn3 : wr .i64 ((n3 : Int) - 1) = (n3 : Int) - 1 := wr_pred h1 hln3
      rw [List.drop_eq_getElem_cons h1, m_towncrierref08_Great_loop1] at hx1
      replace hx1 := ite_l hx1 (by first | simpa using hc1 | (simp at hc1 ⊢; omega) | (simp at hc1 ⊢; grind) | grind)
      refine .skip ?_
      refine .seq ?_
      refine .block ?_
      have e1 := nth_map TPromise.d a0.Promises n3 h1
      refine .reg Try.tmOk Try.tmMixed [1, 3, 4] (by decide +kernel) ?_
      refine .RN 6 (dr := false) (.inr fun _ _ _ h => ⟨nofun, h.2⟩) (by intro q hq; simp only [go_sem, Nat.reduceSub, Int.reduceEq, Nat.reduceLT, Nat.reduceDiv, Nat.reduceAdd, Nat.reduceBEq, Nat.reduceLeDiff, reduceCtorEq, Nat.reduceEqDiff, Nat.reduceMod, appendD, Try.tm_23, Try.tm_26, Try.tm_31, e1, TAttempt.d, TPromise.d, hwn3]; exact hq) (by first | rfl | (simp only [go_sem, Nat.reduceLeDiff]; done) | (simp only [go_sem, Nat.reduceLeDiff]; rfl) | (simp; done) | (simp [oneD] <;> omega) | (simp_all; done) | (simp_all [oneD] <;> omega)) (by first | exact Nat.le_refl _ | exact Nat.le_of_ble_eq_true rfl | (dsimp only; omega) | (simp <;> omega)) ?_
      refine .RN 5 (dr := false) (.inr fun _ _ _ h => ⟨nofun, h.2⟩) (by intro q hq; simp only [go_sem, Nat.reduceSub, Int.reduceEq, Nat.reduceLT, Nat.reduceDiv, Nat.reduceAdd, Nat.reduceBEq, Nat.reduceLeDiff, reduceCtorEq, Nat.reduceEqDiff, Nat.reduceMod, appendD, Try.tm_3, Try.tm_9, e1, TAttempt.d, TPromise.d, hwn3]; exact hq) (by first | rfl | (simp only [go_sem, Nat.reduceLeDiff]; done) | (simp only [go_sem, Nat.reduceLeDiff]; rfl) | (simp; done) | (simp [oneD] <;> omega) | (simp_all; done) | (simp_all [oneD] <;> omega)) (by first | exact Nat.le_refl _ | exact Nat.le_of_ble_eq_true rfl | (dsimp only; omega) | (simp <;> omega)) ?_
      refine .nil ⟨nofun, ?_⟩
      refine .plain Try.tmOk Try.tmMixed [1, 3, 4] (by decide +kernel) (by intro q hq; simp only [go_sem, Nat.reduceSub, Int.reduceEq, Nat.reduceLT, Nat.reduceDiv, Nat.reduceAdd, Nat.reduceBEq, Nat.reduceLeDiff, reduceCtorEq, Nat.reduceEqDiff, Nat.reduceMod, appendD, Try.tm_3, hwn3]; exact hq) (by first | rfl | (simp only [go_sem, Nat.reduceLeDiff]; done) | (simp only [go_sem, Nat.reduceLeDiff]; rfl) | (simp; done) | (simp [oneD] <;> omega) | (simp_all; done) | (simp_all [oneD] <;> omega)) (by first | exact Nat.le_refl _ | exact Nat.le_of_ble_eq_true rfl | (dsimp only; omega) | (simp <;> omega)) ?_
      refine ⟨(n3 + 1, _), ?_, ⟨by omega, hx1⟩, by dsimp only; omega⟩
      refine Goes.mv [1, 3, 4] [0] [] ?_ (Nat.le_of_ble_eq_true rfl) (Nat.le_of_ble_eq_true rfl) rfl
      first | rfl | (simp only [go_sem, Nat.reduceBEq, Nat.reduceAdd]; done) | (simp only [go_sem, Nat.reduceBEq, Nat.reduceAdd]; rfl)
    · skip
      by_cases h2 : n3 < a0.Promises.length
      · skip
        rw [List.drop_eq_getElem_cons h2, m_towncrierref08_Great_loop1] at hx1
        replace hx1 := ite_r hx1 (by have hq := hc1; simp at hq ⊢; first | exact hq (by omega) | omega | grind)
        refine .exit ?_
        refine ⟨_, ?_, (Option.some.inj hx1).symm⟩
        refine Goes.mv [1, 3] [0] [] ?_ (Nat.le_of_ble_eq_true rfl) (Nat.le_of_ble_eq_true rfl) rfl
        first | rfl | (simp only [go_sem, Nat.reduceBEq, Nat.reduceAdd]; done) | (simp only [go_sem, Nat.reduceBEq, Nat.reduceAdd]; rfl)
      · skip
        rw [List.drop_of_length_le (by omega), m_towncrierref08_Great_loop1] at hx1
        refine .exit ?_
        refine ⟨_, ?_, (Option.some.inj hx1).symm⟩
        refine Goes.mv [1, 3] [0] [] ?_ (Nat.le_of_ble_eq_true rfl) (Nat.le_of_ble_eq_true rfl) rfl
        first | rfl | (simp only [go_sem, Nat.reduceBEq, Nat.reduceAdd]; done) | (simp only [go_sem, Nat.reduceBEq, Nat.reduceAdd]; rfl)
  · skip
    rintro n1 hj1
    subst x1
    try dsimp only at h
    simp only [Try.St_towncrierref08_Great_1]
    refine .seq ?_
    refine .reg Try.tmOk Try.tmMixed [1, 3] (by decide +kernel) ?_
    refine .RN 6 (dr := false) (.inr fun _ _ _ h => ⟨nofun, h.2⟩) (by intro q hq; simp only [go_sem, Nat.reduceSub, Int.reduceEq, Nat.reduceLT, Nat.reduceDiv, Nat.reduceAdd, Nat.reduceBEq, Nat.reduceLeDiff, reduceCtorEq, Nat.reduceEqDiff, Nat.reduceMod, appendD, Try.tm_3, Try.tm_22, Try.tm_26, TAttempt.d, TPromise.d]; exact hq) (by first | rfl | (simp only [go_sem, Nat.reduceLeDiff]; done) | (simp only [go_sem, Nat.reduceLeDiff]; rfl) | (simp; done) | (simp [oneD] <;> omega) | (simp_all; done) | (simp_all [oneD] <;> omega)) (by first | exact Nat.le_refl _ | exact Nat.le_of_ble_eq_true rfl | (dsimp only; omega) | (simp <;> omega)) ?_
    refine .RN 6 (dr := false) (.inr fun _ _ _ h => ⟨nofun, h.2⟩) (by intro q hq; simp only [go_sem, Nat.reduceSub, Int.reduceEq, Nat.reduceLT, Nat.reduceDiv, Nat.reduceAdd, Nat.reduceBEq, Nat.reduceLeDiff, reduceCtorEq, Nat.reduceEqDiff, Nat.reduceMod, appendD, Try.tm_3, Try.tm_23, Try.tm_26, TAttempt.d, TPromise.d]; exact hq) (by first | rfl | (simp only [go_sem, Nat.reduceLeDiff]; done) | (simp only [go_sem, Nat.reduceLeDiff]; rfl) | (simp; done) | (simp [oneD] <;> omega) | (simp_all; done) | (simp_all [oneD] <;> omega)) (by first | exact Nat.le_refl _ | exact Nat.le_of_ble_eq_true rfl | (dsimp only; omega) | (simp <;> omega)) ?_
    refine .RN 6 (dr := false) (.inr fun _ _ _ h => ⟨nofun, h.2⟩) (by intro q hq; simp only [go_sem, Nat.reduceSub, Int.reduceEq, Nat.reduceLT, Nat.reduceDiv, Nat.reduceAdd, Nat.reduceBEq, Nat.reduceLeDiff, reduceCtorEq, Nat.reduceEqDiff, Nat.reduceMod, appendD, Try.tm_3, Try.tm_22, TAttempt.d, TPromise.d]; exact hq) (by first | rfl | (simp only [go_sem, Nat.reduceLeDiff]; done) | (simp only [go_sem, Nat.reduceLeDiff]; rfl) | (simp; done) | (simp [oneD] <;> omega) | (simp_all; done) | (simp_all [oneD] <;> omega)) (by first | exact Nat.le_refl _ | exact Nat.le_of_ble_eq_true rfl | (dsimp only; omega) | (simp <;> omega)) ?_
    refine .RN 3 (dr := false) (.inr fun _ _ _ h => ⟨nofun, h.2⟩) (by intro q hq; simp only [go_sem, Nat.reduceSub, Int.reduceEq, Nat.reduceLT, Nat.reduceDiv, Nat.reduceAdd, Nat.reduceBEq, Nat.reduceLeDiff, reduceCtorEq, Nat.reduceEqDiff, Nat.reduceMod, appendD, Try.tm_3, TAttempt.d, TPromise.d]; exact hq) (by first | rfl | (simp only [go_sem, Nat.reduceLeDiff]; done) | (simp only [go_sem, Nat.reduceLeDiff]; rfl) | (simp; done) | (simp [oneD] <;> omega) | (simp_all; done) | (simp_all [oneD] <;> omega)) (by first | exact Nat.le_refl _ | exact Nat.le_of_ble_eq_true rfl | (dsimp only; omega) | (simp <;> omega)) ?_
    refine .nil ⟨nofun, ?_⟩
    have hq := Option.some.inj h
    subst r
    refine .ret ⟨.inr rfl, ResIs.to ?_⟩
    simp only [ResIs, resL, resD, resT, go_sem, Nat.reduceSub, Int.reduceEq, Nat.reduceLT, Nat.reduceDiv, Nat.reduceAdd, Nat.reduceBEq, Nat.reduceLeDiff, reduceCtorEq, Nat.reduceEqDiff, Nat.reduceMod, Try.f21, Try.tm_4]
end Go.Proofs
end
section
/- Models of functions, printed by gw.py. -/





namespace Go.Proofs
open Go.Tm

def m_slices_Clone_int_int (a0 : List Int) : Option ((List Int)) :=
  if a0.length < 1000000 then
  some a0
  else none

def m_slices_Clone_Promise_Promise (a0 : List TPromise) : Option ((List TPromise)) :=
  if a0.length < 1000000 then
  some a0
  else none

def m_attempt_Twin (a0 : TAttempt) : Option TAttempt :=
  Option.bind (m_slices_Clone_int_int a0.Members) fun v1 =>
  Option.bind (m_slices_Clone_Promise_Promise a0.Promises) fun v2 =>
  Option.bind (m_slices_Clone_int_int a0.Accepted) fun v3 =>
  some (⟨a0.Phase, a0.Ballot, v1, a0.Wish, a0.Value, v2, v3⟩ : TAttempt)

def m_attempt_Begin (a0 : List Int) (a1 : Int) (a2 : List UInt8) : Option (TAttempt × Int) :=
  Option.bind (m_quorum_Check a0) fun v1 =>
  if ¬ (v1 = 0) then
  some ((⟨0, 0, [], [], [], [], []⟩ : TAttempt), v1)
  else
  Option.bind (m_ballot_Check a1) fun v2 =>
  if ¬ (v2 = 0) then
  some ((⟨0, 0, [], [], [], [], []⟩ : TAttempt), v2)
  else
  if (a2.length : Int) > 1024 then
  some ((⟨0, 0, [], [], [], [], []⟩ : TAttempt), 3)
  else
  Option.bind (m_slices_Clone_int_int a0) fun v3 =>
  some ((⟨1, a1, v3, a2, [], [], []⟩ : TAttempt), 0)
end Go.Proofs
end
