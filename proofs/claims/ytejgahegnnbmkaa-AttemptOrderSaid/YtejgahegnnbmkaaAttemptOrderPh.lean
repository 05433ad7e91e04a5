/- The walks of functions, printed by gw.py. -/
import Derived.Test.YtejgahegnnbmkaaAttemptOrderPf
import Derived.Test.YtejgahegnnbmkaaAttemptOrderPg
section
namespace Go.Proofs
open Go.Tm Go.RowKit Go.WideShapes
set_option maxRecDepth 100000
set_option maxHeartbeats 4000000
set_option linter.unusedSimpArgs false
set_option linter.unusedVariables false
attribute [local go_sem] argVars runE runK isCallV stepE aop opd opdsL opds opdO ev ofVal keep List.any Nat.beq Bool.false_or Bool.true_or aggEq cond_true cond_false Bool.cond_false_right Bool.cond_true_left beq_true beq_false imp_self implies_true getR getL put St.app effL del nwB blt_dec Nat.lt_irrefl Nat.lt_add_one ble_dec Nat.le_refl Nat.beq_refl roomNZ appendIn capS capK mkZ_zero mkZL_zero zeroEl D.ids D.idsL Option.getD bin arith sarith binT dpick Tm.part splice fillD oneD loadD storeD srcD sliceD idxOk decide_true gval dstAt D.cells List.map_cons List.map_nil List.take List.drop List.length_map List.append Int.toNat_natCast and_true true_and decide_false List.length_cons List.length_nil List.append_nil List.nil_append Bool.and_true Bool.true_and Bool.not_false Bool.not_true ne_eq not_false_eq_true BEq.rfl List.getElem?_cons_zero List.getElem?_cons_succ List.getElem?_nil Nat.zero_add List.all_cons List.all_nil List.isEmpty_cons List.isEmpty_nil List.any_cons List.any_nil List.drop_succ_cons List.drop_zero unfL unf okM okML low3 List.cons_append true_or or_true Nat.zero_mul Nat.zero_le fpOf opIds mvV mvH mvF pickL D.ren D.renL Blk.ren List.map_append List.length_append Bool.not_not Bool.or_not_self Bool.not_or_self Bool.or_true

def Try.St_slices_Equal_int_int_1 : St := ⟨[], [], 0⟩
attribute [local go_sem] Try.St_slices_Equal_int_int_1
def Try.St_slices_Equal_int_int_3 (a0 : List Int) (a1 : List Int) (n1 : Nat) : St := ⟨[(0, .imm 1 (a0.map (D.int .i64)) 4), (1, .imm 1 (a1.map (D.int .i64)) 4), (12, .int .i64 (a0.length : Int)), (13, .int .i64 (n1 : Int))], [], 0⟩
attribute [local go_sem] Try.St_slices_Equal_int_int_3
theorem callP_slices_Equal_int_int (a0 : List Int) (a1 : List Int) (r : Bool) (h : m_slices_Equal_int_int a0 a1 = some r) : CallP Try.prog 107 [.imm 1 (a0.map (D.int .i64)) 4, .imm 1 (a1.map (D.int .i64)) 4] (.bool r) := by
  refine callP_intro Try.tmOk 2 Try.func107 rfl (by decide) rfl rfl (Nat.le_of_ble_eq_true rfl) ?_
  intro hwf
  unfold m_slices_Equal_int_int at h
  refine .seq ?_
  refine .plain Try.tmOk Try.tmMixed [0, 1] (by decide +kernel) (by intro q hq; simp only [go_sem, Nat.reduceSub, Int.reduceEq, Nat.reduceLT, Nat.reduceDiv, Nat.reduceAdd, Nat.reduceBEq, Nat.reduceLeDiff, reduceCtorEq, Nat.reduceEqDiff, Nat.reduceMod, appendD]; exact hq) (by first | rfl | (simp only [go_sem, Nat.reduceLeDiff]; done) | (simp only [go_sem, Nat.reduceLeDiff]; rfl) | (simp; done) | (simp [oneD] <;> omega) | (simp_all; done) | (simp_all [oneD] <;> omega)) (by first | exact Nat.le_refl _ | exact Nat.le_of_ble_eq_true rfl | (dsimp only; omega) | (simp <;> omega)) ?_
  refine .seq ?_
  refine .seq ?_
  refine .plain Try.tmOk Try.tmMixed [0, 1] (by decide +kernel) (by intro q hq; simp only [go_sem, Nat.reduceSub, Int.reduceEq, Nat.reduceLT, Nat.reduceDiv, Nat.reduceAdd, Nat.reduceBEq, Nat.reduceLeDiff, reduceCtorEq, Nat.reduceEqDiff, Nat.reduceMod, appendD, Try.tm_3, Try.tm_22]; exact hq) (by first | rfl | (simp only [go_sem, Nat.reduceLeDiff]; done) | (simp only [go_sem, Nat.reduceLeDiff]; rfl) | (simp; done) | (simp [oneD] <;> omega) | (simp_all; done) | (simp_all [oneD] <;> omega)) (by first | exact Nat.le_refl _ | exact Nat.le_of_ble_eq_true rfl | (dsimp only; omega) | (simp <;> omega)) ?_
  refine .cond rfl rfl (fun hc1 => ?_) (fun hc1 => ?_)
  · skip
    replace h := ite_l h (by first | simpa using hc1 | (simp at hc1 ⊢; omega) | (simp at hc1 ⊢; grind) | grind)
    refine .seq ?_
    refine .plain Try.tmOk Try.tmMixed [] (by decide +kernel) (by intro q hq; simp only [go_sem, Nat.reduceSub, Int.reduceEq, Nat.reduceLT, Nat.reduceDiv, Nat.reduceAdd, Nat.reduceBEq, Nat.reduceLeDiff, reduceCtorEq, Nat.reduceEqDiff, Nat.reduceMod, appendD]; exact hq) (by first | rfl | (simp only [go_sem, Nat.reduceLeDiff]; done) | (simp only [go_sem, Nat.reduceLeDiff]; rfl) | (simp; done) | (simp [oneD] <;> omega) | (simp_all; done) | (simp_all [oneD] <;> omega)) (by first | exact Nat.le_refl _ | exact Nat.le_of_ble_eq_true rfl | (dsimp only; omega) | (simp <;> omega)) ?_
    have hq := Option.some.inj h
    subst r
    refine .ret ⟨.inr rfl, ResIs.to ?_⟩
    simp only [ResIs, resL, resD, resT, go_sem, Nat.reduceSub, Int.reduceEq, Nat.reduceLT, Nat.reduceDiv, Nat.reduceAdd, Nat.reduceBEq, Nat.reduceLeDiff, reduceCtorEq, Nat.reduceEqDiff, Nat.reduceMod, Try.f107, Try.tm_4]
  · skip
    replace h := ite_r h (by first | simpa using hc1 | (simp at hc1 ⊢; omega) | (simp at hc1 ⊢; grind) | grind)
    refine .skip ?_
    obtain ⟨x1, hx1, h⟩ := bind_some h
    refine .seqM 0 (fun (j : Unit) => Try.St_slices_Equal_int_int_1) (fun j => x1 = (.inr j)) (Nat.le_of_ble_eq_true rfl) ?_ ?_
    · skip
      refine .seq ?_
      refine .plain Try.tmOk Try.tmMixed [0, 1] (by decide +kernel) (by intro q hq; simp only [go_sem, Nat.reduceSub, Int.reduceEq, Nat.reduceLT, Nat.reduceDiv, Nat.reduceAdd, Nat.reduceBEq, Nat.reduceLeDiff, reduceCtorEq, Nat.reduceEqDiff, Nat.reduceMod, appendD, Try.tm_22]; exact hq) (by first | rfl | (simp only [go_sem, Nat.reduceLeDiff]; done) | (simp only [go_sem, Nat.reduceLeDiff]; rfl) | (simp; done) | (simp [oneD] <;> omega) | (simp_all; done) | (simp_all [oneD] <;> omega)) (by first | exact Nat.le_refl _ | exact Nat.le_of_ble_eq_true rfl | (dsimp only; omega) | (simp <;> omega)) ?_
      refine .block ?_
      refine .loopG 0 (fun (j : Nat) => Try.St_slices_Equal_int_int_3 a0 a1 j) (fun j => j ≤ a0.length ∧ m_slices_Equal_int_int_loop1 a1 (a0.drop j) j  = some x1) (fun j => a0.length - j) (0) (Nat.le_of_ble_eq_true rfl) ?_ ⟨Nat.zero_le _, hx1⟩ ?_
      · skip
        refine Goes.mv [0, 1, 12, 13] [] [] ?_ (Nat.le_of_ble_eq_true rfl) (Nat.le_of_ble_eq_true rfl) rfl
        first | rfl | (simp only [go_sem, Nat.reduceBEq, Nat.reduceAdd]; done) | (simp only [go_sem, Nat.reduceBEq, Nat.reduceAdd]; rfl)
      rintro n1 ⟨hi1, hx1⟩
      simp only [Try.St_slices_Equal_int_int_3]
      refine .wf 12 (.int .i64 (a0.length : Int)) rfl ?_
      intro hln1
      replace hln1 : (a0.length : Int) ≤ 9223372036854775807 := by simp only [wf, wfL, IntKind.max, IntKind.min, IntKind.signed, IntKind.bits, List.length_map] at hln1; first | exact hln1.2 | exact hln1.1 | (simp at hln1; omega)
      refine .seq ?_
      refine .plain Try.tmOk Try.tmMixed [0, 1, 12, 13] (by decide +kernel) (by intro q hq; simp only [go_sem, Nat.reduceSub, Int.reduceEq, Nat.reduceLT, Nat.reduceDiv, Nat.reduceAdd, Nat.reduceBEq, Nat.reduceLeDiff, reduceCtorEq, Nat.reduceEqDiff, Nat.reduceMod, appendD, Try.tm_3]; exact hq) (by first | rfl | (simp only [go_sem, Nat.reduceLeDiff]; done) | (simp only [go_sem, Nat.reduceLeDiff]; rfl) | (simp; done) | (simp [oneD] <;> omega) | (simp_all; done) | (simp_all [oneD] <;> omega)) (by first | exact Nat.le_refl _ | exact Nat.le_of_ble_eq_true rfl | (dsimp only; omega) | (simp <;> omega)) ?_
      refine .seq ?_
      refine .cond rfl rfl (fun hc2 => ?_) (fun hc2 => ?_)
      · skip
        have h1 : n1 < a0.length := by simpa using hc2
        have hwn1 : wr .i64 ((n1 : Int) + 1) = ((n1 + 1 : Nat) : Int) := wr_succ h1 hln1
        have hpn1 : wr .i64 ((n1 : Int) - 1) = (n1 : Int) - 1 := wr_pred h1 hln1
        rw [List.drop_eq_getElem_cons h1, m_slices_Equal_int_int_loop1] at hx1
        refine .skip ?_
        refine .seq ?_
        refine .block ?_
        refine .seq ?_
        refine .plain Try.tmOk Try.tmMixed [0, 1, 12, 13] (by decide +kernel) (by intro q hq; simp only [go_sem, Nat.reduceSub, Int.reduceEq, Nat.reduceLT, Nat.reduceDiv, Nat.reduceAdd, Nat.reduceBEq, Nat.reduceLeDiff, reduceCtorEq, Nat.reduceEqDiff, Nat.reduceMod, appendD, hwn1]; exact hq) (by first | rfl | (simp only [go_sem, Nat.reduceLeDiff]; done) | (simp only [go_sem, Nat.reduceLeDiff]; rfl) | (simp; done) | (simp [oneD] <;> omega) | (simp_all; done) | (simp_all [oneD] <;> omega)) (by first | exact Nat.le_refl _ | exact Nat.le_of_ble_eq_true rfl | (dsimp only; omega) | (simp <;> omega)) ?_
        refine .seq ?_
        obtain ⟨k1, hx1⟩ := ite_ck hx1
        have e1 := nth_map (D.int .i64) a0 n1 h1
        have e2 := nth_mapD (D.int .i64) a1 n1
        replace e2 := e2 k1
        refine .reg Try.tmOk Try.tmMixed [0, 1, 5, 12, 13] (by decide +kernel) ?_
        refine .RN 6 (dr := true) (.inl rfl) (by intro q hq; simp only [go_sem, Nat.reduceSub, Int.reduceEq, Nat.reduceLT, Nat.reduceDiv, Nat.reduceAdd, Nat.reduceBEq, Nat.reduceLeDiff, reduceCtorEq, Nat.reduceEqDiff, Nat.reduceMod, appendD, Try.tm_3, Try.tm_22, e1, e2, hwn1]; exact hq) (by first | rfl | (simp only [go_sem, Nat.reduceLeDiff]; done) | (simp only [go_sem, Nat.reduceLeDiff]; rfl) | (simp; done) | (simp [oneD] <;> omega) | (simp_all; done) | (simp_all [oneD] <;> omega)) (by first | exact Nat.le_refl _ | exact Nat.le_of_ble_eq_true rfl | (dsimp only; omega) | (simp <;> omega)) ?_
        refine .RN 3 (dr := true) (.inl rfl) (by intro q hq; simp only [go_sem, Nat.reduceSub, Int.reduceEq, Nat.reduceLT, Nat.reduceDiv, Nat.reduceAdd, Nat.reduceBEq, Nat.reduceLeDiff, reduceCtorEq, Nat.reduceEqDiff, Nat.reduceMod, appendD, Try.tm_3, Try.tm_22, e1, e2, hwn1]; exact hq) (by first | rfl | (simp only [go_sem, Nat.reduceLeDiff]; done) | (simp only [go_sem, Nat.reduceLeDiff]; rfl) | (simp; done) | (simp [oneD] <;> omega) | (simp_all; done) | (simp_all [oneD] <;> omega)) (by first | exact Nat.le_refl _ | exact Nat.le_of_ble_eq_true rfl | (dsimp only; omega) | (simp <;> omega)) ?_
        refine .nil ⟨fun _ => schedB_of (by kernel_rfl), ?_⟩
        refine .cond rfl rfl (fun hc3 => ?_) (fun hc3 => ?_)
        · skip
          replace hx1 := ite_l hx1 (by first | simpa using hc3 | (simp at hc3 ⊢; omega) | (simp at hc3 ⊢; grind) | grind)
          refine .seq ?_
          refine .plain Try.tmOk Try.tmMixed [] (by decide +kernel) (by intro q hq; simp only [go_sem, Nat.reduceSub, Int.reduceEq, Nat.reduceLT, Nat.reduceDiv, Nat.reduceAdd, Nat.reduceBEq, Nat.reduceLeDiff, reduceCtorEq, Nat.reduceEqDiff, Nat.reduceMod, appendD, hwn1]; exact hq) (by first | rfl | (simp only [go_sem, Nat.reduceLeDiff]; done) | (simp only [go_sem, Nat.reduceLeDiff]; rfl) | (simp; done) | (simp [oneD] <;> omega) | (simp_all; done) | (simp_all [oneD] <;> omega)) (by first | exact Nat.le_refl _ | exact Nat.le_of_ble_eq_true rfl | (dsimp only; omega) | (simp <;> omega)) ?_
          have hq := Option.some.inj hx1
          subst x1
          try dsimp only at h
          have hq := Option.some.inj h
          subst r
          refine .ret ⟨.inr rfl, ResIs.to ?_⟩
          simp only [ResIs, resL, resD, resT, go_sem, Nat.reduceSub, Int.reduceEq, Nat.reduceLT, Nat.reduceDiv, Nat.reduceAdd, Nat.reduceBEq, Nat.reduceLeDiff, reduceCtorEq, Nat.reduceEqDiff, Nat.reduceMod, Try.f107, Try.tm_4]
        · skip
          replace hx1 := ite_r hx1 (by first | simpa using hc3 | (simp at hc3 ⊢; omega) | (simp at hc3 ⊢; grind) | grind)
          refine .skip ?_
          refine .plain Try.tmOk Try.tmMixed [0, 1, 12, 13] (by decide +kernel) (by intro q hq; simp only [go_sem, Nat.reduceSub, Int.reduceEq, Nat.reduceLT, Nat.reduceDiv, Nat.reduceAdd, Nat.reduceBEq, Nat.reduceLeDiff, reduceCtorEq, Nat.reduceEqDiff, Nat.reduceMod, appendD, Try.tm_3, hwn1]; exact hq) (by first | rfl | (simp only [go_sem, Nat.reduceLeDiff]; done) | (simp only [go_sem, Nat.reduceLeDiff]; rfl) | (simp; done) | (simp [oneD] <;> omega) | (simp_all; done) | (simp_all [oneD] <;> omega)) (by first | exact Nat.le_refl _ | exact Nat.le_of_ble_eq_true rfl | (dsimp only; omega) | (simp <;> omega)) ?_
          refine ⟨n1 + 1, ?_, ⟨by omega, hx1⟩, by dsimp only; omega⟩
          refine Goes.mv [0, 1, 12, 13] [] [] ?_ (Nat.le_of_ble_eq_true rfl) (Nat.le_of_ble_eq_true rfl) rfl
          first | rfl | (simp only [go_sem, Nat.reduceBEq, Nat.reduceAdd]; done) | (simp only [go_sem, Nat.reduceBEq, Nat.reduceAdd]; rfl)
      · skip
        have h2 : n1 = a0.length := by have h2b := of_decide_eq_false hc2; omega
        rw [List.drop_of_length_le (by omega), m_slices_Equal_int_int_loop1] at hx1
        refine .exit ?_
        refine ⟨_, ?_, (Option.some.inj hx1).symm⟩
        refine Goes.mv [] [] [] ?_ (Nat.le_of_ble_eq_true rfl) (Nat.le_of_ble_eq_true rfl) rfl
        first | rfl | (simp only [go_sem, Nat.reduceBEq, Nat.reduceAdd]; done) | (simp only [go_sem, Nat.reduceBEq, Nat.reduceAdd]; rfl)
    · skip
      rintro ⟨⟩ hj1
      subst x1
      try dsimp only at h
      simp only [Try.St_slices_Equal_int_int_1]
      refine .seq ?_
      refine .plain Try.tmOk Try.tmMixed [] (by decide +kernel) (by intro q hq; simp only [go_sem, Nat.reduceSub, Int.reduceEq, Nat.reduceLT, Nat.reduceDiv, Nat.reduceAdd, Nat.reduceBEq, Nat.reduceLeDiff, reduceCtorEq, Nat.reduceEqDiff, Nat.reduceMod, appendD]; exact hq) (by first | rfl | (simp only [go_sem, Nat.reduceLeDiff]; done) | (simp only [go_sem, Nat.reduceLeDiff]; rfl) | (simp; done) | (simp [oneD] <;> omega) | (simp_all; done) | (simp_all [oneD] <;> omega)) (by first | exact Nat.le_refl _ | exact Nat.le_of_ble_eq_true rfl | (dsimp only; omega) | (simp <;> omega)) ?_
      have hq := Option.some.inj h
      subst r
      refine .ret ⟨.inr rfl, ResIs.to ?_⟩
      simp only [ResIs, resL, resD, resT, go_sem, Nat.reduceSub, Int.reduceEq, Nat.reduceLT, Nat.reduceDiv, Nat.reduceAdd, Nat.reduceBEq, Nat.reduceLeDiff, reduceCtorEq, Nat.reduceEqDiff, Nat.reduceMod, Try.f107, Try.tm_4]

def Try.St_slices_Equal_Promise_Promise_1 : St := ⟨[], [], 0⟩
attribute [local go_sem] Try.St_slices_Equal_Promise_Promise_1
def Try.St_slices_Equal_Promise_Promise_3 (a0 : List TPromise) (a1 : List TPromise) (n1 : Nat) : St := ⟨[(0, .imm 3 (a0.map TPromise.d) 4), (1, .imm 3 (a1.map TPromise.d) 4), (12, .int .i64 (a0.length : Int)), (13, .int .i64 (n1 : Int))], [], 0⟩
attribute [local go_sem] Try.St_slices_Equal_Promise_Promise_3
theorem callP_slices_Equal_Promise_Promise (a0 : List TPromise) (a1 : List TPromise) (r : Bool) (h : m_slices_Equal_Promise_Promise a0 a1 = some r) : CallP Try.prog 108 [.imm 3 (a0.map TPromise.d) 4, .imm 3 (a1.map TPromise.d) 4] (.bool r) := by
  refine callP_intro Try.tmOk 2 Try.func108 rfl (by decide) rfl rfl (Nat.le_of_ble_eq_true rfl) ?_
  intro hwf
  unfold m_slices_Equal_Promise_Promise at h
  refine .seq ?_
  refine .plain Try.tmOk Try.tmMixed [0, 1] (by decide +kernel) (by intro q hq; simp only [go_sem, Nat.reduceSub, Int.reduceEq, Nat.reduceLT, Nat.reduceDiv, Nat.reduceAdd, Nat.reduceBEq, Nat.reduceLeDiff, reduceCtorEq, Nat.reduceEqDiff, Nat.reduceMod, appendD]; exact hq) (by first | rfl | (simp only [go_sem, Nat.reduceLeDiff]; done) | (simp only [go_sem, Nat.reduceLeDiff]; rfl) | (simp; done) | (simp [oneD] <;> omega) | (simp_all; done) | (simp_all [oneD] <;> omega)) (by first | exact Nat.le_refl _ | exact Nat.le_of_ble_eq_true rfl | (dsimp only; omega) | (simp <;> omega)) ?_
  refine .seq ?_
  refine .seq ?_
  refine .plain Try.tmOk Try.tmMixed [0, 1] (by decide +kernel) (by intro q hq; simp only [go_sem, Nat.reduceSub, Int.reduceEq, Nat.reduceLT, Nat.reduceDiv, Nat.reduceAdd, Nat.reduceBEq, Nat.reduceLeDiff, reduceCtorEq, Nat.reduceEqDiff, Nat.reduceMod, appendD, Try.tm_3, Try.tm_23, TPromise.d]; exact hq) (by first | rfl | (simp only [go_sem, Nat.reduceLeDiff]; done) | (simp only [go_sem, Nat.reduceLeDiff]; rfl) | (simp; done) | (simp [oneD] <;> omega) | (simp_all; done) | (simp_all [oneD] <;> omega)) (by first | exact Nat.le_refl _ | exact Nat.le_of_ble_eq_true rfl | (dsimp only; omega) | (simp <;> omega)) ?_
  refine .cond rfl rfl (fun hc1 => ?_) (fun hc1 => ?_)
  · skip
    replace h := ite_l h (by first | simpa using hc1 | (simp at hc1 ⊢; omega) | (simp at hc1 ⊢; grind) | grind)
    refine .seq ?_
    refine .plain Try.tmOk Try.tmMixed [] (by decide +kernel) (by intro q hq; simp only [go_sem, Nat.reduceSub, Int.reduceEq, Nat.reduceLT, Nat.reduceDiv, Nat.reduceAdd, Nat.reduceBEq, Nat.reduceLeDiff, reduceCtorEq, Nat.reduceEqDiff, Nat.reduceMod, appendD]; exact hq) (by first | rfl | (simp only [go_sem, Nat.reduceLeDiff]; done) | (simp only [go_sem, Nat.reduceLeDiff]; rfl) | (simp; done) | (simp [oneD] <;> omega) | (simp_all; done) | (simp_all [oneD] <;> omega)) (by first | exact Nat.le_refl _ | exact Nat.le_of_ble_eq_true rfl | (dsimp only; omega) | (simp <;> omega)) ?_
    have hq := Option.some.inj h
    subst r
    refine .ret ⟨.inr rfl, ResIs.to ?_⟩
    simp only [ResIs, resL, resD, resT, go_sem, Nat.reduceSub, Int.reduceEq, Nat.reduceLT, Nat.reduceDiv, Nat.reduceAdd, Nat.reduceBEq, Nat.reduceLeDiff, reduceCtorEq, Nat.reduceEqDiff, Nat.reduceMod, Try.f108, Try.tm_4]
  · skip
    replace h := ite_r h (by first | simpa using hc1 | (simp at hc1 ⊢; omega) | (simp at hc1 ⊢; grind) | grind)
    refine .skip ?_
    obtain ⟨x1, hx1, h⟩ := bind_some h
    refine .seqM 0 (fun (j : Unit) => Try.St_slices_Equal_Promise_Promise_1) (fun j => x1 = (.inr j)) (Nat.le_of_ble_eq_true rfl) ?_ ?_
    · skip
      refine .seq ?_
      refine .plain Try.tmOk Try.tmMixed [0, 1] (by decide +kernel) (by intro q hq; simp only [go_sem, Nat.reduceSub, Int.reduceEq, Nat.reduceLT, Nat.reduceDiv, Nat.reduceAdd, Nat.reduceBEq, Nat.reduceLeDiff, reduceCtorEq, Nat.reduceEqDiff, Nat.reduceMod, appendD, Try.tm_23, TPromise.d]; exact hq) (by first | rfl | (simp only [go_sem, Nat.reduceLeDiff]; done) | (simp only [go_sem, Nat.reduceLeDiff]; rfl) | (simp; done) | (simp [oneD] <;> omega) | (simp_all; done) | (simp_all [oneD] <;> omega)) (by first | exact Nat.le_refl _ | exact Nat.le_of_ble_eq_true rfl | (dsimp only; omega) | (simp <;> omega)) ?_
      refine .block ?_
      refine .loopG 0 (fun (j : Nat) => Try.St_slices_Equal_Promise_Promise_3 a0 a1 j) (fun j => j ≤ a0.length ∧ m_slices_Equal_Promise_Promise_loop1 a1 (a0.drop j) j  = some x1) (fun j => a0.length - j) (0) (Nat.le_of_ble_eq_true rfl) ?_ ⟨Nat.zero_le _, hx1⟩ ?_
      · skip
        refine Goes.mv [0, 1, 12, 13] [] [] ?_ (Nat.le_of_ble_eq_true rfl) (Nat.le_of_ble_eq_true rfl) rfl
        first | rfl | (simp only [go_sem, Nat.reduceBEq, Nat.reduceAdd]; done) | (simp only [go_sem, Nat.reduceBEq, Nat.reduceAdd]; rfl)
      rintro n1 ⟨hi1, hx1⟩
      simp only [Try.St_slices_Equal_Promise_Promise_3]
      refine .wf 12 (.int .i64 (a0.length : Int)) rfl ?_
      intro hln1
      replace hln1 : (a0.length : Int) ≤ 9223372036854775807 := by simp only [wf, wfL, IntKind.max, IntKind.min, IntKind.signed, IntKind.bits, List.length_map] at hln1; first | exact hln1.2 | exact hln1.1 | (simp at hln1; omega)
      refine .seq ?_
      refine .plain Try.tmOk Try.tmMixed [0, 1, 12, 13] (by decide +kernel) (by intro q hq; simp only [go_sem, Nat.reduceSub, Int.reduceEq, Nat.reduceLT, Nat.reduceDiv, Nat.reduceAdd, Nat.reduceBEq, Nat.reduceLeDiff, reduceCtorEq, Nat.reduceEqDiff, Nat.reduceMod, appendD, Try.tm_3]; exact hq) (by first | rfl | (simp only [go_sem, Nat.reduceLeDiff]; done) | (simp only [go_sem, Nat.reduceLeDiff]; rfl) | (simp; done) | (simp [oneD] <;> omega) | (simp_all; done) | (simp_all [oneD] <;> omega)) (by first | exact Nat.le_refl _ | exact Nat.le_of_ble_eq_true rfl | (dsimp only; omega) | (simp <;> omega)) ?_
      refine .seq ?_
      refine .cond rfl rfl (fun hc2 => ?_) (fun hc2 => ?_)
      · skip
        have h1 : n1 < a0.length := by simpa using hc2
        have hwn1 : wr .i64 ((n1 : Int) + 1) = ((n1 + 1 : Nat) : Int) := wr_succ h1 hln1
        have hpn1 : wr .i64 ((n1 : Int) - 1) = (n1 : Int) - 1 := wr_pred h1 hln1
        rw [List.drop_eq_getElem_cons h1, m_slices_Equal_Promise_Promise_loop1] at hx1
        refine .skip ?_
        refine .seq ?_
        refine .block ?_
        refine .seq ?_
        refine .plain Try.tmOk Try.tmMixed [0, 1, 12, 13] (by decide +kernel) (by intro q hq; simp only [go_sem, Nat.reduceSub, Int.reduceEq, Nat.reduceLT, Nat.reduceDiv, Nat.reduceAdd, Nat.reduceBEq, Nat.reduceLeDiff, reduceCtorEq, Nat.reduceEqDiff, Nat.reduceMod, appendD, hwn1]; exact hq) (by first | rfl | (simp only [go_sem, Nat.reduceLeDiff]; done) | (simp only [go_sem, Nat.reduceLeDiff]; rfl) | (simp; done) | (simp [oneD] <;> omega) | (simp_all; done) | (simp_all [oneD] <;> omega)) (by first | exact Nat.le_refl _ | exact Nat.le_of_ble_eq_true rfl | (dsimp only; omega) | (simp <;> omega)) ?_
        refine .seq ?_
        obtain ⟨k1, hx1⟩ := ite_ck hx1
        have e1 := nth_map TPromise.d a0 n1 h1
        have e2 := nth_mapD TPromise.d a1 n1
        replace e2 := e2 k1
        refine .reg Try.tmOk Try.tmMixed [0, 1, 5, 12, 13] (by decide +kernel) ?_
        refine .RN 6 (dr := true) (.inl rfl) (by intro q hq; simp only [go_sem, Nat.reduceSub, Int.reduceEq, Nat.reduceLT, Nat.reduceDiv, Nat.reduceAdd, Nat.reduceBEq, Nat.reduceLeDiff, reduceCtorEq, Nat.reduceEqDiff, Nat.reduceMod, appendD, Try.tm_23, Try.tm_31, e1, e2, TPromise.d, hwn1]; exact hq) (by first | rfl | (simp only [go_sem, Nat.reduceLeDiff]; done) | (simp only [go_sem, Nat.reduceLeDiff]; rfl) | (simp; done) | (simp [oneD] <;> omega) | (simp_all; done) | (simp_all [oneD] <;> omega)) (by first | exact Nat.le_refl _ | exact Nat.le_of_ble_eq_true rfl | (dsimp only; omega) | (simp <;> omega)) ?_
        refine .RN 3 (dr := true) (.inl rfl) (by intro q hq; simp only [go_sem, Nat.reduceSub, Int.reduceEq, Nat.reduceLT, Nat.reduceDiv, Nat.reduceAdd, Nat.reduceBEq, Nat.reduceLeDiff, reduceCtorEq, Nat.reduceEqDiff, Nat.reduceMod, appendD, Try.tm_23, Try.tm_31, e1, e2, TPromise.d, hwn1]; exact hq) (by first | rfl | (simp only [go_sem, Nat.reduceLeDiff]; done) | (simp only [go_sem, Nat.reduceLeDiff]; rfl) | (simp; done) | (simp [oneD] <;> omega) | (simp_all; done) | (simp_all [oneD] <;> omega)) (by first | exact Nat.le_refl _ | exact Nat.le_of_ble_eq_true rfl | (dsimp only; omega) | (simp <;> omega)) ?_
        refine .nil ⟨fun _ => schedB_of (by kernel_rfl), ?_⟩
        refine .cond rfl rfl (fun hc3 => ?_) (fun hc3 => ?_)
        · skip
          replace hx1 := ite_l hx1 (by first | simpa using hc3 | (simp at hc3 ⊢; omega) | (simp at hc3 ⊢; grind) | grind)
          refine .seq ?_
          refine .plain Try.tmOk Try.tmMixed [] (by decide +kernel) (by intro q hq; simp only [go_sem, Nat.reduceSub, Int.reduceEq, Nat.reduceLT, Nat.reduceDiv, Nat.reduceAdd, Nat.reduceBEq, Nat.reduceLeDiff, reduceCtorEq, Nat.reduceEqDiff, Nat.reduceMod, appendD, hwn1]; exact hq) (by first | rfl | (simp only [go_sem, Nat.reduceLeDiff]; done) | (simp only [go_sem, Nat.reduceLeDiff]; rfl) | (simp; done) | (simp [oneD] <;> omega) | (simp_all; done) | (simp_all [oneD] <;> omega)) (by first | exact Nat.le_refl _ | exact Nat.le_of_ble_eq_true rfl | (dsimp only; omega) | (simp <;> omega)) ?_
          have hq := Option.some.inj hx1
          subst x1
          try dsimp only at h
          have hq := Option.some.inj h
          subst r
          refine .ret ⟨.inr rfl, ResIs.to ?_⟩
          simp only [ResIs, resL, resD, resT, go_sem, Nat.reduceSub, Int.reduceEq, Nat.reduceLT, Nat.reduceDiv, Nat.reduceAdd, Nat.reduceBEq, Nat.reduceLeDiff, reduceCtorEq, Nat.reduceEqDiff, Nat.reduceMod, Try.f108, Try.tm_4]
        · skip
          replace hx1 := ite_r hx1 (by first | simpa using hc3 | (simp at hc3 ⊢; omega) | (simp at hc3 ⊢; grind) | grind)
          refine .skip ?_
          refine .plain Try.tmOk Try.tmMixed [0, 1, 12, 13] (by decide +kernel) (by intro q hq; simp only [go_sem, Nat.reduceSub, Int.reduceEq, Nat.reduceLT, Nat.reduceDiv, Nat.reduceAdd, Nat.reduceBEq, Nat.reduceLeDiff, reduceCtorEq, Nat.reduceEqDiff, Nat.reduceMod, appendD, Try.tm_3, hwn1]; exact hq) (by first | rfl | (simp only [go_sem, Nat.reduceLeDiff]; done) | (simp only [go_sem, Nat.reduceLeDiff]; rfl) | (simp; done) | (simp [oneD] <;> omega) | (simp_all; done) | (simp_all [oneD] <;> omega)) (by first | exact Nat.le_refl _ | exact Nat.le_of_ble_eq_true rfl | (dsimp only; omega) | (simp <;> omega)) ?_
          refine ⟨n1 + 1, ?_, ⟨by omega, hx1⟩, by dsimp only; omega⟩
          refine Goes.mv [0, 1, 12, 13] [] [] ?_ (Nat.le_of_ble_eq_true rfl) (Nat.le_of_ble_eq_true rfl) rfl
          first | rfl | (simp only [go_sem, Nat.reduceBEq, Nat.reduceAdd]; done) | (simp only [go_sem, Nat.reduceBEq, Nat.reduceAdd]; rfl)
      · skip
        have h2 : n1 = a0.length := by have h2b := of_decide_eq_false hc2; omega
        rw [List.drop_of_length_le (by omega), m_slices_Equal_Promise_Promise_loop1] at hx1
        refine .exit ?_
        refine ⟨_, ?_, (Option.some.inj hx1).symm⟩
        refine Goes.mv [] [] [] ?_ (Nat.le_of_ble_eq_true rfl) (Nat.le_of_ble_eq_true rfl) rfl
        first | rfl | (simp only [go_sem, Nat.reduceBEq, Nat.reduceAdd]; done) | (simp only [go_sem, Nat.reduceBEq, Nat.reduceAdd]; rfl)
    · skip
      rintro ⟨⟩ hj1
      subst x1
      try dsimp only at h
      simp only [Try.St_slices_Equal_Promise_Promise_1]
      refine .seq ?_
      refine .plain Try.tmOk Try.tmMixed [] (by decide +kernel) (by intro q hq; simp only [go_sem, Nat.reduceSub, Int.reduceEq, Nat.reduceLT, Nat.reduceDiv, Nat.reduceAdd, Nat.reduceBEq, Nat.reduceLeDiff, reduceCtorEq, Nat.reduceEqDiff, Nat.reduceMod, appendD]; exact hq) (by first | rfl | (simp only [go_sem, Nat.reduceLeDiff]; done) | (simp only [go_sem, Nat.reduceLeDiff]; rfl) | (simp; done) | (simp [oneD] <;> omega) | (simp_all; done) | (simp_all [oneD] <;> omega)) (by first | exact Nat.le_refl _ | exact Nat.le_of_ble_eq_true rfl | (dsimp only; omega) | (simp <;> omega)) ?_
      have hq := Option.some.inj h
      subst r
      refine .ret ⟨.inr rfl, ResIs.to ?_⟩
      simp only [ResIs, resL, resD, resT, go_sem, Nat.reduceSub, Int.reduceEq, Nat.reduceLT, Nat.reduceDiv, Nat.reduceAdd, Nat.reduceBEq, Nat.reduceLeDiff, reduceCtorEq, Nat.reduceEqDiff, Nat.reduceMod, Try.f108, Try.tm_4]

def Try.St_slices_IndexFunc_Promise_Promise_1 : St := ⟨[], [], 0⟩
attribute [local go_sem] Try.St_slices_IndexFunc_Promise_Promise_1
def Try.St_slices_IndexFunc_Promise_Promise_3 (s : List TPromise) (Kf : Nat) (cf : List D) (n1 : Nat) : St := ⟨[(0, .imm 3 (s.map TPromise.d) 4), (1, .fn (.func Kf) cf), (7, .int .i64 (s.length : Int)), (8, .int .i64 (n1 : Int))], [], 0⟩
attribute [local go_sem] Try.St_slices_IndexFunc_Promise_Promise_3
theorem callP_slices_IndexFunc_Promise_Promise (s : List TPromise) (Kf : Nat) (cf : List D) (hcf : ∀ hp, lends hp cf = (cf, true)) (h2f : ∀ hp, lend2s hp cf = (cf, true)) (h3f : ∀ hp, ids2s hp cf = []) (f : TPromise → Option Bool) (hf : ∀ x0 y, f x0 = some y → CallP Try.prog Kf (.agg [.int .i64 x0.Node, .int .i64 x0.Ballot, .str x0.Value] :: cf) (.bool y)) (r : Int) (h : m_slices_IndexFunc_Promise_Promise s f = some r) : CallP Try.prog 179 [.imm 3 (s.map TPromise.d) 4, .fn (.func Kf) cf] (.int .i64 r) := by
  refine callP_intro Try.tmOk 2 Try.func179 rfl (by decide) rfl rfl (Nat.le_of_ble_eq_true rfl) ?_
  intro hwf
  unfold m_slices_IndexFunc_Promise_Promise at h
  refine .seq ?_
  refine .plain Try.tmOk Try.tmMixed [0, 1] (by decide +kernel) (by intro q hq; simp only [go_sem, Nat.reduceSub, Int.reduceEq, Nat.reduceLT, Nat.reduceDiv, Nat.reduceAdd, Nat.reduceBEq, Nat.reduceLeDiff, reduceCtorEq, Nat.reduceEqDiff, Nat.reduceMod, appendD]; exact hq) (by first | rfl | (simp only [go_sem, Nat.reduceLeDiff]; done) | (simp only [go_sem, Nat.reduceLeDiff]; rfl) | (simp; done) | (simp [oneD] <;> omega) | (simp_all; done) | (simp_all [oneD] <;> omega)) (by first | exact Nat.le_refl _ | exact Nat.le_of_ble_eq_true rfl | (dsimp only; omega) | (simp <;> omega)) ?_
  obtain ⟨x1, hx1, h⟩ := bind_some h
  refine .seqM 0 (fun (j : Unit) => Try.St_slices_IndexFunc_Promise_Promise_1) (fun j => x1 = (.inr j)) (Nat.le_of_ble_eq_true rfl) ?_ ?_
  · skip
    refine .seq ?_
    refine .plain Try.tmOk Try.tmMixed [0, 1] (by decide +kernel) (by intro q hq; simp only [go_sem, Nat.reduceSub, Int.reduceEq, Nat.reduceLT, Nat.reduceDiv, Nat.reduceAdd, Nat.reduceBEq, Nat.reduceLeDiff, reduceCtorEq, Nat.reduceEqDiff, Nat.reduceMod, appendD, Try.tm_23, TPromise.d]; exact hq) (by first | rfl | (simp only [go_sem, Nat.reduceLeDiff]; done) | (simp only [go_sem, Nat.reduceLeDiff]; rfl) | (simp; done) | (simp [oneD] <;> omega) | (simp_all; done) | (simp_all [oneD] <;> omega)) (by first | exact Nat.le_refl _ | exact Nat.le_of_ble_eq_true rfl | (dsimp only; omega) | (simp <;> omega)) ?_
    refine .block ?_
    refine .loopG 0 (fun (j : Nat) => Try.St_slices_IndexFunc_Promise_Promise_3 s Kf cf j) (fun j => j ≤ s.length ∧ m_slices_IndexFunc_Promise_Promise_loop1 f (s.drop j) j  = some x1) (fun j => s.length - j) (0) (Nat.le_of_ble_eq_true rfl) ?_ ⟨Nat.zero_le _, hx1⟩ ?_
    · skip
      refine Goes.mv [0, 1, 7, 8] [] [] ?_ (Nat.le_of_ble_eq_true rfl) (Nat.le_of_ble_eq_true rfl) (by first | rfl | (simp only [idsV, idsH, pickL, getL, D.ids, Blk.ids, Nat.beq, cond_true, cond_false, List.append_nil, List.nil_append, List.cons_append, idsL_lent hcf] <;> rfl))
      first | rfl | (simp only [go_sem, Nat.reduceBEq, Nat.reduceAdd, renL_lent hcf]; done) | (simp only [go_sem, Nat.reduceBEq, Nat.reduceAdd, renL_lent hcf]; rfl)
    rintro n1 ⟨hi1, hx1⟩
    simp only [Try.St_slices_IndexFunc_Promise_Promise_3]
    refine .wf 7 (.int .i64 (s.length : Int)) rfl ?_
    intro hln1
    replace hln1 : (s.length : Int) ≤ 9223372036854775807 := by simp only [wf, wfL, IntKind.max, IntKind.min, IntKind.signed, IntKind.bits, List.length_map] at hln1; first | exact hln1.2 | exact hln1.1 | (simp at hln1; omega)
    refine .seq ?_
    refine .plain Try.tmOk Try.tmMixed [0, 1, 7, 8] (by decide +kernel) (by intro q hq; simp only [go_sem, Nat.reduceSub, Int.reduceEq, Nat.reduceLT, Nat.reduceDiv, Nat.reduceAdd, Nat.reduceBEq, Nat.reduceLeDiff, reduceCtorEq, Nat.reduceEqDiff, Nat.reduceMod, appendD, Try.tm_3]; exact hq) (by first | rfl | (simp only [go_sem, Nat.reduceLeDiff]; done) | (simp only [go_sem, Nat.reduceLeDiff]; rfl) | (simp; done) | (simp [oneD] <;> omega) | (simp_all; done) | (simp_all [oneD] <;> omega)) (by first | exact Nat.le_refl _ | exact Nat.le_of_ble_eq_true rfl | (dsimp only; omega) | (simp <;> omega)) ?_
    refine .seq ?_
    refine .cond rfl rfl (fun hc1 => ?_) (fun hc1 => ?_)
    · skip
      have h1 : n1 < s.length := by simpa using hc1
      have hwn1 : wr .i64 ((n1 : Int) + 1) = ((n1 + 1 : Nat) : Int) := wr_succ h1 hln1
      have hpn1 : wr .i64 ((n1 : Int) - 1) = (n1 : Int) - 1 := wr_pred h1 hln1
      rw [List.drop_eq_getElem_cons h1, m_slices_IndexFunc_Promise_Promise_loop1] at hx1
      refine .skip ?_
      refine .seq ?_
      refine .block ?_
      refine .seq ?_
      refine .plain Try.tmOk Try.tmMixed [0, 1, 7, 8] (by decide +kernel) (by intro q hq; simp only [go_sem, Nat.reduceSub, Int.reduceEq, Nat.reduceLT, Nat.reduceDiv, Nat.reduceAdd, Nat.reduceBEq, Nat.reduceLeDiff, reduceCtorEq, Nat.reduceEqDiff, Nat.reduceMod, appendD, hwn1]; exact hq) (by first | rfl | (simp only [go_sem, Nat.reduceLeDiff]; done) | (simp only [go_sem, Nat.reduceLeDiff]; rfl) | (simp; done) | (simp [oneD] <;> omega) | (simp_all; done) | (simp_all [oneD] <;> omega)) (by first | exact Nat.le_refl _ | exact Nat.le_of_ble_eq_true rfl | (dsimp only; omega) | (simp <;> omega)) ?_
      refine .seq ?_
      obtain ⟨v1, hv1, hx1⟩ := bind_some hx1
      have e1 := nth_map TPromise.d s n1 h1
      refine .reg Try.tmOk Try.tmMixed [0, 1, 5, 7, 8] (by decide +kernel) ?_
      refine .RN 5 (dr := false) (.inr fun _ _ _ h => ⟨nofun, h.2⟩) (by intro q hq; simp only [go_sem, Nat.reduceSub, Int.reduceEq, Nat.reduceLT, Nat.reduceDiv, Nat.reduceAdd, Nat.reduceBEq, Nat.reduceLeDiff, reduceCtorEq, Nat.reduceEqDiff, Nat.reduceMod, appendD, Try.tm_23, Try.tm_31, e1, TPromise.d, hwn1]; exact hq) (by first | rfl | (simp only [go_sem, Nat.reduceLeDiff]; done) | (simp only [go_sem, Nat.reduceLeDiff]; rfl) | (simp; done) | (simp [oneD] <;> omega) | (simp_all; done) | (simp_all [oneD] <;> omega)) (by first | exact Nat.le_refl _ | exact Nat.le_of_ble_eq_true rfl | (dsimp only; omega) | (simp <;> omega)) ?_
      refine .call (r := .bool v1) rfl rfl rfl rfl rfl (lends_cons rfl (hcf _)) (hf _ v1 hv1) ?_
      refine .nil ⟨nofun, ?_⟩
      refine .cond rfl rfl (fun hc2 => ?_) (fun hc2 => ?_)
      · skip
        replace hx1 := ite_l hx1 (by first | simpa using hc2 | (simp at hc2 ⊢; omega) | (simp at hc2 ⊢; grind) | grind)
        refine .seq ?_
        refine .plain Try.tmOk Try.tmMixed [5] (by decide +kernel) (by intro q hq; simp only [go_sem, Nat.reduceSub, Int.reduceEq, Nat.reduceLT, Nat.reduceDiv, Nat.reduceAdd, Nat.reduceBEq, Nat.reduceLeDiff, reduceCtorEq, Nat.reduceEqDiff, Nat.reduceMod, appendD, hwn1]; exact hq) (by first | rfl | (simp only [go_sem, Nat.reduceLeDiff]; done) | (simp only [go_sem, Nat.reduceLeDiff]; rfl) | (simp; done) | (simp [oneD] <;> omega) | (simp_all; done) | (simp_all [oneD] <;> omega)) (by first | exact Nat.le_refl _ | exact Nat.le_of_ble_eq_true rfl | (dsimp only; omega) | (simp <;> omega)) ?_
        have hq := Option.some.inj hx1
        subst x1
        try dsimp only at h
        have hq := Option.some.inj h
        subst r
        refine .ret ⟨.inr rfl, ResIs.to ?_⟩
        simp only [ResIs, resL, resD, resT, go_sem, Nat.reduceSub, Int.reduceEq, Nat.reduceLT, Nat.reduceDiv, Nat.reduceAdd, Nat.reduceBEq, Nat.reduceLeDiff, reduceCtorEq, Nat.reduceEqDiff, Nat.reduceMod, Try.f179, Try.tm_3]
      · skip
        replace hx1 := ite_r hx1 (by first | simpa using hc2 | (simp at hc2 ⊢; omega) | (simp at hc2 ⊢; grind) | grind)
        refine .skip ?_
        refine .plain Try.tmOk Try.tmMixed [0, 1, 7, 8] (by decide +kernel) (by intro q hq; simp only [go_sem, Nat.reduceSub, Int.reduceEq, Nat.reduceLT, Nat.reduceDiv, Nat.reduceAdd, Nat.reduceBEq, Nat.reduceLeDiff, reduceCtorEq, Nat.reduceEqDiff, Nat.reduceMod, appendD, Try.tm_3, hwn1]; exact hq) (by first | rfl | (simp only [go_sem, Nat.reduceLeDiff]; done) | (simp only [go_sem, Nat.reduceLeDiff]; rfl) | (simp; done) | (simp [oneD] <;> omega) | (simp_all; done) | (simp_all [oneD] <;> omega)) (by first | exact Nat.le_refl _ | exact Nat.le_of_ble_eq_true rfl | (dsimp only; omega) | (simp <;> omega)) ?_
        refine ⟨n1 + 1, ?_, ⟨by omega, hx1⟩, by dsimp only; omega⟩
        refine Goes.mv [0, 1, 7, 8] [] [] ?_ (Nat.le_of_ble_eq_true rfl) (Nat.le_of_ble_eq_true rfl) (by first | rfl | (simp only [idsV, idsH, pickL, getL, D.ids, Blk.ids, Nat.beq, cond_true, cond_false, List.append_nil, List.nil_append, List.cons_append, idsL_lent hcf] <;> rfl))
        first | rfl | (simp only [go_sem, Nat.reduceBEq, Nat.reduceAdd, renL_lent hcf]; done) | (simp only [go_sem, Nat.reduceBEq, Nat.reduceAdd, renL_lent hcf]; rfl)
    · skip
      have h2 : n1 = s.length := by have h2b := of_decide_eq_false hc1; omega
      rw [List.drop_of_length_le (by omega), m_slices_IndexFunc_Promise_Promise_loop1] at hx1
      refine .exit ?_
      refine ⟨_, ?_, (Option.some.inj hx1).symm⟩
      refine Goes.mv [] [] [] ?_ (Nat.le_of_ble_eq_true rfl) (Nat.le_of_ble_eq_true rfl) (by first | rfl | (simp only [idsV, idsH, pickL, getL, D.ids, Blk.ids, Nat.beq, cond_true, cond_false, List.append_nil, List.nil_append, List.cons_append, idsL_lent hcf] <;> rfl))
      first | rfl | (simp only [go_sem, Nat.reduceBEq, Nat.reduceAdd, renL_lent hcf]; done) | (simp only [go_sem, Nat.reduceBEq, Nat.reduceAdd, renL_lent hcf]; rfl)
  · skip
    rintro ⟨⟩ hj1
    subst x1
    try dsimp only at h
    simp only [Try.St_slices_IndexFunc_Promise_Promise_1]
    refine .seq ?_
    refine .plain Try.tmOk Try.tmMixed [] (by decide +kernel) (by intro q hq; simp only [go_sem, Nat.reduceSub, Int.reduceEq, Nat.reduceLT, Nat.reduceDiv, Nat.reduceAdd, Nat.reduceBEq, Nat.reduceLeDiff, reduceCtorEq, Nat.reduceEqDiff, Nat.reduceMod, appendD]; exact hq) (by first | rfl | (simp only [go_sem, Nat.reduceLeDiff]; done) | (simp only [go_sem, Nat.reduceLeDiff]; rfl) | (simp; done) | (simp [oneD] <;> omega) | (simp_all; done) | (simp_all [oneD] <;> omega)) (by first | exact Nat.le_refl _ | exact Nat.le_of_ble_eq_true rfl | (dsimp only; omega) | (simp <;> omega)) ?_
    have hq := Option.some.inj h
    subst r
    refine .ret ⟨.inr rfl, ResIs.to ?_⟩
    simp only [ResIs, resL, resD, resT, go_sem, Nat.reduceSub, Int.reduceEq, Nat.reduceLT, Nat.reduceDiv, Nat.reduceAdd, Nat.reduceBEq, Nat.reduceLeDiff, reduceCtorEq, Nat.reduceEqDiff, Nat.reduceMod, Try.f179, Try.tm_3]


theorem callP_slices_ContainsFunc_Promise_Promise (s : List TPromise) (Kf : Nat) (cf : List D) (hcf : ∀ hp, lends hp cf = (cf, true)) (h2f : ∀ hp, lend2s hp cf = (cf, true)) (h3f : ∀ hp, ids2s hp cf = []) (f : TPromise → Option Bool) (hf : ∀ x0 y, f x0 = some y → CallP Try.prog Kf (.agg [.int .i64 x0.Node, .int .i64 x0.Ballot, .str x0.Value] :: cf) (.bool y)) (r : Bool) (h : m_slices_ContainsFunc_Promise_Promise s f = some r) : CallP Try.prog 93 [.imm 3 (s.map TPromise.d) 4, .fn (.func Kf) cf] (.bool r) := by
  refine callP_intro Try.tmOk 2 Try.func93 rfl (by decide) rfl rfl (Nat.le_of_ble_eq_true rfl) ?_
  intro hwf
  unfold m_slices_ContainsFunc_Promise_Promise at h
  refine .seq ?_
  refine .plain Try.tmOk Try.tmMixed [0, 1] (by decide +kernel) (by intro q hq; simp only [go_sem, Nat.reduceSub, Int.reduceEq, Nat.reduceLT, Nat.reduceDiv, Nat.reduceAdd, Nat.reduceBEq, Nat.reduceLeDiff, reduceCtorEq, Nat.reduceEqDiff, Nat.reduceMod, appendD]; exact hq) (by first | rfl | (simp only [go_sem, Nat.reduceLeDiff]; done) | (simp only [go_sem, Nat.reduceLeDiff]; rfl) | (simp; done) | (simp [oneD] <;> omega) | (simp_all; done) | (simp_all [oneD] <;> omega)) (by first | exact Nat.le_refl _ | exact Nat.le_of_ble_eq_true rfl | (dsimp only; omega) | (simp <;> omega)) ?_
  refine .seq ?_
  obtain ⟨v1, hv1, h⟩ := bind_some h
  refine .reg Try.tmOk Try.tmMixed [0, 1] (by decide +kernel) ?_
  refine .RN 2 (dr := false) (.inr fun _ _ _ h => ⟨nofun, h.2⟩) (by intro q hq; simp only [go_sem, Nat.reduceSub, Int.reduceEq, Nat.reduceLT, Nat.reduceDiv, Nat.reduceAdd, Nat.reduceBEq, Nat.reduceLeDiff, reduceCtorEq, Nat.reduceEqDiff, Nat.reduceMod, appendD]; exact hq) (by first | rfl | (simp only [go_sem, Nat.reduceLeDiff]; done) | (simp only [go_sem, Nat.reduceLeDiff]; rfl) | (simp; done) | (simp [oneD] <;> omega) | (simp_all; done) | (simp_all [oneD] <;> omega)) (by first | exact Nat.le_refl _ | exact Nat.le_of_ble_eq_true rfl | (dsimp only; omega) | (simp <;> omega)) ?_
  refine .lcall (r := .int .i64 v1) [] rfl rfl rfl rfl rfl (lend2s_cons rfl (lend2s_cons (lend2_fn (h2f _)) lend2s_nil)) (by show ids2s _ [.imm 3 (s.map TPromise.d) 4, .fn (.func Kf) cf] = _; simp only [ids2s, ids2, List.append_nil, List.nil_append, List.cons_append, h3f]) (callP_slices_IndexFunc_Promise_Promise s Kf cf hcf h2f h3f f hf v1 hv1) ?_
  refine .RN 2 (dr := false) (.inr fun _ _ _ h => ⟨nofun, h.2⟩) (by intro q hq; simp only [go_sem, Nat.reduceSub, Int.reduceEq, Nat.reduceLT, Nat.reduceDiv, Nat.reduceAdd, Nat.reduceBEq, Nat.reduceLeDiff, reduceCtorEq, Nat.reduceEqDiff, Nat.reduceMod, appendD, Try.tm_3]; exact hq) (by first | rfl | (simp only [go_sem, Nat.reduceLeDiff]; done) | (simp only [go_sem, Nat.reduceLeDiff]; rfl) | (simp; done) | (simp [oneD] <;> omega) | (simp_all; done) | (simp_all [oneD] <;> omega)) (by first | exact Nat.le_refl _ | exact Nat.le_of_ble_eq_true rfl | (dsimp only; omega) | (simp <;> omega)) ?_
  refine .nil ⟨nofun, ?_⟩
  have hq := Option.some.inj h
  subst r
  refine .ret ⟨.inr rfl, ResIs.to ?_⟩
  simp only [ResIs, resL, resD, resT, go_sem, Nat.reduceSub, Int.reduceEq, Nat.reduceLT, Nat.reduceDiv, Nat.reduceAdd, Nat.reduceBEq, Nat.reduceLeDiff, reduceCtorEq, Nat.reduceEqDiff, Nat.reduceMod, Try.f93, Try.tm_4]

def Try.St_sort_Search_1 (n1 : Int) : St := ⟨[(5, .int .i64 n1)], [], 0⟩
attribute [local go_sem] Try.St_sort_Search_1
def Try.St_sort_Search_3 (Kf : Nat) (cf : List D) (n2 : Int) (n3 : Int) : St := ⟨[(1, .fn (.func Kf) cf), (5, .int .i64 n2), (6, .int .i64 n3)], [], 0⟩
attribute [local go_sem] Try.St_sort_Search_3
theorem callP_sort_Search (n : Int) (Kf : Nat) (cf : List D) (hcf : ∀ hp, lends hp cf = (cf, true)) (h2f : ∀ hp, lend2s hp cf = (cf, true)) (h3f : ∀ hp, ids2s hp cf = []) (f : Int → Option Bool) (hf : ∀ x0 y, f x0 = some y → CallP Try.prog Kf (.int .i64 x0 :: cf) (.bool y)) (r : Int) (h : m_sort_Search n f = some r) : CallP Try.prog 83 [.int .i64 n, .fn (.func Kf) cf] (.int .i64 r) := by
  refine callP_intro Try.tmOk 2 Try.func83 rfl (by decide) rfl rfl (Nat.le_of_ble_eq_true rfl) ?_
  intro hwf
  unfold m_sort_Search at h
  refine .seq ?_
  refine .plain Try.tmOk Try.tmMixed [0, 1] (by decide +kernel) (by intro q hq; simp only [go_sem, Nat.reduceSub, Int.reduceEq, Nat.reduceLT, Nat.reduceDiv, Nat.reduceAdd, Nat.reduceBEq, Nat.reduceLeDiff, reduceCtorEq, Nat.reduceEqDiff, Nat.reduceMod, appendD]; exact hq) (by first | rfl | (simp only [go_sem, Nat.reduceLeDiff]; done) | (simp only [go_sem, Nat.reduceLeDiff]; rfl) | (simp; done) | (simp [oneD] <;> omega) | (simp_all; done) | (simp_all [oneD] <;> omega)) (by first | exact Nat.le_refl _ | exact Nat.le_of_ble_eq_true rfl | (dsimp only; omega) | (simp <;> omega)) ?_
  refine .seq ?_
  refine .plain Try.tmOk Try.tmMixed [0, 1] (by decide +kernel) (by intro q hq; simp only [go_sem, Nat.reduceSub, Int.reduceEq, Nat.reduceLT, Nat.reduceDiv, Nat.reduceAdd, Nat.reduceBEq, Nat.reduceLeDiff, reduceCtorEq, Nat.reduceEqDiff, Nat.reduceMod, appendD]; exact hq) (by first | rfl | (simp only [go_sem, Nat.reduceLeDiff]; done) | (simp only [go_sem, Nat.reduceLeDiff]; rfl) | (simp; done) | (simp [oneD] <;> omega) | (simp_all; done) | (simp_all [oneD] <;> omega)) (by first | exact Nat.le_refl _ | exact Nat.le_of_ble_eq_true rfl | (dsimp only; omega) | (simp <;> omega)) ?_
  obtain ⟨x1, hx1, h⟩ := bind_some h
  refine .seqM 0 (fun (j : Int) => Try.St_sort_Search_1 j) (fun j => x1 = j) (Nat.le_of_ble_eq_true rfl) ?_ ?_
  · skip
    refine .block ?_
    refine .loopG 0 (fun (j : Nat × Int × Int) => Try.St_sort_Search_3 Kf cf j.2.1 j.2.2) (fun j => m_sort_Search_loop1 f j.1 j.2.1 j.2.2 = some x1) (fun j => j.1) (n.toNat + 1, 0, n) (Nat.le_of_ble_eq_true rfl) ?_ hx1 ?_
    · skip
      refine Goes.mv [1, 5, 6] [] [] ?_ (Nat.le_of_ble_eq_true rfl) (Nat.le_of_ble_eq_true rfl) (by first | rfl | (simp only [idsV, idsH, pickL, getL, D.ids, Blk.ids, Nat.beq, cond_true, cond_false, List.append_nil, List.nil_append, List.cons_append, idsL_lent hcf] <;> rfl))
      first | rfl | (simp only [go_sem, Nat.reduceBEq, Nat.reduceAdd, renL_lent hcf]; done) | (simp only [go_sem, Nat.reduceBEq, Nat.reduceAdd, renL_lent hcf]; rfl)
    rintro ⟨fu1, n2, n3⟩ hx1
    simp only [Try.St_sort_Search_3]
    try simp only at hx1
    obtain ⟨fu1, rfl⟩ : ∃ k, fu1 = k + 1 := by cases fu1 with | zero => (rw [m_sort_Search_loop1] at hx1; cases hx1) | succ k => exact ⟨k, rfl⟩
    rw [m_sort_Search_loop1] at hx1
    refine .seq ?_
    refine .seq ?_
    refine .plain Try.tmOk Try.tmMixed [1, 5, 6] (by decide +kernel) (by intro q hq; simp only [go_sem, Nat.reduceSub, Int.reduceEq, Nat.reduceLT, Nat.reduceDiv, Nat.reduceAdd, Nat.reduceBEq, Nat.reduceLeDiff, reduceCtorEq, Nat.reduceEqDiff, Nat.reduceMod, appendD, Try.tm_3]; exact hq) (by first | rfl | (simp only [go_sem, Nat.reduceLeDiff]; done) | (simp only [go_sem, Nat.reduceLeDiff]; rfl) | (simp; done) | (simp [oneD] <;> omega) | (simp_all; done) | (simp_all [oneD] <;> omega)) (by first | exact Nat.le_refl _ | exact Nat.le_of_ble_eq_true rfl | (dsimp only; omega) | (simp <;> omega)) ?_
    refine .cond rfl rfl (fun hc1 => ?_) (fun hc1 => ?_)
    · skip
      replace hx1 := ite_l hx1 (by first | simpa using hc1 | (simp at hc1 ⊢; omega) | (simp at hc1 ⊢; grind) | grind)
      refine .skip ?_
      refine .block ?_
      refine .seq ?_
      refine .plain Try.tmOk Try.tmMixed [1, 5, 6] (by decide +kernel) (by intro q hq; simp only [go_sem, Nat.reduceSub, Int.reduceEq, Nat.reduceLT, Nat.reduceDiv, Nat.reduceAdd, Nat.reduceBEq, Nat.reduceLeDiff, reduceCtorEq, Nat.reduceEqDiff, Nat.reduceMod, appendD, Try.tm_3, Try.tm_142]; exact hq) (by first | rfl | (simp only [go_sem, Nat.reduceLeDiff]; done) | (simp only [go_sem, Nat.reduceLeDiff]; rfl) | (simp; done) | (simp [oneD] <;> omega) | (simp_all; done) | (simp_all [oneD] <;> omega)) (by first | exact Nat.le_refl _ | exact Nat.le_of_ble_eq_true rfl | (dsimp only; omega) | (simp <;> omega)) ?_
      refine .seq ?_
      obtain ⟨v1, hv1, hx1⟩ := bind_some hx1
      refine .reg Try.tmOk Try.tmMixed [1, 5, 6, 7] (by decide +kernel) ?_
      refine .RN 2 (dr := false) (.inr fun _ _ _ h => ⟨nofun, h.2⟩) (by intro q hq; simp only [go_sem, Nat.reduceSub, Int.reduceEq, Nat.reduceLT, Nat.reduceDiv, Nat.reduceAdd, Nat.reduceBEq, Nat.reduceLeDiff, reduceCtorEq, Nat.reduceEqDiff, Nat.reduceMod, appendD]; exact hq) (by first | rfl | (simp only [go_sem, Nat.reduceLeDiff]; done) | (simp only [go_sem, Nat.reduceLeDiff]; rfl) | (simp; done) | (simp [oneD] <;> omega) | (simp_all; done) | (simp_all [oneD] <;> omega)) (by first | exact Nat.le_refl _ | exact Nat.le_of_ble_eq_true rfl | (dsimp only; omega) | (simp <;> omega)) ?_
      refine .call (r := .bool v1) rfl rfl rfl rfl rfl (lends_cons rfl (hcf _)) (hf _ v1 hv1) ?_
      refine .RN 1 (dr := false) (.inr fun _ _ _ h => ⟨nofun, h.2⟩) (by intro q hq; simp only [go_sem, Nat.reduceSub, Int.reduceEq, Nat.reduceLT, Nat.reduceDiv, Nat.reduceAdd, Nat.reduceBEq, Nat.reduceLeDiff, reduceCtorEq, Nat.reduceEqDiff, Nat.reduceMod, appendD]; exact hq) (by first | rfl | (simp only [go_sem, Nat.reduceLeDiff]; done) | (simp only [go_sem, Nat.reduceLeDiff]; rfl) | (simp; done) | (simp [oneD] <;> omega) | (simp_all; done) | (simp_all [oneD] <;> omega)) (by first | exact Nat.le_refl _ | exact Nat.le_of_ble_eq_true rfl | (dsimp only; omega) | (simp <;> omega)) ?_
      refine .nil ⟨nofun, ?_⟩
      refine .cond rfl rfl (fun hc2 => ?_) (fun hc2 => ?_)
      · skip
        replace hx1 := ite_l hx1 (by first | simpa using hc2 | (simp at hc2 ⊢; omega) | (simp at hc2 ⊢; grind) | grind)
        refine .plain Try.tmOk Try.tmMixed [1, 6, 7] (by decide +kernel) (by intro q hq; simp only [go_sem, Nat.reduceSub, Int.reduceEq, Nat.reduceLT, Nat.reduceDiv, Nat.reduceAdd, Nat.reduceBEq, Nat.reduceLeDiff, reduceCtorEq, Nat.reduceEqDiff, Nat.reduceMod, appendD, Try.tm_3]; exact hq) (by first | rfl | (simp only [go_sem, Nat.reduceLeDiff]; done) | (simp only [go_sem, Nat.reduceLeDiff]; rfl) | (simp; done) | (simp [oneD] <;> omega) | (simp_all; done) | (simp_all [oneD] <;> omega)) (by first | exact Nat.le_refl _ | exact Nat.le_of_ble_eq_true rfl | (dsimp only; omega) | (simp <;> omega)) ?_
        refine ⟨(fu1, _, _), ?_, hx1, by dsimp only; omega⟩
        refine Goes.mv [1, 5, 6] [] [] ?_ (Nat.le_of_ble_eq_true rfl) (Nat.le_of_ble_eq_true rfl) (by first | rfl | (simp only [idsV, idsH, pickL, getL, D.ids, Blk.ids, Nat.beq, cond_true, cond_false, List.append_nil, List.nil_append, List.cons_append, idsL_lent hcf] <;> rfl))
        first | rfl | (simp only [go_sem, Nat.reduceBEq, Nat.reduceAdd, renL_lent hcf]; done) | (simp only [go_sem, Nat.reduceBEq, Nat.reduceAdd, renL_lent hcf]; rfl)
      · skip
        replace hx1 := ite_r hx1 (by first | simpa using hc2 | (simp at hc2 ⊢; omega) | (simp at hc2 ⊢; grind) | grind)
        refine .plain Try.tmOk Try.tmMixed [1, 5, 7] (by decide +kernel) (by intro q hq; simp only [go_sem, Nat.reduceSub, Int.reduceEq, Nat.reduceLT, Nat.reduceDiv, Nat.reduceAdd, Nat.reduceBEq, Nat.reduceLeDiff, reduceCtorEq, Nat.reduceEqDiff, Nat.reduceMod, appendD]; exact hq) (by first | rfl | (simp only [go_sem, Nat.reduceLeDiff]; done) | (simp only [go_sem, Nat.reduceLeDiff]; rfl) | (simp; done) | (simp [oneD] <;> omega) | (simp_all; done) | (simp_all [oneD] <;> omega)) (by first | exact Nat.le_refl _ | exact Nat.le_of_ble_eq_true rfl | (dsimp only; omega) | (simp <;> omega)) ?_
        refine ⟨(fu1, _, _), ?_, hx1, by dsimp only; omega⟩
        refine Goes.mv [1, 5, 6] [] [] ?_ (Nat.le_of_ble_eq_true rfl) (Nat.le_of_ble_eq_true rfl) (by first | rfl | (simp only [idsV, idsH, pickL, getL, D.ids, Blk.ids, Nat.beq, cond_true, cond_false, List.append_nil, List.nil_append, List.cons_append, idsL_lent hcf] <;> rfl))
        first | rfl | (simp only [go_sem, Nat.reduceBEq, Nat.reduceAdd, renL_lent hcf]; done) | (simp only [go_sem, Nat.reduceBEq, Nat.reduceAdd, renL_lent hcf]; rfl)
    · skip
      replace hx1 := ite_r hx1 (by first | simpa using hc1 | (simp at hc1 ⊢; omega) | (simp at hc1 ⊢; grind) | grind)
      refine .exit ?_
      refine ⟨_, ?_, (Option.some.inj hx1).symm⟩
      refine Goes.mv [5] [] [] ?_ (Nat.le_of_ble_eq_true rfl) (Nat.le_of_ble_eq_true rfl) (by first | rfl | (simp only [idsV, idsH, pickL, getL, D.ids, Blk.ids, Nat.beq, cond_true, cond_false, List.append_nil, List.nil_append, List.cons_append, idsL_lent hcf] <;> rfl))
      first | rfl | (simp only [go_sem, Nat.reduceBEq, Nat.reduceAdd, renL_lent hcf]; done) | (simp only [go_sem, Nat.reduceBEq, Nat.reduceAdd, renL_lent hcf]; rfl)
  · skip
    rintro n1 hj1
    subst x1
    try dsimp only at h
    simp only [Try.St_sort_Search_1]
    refine .seq ?_
    refine .plain Try.tmOk Try.tmMixed [5] (by decide +kernel) (by intro q hq; simp only [go_sem, Nat.reduceSub, Int.reduceEq, Nat.reduceLT, Nat.reduceDiv, Nat.reduceAdd, Nat.reduceBEq, Nat.reduceLeDiff, reduceCtorEq, Nat.reduceEqDiff, Nat.reduceMod, appendD]; exact hq) (by first | rfl | (simp only [go_sem, Nat.reduceLeDiff]; done) | (simp only [go_sem, Nat.reduceLeDiff]; rfl) | (simp; done) | (simp [oneD] <;> omega) | (simp_all; done) | (simp_all [oneD] <;> omega)) (by first | exact Nat.le_refl _ | exact Nat.le_of_ble_eq_true rfl | (dsimp only; omega) | (simp <;> omega)) ?_
    have hq := Option.some.inj h
    subst r
    refine .ret ⟨.inr rfl, ResIs.to ?_⟩
    simp only [ResIs, resL, resD, resT, go_sem, Nat.reduceSub, Int.reduceEq, Nat.reduceLT, Nat.reduceDiv, Nat.reduceAdd, Nat.reduceBEq, Nat.reduceLeDiff, reduceCtorEq, Nat.reduceEqDiff, Nat.reduceMod, Try.f83, Try.tm_3]


theorem callP_sort_SearchInts_1 (a0 : Int) (c0 : List Int) (c1 : Int) (r : Bool) (h : m_sort_SearchInts_1 a0 c0 c1 = some r) : CallP Try.prog 180 [.int .i64 a0, .iptr 0 [.imm 1 (c0.map (D.int .i64)) 4], .iptr 0 [.int .i64 c1]] (.bool r) := by
  refine callP_intro Try.tmOk 2 Try.func180 rfl (by decide) rfl rfl (Nat.le_of_ble_eq_true rfl) ?_
  intro hwf
  unfold m_sort_SearchInts_1 at h
  refine .seq ?_
  refine .plain Try.tmOk Try.tmMixed [0, 1, 2] (by decide +kernel) (by intro q hq; simp only [go_sem, Nat.reduceSub, Int.reduceEq, Nat.reduceLT, Nat.reduceDiv, Nat.reduceAdd, Nat.reduceBEq, Nat.reduceLeDiff, reduceCtorEq, Nat.reduceEqDiff, Nat.reduceMod, appendD]; exact hq) (by first | rfl | (simp only [go_sem, Nat.reduceLeDiff]; done) | (simp only [go_sem, Nat.reduceLeDiff]; rfl) | (simp; done) | (simp [oneD] <;> omega) | (simp_all; done) | (simp_all [oneD] <;> omega)) (by first | exact Nat.le_refl _ | exact Nat.le_of_ble_eq_true rfl | (dsimp only; omega) | (simp <;> omega)) ?_
  refine .seq ?_
  obtain ⟨k1, h⟩ := ite_ck h
  have e1 := nth_mapI (D.int .i64) c0 a0
  replace e1 := e1 k1
  refine .drawn Try.tmOk Try.tmMixed [0, 1, 2] (by decide +kernel) (by intro q hq; simp only [go_sem, Nat.reduceSub, Int.reduceEq, Nat.reduceLT, Nat.reduceDiv, Nat.reduceAdd, Nat.reduceBEq, Nat.reduceLeDiff, reduceCtorEq, Nat.reduceEqDiff, Nat.reduceMod, appendD, Try.tm_3, Try.tm_22, e1]; exact hq) (schedB_of (by kernel_rfl)) (by first | rfl | (simp only [go_sem, Nat.reduceLeDiff]; done) | (simp only [go_sem, Nat.reduceLeDiff]; rfl) | (simp; done) | (simp [oneD] <;> omega) | (simp_all; done) | (simp_all [oneD] <;> omega)) (by first | exact Nat.le_refl _ | exact Nat.le_of_ble_eq_true rfl | (dsimp only; omega) | (simp <;> omega)) ?_
  have hq := Option.some.inj h
  subst r
  refine .ret ⟨.inr rfl, ResIs.to ?_⟩
  simp only [ResIs, resL, resD, resT, go_sem, Nat.reduceSub, Int.reduceEq, Nat.reduceLT, Nat.reduceDiv, Nat.reduceAdd, Nat.reduceBEq, Nat.reduceLeDiff, reduceCtorEq, Nat.reduceEqDiff, Nat.reduceMod, Try.f180, Try.tm_4]


theorem callP_sort_SearchInts (a0 : List Int) (a1 : Int) (r : Int) (h : m_sort_SearchInts a0 a1 = some r) : CallP Try.prog 100 [.imm 1 (a0.map (D.int .i64)) 4, .int .i64 a1] (.int .i64 r) := by
  refine callP_intro Try.tmOk 4 Try.func100 rfl (by decide) rfl rfl (Nat.le_of_ble_eq_true rfl) ?_
  intro hwf
  unfold m_sort_SearchInts at h
  refine .seq ?_
  refine .plain Try.tmOk Try.tmMixed [0, 1] (by decide +kernel) (by intro q hq; simp only [go_sem, Nat.reduceSub, Int.reduceEq, Nat.reduceLT, Nat.reduceDiv, Nat.reduceAdd, Nat.reduceBEq, Nat.reduceLeDiff, reduceCtorEq, Nat.reduceEqDiff, Nat.reduceMod, appendD, Try.tm_3, Try.tm_22]; exact hq) (by first | rfl | (simp only [go_sem, Nat.reduceLeDiff]; done) | (simp only [go_sem, Nat.reduceLeDiff]; rfl) | (simp; done) | (simp [oneD] <;> omega) | (simp_all; done) | (simp_all [oneD] <;> omega)) (by first | exact Nat.le_refl _ | exact Nat.le_of_ble_eq_true rfl | (dsimp only; omega) | (simp <;> omega)) ?_
  refine .seq ?_
  obtain ⟨v1, hv1, h⟩ := bind_some h
  refine .reg Try.tmOk Try.tmMixed [2, 3] (by decide +kernel) ?_
  refine .RN 3 (dr := false) (.inr fun _ _ _ h => ⟨nofun, h.2⟩) (by intro q hq; simp only [go_sem, Nat.reduceSub, Int.reduceEq, Nat.reduceLT, Nat.reduceDiv, Nat.reduceAdd, Nat.reduceBEq, Nat.reduceLeDiff, reduceCtorEq, Nat.reduceEqDiff, Nat.reduceMod, appendD, Try.tm_22]; exact hq) (by first | rfl | (simp only [go_sem, Nat.reduceLeDiff]; done) | (simp only [go_sem, Nat.reduceLeDiff]; rfl) | (simp; done) | (simp [oneD] <;> omega) | (simp_all; done) | (simp_all [oneD] <;> omega)) (by first | exact Nat.le_refl _ | exact Nat.le_of_ble_eq_true rfl | (dsimp only; omega) | (simp <;> omega)) ?_
  refine .lcall (r := .int .i64 v1) [] rfl rfl rfl rfl rfl (lend2s_cons rfl (lend2s_cons (lend2_fn (lend2s_cons (lend2_ptr rfl (lends_cons rfl lends_nil)) (lend2s_cons (lend2_ptr rfl (lends_cons rfl lends_nil)) lend2s_nil))) lend2s_nil)) rfl (callP_sort_Search (a0.length : Int) 180 [.iptr 0 [.imm 1 (a0.map (D.int .i64)) 4], .iptr 0 [.int .i64 a1]] (fun _ => rfl) (fun _ => rfl) (fun _ => rfl) (fun x0 => m_sort_SearchInts_1 x0 a0 a1) (fun x0 y hy => callP_sort_SearchInts_1 x0 a0 a1 y hy) v1 hv1) ?_
  refine .RN 1 (dr := false) (.inr fun _ _ _ h => ⟨nofun, h.2⟩) (by intro q hq; simp only [go_sem, Nat.reduceSub, Int.reduceEq, Nat.reduceLT, Nat.reduceDiv, Nat.reduceAdd, Nat.reduceBEq, Nat.reduceLeDiff, reduceCtorEq, Nat.reduceEqDiff, Nat.reduceMod, appendD]; exact hq) (by first | rfl | (simp only [go_sem, Nat.reduceLeDiff]; done) | (simp only [go_sem, Nat.reduceLeDiff]; rfl) | (simp; done) | (simp [oneD] <;> omega) | (simp_all; done) | (simp_all [oneD] <;> omega)) (by first | exact Nat.le_refl _ | exact Nat.le_of_ble_eq_true rfl | (dsimp only; omega) | (simp <;> omega)) ?_
  refine .nil ⟨nofun, ?_⟩
  have hq := Option.some.inj h
  subst r
  refine .ret ⟨.inr rfl, ResIs.to ?_⟩
  simp only [ResIs, resL, resD, resT, go_sem, Nat.reduceSub, Int.reduceEq, Nat.reduceLT, Nat.reduceDiv, Nat.reduceAdd, Nat.reduceBEq, Nat.reduceLeDiff, reduceCtorEq, Nat.reduceEqDiff, Nat.reduceMod, Try.f100, Try.tm_3]
end Go.Proofs
end
section
/- Models of functions, printed by gw.py. -/

namespace Go.Proofs
open Go.Tm

def m_math_bits_OnesCount64 (a0 : Int) : Option Int :=
  some (bitw .and .i64 (wr .i64 (wr .u64 ((wr .u64 ((wr .u64 ((bitw .and .u64 (wr .u64 ((shw false .u64 (wr .u64 ((bitw .and .u64 (shw false .u64 (wr .u64 ((bitw .and .u64 (shw false .u64 a0 1) 6148914691236517205) + (bitw .and .u64 a0 6148914691236517205))) 2) 3689348814741910323) + (bitw .and .u64 (wr .u64 ((bitw .and .u64 (shw false .u64 a0 1) 6148914691236517205) + (bitw .and .u64 a0 6148914691236517205))) 3689348814741910323))) 4) + (wr .u64 ((bitw .and .u64 (shw false .u64 (wr .u64 ((bitw .and .u64 (shw false .u64 a0 1) 6148914691236517205) + (bitw .and .u64 a0 6148914691236517205))) 2) 3689348814741910323) + (bitw .and .u64 (wr .u64 ((bitw .and .u64 (shw false .u64 a0 1) 6148914691236517205) + (bitw .and .u64 a0 6148914691236517205))) 3689348814741910323))))) 1085102592571150095) + (shw false .u64 (bitw .and .u64 (wr .u64 ((shw false .u64 (wr .u64 ((bitw .and .u64 (shw false .u64 (wr .u64 ((bitw .and .u64 (shw false .u64 a0 1) 6148914691236517205) + (bitw .and .u64 a0 6148914691236517205))) 2) 3689348814741910323) + (bitw .and .u64 (wr .u64 ((bitw .and .u64 (shw false .u64 a0 1) 6148914691236517205) + (bitw .and .u64 a0 6148914691236517205))) 3689348814741910323))) 4) + (wr .u64 ((bitw .and .u64 (shw false .u64 (wr .u64 ((bitw .and .u64 (shw false .u64 a0 1) 6148914691236517205) + (bitw .and .u64 a0 6148914691236517205))) 2) 3689348814741910323) + (bitw .and .u64 (wr .u64 ((bitw .and .u64 (shw false .u64 a0 1) 6148914691236517205) + (bitw .and .u64 a0 6148914691236517205))) 3689348814741910323))))) 1085102592571150095) 8))) + (shw false .u64 (wr .u64 ((bitw .and .u64 (wr .u64 ((shw false .u64 (wr .u64 ((bitw .and .u64 (shw false .u64 (wr .u64 ((bitw .and .u64 (shw false .u64 a0 1) 6148914691236517205) + (bitw .and .u64 a0 6148914691236517205))) 2) 3689348814741910323) + (bitw .and .u64 (wr .u64 ((bitw .and .u64 (shw false .u64 a0 1) 6148914691236517205) + (bitw .and .u64 a0 6148914691236517205))) 3689348814741910323))) 4) + (wr .u64 ((bitw .and .u64 (shw false .u64 (wr .u64 ((bitw .and .u64 (shw false .u64 a0 1) 6148914691236517205) + (bitw .and .u64 a0 6148914691236517205))) 2) 3689348814741910323) + (bitw .and .u64 (wr .u64 ((bitw .and .u64 (shw false .u64 a0 1) 6148914691236517205) + (bitw .and .u64 a0 6148914691236517205))) 3689348814741910323))))) 1085102592571150095) + (shw false .u64 (bitw .and .u64 (wr .u64 ((shw false .u64 (wr .u64 ((bitw .and .u64 (shw false .u64 (wr .u64 ((bitw .and .u64 (shw false .u64 a0 1) 6148914691236517205) + (bitw .and .u64 a0 6148914691236517205))) 2) 3689348814741910323) + (bitw .and .u64 (wr .u64 ((bitw .and .u64 (shw false .u64 a0 1) 6148914691236517205) + (bitw .and .u64 a0 6148914691236517205))) 3689348814741910323))) 4) + (wr .u64 ((bitw .and .u64 (shw false .u64 (wr .u64 ((bitw .and .u64 (shw false .u64 a0 1) 6148914691236517205) + (bitw .and .u64 a0 6148914691236517205))) 2) 3689348814741910323) + (bitw .and .u64 (wr .u64 ((bitw .and .u64 (shw false .u64 a0 1) 6148914691236517205) + (bitw .and .u64 a0 6148914691236517205))) 3689348814741910323))))) 1085102592571150095) 8))) 16))) + (shw false .u64 (wr .u64 ((wr .u64 ((bitw .and .u64 (wr .u64 ((shw false .u64 (wr .u64 ((bitw .and .u64 (shw false .u64 (wr .u64 ((bitw .and .u64 (shw false .u64 a0 1) 6148914691236517205) + (bitw .and .u64 a0 6148914691236517205))) 2) 3689348814741910323) + (bitw .and .u64 (wr .u64 ((bitw .and .u64 (shw false .u64 a0 1) 6148914691236517205) + (bitw .and .u64 a0 6148914691236517205))) 3689348814741910323))) 4) + (wr .u64 ((bitw .and .u64 (shw false .u64 (wr .u64 ((bitw .and .u64 (shw false .u64 a0 1) 6148914691236517205) + (bitw .and .u64 a0 6148914691236517205))) 2) 3689348814741910323) + (bitw .and .u64 (wr .u64 ((bitw .and .u64 (shw false .u64 a0 1) 6148914691236517205) + (bitw .and .u64 a0 6148914691236517205))) 3689348814741910323))))) 1085102592571150095) + (shw false .u64 (bitw .and .u64 (wr .u64 ((shw false .u64 (wr .u64 ((bitw .and .u64 (shw false .u64 (wr .u64 ((bitw .and .u64 (shw false .u64 a0 1) 6148914691236517205) + (bitw .and .u64 a0 6148914691236517205))) 2) 3689348814741910323) + (bitw .and .u64 (wr .u64 ((bitw .and .u64 (shw false .u64 a0 1) 6148914691236517205) + (bitw .and .u64 a0 6148914691236517205))) 3689348814741910323))) 4) + (wr .u64 ((bitw .and .u64 (shw false .u64 (wr .u64 ((bitw .and .u64 (shw false .u64 a0 1) 6148914691236517205) + (bitw .and .u64 a0 6148914691236517205))) 2) 3689348814741910323) + (bitw .and .u64 (wr .u64 ((bitw .and .u64 (shw false .u64 a0 1) 6148914691236517205) + (bitw .and .u64 a0 6148914691236517205))) 3689348814741910323))))) 1085102592571150095) 8))) + (shw false .u64 (wr .u64 ((bitw .and .u64 (wr .u64 ((shw false .u64 (wr .u64 ((bitw .and .u64 (shw false .u64 (wr .u64 ((bitw .and .u64 (shw false .u64 a0 1) 6148914691236517205) + (bitw .and .u64 a0 6148914691236517205))) 2) 3689348814741910323) + (bitw .and .u64 (wr .u64 ((bitw .and .u64 (shw false .u64 a0 1) 6148914691236517205) + (bitw .and .u64 a0 6148914691236517205))) 3689348814741910323))) 4) + (wr .u64 ((bitw .and .u64 (shw false .u64 (wr .u64 ((bitw .and .u64 (shw false .u64 a0 1) 6148914691236517205) + (bitw .and .u64 a0 6148914691236517205))) 2) 3689348814741910323) + (bitw .and .u64 (wr .u64 ((bitw .and .u64 (shw false .u64 a0 1) 6148914691236517205) + (bitw .and .u64 a0 6148914691236517205))) 3689348814741910323))))) 1085102592571150095) + (shw false .u64 (bitw .and .u64 (wr .u64 ((shw false .u64 (wr .u64 ((bitw .and .u64 (shw false .u64 (wr .u64 ((bitw .and .u64 (shw false .u64 a0 1) 6148914691236517205) + (bitw .and .u64 a0 6148914691236517205))) 2) 3689348814741910323) + (bitw .and .u64 (wr .u64 ((bitw .and .u64 (shw false .u64 a0 1) 6148914691236517205) + (bitw .and .u64 a0 6148914691236517205))) 3689348814741910323))) 4) + (wr .u64 ((bitw .and .u64 (shw false .u64 (wr .u64 ((bitw .and .u64 (shw false .u64 a0 1) 6148914691236517205) + (bitw .and .u64 a0 6148914691236517205))) 2) 3689348814741910323) + (bitw .and .u64 (wr .u64 ((bitw .and .u64 (shw false .u64 a0 1) 6148914691236517205) + (bitw .and .u64 a0 6148914691236517205))) 3689348814741910323))))) 1085102592571150095) 8))) 16))) 32)))) 127)

def m_math_bits_OnesCount (a0 : Int) : Option Int :=
  Option.bind (m_math_bits_OnesCount64 a0) fun v1 =>
  some v1
end Go.Proofs
end
section
/- The walks of functions, printed by gw.py. -/



namespace Go.Proofs
open Go.Tm Go.RowKit Go.WideShapes
set_option maxRecDepth 100000
set_option maxHeartbeats 4000000
set_option linter.unusedSimpArgs false
set_option linter.unusedVariables false
attribute [local go_sem] argVars runE runK isCallV stepE aop opd opdsL opds opdO ev ofVal keep List.any Nat.beq Bool.false_or Bool.true_or aggEq cond_true cond_false Bool.cond_false_right Bool.cond_true_left beq_true beq_false imp_self implies_true getR getL put St.app effL del nwB blt_dec Nat.lt_irrefl Nat.lt_add_one ble_dec Nat.le_refl Nat.beq_refl roomNZ appendIn capS capK mkZ_zero mkZL_zero zeroEl D.ids D.idsL Option.getD bin arith sarith binT dpick Tm.part splice fillD oneD loadD storeD srcD sliceD idxOk decide_true gval dstAt D.cells List.map_cons List.map_nil List.take List.drop List.length_map List.append Int.toNat_natCast and_true true_and decide_false List.length_cons List.length_nil List.append_nil List.nil_append Bool.and_true Bool.true_and Bool.not_false Bool.not_true ne_eq not_false_eq_true BEq.rfl List.getElem?_cons_zero List.getElem?_cons_succ List.getElem?_nil Nat.zero_add List.all_cons List.all_nil List.isEmpty_cons List.isEmpty_nil List.any_cons List.any_nil List.drop_succ_cons List.drop_zero unfL unf okM okML low3 List.cons_append true_or or_true Nat.zero_mul Nat.zero_le fpOf opIds mvV mvH mvF pickL D.ren D.renL Blk.ren List.map_append List.length_append Bool.not_not Bool.or_not_self Bool.not_or_self Bool.or_true


theorem callP_math_bits_OnesCount64 (a0 : Int) (r : Int) (h : m_math_bits_OnesCount64 a0 = some r) : CallP Try.prog 178 [.int .u64 a0] (.int .i64 r) := by
  refine callP_intro Try.tmOk 2 Try.func178 rfl (by decide) rfl rfl (Nat.le_of_ble_eq_true rfl) ?_
  intro hwf
  unfold m_math_bits_OnesCount64 at h
  refine .seq ?_
  refine .plain Try.tmOk Try.tmMixed [0] (by decide +kernel) (by intro q hq; simp only [go_sem, Nat.reduceSub, Int.reduceEq, Nat.reduceLT, Nat.reduceDiv, Nat.reduceAdd, Nat.reduceBEq, Nat.reduceLeDiff, reduceCtorEq, Nat.reduceEqDiff, Nat.reduceMod, appendD]; exact hq) (by first | rfl | (simp only [go_sem, Nat.reduceLeDiff]; done) | (simp only [go_sem, Nat.reduceLeDiff]; rfl) | (simp; done) | (simp [oneD] <;> omega) | (simp_all; done) | (simp_all [oneD] <;> omega)) (by first | exact Nat.le_refl _ | exact Nat.le_of_ble_eq_true rfl | (dsimp only; omega) | (simp <;> omega)) ?_
  refine .seq ?_
  refine .plain Try.tmOk Try.tmMixed [0] (by decide +kernel) (by intro q hq; simp only [go_sem, Nat.reduceSub, Int.reduceEq, Nat.reduceLT, Nat.reduceDiv, Nat.reduceAdd, Nat.reduceBEq, Nat.reduceLeDiff, reduceCtorEq, Nat.reduceEqDiff, Nat.reduceMod, appendD, Try.tm_230]; exact hq) (by first | rfl | (simp only [go_sem, Nat.reduceLeDiff]; done) | (simp only [go_sem, Nat.reduceLeDiff]; rfl) | (simp; done) | (simp [oneD] <;> omega) | (simp_all; done) | (simp_all [oneD] <;> omega)) (by first | exact Nat.le_refl _ | exact Nat.le_of_ble_eq_true rfl | (dsimp only; omega) | (simp <;> omega)) ?_
  refine .seq ?_
  refine .plain Try.tmOk Try.tmMixed [0] (by decide +kernel) (by intro q hq; simp only [go_sem, Nat.reduceSub, Int.reduceEq, Nat.reduceLT, Nat.reduceDiv, Nat.reduceAdd, Nat.reduceBEq, Nat.reduceLeDiff, reduceCtorEq, Nat.reduceEqDiff, Nat.reduceMod, appendD, Try.tm_230]; exact hq) (by first | rfl | (simp only [go_sem, Nat.reduceLeDiff]; done) | (simp only [go_sem, Nat.reduceLeDiff]; rfl) | (simp; done) | (simp [oneD] <;> omega) | (simp_all; done) | (simp_all [oneD] <;> omega)) (by first | exact Nat.le_refl _ | exact Nat.le_of_ble_eq_true rfl | (dsimp only; omega) | (simp <;> omega)) ?_
  refine .seq ?_
  refine .plain Try.tmOk Try.tmMixed [0] (by decide +kernel) (by intro q hq; simp only [go_sem, Nat.reduceSub, Int.reduceEq, Nat.reduceLT, Nat.reduceDiv, Nat.reduceAdd, Nat.reduceBEq, Nat.reduceLeDiff, reduceCtorEq, Nat.reduceEqDiff, Nat.reduceMod, appendD, Try.tm_230]; exact hq) (by first | rfl | (simp only [go_sem, Nat.reduceLeDiff]; done) | (simp only [go_sem, Nat.reduceLeDiff]; rfl) | (simp; done) | (simp [oneD] <;> omega) | (simp_all; done) | (simp_all [oneD] <;> omega)) (by first | exact Nat.le_refl _ | exact Nat.le_of_ble_eq_true rfl | (dsimp only; omega) | (simp <;> omega)) ?_
  refine .seq ?_
  refine .plain Try.tmOk Try.tmMixed [0] (by decide +kernel) (by intro q hq; simp only [go_sem, Nat.reduceSub, Int.reduceEq, Nat.reduceLT, Nat.reduceDiv, Nat.reduceAdd, Nat.reduceBEq, Nat.reduceLeDiff, reduceCtorEq, Nat.reduceEqDiff, Nat.reduceMod, appendD, Try.tm_230]; exact hq) (by first | rfl | (simp only [go_sem, Nat.reduceLeDiff]; done) | (simp only [go_sem, Nat.reduceLeDiff]; rfl) | (simp; done) | (simp [oneD] <;> omega) | (simp_all; done) | (simp_all [oneD] <;> omega)) (by first | exact Nat.le_refl _ | exact Nat.le_of_ble_eq_true rfl | (dsimp only; omega) | (simp <;> omega)) ?_
  refine .seq ?_
  refine .plain Try.tmOk Try.tmMixed [0] (by decide +kernel) (by intro q hq; simp only [go_sem, Nat.reduceSub, Int.reduceEq, Nat.reduceLT, Nat.reduceDiv, Nat.reduceAdd, Nat.reduceBEq, Nat.reduceLeDiff, reduceCtorEq, Nat.reduceEqDiff, Nat.reduceMod, appendD, Try.tm_230]; exact hq) (by first | rfl | (simp only [go_sem, Nat.reduceLeDiff]; done) | (simp only [go_sem, Nat.reduceLeDiff]; rfl) | (simp; done) | (simp [oneD] <;> omega) | (simp_all; done) | (simp_all [oneD] <;> omega)) (by first | exact Nat.le_refl _ | exact Nat.le_of_ble_eq_true rfl | (dsimp only; omega) | (simp <;> omega)) ?_
  refine .seq ?_
  refine .plain Try.tmOk Try.tmMixed [0] (by decide +kernel) (by intro q hq; simp only [go_sem, Nat.reduceSub, Int.reduceEq, Nat.reduceLT, Nat.reduceDiv, Nat.reduceAdd, Nat.reduceBEq, Nat.reduceLeDiff, reduceCtorEq, Nat.reduceEqDiff, Nat.reduceMod, appendD, Try.tm_230]; exact hq) (by first | rfl | (simp only [go_sem, Nat.reduceLeDiff]; done) | (simp only [go_sem, Nat.reduceLeDiff]; rfl) | (simp; done) | (simp [oneD] <;> omega) | (simp_all; done) | (simp_all [oneD] <;> omega)) (by first | exact Nat.le_refl _ | exact Nat.le_of_ble_eq_true rfl | (dsimp only; omega) | (simp <;> omega)) ?_
  refine .seq ?_
  refine .plain Try.tmOk Try.tmMixed [0] (by decide +kernel) (by intro q hq; simp only [go_sem, Nat.reduceSub, Int.reduceEq, Nat.reduceLT, Nat.reduceDiv, Nat.reduceAdd, Nat.reduceBEq, Nat.reduceLeDiff, reduceCtorEq, Nat.reduceEqDiff, Nat.reduceMod, appendD, Try.tm_3, Try.tm_230]; exact hq) (by first | rfl | (simp only [go_sem, Nat.reduceLeDiff]; done) | (simp only [go_sem, Nat.reduceLeDiff]; rfl) | (simp; done) | (simp [oneD] <;> omega) | (simp_all; done) | (simp_all [oneD] <;> omega)) (by first | exact Nat.le_refl _ | exact Nat.le_of_ble_eq_true rfl | (dsimp only; omega) | (simp <;> omega)) ?_
  have hq := Option.some.inj h
  subst r
  refine .ret ⟨.inr rfl, ResIs.to ?_⟩
  simp only [ResIs, resL, resD, resT, go_sem, Nat.reduceSub, Int.reduceEq, Nat.reduceLT, Nat.reduceDiv, Nat.reduceAdd, Nat.reduceBEq, Nat.reduceLeDiff, reduceCtorEq, Nat.reduceEqDiff, Nat.reduceMod, Try.f178, Try.tm_3]


theorem callP_math_bits_OnesCount (a0 : Int) (r : Int) (h : m_math_bits_OnesCount a0 = some r) : CallP Try.prog 90 [.int .u64 a0] (.int .i64 r) := by
  refine callP_intro Try.tmOk 2 Try.func90 rfl (by decide) rfl rfl (Nat.le_of_ble_eq_true rfl) ?_
  intro hwf
  unfold m_math_bits_OnesCount at h
  refine .seq ?_
  refine .plain Try.tmOk Try.tmMixed [0] (by decide +kernel) (by intro q hq; simp only [go_sem, Nat.reduceSub, Int.reduceEq, Nat.reduceLT, Nat.reduceDiv, Nat.reduceAdd, Nat.reduceBEq, Nat.reduceLeDiff, reduceCtorEq, Nat.reduceEqDiff, Nat.reduceMod, appendD]; exact hq) (by first | rfl | (simp only [go_sem, Nat.reduceLeDiff]; done) | (simp only [go_sem, Nat.reduceLeDiff]; rfl) | (simp; done) | (simp [oneD] <;> omega) | (simp_all; done) | (simp_all [oneD] <;> omega)) (by first | exact Nat.le_refl _ | exact Nat.le_of_ble_eq_true rfl | (dsimp only; omega) | (simp <;> omega)) ?_
  refine .seq ?_
  refine .cond rfl rfl (fun hc => by cases hc) (fun hc => ?_)
  refine .skip ?_
  refine .seq ?_
  obtain ⟨v1, hv1, h⟩ := bind_some h
  refine .reg Try.tmOk Try.tmMixed [0] (by decide +kernel) ?_
  refine .RN 1 (dr := false) (.inr fun _ _ _ h => ⟨nofun, h.2⟩) (by intro q hq; simp only [go_sem, Nat.reduceSub, Int.reduceEq, Nat.reduceLT, Nat.reduceDiv, Nat.reduceAdd, Nat.reduceBEq, Nat.reduceLeDiff, reduceCtorEq, Nat.reduceEqDiff, Nat.reduceMod, appendD]; exact hq) (by first | rfl | (simp only [go_sem, Nat.reduceLeDiff]; done) | (simp only [go_sem, Nat.reduceLeDiff]; rfl) | (simp; done) | (simp [oneD] <;> omega) | (simp_all; done) | (simp_all [oneD] <;> omega)) (by first | exact Nat.le_refl _ | exact Nat.le_of_ble_eq_true rfl | (dsimp only; omega) | (simp <;> omega)) ?_
  refine .call (r := .int .i64 v1) rfl rfl rfl rfl rfl rfl (callP_math_bits_OnesCount64 a0 v1 hv1) ?_
  refine .RN 1 (dr := false) (.inr fun _ _ _ h => ⟨nofun, h.2⟩) (by intro q hq; simp only [go_sem, Nat.reduceSub, Int.reduceEq, Nat.reduceLT, Nat.reduceDiv, Nat.reduceAdd, Nat.reduceBEq, Nat.reduceLeDiff, reduceCtorEq, Nat.reduceEqDiff, Nat.reduceMod, appendD]; exact hq) (by first | rfl | (simp only [go_sem, Nat.reduceLeDiff]; done) | (simp only [go_sem, Nat.reduceLeDiff]; rfl) | (simp; done) | (simp [oneD] <;> omega) | (simp_all; done) | (simp_all [oneD] <;> omega)) (by first | exact Nat.le_refl _ | exact Nat.le_of_ble_eq_true rfl | (dsimp only; omega) | (simp <;> omega)) ?_
  refine .nil ⟨nofun, ?_⟩
  have hq := Option.some.inj h
  subst r
  refine .ret ⟨.inr rfl, ResIs.to ?_⟩
  simp only [ResIs, resL, resD, resT, go_sem, Nat.reduceSub, Int.reduceEq, Nat.reduceLT, Nat.reduceDiv, Nat.reduceAdd, Nat.reduceBEq, Nat.reduceLeDiff, reduceCtorEq, Nat.reduceEqDiff, Nat.reduceMod, Try.f90, Try.tm_3]
end Go.Proofs
end
section
/- Models of functions, printed by gw.py. -/




namespace Go.Proofs
open Go.Tm

def m_quorum_set_loop1 : List Int → Int → Option (Int)
  | [], n2 =>
    some n2
  | y1 :: rest1, n2 =>
    Option.bind (α := Int) (if (y1 ≥ 0) ∧ (y1 < 6) then
    if 0 ≤ y1 then
    some (bitw .or .u64 n2 (shw true .u64 1 (y1)))
    else none
    else
    some n2) fun n4 =>
    m_quorum_set_loop1 rest1 n4
def m_quorum_set (a0 : List Int) : Option Int :=
  Option.bind (α := Int) (m_quorum_set_loop1 a0 0) fun n1 =>
  some n1

def m_quorum_Most (a0 : List Int) (a1 : List Int) : Option (Bool × Int) :=
  Option.bind (m_quorum_Need a0) fun v1 =>
  if ¬ (v1.2 = 0) then
  some (false, v1.2)
  else
  if (a1.length : Int) > 1000 then
  some (false, 4)
  else
  Option.bind (m_quorum_set a0) fun v2 =>
  Option.bind (m_quorum_set a1) fun v3 =>
  Option.bind (m_math_bits_OnesCount (bitw .and .u64 v2 v3)) fun v4 =>
  some ((decide (v4 ≥ v1.1)), 0)

def m_attempt_most (a0 : List Int) (a1 : List Int) : Option Bool :=
  Option.bind (m_quorum_Most a0 a1) fun v1 =>
  some v1.1

def m_attempt_Same (a0 : TAttempt) (a1 : TAttempt) : Option Bool :=
  Option.bind (if (a0.Phase = a1.Phase) ∧ (a0.Ballot = a1.Ballot) then m_slices_Equal_int_int a0.Members a1.Members else some default) fun v1 =>
  Option.bind (if ((((a0.Phase = a1.Phase) ∧ (a0.Ballot = a1.Ballot)) ∧ (v1 = true)) ∧ (a0.Wish = a1.Wish)) ∧ (a0.Value = a1.Value) then m_slices_Equal_Promise_Promise a0.Promises a1.Promises else some default) fun v2 =>
  Option.bind (if (((((a0.Phase = a1.Phase) ∧ (a0.Ballot = a1.Ballot)) ∧ (v1 = true)) ∧ (a0.Wish = a1.Wish)) ∧ (a0.Value = a1.Value)) ∧ (v2 = true) then m_slices_Equal_int_int a0.Accepted a1.Accepted else some default) fun v3 =>
  some (((((((a0.Phase == a1.Phase) && (a0.Ballot == a1.Ballot)) && v1) && (a0.Wish == a1.Wish)) && (a0.Value == a1.Value)) && v2) && v3)

def m_towncrierref08_Same_loop1 (a1 : TAttempt) : List TPromise → Nat → Option (Bool ⊕ Unit)
  | [], n1 =>
    some (.inr ())
  | y1 :: rest1, n1 =>
    if n1 < a1.Promises.length then
    if ¬ ((y1.Node = (a1.Promises.getD n1 default).Node) ∧ (y1.Ballot = (a1.Promises.getD n1 default).Ballot) ∧ (y1.Value = (a1.Promises.getD n1 default).Value)) then
    some (.inl false)
    else
    m_towncrierref08_Same_loop1 a1 rest1 (n1 + 1) 
    else none
def m_towncrierref08_Same (a0 : TAttempt) (a1 : TAttempt) : Option Bool :=
  Option.bind (if ¬ ((¬ (a0.Phase = a1.Phase)) ∨ (¬ (a0.Ballot = a1.Ballot))) then m_towncrierref01_SameInts a0.Members a1.Members else some default) fun v1 =>
  Option.bind (if ¬ ((((((¬ (a0.Phase = a1.Phase)) ∨ (¬ (a0.Ballot = a1.Ballot))) ∨ (¬ (v1 = true))) ∨ (¬ (a0.Wish = a1.Wish))) ∨ (¬ (a0.Value = a1.Value))) ∨ (¬ ((a0.Promises.length : Int) = (a1.Promises.length : Int)))) then m_towncrierref01_SameInts a0.Accepted a1.Accepted else some default) fun v2 =>
  if ((((((¬ (a0.Phase = a1.Phase)) ∨ (¬ (a0.Ballot = a1.Ballot))) ∨ (¬ (v1 = true))) ∨ (¬ (a0.Wish = a1.Wish))) ∨ (¬ (a0.Value = a1.Value))) ∨ (¬ ((a0.Promises.length : Int) = (a1.Promises.length : Int)))) ∨ (¬ (v2 = true)) then
  some false
  else
  Option.bind (α := Bool ⊕ Unit) (m_towncrierref08_Same_loop1 a1 a0.Promises 0 ) fun z => match z with
  | (.inl r) => some r
  | (.inr _) =>
  some true

end Go.Proofs
end
