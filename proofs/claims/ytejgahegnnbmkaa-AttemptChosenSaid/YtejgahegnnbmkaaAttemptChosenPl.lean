/- The walks of functions, printed by gw.py. -/
import Derived.Test.YtejgahegnnbmkaaAttemptChosenPf
import Derived.Test.YtejgahegnnbmkaaAttemptChosenPg
import Derived.Test.YtejgahegnnbmkaaAttemptChosenPh
import Derived.Test.YtejgahegnnbmkaaAttemptChosenPi
import Derived.Test.YtejgahegnnbmkaaAttemptChosenPj
import Derived.Test.YtejgahegnnbmkaaAttemptChosenPk
import Derived.Test.YtejgahegnnbmkaaAttemptChosenPe
section
namespace Go.Proofs
open Go.Tm Go.RowKit Go.WideShapes
set_option maxRecDepth 100000
set_option maxHeartbeats 4000000
set_option linter.unusedSimpArgs false
set_option linter.unusedVariables false
attribute [local go_sem] argVars runE runK isCallV stepE aop opd opdsL opds opdO ev ofVal keep List.any Nat.beq Bool.false_or Bool.true_or aggEq cond_true cond_false Bool.cond_false_right Bool.cond_true_left beq_true beq_false imp_self implies_true getR getL put St.app effL del nwB blt_dec Nat.lt_irrefl Nat.lt_add_one ble_dec Nat.le_refl Nat.beq_refl roomNZ appendIn capS capK mkZ_zero mkZL_zero zeroEl D.ids D.idsL Option.getD bin arith sarith binT dpick Tm.part splice fillD oneD loadD storeD srcD sliceD idxOk decide_true gval dstAt D.cells List.map_cons List.map_nil List.take List.drop List.length_map List.append Int.toNat_natCast and_true true_and decide_false List.length_cons List.length_nil List.append_nil List.nil_append Bool.and_true Bool.true_and Bool.not_false Bool.not_true ne_eq not_false_eq_true BEq.rfl List.getElem?_cons_zero List.getElem?_cons_succ List.getElem?_nil Nat.zero_add List.all_cons List.all_nil List.isEmpty_cons List.isEmpty_nil List.any_cons List.any_nil List.drop_succ_cons List.drop_zero unfL unf okM okML low3 List.cons_append true_or or_true Nat.zero_mul Nat.zero_le fpOf opIds mvV mvH mvF pickL D.ren D.renL Blk.ren List.map_append List.length_append Bool.not_not Bool.or_not_self Bool.not_or_self Bool.or_true

def Try.St_towncrierlaw08_same_1 : St := ⟨[], [], 0⟩
attribute [local go_sem] Try.St_towncrierlaw08_same_1
def Try.St_towncrierlaw08_same_3 (a0 : List Int) (a1 : List Int) (n1 : Nat) : St := ⟨[(0, .imm 1 (a0.map (D.int .i64)) 4), (1, .imm 1 (a1.map (D.int .i64)) 4), (5, .int .i64 (n1 : Int))], [], 0⟩
attribute [local go_sem] Try.St_towncrierlaw08_same_3
theorem callP_towncrierlaw08_same (a0 : List Int) (a1 : List Int) (r : Bool) (h : m_towncrierlaw08_same a0 a1 = some r) : CallP Try.prog 31 [.imm 1 (a0.map (D.int .i64)) 4, .imm 1 (a1.map (D.int .i64)) 4] (.bool r) := by
  refine callP_intro Try.tmOk 2 Try.func31 rfl (by decide) rfl rfl (Nat.le_of_ble_eq_true rfl) ?_
  intro hwf
  unfold m_towncrierlaw08_same at h
  refine .seq ?_
  refine .plain Try.tmOk Try.tmMixed [0, 1] (by decide +kernel) (by intro q hq; simp only [go_sem, Nat.reduceSub, Int.reduceEq, Nat.reduceLT, Nat.reduceDiv, Nat.reduceAdd, Nat.reduceBEq, Nat.reduceLeDiff, reduceCtorEq, Nat.reduceEqDiff, Nat.reduceMod, appendD]; exact hq) (by first | rfl | (simp only [go_sem, Nat.reduceLeDiff]; done) | (simp only [go_sem, Nat.reduceLeDiff]; rfl) | (simp; done) | (simp [oneD] <;> omega) | (simp_all; done) | (simp_all [oneD] <;> omega)) (by first | exact Nat.le_refl _ | exact Nat.le_of_ble_eq_true rfl | (dsimp only; omega) | (simp <;> omega)) ?_
  refine .seq ?_
  refine .seq ?_
  refine .plain Try.tmOk Try.tmMixed [0, 1] (by decide +kernel) (by intro q hq; simp only [go_sem, Nat.reduceSub, Int.reduceEq, Nat.reduceLT, Nat.reduceDiv, Nat.reduceAdd, Nat.reduceBEq, Nat.reduceLeDiff, reduceCtorEq, Nat.reduceEqDiff, Nat.reduceMod, appendD, Try.tm_3, Try.tm_22]; exact hq) (by first | rfl | (simp only [go_sem, Nat.reduceLeDiff]; done) | (simp only [go_sem, Nat.reduceLeDiff]; rfl) | (simp; done) | (simp [oneD] <;> omega) | (simp_all; done) | (simp_all [oneD] <;> omega)) (by first | exact Nat.le_refl _ | exact Nat.le_of_ble_eq_true rfl | (dsimp only; omega) | (simp <;> omega)) ?_
  refine .cond rfl rfl (fun hc1 => ?_) (fun hc1 => ?_)
  · skip
    replace h := ite_l h (by first | simpa using hc1 | (simp at hc1 ⊢; omega) | (simp at hc1 ⊢; grind) | grind)
    refine .seq ?_
    refine .plain Try.tmOk Try.tmMixed [] (by decide +kernel) (by intro q hq; simp only [go_sem, Nat.reduceSub, Int.reduceEq, Nat.reduceLT, Nat.reduceDiv, Nat.reduceAdd, Nat.reduceBEq, Nat.reduceLeDiff, reduceCtorEq, Nat.reduceEqDiff, Nat.reduceMod, appendD]; exact hq) (by first | rfl | (simp only [go_sem, Nat.reduceLeDiff]; done) | (simp only [go_sem, Nat.reduceLeDiff]; rfl) | (simp; done) | (simp [oneD] <;> omega) | (simp_all; done) | (simp_all [oneD] <;> omega)) (by first | exact Nat.le_refl _ | exact Nat.le_of_ble_eq_true rfl | (dsimp only; omega) | (simp <;> omega)) ?_
    have hq := Option.some.inj h
    subst r
    refine .ret ⟨.inr rfl, ResIs.to ?_⟩
    simp only [ResIs, resL, resD, resT, go_sem, Nat.reduceSub, Int.reduceEq, Nat.reduceLT, Nat.reduceDiv, Nat.reduceAdd, Nat.reduceBEq, Nat.reduceLeDiff, reduceCtorEq, Nat.reduceEqDiff, Nat.reduceMod, Try.f31, Try.tm_4]
  · skip
    replace h := ite_r h (by first | simpa using hc1 | (simp at hc1 ⊢; omega) | (simp at hc1 ⊢; grind) | grind)
    refine .skip ?_
    obtain ⟨x1, hx1, h⟩ := bind_some h
    refine .seqM 0 (fun (j : Unit) => Try.St_towncrierlaw08_same_1) (fun j => x1 = (.inr j)) (Nat.le_of_ble_eq_true rfl) ?_ ?_
    · skip
      refine .seq ?_
      refine .plain Try.tmOk Try.tmMixed [0, 1] (by decide +kernel) (by intro q hq; simp only [go_sem, Nat.reduceSub, Int.reduceEq, Nat.reduceLT, Nat.reduceDiv, Nat.reduceAdd, Nat.reduceBEq, Nat.reduceLeDiff, reduceCtorEq, Nat.reduceEqDiff, Nat.reduceMod, appendD]; exact hq) (by first | rfl | (simp only [go_sem, Nat.reduceLeDiff]; done) | (simp only [go_sem, Nat.reduceLeDiff]; rfl) | (simp; done) | (simp [oneD] <;> omega) | (simp_all; done) | (simp_all [oneD] <;> omega)) (by first | exact Nat.le_refl _ | exact Nat.le_of_ble_eq_true rfl | (dsimp only; omega) | (simp <;> omega)) ?_
      refine .block ?_
      refine .loopG 0 (fun (j : Nat) => Try.St_towncrierlaw08_same_3 a0 a1 j) (fun j => j ≤ a0.length ∧ m_towncrierlaw08_same_loop1 a1 (a0.drop j) j  = some x1) (fun j => a0.length - j) (0) (Nat.le_of_ble_eq_true rfl) ?_ ⟨Nat.zero_le _, hx1⟩ ?_
      · skip
        refine Goes.mv [0, 1, 5] [] [] ?_ (Nat.le_of_ble_eq_true rfl) (Nat.le_of_ble_eq_true rfl) rfl
        first | rfl | (simp only [go_sem, Nat.reduceBEq, Nat.reduceAdd]; done) | (simp only [go_sem, Nat.reduceBEq, Nat.reduceAdd]; rfl)
      rintro n1 ⟨hi1, hx1⟩
      simp only [Try.St_towncrierlaw08_same_3]
      refine .wf 0 (.imm 1 (a0.map (D.int .i64)) 4) rfl ?_
      intro hln1
      replace hln1 : (a0.length : Int) ≤ 9223372036854775807 := by simp only [wf, wfL, IntKind.max, IntKind.min, IntKind.signed, IntKind.bits, List.length_map] at hln1; first | exact hln1.2 | exact hln1.1 | (simp at hln1; omega)
      refine .seq ?_
      refine .seq ?_
      refine .plain Try.tmOk Try.tmMixed [0, 1, 5] (by decide +kernel) (by intro q hq; simp only [go_sem, Nat.reduceSub, Int.reduceEq, Nat.reduceLT, Nat.reduceDiv, Nat.reduceAdd, Nat.reduceBEq, Nat.reduceLeDiff, reduceCtorEq, Nat.reduceEqDiff, Nat.reduceMod, appendD, Try.tm_3, Try.tm_22]; exact hq) (by first | rfl | (simp only [go_sem, Nat.reduceLeDiff]; done) | (simp only [go_sem, Nat.reduceLeDiff]; rfl) | (simp; done) | (simp [oneD] <;> omega) | (simp_all; done) | (simp_all [oneD] <;> omega)) (by first | exact Nat.le_refl _ | exact Nat.le_of_ble_eq_true rfl | (dsimp only; omega) | (simp <;> omega)) ?_
      refine .cond rfl rfl (fun hc2 => ?_) (fun hc2 => ?_)
      · skip
        have h1 : n1 < a0.length := by simpa using hc2
        have hwn1 : wr .i64 ((n1 : Int) + 1) = ((n1 + 1 : Nat) : Int) := wr_succ h1 hln1
        have hpn1 : wr .i64 ((n1 : Int) - 1) = (n1 : Int) - 1 := wr_pred h1 hln1
        rw [List.drop_eq_getElem_cons h1, m_towncrierlaw08_same_loop1] at hx1
        refine .skip ?_
        refine .seq ?_
        refine .block ?_
        refine .seq ?_
        obtain ⟨k1, hx1⟩ := ite_ck hx1
        have e1 := nth_map (D.int .i64) a0 n1 h1
        have e2 := nth_mapD (D.int .i64) a1 n1
        replace e2 := e2 k1
        refine .reg Try.tmOk Try.tmMixed [0, 1, 5] (by decide +kernel) ?_
        refine .RN 6 (dr := true) (.inl rfl) (by intro q hq; simp only [go_sem, Nat.reduceSub, Int.reduceEq, Nat.reduceLT, Nat.reduceDiv, Nat.reduceAdd, Nat.reduceBEq, Nat.reduceLeDiff, reduceCtorEq, Nat.reduceEqDiff, Nat.reduceMod, appendD, Try.tm_3, Try.tm_22, e1, e2, hwn1]; exact hq) (by first | rfl | (simp only [go_sem, Nat.reduceLeDiff]; done) | (simp only [go_sem, Nat.reduceLeDiff]; rfl) | (simp; done) | (simp [oneD] <;> omega) | (simp_all; done) | (simp_all [oneD] <;> omega)) (by first | exact Nat.le_refl _ | exact Nat.le_of_ble_eq_true rfl | (dsimp only; omega) | (simp <;> omega)) ?_
        refine .RN 3 (dr := true) (.inl rfl) (by intro q hq; simp only [go_sem, Nat.reduceSub, Int.reduceEq, Nat.reduceLT, Nat.reduceDiv, Nat.reduceAdd, Nat.reduceBEq, Nat.reduceLeDiff, reduceCtorEq, Nat.reduceEqDiff, Nat.reduceMod, appendD, Try.tm_3, Try.tm_22, e1, e2, hwn1]; exact hq) (by first | rfl | (simp only [go_sem, Nat.reduceLeDiff]; done) | (simp only [go_sem, Nat.reduceLeDiff]; rfl) | (simp; done) | (simp [oneD] <;> omega) | (simp_all; done) | (simp_all [oneD] <;> omega)) (by first | exact Nat.le_refl _ | exact Nat.le_of_ble_eq_true rfl | (dsimp only; omega) | (simp <;> omega)) ?_
        refine .nil ⟨fun _ => schedB_of (by kernel_rfl), ?_⟩
        refine .cond rfl rfl (fun hc3 => ?_) (fun hc3 => ?_)
        · skip
          replace hx1 := ite_l hx1 (by first | simpa using hc3 | (simp at hc3 ⊢; omega) | (simp at hc3 ⊢; grind) | grind)
          refine .seq ?_
          refine .plain Try.tmOk Try.tmMixed [] (by decide +kernel) (by intro q hq; simp only [go_sem, Nat.reduceSub, Int.reduceEq, Nat.reduceLT, Nat.reduceDiv, Nat.reduceAdd, Nat.reduceBEq, Nat.reduceLeDiff, reduceCtorEq, Nat.reduceEqDiff, Nat.reduceMod, appendD, hwn1]; exact hq) (by first | rfl | (simp only [go_sem, Nat.reduceLeDiff]; done) | (simp only [go_sem, Nat.reduceLeDiff]; rfl) | (simp; done) | (simp [oneD] <;> omega) | (simp_all; done) | (simp_all [oneD] <;> omega)) (by first | exact Nat.le_refl _ | exact Nat.le_of_ble_eq_true rfl | (dsimp only; omega) | (simp <;> omega)) ?_
          have hq := Option.some.inj hx1
          subst x1
          try dsimp only at h
          have hq := Option.some.inj h
          subst r
          refine .ret ⟨.inr rfl, ResIs.to ?_⟩
          simp only [ResIs, resL, resD, resT, go_sem, Nat.reduceSub, Int.reduceEq, Nat.reduceLT, Nat.reduceDiv, Nat.reduceAdd, Nat.reduceBEq, Nat.reduceLeDiff, reduceCtorEq, Nat.reduceEqDiff, Nat.reduceMod, Try.f31, Try.tm_4]
        · skip
          replace hx1 := ite_r hx1 (by first | simpa using hc3 | (simp at hc3 ⊢; omega) | (simp at hc3 ⊢; grind) | grind)
          refine .skip ?_
          refine .plain Try.tmOk Try.tmMixed [0, 1, 5] (by decide +kernel) (by intro q hq; simp only [go_sem, Nat.reduceSub, Int.reduceEq, Nat.reduceLT, Nat.reduceDiv, Nat.reduceAdd, Nat.reduceBEq, Nat.reduceLeDiff, reduceCtorEq, Nat.reduceEqDiff, Nat.reduceMod, appendD, Try.tm_3, hwn1]; exact hq) (by first | rfl | (simp only [go_sem, Nat.reduceLeDiff]; done) | (simp only [go_sem, Nat.reduceLeDiff]; rfl) | (simp; done) | (simp [oneD] <;> omega) | (simp_all; done) | (simp_all [oneD] <;> omega)) (by first | exact Nat.le_refl _ | exact Nat.le_of_ble_eq_true rfl | (dsimp only; omega) | (simp <;> omega)) ?_
          refine ⟨n1 + 1, ?_, ⟨by omega, hx1⟩, by dsimp only; omega⟩
          refine Goes.mv [0, 1, 5] [] [] ?_ (Nat.le_of_ble_eq_true rfl) (Nat.le_of_ble_eq_true rfl) rfl
          first | rfl | (simp only [go_sem, Nat.reduceBEq, Nat.reduceAdd]; done) | (simp only [go_sem, Nat.reduceBEq, Nat.reduceAdd]; rfl)
      · skip
        have h2 : n1 = a0.length := by have h2b := of_decide_eq_false hc2; omega
        rw [List.drop_of_length_le (by omega), m_towncrierlaw08_same_loop1] at hx1
        refine .exit ?_
        refine ⟨_, ?_, (Option.some.inj hx1).symm⟩
        refine Goes.mv [] [] [] ?_ (Nat.le_of_ble_eq_true rfl) (Nat.le_of_ble_eq_true rfl) rfl
        first | rfl | (simp only [go_sem, Nat.reduceBEq, Nat.reduceAdd]; done) | (simp only [go_sem, Nat.reduceBEq, Nat.reduceAdd]; rfl)
    · skip
      rintro ⟨⟩ hj1
      subst x1
      try dsimp only at h
      simp only [Try.St_towncrierlaw08_same_1]
      refine .seq ?_
      refine .plain Try.tmOk Try.tmMixed [] (by decide +kernel) (by intro q hq; simp only [go_sem, Nat.reduceSub, Int.reduceEq, Nat.reduceLT, Nat.reduceDiv, Nat.reduceAdd, Nat.reduceBEq, Nat.reduceLeDiff, reduceCtorEq, Nat.reduceEqDiff, Nat.reduceMod, appendD]; exact hq) (by first | rfl | (simp only [go_sem, Nat.reduceLeDiff]; done) | (simp only [go_sem, Nat.reduceLeDiff]; rfl) | (simp; done) | (simp [oneD] <;> omega) | (simp_all; done) | (simp_all [oneD] <;> omega)) (by first | exact Nat.le_refl _ | exact Nat.le_of_ble_eq_true rfl | (dsimp only; omega) | (simp <;> omega)) ?_
      have hq := Option.some.inj h
      subst r
      refine .ret ⟨.inr rfl, ResIs.to ?_⟩
      simp only [ResIs, resL, resD, resT, go_sem, Nat.reduceSub, Int.reduceEq, Nat.reduceLT, Nat.reduceDiv, Nat.reduceAdd, Nat.reduceBEq, Nat.reduceLeDiff, reduceCtorEq, Nat.reduceEqDiff, Nat.reduceMod, Try.f31, Try.tm_4]


theorem callH_towncrierlaw08_begun (r : TAttempt × Int) (h : m_towncrierlaw08_begun  = some r) : CallH Try.prog 172 [] [] (.tuple [.agg [.int .u8 r.1.Phase, .int .i64 r.1.Ballot, .ref 0 1 0 r.1.Members.length (some unkC), .str r.1.Wish, .str r.1.Value, .ref 1 3 0 r.1.Promises.length (some unkC), .ref 2 1 0 r.1.Accepted.length (some unkC)], .int .i64 r.2]) [(0, some (.arr 3 1 true (r.1.Members.map (D.int .i64)))), (1, some (.arr 31 3 true (r.1.Promises.map TPromise.d))), (2, some (.arr 3 1 true (r.1.Accepted.map (D.int .i64))))] (0, 22) := by
  refine callH_intro' Try.tmOk Try.func172 rfl (by decide) (Nat.le_of_ble_eq_true rfl) (by simp) ?_
  intro hwf
  unfold m_towncrierlaw08_begun at h
  refine .ends 0 (Nat.le_refl _) ?_
  refine .seq ?_
  refine .plain Try.tmOk Try.tmMixed [] (by decide +kernel) (by intro q hq; simp only [go_sem, Nat.reduceSub, Int.reduceEq, Nat.reduceLT, Nat.reduceDiv, Nat.reduceAdd, Nat.reduceBEq, Nat.reduceLeDiff, reduceCtorEq, Nat.reduceEqDiff, Nat.reduceMod, appendD, Try.tm_26, TAttempt.d]; exact hq) (by first | rfl | (simp only [go_sem, Nat.reduceLeDiff]; done) | (simp only [go_sem, Nat.reduceLeDiff]; rfl) | (simp; done) | (simp [oneD] <;> omega) | (simp_all; done) | (simp_all [oneD] <;> omega)) (by first | exact Nat.le_refl _ | exact Nat.le_of_ble_eq_true rfl | (dsimp only; omega) | (simp <;> omega)) ?_
  refine .seq ?_
  obtain ⟨v1, hv1, h⟩ := bind_some h
  refine .reg Try.tmOk Try.tmMixed [0] (by decide +kernel) ?_
  refine .RN 1 (dr := false) (.inr fun _ _ _ h => ⟨nofun, h.2⟩) (by intro q hq; simp only [go_sem, Nat.reduceSub, Int.reduceEq, Nat.reduceLT, Nat.reduceDiv, Nat.reduceAdd, Nat.reduceBEq, Nat.reduceLeDiff, reduceCtorEq, Nat.reduceEqDiff, Nat.reduceMod, appendD, Try.tm_22, TAttempt.d]; exact hq) (by first | rfl | (simp only [go_sem, Nat.reduceLeDiff]; done) | (simp only [go_sem, Nat.reduceLeDiff]; rfl) | (simp; done) | (simp [oneD] <;> omega) | (simp_all; done) | (simp_all [oneD] <;> omega)) (by first | exact Nat.le_refl _ | exact Nat.le_of_ble_eq_true rfl | (dsimp only; omega) | (simp <;> omega)) ?_
  refine .ncall (r := .tuple [.agg [.int .u8 v1.1.Phase, .int .i64 v1.1.Ballot, .ref 10 1 0 v1.1.Members.length (some unkC), .str v1.1.Wish, .str v1.1.Value, .ref 11 3 0 v1.1.Promises.length (some unkC), .ref 12 1 0 v1.1.Accepted.length (some unkC)], .int .i64 v1.2]) (eff := [(10, some (.arr 3 1 true (v1.1.Members.map (D.int .i64)))), (11, some (.arr 31 3 true (v1.1.Promises.map TPromise.d))), (12, some (.arr 3 1 true (v1.1.Accepted.map (D.int .i64))))]) (nw := (10, 20)) [] rfl rfl rfl rfl rfl (lend2s_cons (lend2_of (lend_ref (pl_int .i64) (by first | rfl | (simp only [go_sem, Nat.reduceBEq]; rfl)) (by first | rfl | (simp; done) | (simp <;> omega))) trivial) (lend2s_cons rfl (lend2s_cons rfl lend2s_nil))) rfl (callH_at 10 (Nat.le_of_ble_eq_true rfl) (callH_attempt_Begin [0, 1, 2] 17 [119] v1 hv1)) (newE_cons rfl rfl (newB_arr pl0_i64 _ _ _) (newE_cons rfl rfl (newB_arr pl0_TPromise _ _ _) (newE_cons rfl rfl (newB_arr pl0_i64 _ _ _) newE_nil))) (by intro i hi; simp [D.ids, D.idsL] at hi; omega) rfl ⟨Nat.le_of_ble_eq_true rfl, Nat.le_of_ble_eq_true rfl⟩ ?_
  refine .RN 4 (dr := false) (.inr fun _ _ _ h => ⟨nofun, h.2⟩) (by intro q hq; simp only [go_sem, Nat.reduceSub, Int.reduceEq, Nat.reduceLT, Nat.reduceDiv, Nat.reduceAdd, Nat.reduceBEq, Nat.reduceLeDiff, reduceCtorEq, Nat.reduceEqDiff, Nat.reduceMod, appendD, Try.tm_26, TAttempt.d]; exact hq) (by first | rfl | (simp only [go_sem, Nat.reduceLeDiff]; done) | (simp only [go_sem, Nat.reduceLeDiff]; rfl) | (simp; done) | (simp [oneD] <;> omega) | (simp_all; done) | (simp_all [oneD] <;> omega)) (by first | exact Nat.le_refl _ | exact Nat.le_of_ble_eq_true rfl | (dsimp only; omega) | (simp <;> omega)) ?_
  refine .nil ⟨nofun, ?_⟩
  have hq := Option.some.inj h
  subst r
  refine .ret ⟨⟨[(0, .ptr 3 0), (1, .int .i64 ((v1.1, v1.2).2))], [(0, .arr 3 1 true (((v1.1, v1.2).1.Members).map (D.int .i64))), (1, .arr 31 3 true (((v1.1, v1.2).1.Promises).map TPromise.d)), (2, .arr 3 1 true (((v1.1, v1.2).1.Accepted).map (D.int .i64))), (3, .box [.int .u8 ((v1.1, v1.2).1.Phase), .int .i64 ((v1.1, v1.2).1.Ballot), .ref 0 1 0 (((v1.1, v1.2).1.Members).length) (some unkC), .str ((v1.1, v1.2).1.Wish), .str ((v1.1, v1.2).1.Value), .ref 1 3 0 (((v1.1, v1.2).1.Promises).length) (some unkC), .ref 2 1 0 (((v1.1, v1.2).1.Accepted).length) (some unkC)])], 4⟩, ?_, .inr rfl, retH [2, 1, 0] ?_ ?_⟩
  · skip
    refine Goes.mv [0, 1] [10, 11, 12, 0] [(10, 0), (11, 1), (12, 2), (0, 3)] ?_ (Nat.le_of_ble_eq_true rfl) (Nat.le_of_ble_eq_true rfl) rfl
    first | rfl | (simp only [go_sem, Nat.reduceBEq, Nat.reduceAdd]; done) | (simp only [go_sem, Nat.reduceBEq, Nat.reduceAdd]; rfl)
  · simp only [ResIs, resL, resD, resT, go_sem, Nat.reduceSub, Int.reduceEq, Nat.reduceLT, Nat.reduceDiv, Nat.reduceAdd, Nat.reduceBEq, Nat.reduceLeDiff, reduceCtorEq, Nat.reduceEqDiff, Nat.reduceMod, Try.f172, Try.tm_26, Try.tm_27]
  · rfl

theorem callH_towncrierlaw08_told (r : TAttempt × Bool) (h : m_towncrierlaw08_told  = some r) : CallH Try.prog 77 [] [] (.tuple [.agg [.int .u8 r.1.Phase, .int .i64 r.1.Ballot, .ref 0 1 0 r.1.Members.length (some unkC), .str r.1.Wish, .str r.1.Value, .ref 1 3 0 r.1.Promises.length (some unkC), .ref 2 1 0 r.1.Accepted.length (some unkC)], .bool r.2]) [(0, some (.arr 3 1 true (r.1.Members.map (D.int .i64)))), (1, some (.arr 31 3 true (r.1.Promises.map TPromise.d))), (2, some (.arr 3 1 true (r.1.Accepted.map (D.int .i64))))] (0, 123) := by
  refine callH_intro' Try.tmOk Try.func77 rfl (by decide) (Nat.le_of_ble_eq_true rfl) (by simp) ?_
  intro hwf
  unfold m_towncrierlaw08_told at h
  refine .ends 0 (Nat.le_refl _) ?_
  refine .seq ?_
  refine .plain Try.tmOk Try.tmMixed [] (by decide +kernel) (by intro q hq; simp only [go_sem, Nat.reduceSub, Int.reduceEq, Nat.reduceLT, Nat.reduceDiv, Nat.reduceAdd, Nat.reduceBEq, Nat.reduceLeDiff, reduceCtorEq, Nat.reduceEqDiff, Nat.reduceMod, appendD, Try.tm_26, TAttempt.d]; exact hq) (by first | rfl | (simp only [go_sem, Nat.reduceLeDiff]; done) | (simp only [go_sem, Nat.reduceLeDiff]; rfl) | (simp; done) | (simp [oneD] <;> omega) | (simp_all; done) | (simp_all [oneD] <;> omega)) (by first | exact Nat.le_refl _ | exact Nat.le_of_ble_eq_true rfl | (dsimp only; omega) | (simp <;> omega)) ?_
  refine .seq ?_
  obtain ⟨v1, hv1, h⟩ := bind_some h
  refine .reg Try.tmOk Try.tmMixed [0] (by decide +kernel) ?_
  refine .ncall (r := .tuple [.agg [.int .u8 v1.1.Phase, .int .i64 v1.1.Ballot, .ref 22 1 0 v1.1.Members.length (some unkC), .str v1.1.Wish, .str v1.1.Value, .ref 23 3 0 v1.1.Promises.length (some unkC), .ref 24 1 0 v1.1.Accepted.length (some unkC)], .int .i64 v1.2]) (eff := [(22, some (.arr 3 1 true (v1.1.Members.map (D.int .i64)))), (23, some (.arr 31 3 true (v1.1.Promises.map TPromise.d))), (24, some (.arr 3 1 true (v1.1.Accepted.map (D.int .i64))))]) (nw := (22, 44)) [] rfl rfl rfl rfl rfl lend2s_nil rfl (callH_at 22 (Nat.le_of_ble_eq_true rfl) (callH_towncrierlaw08_begun  v1 hv1)) (newE_cons rfl rfl (newB_arr pl0_i64 _ _ _) (newE_cons rfl rfl (newB_arr pl0_TPromise _ _ _) (newE_cons rfl rfl (newB_arr pl0_i64 _ _ _) newE_nil))) (by intro i hi; simp [D.ids, D.idsL] at hi; omega) rfl ⟨Nat.le_of_ble_eq_true rfl, Nat.le_of_ble_eq_true rfl⟩ ?_
  refine .RN 6 (dr := false) (.inr fun _ _ _ h => ⟨nofun, h.2⟩) (by intro q hq; simp only [go_sem, Nat.reduceSub, Int.reduceEq, Nat.reduceLT, Nat.reduceDiv, Nat.reduceAdd, Nat.reduceBEq, Nat.reduceLeDiff, reduceCtorEq, Nat.reduceEqDiff, Nat.reduceMod, appendD, Try.tm_26, TAttempt.d]; exact hq) (by first | rfl | (simp only [go_sem, Nat.reduceLeDiff]; done) | (simp only [go_sem, Nat.reduceLeDiff]; rfl) | (simp; done) | (simp [oneD] <;> omega) | (simp_all; done) | (simp_all [oneD] <;> omega)) (by first | exact Nat.le_refl _ | exact Nat.le_of_ble_eq_true rfl | (dsimp only; omega) | (simp <;> omega)) ?_
  refine .nil ⟨nofun, ?_⟩
  refine .seq ?_
  obtain ⟨v2, hv2, h⟩ := bind_some h
  refine .reg Try.tmOk Try.tmMixed [0, 2, 3] (by decide +kernel) ?_
  refine .RN 2 (dr := false) (.inr fun _ _ _ h => ⟨nofun, h.2⟩) (by intro q hq; simp only [go_sem, Nat.reduceSub, Int.reduceEq, Nat.reduceLT, Nat.reduceDiv, Nat.reduceAdd, Nat.reduceBEq, Nat.reduceLeDiff, reduceCtorEq, Nat.reduceEqDiff, Nat.reduceMod, appendD, Try.tm_26, Try.tm_31, TAttempt.d, TPromise.d]; exact hq) (by first | rfl | (simp only [go_sem, Nat.reduceLeDiff]; done) | (simp only [go_sem, Nat.reduceLeDiff]; rfl) | (simp; done) | (simp [oneD] <;> omega) | (simp_all; done) | (simp_all [oneD] <;> omega)) (by first | exact Nat.le_refl _ | exact Nat.le_of_ble_eq_true rfl | (dsimp only; omega) | (simp <;> omega)) ?_
  refine .ncall (r := .tuple [.agg [.int .u8 v2.1.Phase, .int .i64 v2.1.Ballot, .ref 45 1 0 v2.1.Members.length (some unkC), .str v2.1.Wish, .str v2.1.Value, .ref 46 3 0 v2.1.Promises.length (some unkC), .ref 47 1 0 v2.1.Accepted.length (some unkC)], .int .i64 v2.2]) (eff := [(45, some (.arr 3 1 true (v2.1.Members.map (D.int .i64)))), (46, some (.arr 31 3 true (v2.1.Promises.map TPromise.d))), (47, some (.arr 3 1 true (v2.1.Accepted.map (D.int .i64))))]) (nw := (45, 83)) [] rfl rfl rfl rfl rfl (lend2s_cons (lend2_of (lend_agg (lends_cons rfl (lends_cons rfl (lends_cons (lend_ref (pl_int .i64) (by first | rfl | (simp only [go_sem, Nat.reduceBEq]; rfl)) (by first | rfl | (simp; done) | (simp <;> omega))) (lends_cons rfl (lends_cons rfl (lends_cons (lend_ref pl_TPromise (by first | rfl | (simp only [go_sem, Nat.reduceBEq]; rfl)) (by first | rfl | (simp; done) | (simp <;> omega))) (lends_cons (lend_ref (pl_int .i64) (by first | rfl | (simp only [go_sem, Nat.reduceBEq]; rfl)) (by first | rfl | (simp; done) | (simp <;> omega))) lends_nil)))))))) trivial) (lend2s_cons rfl (lend2s_cons rfl lend2s_nil))) rfl (callH_at 45 (Nat.le_of_ble_eq_true rfl) (callH_attempt_Promised v1.1 17 (⟨0, 0, []⟩ : TPromise) v2 hv2)) (newE_cons rfl rfl (newB_arr pl0_i64 _ _ _) (newE_cons rfl rfl (newB_arr pl0_TPromise _ _ _) (newE_cons rfl rfl (newB_arr pl0_i64 _ _ _) newE_nil))) (by intro i hi; simp [D.ids, D.idsL] at hi; omega) rfl ⟨Nat.le_of_ble_eq_true rfl, Nat.le_of_ble_eq_true rfl⟩ ?_
  refine .RN 5 (dr := false) (.inr fun _ _ _ h => ⟨nofun, h.2⟩) (by intro q hq; simp only [go_sem, Nat.reduceSub, Int.reduceEq, Nat.reduceLT, Nat.reduceDiv, Nat.reduceAdd, Nat.reduceBEq, Nat.reduceLeDiff, reduceCtorEq, Nat.reduceEqDiff, Nat.reduceMod, appendD, Try.tm_26, TAttempt.d, TPromise.d]; exact hq) (by first | rfl | (simp only [go_sem, Nat.reduceLeDiff]; done) | (simp only [go_sem, Nat.reduceLeDiff]; rfl) | (simp; done) | (simp [oneD] <;> omega) | (simp_all; done) | (simp_all [oneD] <;> omega)) (by first | exact Nat.le_refl _ | exact Nat.le_of_ble_eq_true rfl | (dsimp only; omega) | (simp <;> omega)) ?_
  refine .nil ⟨nofun, ?_⟩
  refine .seq ?_
  obtain ⟨v3, hv3, h⟩ := bind_some h
  refine .reg Try.tmOk Try.tmMixed [0, 2, 3, 4] (by decide +kernel) ?_
  refine .RN 2 (dr := false) (.inr fun _ _ _ h => ⟨nofun, h.2⟩) (by intro q hq; simp only [go_sem, Nat.reduceSub, Int.reduceEq, Nat.reduceLT, Nat.reduceDiv, Nat.reduceAdd, Nat.reduceBEq, Nat.reduceLeDiff, reduceCtorEq, Nat.reduceEqDiff, Nat.reduceMod, appendD, Try.tm_26, Try.tm_31, TAttempt.d, TPromise.d]; exact hq) (by first | rfl | (simp only [go_sem, Nat.reduceLeDiff]; done) | (simp only [go_sem, Nat.reduceLeDiff]; rfl) | (simp; done) | (simp [oneD] <;> omega) | (simp_all; done) | (simp_all [oneD] <;> omega)) (by first | exact Nat.le_refl _ | exact Nat.le_of_ble_eq_true rfl | (dsimp only; omega) | (simp <;> omega)) ?_
  refine .ncall (r := .tuple [.agg [.int .u8 v3.1.Phase, .int .i64 v3.1.Ballot, .ref 83 1 0 v3.1.Members.length (some unkC), .str v3.1.Wish, .str v3.1.Value, .ref 84 3 0 v3.1.Promises.length (some unkC), .ref 85 1 0 v3.1.Accepted.length (some unkC)], .int .i64 v3.2]) (eff := [(83, some (.arr 3 1 true (v3.1.Members.map (D.int .i64)))), (84, some (.arr 31 3 true (v3.1.Promises.map TPromise.d))), (85, some (.arr 3 1 true (v3.1.Accepted.map (D.int .i64))))]) (nw := (83, 121)) [] rfl rfl rfl rfl rfl (lend2s_cons (lend2_of (lend_agg (lends_cons rfl (lends_cons rfl (lends_cons (lend_ref (pl_int .i64) (by first | rfl | (simp only [go_sem, Nat.reduceBEq]; rfl)) (by first | rfl | (simp; done) | (simp <;> omega))) (lends_cons rfl (lends_cons rfl (lends_cons (lend_ref pl_TPromise (by first | rfl | (simp only [go_sem, Nat.reduceBEq]; rfl)) (by first | rfl | (simp; done) | (simp <;> omega))) (lends_cons (lend_ref (pl_int .i64) (by first | rfl | (simp only [go_sem, Nat.reduceBEq]; rfl)) (by first | rfl | (simp; done) | (simp <;> omega))) lends_nil)))))))) trivial) (lend2s_cons rfl (lend2s_cons rfl lend2s_nil))) rfl (callH_at 83 (Nat.le_of_ble_eq_true rfl) (callH_attempt_Promised v2.1 17 (⟨2, 8, [120]⟩ : TPromise) v3 hv3)) (newE_cons rfl rfl (newB_arr pl0_i64 _ _ _) (newE_cons rfl rfl (newB_arr pl0_TPromise _ _ _) (newE_cons rfl rfl (newB_arr pl0_i64 _ _ _) newE_nil))) (by intro i hi; simp [D.ids, D.idsL] at hi; omega) rfl ⟨Nat.le_of_ble_eq_true rfl, Nat.le_of_ble_eq_true rfl⟩ ?_
  refine .RN 5 (dr := false) (.inr fun _ _ _ h => ⟨nofun, h.2⟩) (by intro q hq; simp only [go_sem, Nat.reduceSub, Int.reduceEq, Nat.reduceLT, Nat.reduceDiv, Nat.reduceAdd, Nat.reduceBEq, Nat.reduceLeDiff, reduceCtorEq, Nat.reduceEqDiff, Nat.reduceMod, appendD, Try.tm_26, TAttempt.d, TPromise.d]; exact hq) (by first | rfl | (simp only [go_sem, Nat.reduceLeDiff]; done) | (simp only [go_sem, Nat.reduceLeDiff]; rfl) | (simp; done) | (simp [oneD] <;> omega) | (simp_all; done) | (simp_all [oneD] <;> omega)) (by first | exact Nat.le_refl _ | exact Nat.le_of_ble_eq_true rfl | (dsimp only; omega) | (simp <;> omega)) ?_
  refine .nil ⟨nofun, ?_⟩
  refine .seq ?_
  refine .reg Try.tmOk Try.tmMixed [0, 2, 3, 4, 5] (by decide +kernel) ?_
  refine .RN 6 (dr := false) (.inr fun _ _ _ h => ⟨nofun, h.2⟩) (by intro q hq; simp only [go_sem, Nat.reduceSub, Int.reduceEq, Nat.reduceLT, Nat.reduceDiv, Nat.reduceAdd, Nat.reduceBEq, Nat.reduceLeDiff, reduceCtorEq, Nat.reduceEqDiff, Nat.reduceMod, appendD, Try.tm_26, Try.tm_27, TAttempt.d]; exact hq) (by first | rfl | (simp only [go_sem, Nat.reduceLeDiff]; done) | (simp only [go_sem, Nat.reduceLeDiff]; rfl) | (simp; done) | (simp [oneD] <;> omega) | (simp_all; done) | (simp_all [oneD] <;> omega)) (by first | exact Nat.le_refl _ | exact Nat.le_of_ble_eq_true rfl | (dsimp only; omega) | (simp <;> omega)) ?_
  refine .RN 7 (dr := false) (.inr fun _ _ _ h => ⟨nofun, h.2⟩) (by intro q hq; simp only [go_sem, Nat.reduceSub, Int.reduceEq, Nat.reduceLT, Nat.reduceDiv, Nat.reduceAdd, Nat.reduceBEq, Nat.reduceLeDiff, reduceCtorEq, Nat.reduceEqDiff, Nat.reduceMod, appendD, Try.tm_26, Try.tm_27, TAttempt.d]; exact hq) (by first | rfl | (simp only [go_sem, Nat.reduceLeDiff]; done) | (simp only [go_sem, Nat.reduceLeDiff]; rfl) | (simp; done) | (simp [oneD] <;> omega) | (simp_all; done) | (simp_all [oneD] <;> omega)) (by first | exact Nat.le_refl _ | exact Nat.le_of_ble_eq_true rfl | (dsimp only; omega) | (simp <;> omega)) ?_
  refine .nil ⟨nofun, ?_⟩
  have hq := Option.some.inj h
  subst r
  refine .ret ⟨⟨[(0, .ptr 3 0), (1, .bool ((v3.1, (((v1.2 == 0) && (v2.2 == 0)) && (v3.2 == 0))).2))], [(0, .arr 3 1 true (((v3.1, (((v1.2 == 0) && (v2.2 == 0)) && (v3.2 == 0))).1.Members).map (D.int .i64))), (1, .arr 31 3 true (((v3.1, (((v1.2 == 0) && (v2.2 == 0)) && (v3.2 == 0))).1.Promises).map TPromise.d)), (2, .arr 3 1 true (((v3.1, (((v1.2 == 0) && (v2.2 == 0)) && (v3.2 == 0))).1.Accepted).map (D.int .i64))), (3, .box [.int .u8 ((v3.1, (((v1.2 == 0) && (v2.2 == 0)) && (v3.2 == 0))).1.Phase), .int .i64 ((v3.1, (((v1.2 == 0) && (v2.2 == 0)) && (v3.2 == 0))).1.Ballot), .ref 0 1 0 (((v3.1, (((v1.2 == 0) && (v2.2 == 0)) && (v3.2 == 0))).1.Members).length) (some unkC), .str ((v3.1, (((v1.2 == 0) && (v2.2 == 0)) && (v3.2 == 0))).1.Wish), .str ((v3.1, (((v1.2 == 0) && (v2.2 == 0)) && (v3.2 == 0))).1.Value), .ref 1 3 0 (((v3.1, (((v1.2 == 0) && (v2.2 == 0)) && (v3.2 == 0))).1.Promises).length) (some unkC), .ref 2 1 0 (((v3.1, (((v1.2 == 0) && (v2.2 == 0)) && (v3.2 == 0))).1.Accepted).length) (some unkC)])], 4⟩, ?_, .inr rfl, retH [2, 1, 0] ?_ ?_⟩
  · skip
    refine Goes.mv [0, 1] [83, 84, 85, 0] [(83, 0), (84, 1), (85, 2), (0, 3)] ?_ (Nat.le_of_ble_eq_true rfl) (Nat.le_of_ble_eq_true rfl) rfl
    first | rfl | (simp only [go_sem, Nat.reduceBEq, Nat.reduceAdd]; done) | (simp only [go_sem, Nat.reduceBEq, Nat.reduceAdd]; rfl)
  · simp only [ResIs, resL, resD, resT, go_sem, Nat.reduceSub, Int.reduceEq, Nat.reduceLT, Nat.reduceDiv, Nat.reduceAdd, Nat.reduceBEq, Nat.reduceLeDiff, reduceCtorEq, Nat.reduceEqDiff, Nat.reduceMod, Try.f77, Try.tm_4, Try.tm_26]
  · rfl

theorem callP_towncrierlaw08_alive (r : Bool) (h : m_towncrierlaw08_alive  = some r) : CallP Try.prog 15 [] (.bool r) := by
  refine callP_intro Try.tmOk 249 Try.func15 rfl (by decide) rfl rfl (Nat.le_of_ble_eq_true rfl) ?_
  intro hwf
  unfold m_towncrierlaw08_alive at h
  refine .seq ?_
  refine .plain Try.tmOk Try.tmMixed [] (by decide +kernel) (by intro q hq; simp only [go_sem, Nat.reduceSub, Int.reduceEq, Nat.reduceLT, Nat.reduceDiv, Nat.reduceAdd, Nat.reduceBEq, Nat.reduceLeDiff, reduceCtorEq, Nat.reduceEqDiff, Nat.reduceMod, appendD]; exact hq) (by first | rfl | (simp only [go_sem, Nat.reduceLeDiff]; done) | (simp only [go_sem, Nat.reduceLeDiff]; rfl) | (simp; done) | (simp [oneD] <;> omega) | (simp_all; done) | (simp_all [oneD] <;> omega)) (by first | exact Nat.le_refl _ | exact Nat.le_of_ble_eq_true rfl | (dsimp only; omega) | (simp <;> omega)) ?_
  refine .seq ?_
  obtain ⟨v1, hv1, h⟩ := bind_some h
  refine .reg Try.tmOk Try.tmMixed [] (by decide +kernel) ?_
  refine .ncall (r := .tuple [.agg [.int .u8 v1.1.Phase, .int .i64 v1.1.Ballot, .ref 123 1 0 v1.1.Members.length (some unkC), .str v1.1.Wish, .str v1.1.Value, .ref 124 3 0 v1.1.Promises.length (some unkC), .ref 125 1 0 v1.1.Accepted.length (some unkC)], .bool v1.2]) (eff := [(123, some (.arr 3 1 true (v1.1.Members.map (D.int .i64)))), (124, some (.arr 31 3 true (v1.1.Promises.map TPromise.d))), (125, some (.arr 3 1 true (v1.1.Accepted.map (D.int .i64))))]) (nw := (123, 246)) [] rfl rfl rfl rfl rfl lend2s_nil rfl (callH_at 123 (Nat.le_of_ble_eq_true rfl) (callH_towncrierlaw08_told  v1 hv1)) (newE_cons rfl rfl (newB_arr pl0_i64 _ _ _) (newE_cons rfl rfl (newB_arr pl0_TPromise _ _ _) (newE_cons rfl rfl (newB_arr pl0_i64 _ _ _) newE_nil))) (by intro i hi; simp [D.ids, D.idsL] at hi; omega) rfl ⟨Nat.le_of_ble_eq_true rfl, Nat.le_of_ble_eq_true rfl⟩ ?_
  refine .RN 6 (dr := false) (.inr fun _ _ _ h => ⟨nofun, h.2⟩) (by intro q hq; simp only [go_sem, Nat.reduceSub, Int.reduceEq, Nat.reduceLT, Nat.reduceDiv, Nat.reduceAdd, Nat.reduceBEq, Nat.reduceLeDiff, reduceCtorEq, Nat.reduceEqDiff, Nat.reduceMod, appendD, Try.tm_26, TAttempt.d]; exact hq) (by first | rfl | (simp only [go_sem, Nat.reduceLeDiff]; done) | (simp only [go_sem, Nat.reduceLeDiff]; rfl) | (simp; done) | (simp [oneD] <;> omega) | (simp_all; done) | (simp_all [oneD] <;> omega)) (by first | exact Nat.le_refl _ | exact Nat.le_of_ble_eq_true rfl | (dsimp only; omega) | (simp <;> omega)) ?_
  refine .nil ⟨nofun, ?_⟩
  refine .seq ?_
  refine .reg Try.tmOk Try.tmMixed [1, 2] (by decide +kernel) ?_
  refine .RN 6 (dr := false) (.inr fun _ _ _ h => ⟨nofun, h.2⟩) (by intro q hq; simp only [go_sem, Nat.reduceSub, Int.reduceEq, Nat.reduceLT, Nat.reduceDiv, Nat.reduceAdd, Nat.reduceBEq, Nat.reduceLeDiff, reduceCtorEq, Nat.reduceEqDiff, Nat.reduceMod, appendD, Try.tm_5, Try.tm_26, TAttempt.d]; exact hq) (by first | rfl | (simp only [go_sem, Nat.reduceLeDiff]; done) | (simp only [go_sem, Nat.reduceLeDiff]; rfl) | (simp; done) | (simp [oneD] <;> omega) | (simp_all; done) | (simp_all [oneD] <;> omega)) (by first | exact Nat.le_refl _ | exact Nat.le_of_ble_eq_true rfl | (dsimp only; omega) | (simp <;> omega)) ?_
  refine .RN 6 (dr := false) (.inr fun _ _ _ h => ⟨nofun, h.2⟩) (by intro q hq; simp only [go_sem, Nat.reduceSub, Int.reduceEq, Nat.reduceLT, Nat.reduceDiv, Nat.reduceAdd, Nat.reduceBEq, Nat.reduceLeDiff, reduceCtorEq, Nat.reduceEqDiff, Nat.reduceMod, appendD, Try.tm_9, Try.tm_26, TAttempt.d]; exact hq) (by first | rfl | (simp only [go_sem, Nat.reduceLeDiff]; done) | (simp only [go_sem, Nat.reduceLeDiff]; rfl) | (simp; done) | (simp [oneD] <;> omega) | (simp_all; done) | (simp_all [oneD] <;> omega)) (by first | exact Nat.le_refl _ | exact Nat.le_of_ble_eq_true rfl | (dsimp only; omega) | (simp <;> omega)) ?_
  refine .nil ⟨nofun, ?_⟩
  have hq := Option.some.inj h
  subst r
  refine .ret ⟨.inr rfl, ResIs.to ?_⟩
  simp only [ResIs, resL, resD, resT, go_sem, Nat.reduceSub, Int.reduceEq, Nat.reduceLT, Nat.reduceDiv, Nat.reduceAdd, Nat.reduceBEq, Nat.reduceLeDiff, reduceCtorEq, Nat.reduceEqDiff, Nat.reduceMod, Try.f15, Try.tm_4]
end Go.Proofs
end
section
/- Models of functions, printed by gw.py. -/








namespace Go.Proofs
open Go.Tm

def m_towncrierlaw08_AttemptChosen_loop1 (ballot : Int) : List Int → Int → Int → (List Int) → (List UInt8) → (List UInt8) → (List TPromise) → (List Int) → (List Int) → Option (Bool ⊕ (Int × Int × (List Int) × (List UInt8) × (List UInt8) × (List TPromise) × (List Int) × (List Int)))
  | [], n3, n4, l5, s3, s4, l6, l7, l8 =>
    some (.inr (n3, n4, l5, s3, s4, l6, l7, l8))
  | y1 :: rest1, n3, n4, l5, s3, s4, l6, l7, l8 =>
    Option.bind (α := Bool ⊕ (Int × Int × (List Int) × (List UInt8) × (List UInt8) × (List TPromise) × (List Int) × (List Int))) (Option.bind (m_attempt_Accepted (⟨n3, n4, l5, s3, s4, l6, l7⟩ : TAttempt) ballot (y1)) fun v4 =>
    if ¬ (v4.2 = 0) then
    some (.inr (n3, n4, l5, s3, s4, l6, l7, l8))
    else
    if l8.length + [y1].length < 1000000 then
    Option.bind (m_attempt_Check v4.1) fun v5 =>
    Option.bind (if ¬ (((((¬ (v5 = 0)) ∨ (v4.1.Phase < n3)) ∨ (¬ (v4.1.Ballot = n4))) ∨ (¬ (v4.1.Value = s4))) ∨ (¬ (v4.1.Wish = s3))) then m_towncrierlaw08_same v4.1.Members l5 else some default) fun v6 =>
    if (((((¬ (v5 = 0)) ∨ (v4.1.Phase < n3)) ∨ (¬ (v4.1.Ballot = n4))) ∨ (¬ (v4.1.Value = s4))) ∨ (¬ (v4.1.Wish = s3))) ∨ (¬ (v6 = true)) then
    some (.inl false)
    else
    some (.inr (v4.1.Phase, v4.1.Ballot, v4.1.Members, v4.1.Wish, v4.1.Value, v4.1.Promises, v4.1.Accepted, (l8 ++ [y1])))
    else none) fun z => match z with
    | (.inl r) => some (.inl r)
    | (.inr (n6, n7, l9, s5, s6, l10, l11, l12)) =>
    m_towncrierlaw08_AttemptChosen_loop1 ballot rest1 n6 n7 l9 s5 s6 l10 l11 l12
def m_towncrierlaw08_AttemptChosen (a : TAttempt) (ballot : Int) (l : List Int) : Option Bool :=
  Option.bind (m_towncrierlaw08_alive ) fun v1 =>
  if ¬ (v1 = true) then
  some false
  else
  Option.bind (m_towncrierref08_Great a) fun v2 =>
  Option.bind (if ¬ ((v2 = true) ∨ ((l.length : Int) > 50)) then m_attempt_Check a else some default) fun v3 =>
  if ((v2 = true) ∨ ((l.length : Int) > 50)) ∨ (¬ (v3 = 0)) then
  some v1
  else
  if a.Accepted.length < 1000000 then
  Option.bind (α := Bool ⊕ (Int × Int × (List Int) × (List UInt8) × (List UInt8) × (List TPromise) × (List Int) × (List Int))) (m_towncrierlaw08_AttemptChosen_loop1 ballot l a.Phase a.Ballot a.Members a.Wish a.Value a.Promises a.Accepted a.Accepted) fun z => match z with
  | (.inl r) => some r
  | (.inr (n1, n2, l1, s1, s2, l2, l3, l4)) =>
  if a.Phase < 2 then
  Option.bind (if v1 = true then m_towncrierref08_Same (⟨n1, n2, l1, s1, s2, l2, l3⟩ : TAttempt) a else some default) fun v7 =>
  some (v1 && v7)
  else
  Option.bind (m_quorum_Most l1 l4) fun v8 =>
  some ((v1 && (v8.2 == 0)) && (v8.1 == (n1 == 3)))
  else none
end Go.Proofs
end
section
/- The walks of functions, printed by gw.py. -/










namespace Go.Proofs
open Go.Tm Go.RowKit Go.WideShapes
set_option maxRecDepth 100000
set_option maxHeartbeats 4000000
set_option linter.unusedSimpArgs false
set_option linter.unusedVariables false
attribute [local go_sem] argVars runE runK isCallV stepE aop opd opdsL opds opdO ev ofVal keep List.any Nat.beq Bool.false_or Bool.true_or aggEq cond_true cond_false Bool.cond_false_right Bool.cond_true_left beq_true beq_false imp_self implies_true getR getL put St.app effL del nwB blt_dec Nat.lt_irrefl Nat.lt_add_one ble_dec Nat.le_refl Nat.beq_refl roomNZ appendIn capS capK mkZ_zero mkZL_zero zeroEl D.ids D.idsL Option.getD bin arith sarith binT dpick Tm.part splice fillD oneD loadD storeD srcD sliceD idxOk decide_true gval dstAt D.cells List.map_cons List.map_nil List.take List.drop List.length_map List.append Int.toNat_natCast and_true true_and decide_false List.length_cons List.length_nil List.append_nil List.nil_append Bool.and_true Bool.true_and Bool.not_false Bool.not_true ne_eq not_false_eq_true BEq.rfl List.getElem?_cons_zero List.getElem?_cons_succ List.getElem?_nil Nat.zero_add List.all_cons List.all_nil List.isEmpty_cons List.isEmpty_nil List.any_cons List.any_nil List.drop_succ_cons List.drop_zero unfL unf okM okML low3 List.cons_append true_or or_true Nat.zero_mul Nat.zero_le fpOf opIds mvV mvH mvF pickL D.ren D.renL Blk.ren List.map_append List.length_append Bool.not_not Bool.or_not_self Bool.not_or_self Bool.or_true

def Try.St_towncrierlaw08_AttemptChosen_1 (a : TAttempt) (v1 : Bool) (n1 : Int) (n2 : Int) (l1 : List Int) (s1 : List UInt8) (s2 : List UInt8) (l2 : List TPromise) (l3 : List Int) (l4 : List Int) : St := ⟨[(3, .ptr 0 0), (7, .bool v1), (8, .ptr 1 0), (9, .ref 3 1 0 l4.length (some unkC))], [(0, .box [.int .u8 n1, .int .i64 n2, .imm 1 (l1.map (D.int .i64)) 4, .str s1, .str s2, .imm 3 (l2.map TPromise.d) 4, .imm 1 (l3.map (D.int .i64)) 4]), (1, .box [.int .u8 a.Phase, .int .i64 a.Ballot, .imm 1 (a.Members.map (D.int .i64)) 4, .str a.Wish, .str a.Value, .imm 3 (a.Promises.map TPromise.d) 4, .imm 1 (a.Accepted.map (D.int .i64)) 4]), (3, .arr 3 1 true (l4.map (D.int .i64)))], 4⟩
attribute [local go_sem] Try.St_towncrierlaw08_AttemptChosen_1
def Try.St_towncrierlaw08_AttemptChosen_3 (a : TAttempt) (ballot : Int) (l : List Int) (v1 : Bool) (n5 : Nat) (n3 : Int) (n4 : Int) (l5 : List Int) (s3 : List UInt8) (s4 : List UInt8) (l6 : List TPromise) (l7 : List Int) (l8 : List Int) : St := ⟨[(1, .int .i64 ballot), (2, .imm 1 (l.map (D.int .i64)) 4), (3, .ptr 0 0), (7, .bool v1), (8, .ptr 1 0), (9, .ref 3 1 0 l8.length (some unkC)), (10, .int .i64 (n5 : Int))], [(0, .box [.int .u8 n3, .int .i64 n4, .imm 1 (l5.map (D.int .i64)) 4, .str s3, .str s4, .imm 3 (l6.map TPromise.d) 4, .imm 1 (l7.map (D.int .i64)) 4]), (1, .box [.int .u8 a.Phase, .int .i64 a.Ballot, .imm 1 (a.Members.map (D.int .i64)) 4, .str a.Wish, .str a.Value, .imm 3 (a.Promises.map TPromise.d) 4, .imm 1 (a.Accepted.map (D.int .i64)) 4]), (3, .arr 3 1 true (l8.map (D.int .i64)))], 4⟩
attribute [local go_sem] Try.St_towncrierlaw08_AttemptChosen_3
def Try.St_towncrierlaw08_AttemptChosen_5 (a : TAttempt) (ballot : Int) (l : List Int) (v1 : Bool) (n5 : Nat) (n6 : Int) (n7 : Int) (l9 : List Int) (s5 : List UInt8) (s6 : List UInt8) (l10 : List TPromise) (l11 : List Int) (l12 : List Int) : St := ⟨[(1, .int .i64 ballot), (2, .imm 1 (l.map (D.int .i64)) 4), (3, .ptr 0 0), (7, .bool v1), (8, .ptr 1 0), (9, .ref 4 1 0 l12.length (some unkC)), (10, .int .i64 (n5 : Int))], [(0, .box [.int .u8 n6, .int .i64 n7, .imm 1 (l9.map (D.int .i64)) 4, .str s5, .str s6, .imm 3 (l10.map TPromise.d) 4, .imm 1 (l11.map (D.int .i64)) 4]), (1, .box [.int .u8 a.Phase, .int .i64 a.Ballot, .imm 1 (a.Members.map (D.int .i64)) 4, .str a.Wish, .str a.Value, .imm 3 (a.Promises.map TPromise.d) 4, .imm 1 (a.Accepted.map (D.int .i64)) 4]), (4, .arr 3 1 true (l12.map (D.int .i64)))], 5⟩
attribute [local go_sem] Try.St_towncrierlaw08_AttemptChosen_5
theorem callP_towncrierlaw08_AttemptChosen (a : TAttempt) (ballot : Int) (l : List Int) (r : Bool) (h : m_towncrierlaw08_AttemptChosen a ballot l = some r) : CallP Try.prog 5 [.agg [.int .u8 a.Phase, .int .i64 a.Ballot, .imm 1 (a.Members.map (D.int .i64)) 4, .str a.Wish, .str a.Value, .imm 3 (a.Promises.map TPromise.d) 4, .imm 1 (a.Accepted.map (D.int .i64)) 4], .int .i64 ballot, .imm 1 (l.map (D.int .i64)) 4] (.bool r) := by
  refine callP_intro Try.tmOk 9 Try.func5 rfl (by decide) rfl rfl (Nat.le_of_ble_eq_true rfl) ?_
  intro hwf
  unfold m_towncrierlaw08_AttemptChosen at h
  refine .seq ?_
  refine .plain Try.tmOk Try.tmMixed [0, 1, 2] (by decide +kernel) (by intro q hq; simp only [go_sem, Nat.reduceSub, Int.reduceEq, Nat.reduceLT, Nat.reduceDiv, Nat.reduceAdd, Nat.reduceBEq, Nat.reduceLeDiff, reduceCtorEq, Nat.reduceEqDiff, Nat.reduceMod, appendD, Try.tm_26, TAttempt.d]; exact hq) (by first | rfl | (simp only [go_sem, Nat.reduceLeDiff]; done) | (simp only [go_sem, Nat.reduceLeDiff]; rfl) | (simp; done) | (simp [oneD] <;> omega) | (simp_all; done) | (simp_all [oneD] <;> omega)) (by first | exact Nat.le_refl _ | exact Nat.le_of_ble_eq_true rfl | (dsimp only; omega) | (simp <;> omega)) ?_
  refine .seq ?_
  obtain ⟨v1, hv1, h⟩ := bind_some h
  refine .reg Try.tmOk Try.tmMixed [1, 2, 3] (by decide +kernel) ?_
  refine .call (r := .bool v1) rfl rfl rfl rfl rfl rfl (callP_towncrierlaw08_alive  v1 hv1) ?_
  refine .RN 1 (dr := false) (.inr fun _ _ _ h => ⟨nofun, h.2⟩) (by intro q hq; simp only [go_sem, Nat.reduceSub, Int.reduceEq, Nat.reduceLT, Nat.reduceDiv, Nat.reduceAdd, Nat.reduceBEq, Nat.reduceLeDiff, reduceCtorEq, Nat.reduceEqDiff, Nat.reduceMod, appendD]; exact hq) (by first | rfl | (simp only [go_sem, Nat.reduceLeDiff]; done) | (simp only [go_sem, Nat.reduceLeDiff]; rfl) | (simp; done) | (simp [oneD] <;> omega) | (simp_all; done) | (simp_all [oneD] <;> omega)) (by first | exact Nat.le_refl _ | exact Nat.le_of_ble_eq_true rfl | (dsimp only; omega) | (simp <;> omega)) ?_
  refine .nil ⟨nofun, ?_⟩
  refine .seq ?_
  refine .seq ?_
  refine .plain Try.tmOk Try.tmMixed [1, 2, 3, 7] (by decide +kernel) (by intro q hq; simp only [go_sem, Nat.reduceSub, Int.reduceEq, Nat.reduceLT, Nat.reduceDiv, Nat.reduceAdd, Nat.reduceBEq, Nat.reduceLeDiff, reduceCtorEq, Nat.reduceEqDiff, Nat.reduceMod, appendD]; exact hq) (by first | rfl | (simp only [go_sem, Nat.reduceLeDiff]; done) | (simp only [go_sem, Nat.reduceLeDiff]; rfl) | (simp; done) | (simp [oneD] <;> omega) | (simp_all; done) | (simp_all [oneD] <;> omega)) (by first | exact Nat.le_refl _ | exact Nat.le_of_ble_eq_true rfl | (dsimp only; omega) | (simp <;> omega)) ?_
  refine .cond rfl rfl (fun hc1 => ?_) (fun hc1 => ?_)
  · skip
    replace h := ite_l h (by first | simpa using hc1 | (simp at hc1 ⊢; omega) | (simp at hc1 ⊢; grind) | grind)
    refine .seq ?_
    refine .plain Try.tmOk Try.tmMixed [] (by decide +kernel) (by intro q hq; simp only [go_sem, Nat.reduceSub, Int.reduceEq, Nat.reduceLT, Nat.reduceDiv, Nat.reduceAdd, Nat.reduceBEq, Nat.reduceLeDiff, reduceCtorEq, Nat.reduceEqDiff, Nat.reduceMod, appendD]; exact hq) (by first | rfl | (simp only [go_sem, Nat.reduceLeDiff]; done) | (simp only [go_sem, Nat.reduceLeDiff]; rfl) | (simp; done) | (simp [oneD] <;> omega) | (simp_all; done) | (simp_all [oneD] <;> omega)) (by first | exact Nat.le_refl _ | exact Nat.le_of_ble_eq_true rfl | (dsimp only; omega) | (simp <;> omega)) ?_
    have hq := Option.some.inj h
    subst r
    refine .ret ⟨.inr rfl, ResIs.to ?_⟩
    simp only [ResIs, resL, resD, resT, go_sem, Nat.reduceSub, Int.reduceEq, Nat.reduceLT, Nat.reduceDiv, Nat.reduceAdd, Nat.reduceBEq, Nat.reduceLeDiff, reduceCtorEq, Nat.reduceEqDiff, Nat.reduceMod, Try.f5, Try.tm_4]
  · skip
    replace h := ite_r h (by first | simpa using hc1 | (simp at hc1 ⊢; omega) | (simp at hc1 ⊢; grind) | grind)
    refine .skip ?_
    refine .seq ?_
    refine .seq ?_
    obtain ⟨v2, hv2, h⟩ := bind_some h
    obtain ⟨v3, hv3, h⟩ := bind_some h
    refine .reg Try.tmOk Try.tmMixed [1, 2, 3, 7] (by decide +kernel) ?_
    refine .RN 1 (dr := false) (.inr fun _ _ _ h => ⟨nofun, h.2⟩) (by intro q hq; simp only [go_sem, Nat.reduceSub, Int.reduceEq, Nat.reduceLT, Nat.reduceDiv, Nat.reduceAdd, Nat.reduceBEq, Nat.reduceLeDiff, reduceCtorEq, Nat.reduceEqDiff, Nat.reduceMod, appendD, Try.tm_26, TAttempt.d]; exact hq) (by first | rfl | (simp only [go_sem, Nat.reduceLeDiff]; done) | (simp only [go_sem, Nat.reduceLeDiff]; rfl) | (simp; done) | (simp [oneD] <;> omega) | (simp_all; done) | (simp_all [oneD] <;> omega)) (by first | exact Nat.le_refl _ | exact Nat.le_of_ble_eq_true rfl | (dsimp only; omega) | (simp <;> omega)) ?_
    refine .call (r := .bool v2) rfl rfl rfl rfl rfl rfl (callP_towncrierref08_Great a v2 hv2) ?_
    refine .RN 7 (dr := false) (.inr fun _ _ _ h => ⟨nofun, h.2⟩) (by intro q hq; simp only [go_sem, Nat.reduceSub, Int.reduceEq, Nat.reduceLT, Nat.reduceDiv, Nat.reduceAdd, Nat.reduceBEq, Nat.reduceLeDiff, reduceCtorEq, Nat.reduceEqDiff, Nat.reduceMod, appendD, Try.tm_3, Try.tm_22, Try.tm_26, TAttempt.d]; exact hq) (by first | rfl | (simp only [go_sem, Nat.reduceLeDiff]; done) | (simp only [go_sem, Nat.reduceLeDiff]; rfl) | (simp; done) | (simp [oneD] <;> omega) | (simp_all; done) | (simp_all [oneD] <;> omega)) (by first | exact Nat.le_refl _ | exact Nat.le_of_ble_eq_true rfl | (dsimp only; omega) | (simp <;> omega)) ?_
    refine .gcall (r := .int .i64 v3) rfl rfl rfl rfl rfl (fun hg => ⟨[], [.agg [.int .u8 a.Phase, .int .i64 a.Ballot, .imm 1 (a.Members.map (D.int .i64)) 4, .str a.Wish, .str a.Value, .imm 3 (a.Promises.map TPromise.d) 4, .imm 1 (a.Accepted.map (D.int .i64)) 4]], _, rfl, (by first | (simp only [opds, opd, ev, ofVal, getR, getL, Nat.beq, cond_true, cond_false, Bool.not_true, Bool.false_or, Bool.and_true, Bool.true_and, Prod.mk.injEq, true_and]; done) | (simp only [opds, opd, ev, ofVal, getR, getL, Nat.beq, cond_true, cond_false, Bool.not_true, Bool.false_or, Bool.and_true, Bool.true_and, Prod.mk.injEq, true_and]; first | exact hg | simpa using hg | (simp at hg ⊢; grind)) | rfl), rfl, (callP_attempt_Check a v3 (ite_l hv3 (by first | simpa using hg | (simp at hg ⊢; omega) | (simp at hg ⊢; grind) | grind)))⟩) ?_
    refine .RN 2 (dr := false) (.inr fun _ _ _ h => ⟨nofun, h.2⟩) (by intro q hq; simp only [go_sem, Nat.reduceSub, Int.reduceEq, Nat.reduceLT, Nat.reduceDiv, Nat.reduceAdd, Nat.reduceBEq, Nat.reduceLeDiff, reduceCtorEq, Nat.reduceEqDiff, Nat.reduceMod, appendD, Try.tm_27, TAttempt.d]; exact hq) (by first | rfl | (simp only [go_sem, Nat.reduceLeDiff]; done) | (simp only [go_sem, Nat.reduceLeDiff]; rfl) | (simp; done) | (simp [oneD] <;> omega) | (simp_all; done) | (simp_all [oneD] <;> omega)) (by first | exact Nat.le_refl _ | exact Nat.le_of_ble_eq_true rfl | (dsimp only; omega) | (simp <;> omega)) ?_
    refine .nil ⟨nofun, ?_⟩
    refine .cond rfl rfl (fun hc2 => ?_) (fun hc2 => ?_)
    · skip
      replace h := ite_l h (by first | simpa using hc2 | (simp at hc2 ⊢; omega) | (simp at hc2 ⊢; grind) | grind)
      refine .seq ?_
      refine .plain Try.tmOk Try.tmMixed [7] (by decide +kernel) (by intro q hq; simp only [go_sem, Nat.reduceSub, Int.reduceEq, Nat.reduceLT, Nat.reduceDiv, Nat.reduceAdd, Nat.reduceBEq, Nat.reduceLeDiff, reduceCtorEq, Nat.reduceEqDiff, Nat.reduceMod, appendD]; exact hq) (by first | rfl | (simp only [go_sem, Nat.reduceLeDiff]; done) | (simp only [go_sem, Nat.reduceLeDiff]; rfl) | (simp; done) | (simp [oneD] <;> omega) | (simp_all; done) | (simp_all [oneD] <;> omega)) (by first | exact Nat.le_refl _ | exact Nat.le_of_ble_eq_true rfl | (dsimp only; omega) | (simp <;> omega)) ?_
      have hq := Option.some.inj h
      subst r
      refine .ret ⟨.inr rfl, ResIs.to ?_⟩
      simp only [ResIs, resL, resD, resT, go_sem, Nat.reduceSub, Int.reduceEq, Nat.reduceLT, Nat.reduceDiv, Nat.reduceAdd, Nat.reduceBEq, Nat.reduceLeDiff, reduceCtorEq, Nat.reduceEqDiff, Nat.reduceMod, Try.f5, Try.tm_4]
    · skip
      replace h := ite_r h (by first | simpa using hc2 | (simp at hc2 ⊢; omega) | (simp at hc2 ⊢; grind) | grind)
      refine .skip ?_
      refine .seq ?_
      refine .plain Try.tmOk Try.tmMixed [1, 2, 3, 7] (by decide +kernel) (by intro q hq; simp only [go_sem, Nat.reduceSub, Int.reduceEq, Nat.reduceLT, Nat.reduceDiv, Nat.reduceAdd, Nat.reduceBEq, Nat.reduceLeDiff, reduceCtorEq, Nat.reduceEqDiff, Nat.reduceMod, appendD, Try.tm_26, TAttempt.d]; exact hq) (by first | rfl | (simp only [go_sem, Nat.reduceLeDiff]; done) | (simp only [go_sem, Nat.reduceLeDiff]; rfl) | (simp; done) | (simp [oneD] <;> omega) | (simp_all; done) | (simp_all [oneD] <;> omega)) (by first | exact Nat.le_refl _ | exact Nat.le_of_ble_eq_true rfl | (dsimp only; omega) | (simp <;> omega)) ?_
      obtain ⟨k1, h⟩ := ite_ck h
      refine .seqM 2 (fun (_ : Unit) => ⟨[(1, .int .i64 ballot), (2, .imm 1 (l.map (D.int .i64)) 4), (3, .ptr 0 0), (7, .bool v1), (8, .ptr 1 0), (9, .ref 2 1 0 a.Accepted.length (some unkC))], [(0, .box [.int .u8 a.Phase, .int .i64 a.Ballot, .imm 1 (a.Members.map (D.int .i64)) 4, .str a.Wish, .str a.Value, .imm 3 (a.Promises.map TPromise.d) 4, .imm 1 (a.Accepted.map (D.int .i64)) 4]), (1, .box [.int .u8 a.Phase, .int .i64 a.Ballot, .imm 1 (a.Members.map (D.int .i64)) 4, .str a.Wish, .str a.Value, .imm 3 (a.Promises.map TPromise.d) 4, .imm 1 (a.Accepted.map (D.int .i64)) 4]), (2, .arr 3 1 true (a.Accepted.map (D.int .i64)))], 3⟩) (fun _ => True) (Nat.le_of_ble_eq_true rfl) ?_ (fun _ _ => ?_)
      · skip
        rcases list_cases a.Accepted with hE1 | ⟨y, ys, hE1⟩
        · skip
          have hM1 : a.Accepted.map (D.int .i64) = [] := by rw [hE1]; simp
          refine .plain Try.tmOk Try.tmMixed [1, 2, 3, 7, 8] (by decide +kernel) (by intro q hq; simp only [go_sem, Nat.reduceSub, Int.reduceEq, Nat.reduceLT, Nat.reduceDiv, Nat.reduceAdd, Nat.reduceBEq, Nat.reduceLeDiff, reduceCtorEq, Nat.reduceEqDiff, Nat.reduceMod, Try.tm_22, Try.tm_26, appendD_nil hM1, TAttempt.d]; exact hq) (by first | rfl | (simp only [go_sem, Nat.reduceLeDiff]; done) | (simp only [go_sem, Nat.reduceLeDiff]; rfl) | (simp; done) | (simp [oneD] <;> omega) | (simp_all; done) | (simp_all [oneD] <;> omega)) (by first | exact Nat.le_refl _ | exact Nat.le_of_ble_eq_true rfl | (dsimp only; omega) | (simp <;> omega)) ?_
          refine ⟨(), ?_, trivial⟩
          refine Goes.new0 1 3 (Nat.le_of_ble_eq_true rfl) ?_
          refine Goes.wk 9 (.imm 1 [] 0) (.ref 2 1 0 0 (some unkC)) rfl (WkG.own0 2 1 1 0 (by decide)) ?_
          refine Goes.mv [1, 2, 3, 7, 8, 9] [0, 1, 2] [] ?_ (Nat.le_of_ble_eq_true rfl) (Nat.le_of_ble_eq_true rfl) rfl
          first | rfl | (simp only [hE1, go_sem, Nat.reduceBEq, Nat.reduceAdd, Bool.false_and, Bool.true_or, Bool.and_false]; done) | (simp only [hE1, go_sem, Nat.reduceBEq, Nat.reduceAdd, Bool.false_and, Bool.true_or, Bool.and_false]; rfl)
        · skip
          have hM1 : a.Accepted.map (D.int .i64) ≠ [] := by rw [hE1]; simp
          refine .plain Try.tmOk Try.tmMixed [1, 2, 3, 7, 8] (by decide +kernel) (by intro q hq; simp only [go_sem, Nat.reduceSub, Int.reduceEq, Nat.reduceLT, Nat.reduceDiv, Nat.reduceAdd, Nat.reduceBEq, Nat.reduceLeDiff, reduceCtorEq, Nat.reduceEqDiff, Nat.reduceMod, Try.tm_22, Try.tm_26, appendD_cons hM1, TAttempt.d]; exact hq) (by first | rfl | (simp only [go_sem, Nat.reduceLeDiff]; done) | (simp only [go_sem, Nat.reduceLeDiff]; rfl) | (simp; done) | (simp [oneD] <;> omega) | (simp_all; done) | (simp_all [oneD] <;> omega)) (by first | exact Nat.le_refl _ | exact Nat.le_of_ble_eq_true rfl | (dsimp only; omega) | (simp <;> omega)) ?_
          refine ⟨(), ?_, trivial⟩
          refine Goes.wk 9 (.ref 2 1 0 a.Accepted.length none) (.ref 2 1 0 a.Accepted.length (some unkC)) rfl (WkG.unk _ _ _ _ _) ?_
          refine Goes.mv [1, 2, 3, 7, 8, 9] [0, 1, 2] [] ?_ (Nat.le_of_ble_eq_true rfl) (Nat.le_of_ble_eq_true rfl) rfl
          first | rfl | (simp only [hE1, go_sem, Nat.reduceBEq, Nat.reduceAdd, Bool.false_and, Bool.true_or, Bool.and_false]; done) | (simp only [hE1, go_sem, Nat.reduceBEq, Nat.reduceAdd, Bool.false_and, Bool.true_or, Bool.and_false]; rfl)
      obtain ⟨x1, hx1, h⟩ := bind_some h
      refine .seqM 3 (fun (j : Int × Int × (List Int) × (List UInt8) × (List UInt8) × (List TPromise) × (List Int) × (List Int)) => Try.St_towncrierlaw08_AttemptChosen_1 a v1 j.1 j.2.1 j.2.2.1 j.2.2.2.1 j.2.2.2.2.1 j.2.2.2.2.2.1 j.2.2.2.2.2.2.1 j.2.2.2.2.2.2.2) (fun j => x1 = (.inr j)) (Nat.le_of_ble_eq_true rfl) ?_ ?_
      · skip
        refine .seq ?_
        refine .plain Try.tmOk Try.tmMixed [1, 2, 3, 7, 8, 9] (by decide +kernel) (by intro q hq; simp only [go_sem, Nat.reduceSub, Int.reduceEq, Nat.reduceLT, Nat.reduceDiv, Nat.reduceAdd, Nat.reduceBEq, Nat.reduceLeDiff, reduceCtorEq, Nat.reduceEqDiff, Nat.reduceMod, appendD]; exact hq) (by first | rfl | (simp only [go_sem, Nat.reduceLeDiff]; done) | (simp only [go_sem, Nat.reduceLeDiff]; rfl) | (simp; done) | (simp [oneD] <;> omega) | (simp_all; done) | (simp_all [oneD] <;> omega)) (by first | exact Nat.le_refl _ | exact Nat.le_of_ble_eq_true rfl | (dsimp only; omega) | (simp <;> omega)) ?_
        refine .block ?_
        refine .loopG 3 (fun (j : Nat × Int × Int × (List Int) × (List UInt8) × (List UInt8) × (List TPromise) × (List Int) × (List Int)) => Try.St_towncrierlaw08_AttemptChosen_3 a ballot l v1 j.1 j.2.1 j.2.2.1 j.2.2.2.1 j.2.2.2.2.1 j.2.2.2.2.2.1 j.2.2.2.2.2.2.1 j.2.2.2.2.2.2.2.1 j.2.2.2.2.2.2.2.2) (fun j => j.1 ≤ l.length ∧ m_towncrierlaw08_AttemptChosen_loop1 ballot (l.drop j.1) j.2.1 j.2.2.1 j.2.2.2.1 j.2.2.2.2.1 j.2.2.2.2.2.1 j.2.2.2.2.2.2.1 j.2.2.2.2.2.2.2.1 j.2.2.2.2.2.2.2.2 = some x1) (fun j => l.length - j.1) (0, a.Phase, a.Ballot, a.Members, a.Wish, a.Value, a.Promises, a.Accepted, a.Accepted) (Nat.le_of_ble_eq_true rfl) ?_ ⟨Nat.zero_le _, hx1⟩ ?_
        · skip
          refine Goes.mv [1, 2, 3, 7, 8, 9, 10] [0, 1, 2] [(2, 3)] ?_ (Nat.le_of_ble_eq_true rfl) (Nat.le_of_ble_eq_true rfl) rfl
          first | rfl | (simp only [go_sem, Nat.reduceBEq, Nat.reduceAdd]; done) | (simp only [go_sem, Nat.reduceBEq, Nat.reduceAdd]; rfl)
        rintro ⟨n5, n3, n4, l5, s3, s4, l6, l7, l8⟩ ⟨hi1, hx1⟩
        simp only [Try.St_towncrierlaw08_AttemptChosen_3]
        simp only at hi1 hx1
        refine .wf 2 (.imm 1 (l.map (D.int .i64)) 4) rfl ?_
        intro hln5
        replace hln5 : (l.length : Int) ≤ 9223372036854775807 := by simp only [wf, wfL, IntKind.max, IntKind.min, IntKind.signed, IntKind.bits, List.length_map] at hln5; first | exact hln5.2 | exact hln5.1 | (simp at hln5; omega)
        refine .seq ?_
        refine .seq ?_
        refine .plain Try.tmOk Try.tmMixed [1, 2, 3, 7, 8, 9, 10] (by decide +kernel) (by intro q hq; simp only [go_sem, Nat.reduceSub, Int.reduceEq, Nat.reduceLT, Nat.reduceDiv, Nat.reduceAdd, Nat.reduceBEq, Nat.reduceLeDiff, reduceCtorEq, Nat.reduceEqDiff, Nat.reduceMod, appendD, Try.tm_3, Try.tm_22]; exact hq) (by first | rfl | (simp only [go_sem, Nat.reduceLeDiff]; done) | (simp only [go_sem, Nat.reduceLeDiff]; rfl) | (simp; done) | (simp [oneD] <;> omega) | (simp_all; done) | (simp_all [oneD] <;> omega)) (by first | exact Nat.le_refl _ | exact Nat.le_of_ble_eq_true rfl | (dsimp only; omega) | (simp <;> omega)) ?_
        refine .cond rfl rfl (fun hc3 => ?_) (fun hc3 => ?_)
        · skip
          have h1 : n5 < l.length := by simpa using hc3
          have hwn5 : wr .i64 ((n5 : Int) + 1) = ((n5 + 1 : Nat) : Int) := wr_succ h1 hln5
          have hpn5 : wr .i64 ((n5 : Int) - 1) = (n5 : Int) - 1 := wr_pred h1 hln5
          rw [List.drop_eq_getElem_cons h1, m_towncrierlaw08_AttemptChosen_loop1] at hx1
          refine .skip ?_
          obtain ⟨x2, hx2, hx1⟩ := bind_some hx1
          refine .seqM 4 (fun (j : Int × Int × (List Int) × (List UInt8) × (List UInt8) × (List TPromise) × (List Int) × (List Int)) => Try.St_towncrierlaw08_AttemptChosen_5 a ballot l v1 n5 j.1 j.2.1 j.2.2.1 j.2.2.2.1 j.2.2.2.2.1 j.2.2.2.2.2.1 j.2.2.2.2.2.2.1 j.2.2.2.2.2.2.2) (fun j => x2 = (.inr j)) (Nat.le_of_ble_eq_true rfl) ?_ ?_
          · skip
            refine .block ?_
            refine .seq ?_
            obtain ⟨v4, hv4, hx2⟩ := bind_some hx2
            have e1 := nth_map (D.int .i64) l n5 h1
            refine .reg Try.tmOk Try.tmMixed [1, 2, 3, 7, 8, 9, 10] (by decide +kernel) ?_
            refine .RN 6 (dr := true) (.inl rfl) (by intro q hq; simp only [go_sem, Nat.reduceSub, Int.reduceEq, Nat.reduceLT, Nat.reduceDiv, Nat.reduceAdd, Nat.reduceBEq, Nat.reduceLeDiff, reduceCtorEq, Nat.reduceEqDiff, Nat.reduceMod, appendD, Try.tm_3, Try.tm_22, Try.tm_26, e1, TAttempt.d, hwn5]; exact hq) (by first | rfl | (simp only [go_sem, Nat.reduceLeDiff]; done) | (simp only [go_sem, Nat.reduceLeDiff]; rfl) | (simp; done) | (simp [oneD] <;> omega) | (simp_all; done) | (simp_all [oneD] <;> omega)) (by first | exact Nat.le_refl _ | exact Nat.le_of_ble_eq_true rfl | (dsimp only; omega) | (simp <;> omega)) ?_
            refine .call (r := .tuple [.agg [.int .u8 v4.1.Phase, .int .i64 v4.1.Ballot, .imm 1 (v4.1.Members.map (D.int .i64)) 12, .str v4.1.Wish, .str v4.1.Value, .imm 3 (v4.1.Promises.map TPromise.d) 12, .imm 1 (v4.1.Accepted.map (D.int .i64)) 12], .int .i64 v4.2]) rfl rfl rfl rfl rfl rfl (callP_attempt_Accepted (⟨n3, n4, l5, s3, s4, l6, l7⟩ : TAttempt) ballot (l[n5]) v4 hv4) ?_
            refine .RN 6 (dr := true) (.inl rfl) (by intro q hq; simp only [go_sem, Nat.reduceSub, Int.reduceEq, Nat.reduceLT, Nat.reduceDiv, Nat.reduceAdd, Nat.reduceBEq, Nat.reduceLeDiff, reduceCtorEq, Nat.reduceEqDiff, Nat.reduceMod, appendD, Try.tm_26, e1, TAttempt.d, hwn5]; exact hq) (by first | rfl | (simp only [go_sem, Nat.reduceLeDiff]; done) | (simp only [go_sem, Nat.reduceLeDiff]; rfl) | (simp; done) | (simp [oneD] <;> omega) | (simp_all; done) | (simp_all [oneD] <;> omega)) (by first | exact Nat.le_refl _ | exact Nat.le_of_ble_eq_true rfl | (dsimp only; omega) | (simp <;> omega)) ?_
            refine .nil ⟨fun _ => schedB_of (by kernel_rfl), ?_⟩
            refine .seq ?_
            refine .seq ?_
            refine .plain Try.tmOk Try.tmMixed [1, 2, 3, 7, 8, 9, 10, 11, 12] (by decide +kernel) (by intro q hq; simp only [go_sem, Nat.reduceSub, Int.reduceEq, Nat.reduceLT, Nat.reduceDiv, Nat.reduceAdd, Nat.reduceBEq, Nat.reduceLeDiff, reduceCtorEq, Nat.reduceEqDiff, Nat.reduceMod, appendD, Try.tm_27, hwn5]; exact hq) (by first | rfl | (simp only [go_sem, Nat.reduceLeDiff]; done) | (simp only [go_sem, Nat.reduceLeDiff]; rfl) | (simp; done) | (simp [oneD] <;> omega) | (simp_all; done) | (simp_all [oneD] <;> omega)) (by first | exact Nat.le_refl _ | exact Nat.le_of_ble_eq_true rfl | (dsimp only; omega) | (simp <;> omega)) ?_
            refine .cond rfl rfl (fun hc4 => ?_) (fun hc4 => ?_)
            · skip
              replace hx2 := ite_l hx2 (by first | simpa using hc4 | (simp at hc4 ⊢; omega) | (simp at hc4 ⊢; grind) | grind)
              refine .exit ?_
              refine ⟨_, ?_, (Option.some.inj hx2).symm⟩
              refine Goes.mv [1, 2, 3, 7, 8, 9, 10] [0, 1, 3] [(3, 4)] ?_ (Nat.le_of_ble_eq_true rfl) (Nat.le_of_ble_eq_true rfl) rfl
              first | rfl | (simp only [go_sem, Nat.reduceBEq, Nat.reduceAdd]; done) | (simp only [go_sem, Nat.reduceBEq, Nat.reduceAdd]; rfl)
            · skip
              replace hx2 := ite_r hx2 (by first | simpa using hc4 | (simp at hc4 ⊢; omega) | (simp at hc4 ⊢; grind) | grind)
              refine .skip ?_
              refine .seq ?_
              obtain ⟨k2, hx2⟩ := ite_ck hx2
              have e2 := nth_map (D.int .i64) l n5 h1
              refine .plain Try.tmOk Try.tmMixed [1, 2, 3, 7, 8, 9, 10, 11] (by decide +kernel) (by intro q hq; simp only [go_sem, Nat.reduceSub, Int.reduceEq, Nat.reduceLT, Nat.reduceDiv, Nat.reduceAdd, Nat.reduceBEq, Nat.reduceLeDiff, reduceCtorEq, Nat.reduceEqDiff, Nat.reduceMod, appendD, Try.tm_3, Try.tm_22, e2, hwn5]; exact hq) (by first | rfl | (simp only [go_sem, Nat.reduceLeDiff]; done) | (simp only [go_sem, Nat.reduceLeDiff]; rfl) | (simp; done) | (simp [oneD] <;> omega) | (simp_all; done) | (simp_all [oneD] <;> omega)) (by first | exact Nat.le_refl _ | exact Nat.le_of_ble_eq_true rfl | (dsimp only; omega) | (simp <;> omega)) ?_
              refine .seq ?_
              refine .seq ?_
              obtain ⟨v5, hv5, hx2⟩ := bind_some hx2
              obtain ⟨v6, hv6, hx2⟩ := bind_some hx2
              refine .reg Try.tmOk Try.tmMixed [1, 2, 3, 7, 8, 9, 10, 11] (by decide +kernel) ?_
              refine .RN 1 (dr := false) (.inr fun _ _ _ h => ⟨nofun, h.2⟩) (by intro q hq; simp only [go_sem, Nat.reduceSub, Int.reduceEq, Nat.reduceLT, Nat.reduceDiv, Nat.reduceAdd, Nat.reduceBEq, Nat.reduceLeDiff, reduceCtorEq, Nat.reduceEqDiff, Nat.reduceMod, appendD, Try.tm_26, TAttempt.d, hwn5]; exact hq) (by first | rfl | (simp only [go_sem, Nat.reduceLeDiff]; done) | (simp only [go_sem, Nat.reduceLeDiff]; rfl) | (simp; done) | (simp [oneD] <;> omega) | (simp_all; done) | (simp_all [oneD] <;> omega)) (by first | exact Nat.le_refl _ | exact Nat.le_of_ble_eq_true rfl | (dsimp only; omega) | (simp <;> omega)) ?_
              refine .call (r := .int .i64 v5) rfl rfl rfl rfl rfl rfl (callP_attempt_Check v4.1 v5 hv5) ?_
              refine .RN 6 (dr := false) (.inr fun _ _ _ h => ⟨nofun, h.2⟩) (by intro q hq; simp only [go_sem, Nat.reduceSub, Int.reduceEq, Nat.reduceLT, Nat.reduceDiv, Nat.reduceAdd, Nat.reduceBEq, Nat.reduceLeDiff, reduceCtorEq, Nat.reduceEqDiff, Nat.reduceMod, appendD, Try.tm_5, Try.tm_26, Try.tm_27, TAttempt.d, hwn5]; exact hq) (by first | rfl | (simp only [go_sem, Nat.reduceLeDiff]; done) | (simp only [go_sem, Nat.reduceLeDiff]; rfl) | (simp; done) | (simp [oneD] <;> omega) | (simp_all; done) | (simp_all [oneD] <;> omega)) (by first | exact Nat.le_refl _ | exact Nat.le_of_ble_eq_true rfl | (dsimp only; omega) | (simp <;> omega)) ?_
              refine .RN 6 (dr := false) (.inr fun _ _ _ h => ⟨nofun, h.2⟩) (by intro q hq; simp only [go_sem, Nat.reduceSub, Int.reduceEq, Nat.reduceLT, Nat.reduceDiv, Nat.reduceAdd, Nat.reduceBEq, Nat.reduceLeDiff, reduceCtorEq, Nat.reduceEqDiff, Nat.reduceMod, appendD, Try.tm_3, Try.tm_5, Try.tm_26, TAttempt.d, hwn5]; exact hq) (by first | rfl | (simp only [go_sem, Nat.reduceLeDiff]; done) | (simp only [go_sem, Nat.reduceLeDiff]; rfl) | (simp; done) | (simp [oneD] <;> omega) | (simp_all; done) | (simp_all [oneD] <;> omega)) (by first | exact Nat.le_refl _ | exact Nat.le_of_ble_eq_true rfl | (dsimp only; omega) | (simp <;> omega)) ?_
              refine .RN 6 (dr := false) (.inr fun _ _ _ h => ⟨nofun, h.2⟩) (by intro q hq; simp only [go_sem, Nat.reduceSub, Int.reduceEq, Nat.reduceLT, Nat.reduceDiv, Nat.reduceAdd, Nat.reduceBEq, Nat.reduceLeDiff, reduceCtorEq, Nat.reduceEqDiff, Nat.reduceMod, appendD, Try.tm_3, Try.tm_9, Try.tm_26, TAttempt.d, hwn5]; exact hq) (by first | rfl | (simp only [go_sem, Nat.reduceLeDiff]; done) | (simp only [go_sem, Nat.reduceLeDiff]; rfl) | (simp; done) | (simp [oneD] <;> omega) | (simp_all; done) | (simp_all [oneD] <;> omega)) (by first | exact Nat.le_refl _ | exact Nat.le_of_ble_eq_true rfl | (dsimp only; omega) | (simp <;> omega)) ?_
              refine .RN 6 (dr := false) (.inr fun _ _ _ h => ⟨nofun, h.2⟩) (by intro q hq; simp only [go_sem, Nat.reduceSub, Int.reduceEq, Nat.reduceLT, Nat.reduceDiv, Nat.reduceAdd, Nat.reduceBEq, Nat.reduceLeDiff, reduceCtorEq, Nat.reduceEqDiff, Nat.reduceMod, appendD, Try.tm_9, Try.tm_26, TAttempt.d, hwn5]; exact hq) (by first | rfl | (simp only [go_sem, Nat.reduceLeDiff]; done) | (simp only [go_sem, Nat.reduceLeDiff]; rfl) | (simp; done) | (simp [oneD] <;> omega) | (simp_all; done) | (simp_all [oneD] <;> omega)) (by first | exact Nat.le_refl _ | exact Nat.le_of_ble_eq_true rfl | (dsimp only; omega) | (simp <;> omega)) ?_
              refine .RN 6 (dr := false) (.inr fun _ _ _ h => ⟨nofun, h.2⟩) (by intro q hq; simp only [go_sem, Nat.reduceSub, Int.reduceEq, Nat.reduceLT, Nat.reduceDiv, Nat.reduceAdd, Nat.reduceBEq, Nat.reduceLeDiff, reduceCtorEq, Nat.reduceEqDiff, Nat.reduceMod, appendD, Try.tm_9, Try.tm_26, TAttempt.d, hwn5]; exact hq) (by first | rfl | (simp only [go_sem, Nat.reduceLeDiff]; done) | (simp only [go_sem, Nat.reduceLeDiff]; rfl) | (simp; done) | (simp [oneD] <;> omega) | (simp_all; done) | (simp_all [oneD] <;> omega)) (by first | exact Nat.le_refl _ | exact Nat.le_of_ble_eq_true rfl | (dsimp only; omega) | (simp <;> omega)) ?_
              refine .RN 4 (dr := false) (.inr fun _ _ _ h => ⟨nofun, h.2⟩) (by intro q hq; simp only [go_sem, Nat.reduceSub, Int.reduceEq, Nat.reduceLT, Nat.reduceDiv, Nat.reduceAdd, Nat.reduceBEq, Nat.reduceLeDiff, reduceCtorEq, Nat.reduceEqDiff, Nat.reduceMod, appendD, Try.tm_22, Try.tm_26, TAttempt.d, hwn5]; exact hq) (by first | rfl | (simp only [go_sem, Nat.reduceLeDiff]; done) | (simp only [go_sem, Nat.reduceLeDiff]; rfl) | (simp; done) | (simp [oneD] <;> omega) | (simp_all; done) | (simp_all [oneD] <;> omega)) (by first | exact Nat.le_refl _ | exact Nat.le_of_ble_eq_true rfl | (dsimp only; omega) | (simp <;> omega)) ?_
              refine .gcall (r := .bool v6) rfl rfl rfl rfl rfl (fun hg => ⟨[], [.imm 1 (v4.1.Members.map (D.int .i64)) 12, .imm 1 (l5.map (D.int .i64)) 4], _, rfl, (by first | (simp only [opds, opd, ev, ofVal, getR, getL, Nat.beq, cond_true, cond_false, Bool.not_true, Bool.false_or, Bool.and_true, Bool.true_and, Prod.mk.injEq, true_and]; done) | (simp only [opds, opd, ev, ofVal, getR, getL, Nat.beq, cond_true, cond_false, Bool.not_true, Bool.false_or, Bool.and_true, Bool.true_and, Prod.mk.injEq, true_and]; first | exact hg | simpa using hg | (simp at hg ⊢; grind)) | rfl), rfl, (callP_towncrierlaw08_same v4.1.Members l5 v6 (ite_l hv6 (by first | simpa using hg | (simp at hg ⊢; omega) | (simp at hg ⊢; grind) | grind)))⟩) ?_
              refine .RN 2 (dr := false) (.inr fun _ _ _ h => ⟨nofun, h.2⟩) (by intro q hq; simp only [go_sem, Nat.reduceSub, Int.reduceEq, Nat.reduceLT, Nat.reduceDiv, Nat.reduceAdd, Nat.reduceBEq, Nat.reduceLeDiff, reduceCtorEq, Nat.reduceEqDiff, Nat.reduceMod, appendD, TAttempt.d, hwn5]; exact hq) (by first | rfl | (simp only [go_sem, Nat.reduceLeDiff]; done) | (simp only [go_sem, Nat.reduceLeDiff]; rfl) | (simp; done) | (simp [oneD] <;> omega) | (simp_all; done) | (simp_all [oneD] <;> omega)) (by first | exact Nat.le_refl _ | exact Nat.le_of_ble_eq_true rfl | (dsimp only; omega) | (simp <;> omega)) ?_
              refine .nil ⟨nofun, ?_⟩
              refine .cond rfl rfl (fun hc5 => ?_) (fun hc5 => ?_)
              · skip
                replace hx2 := ite_l hx2 (by first | simpa using hc5 | (simp at hc5 ⊢; omega) | (simp at hc5 ⊢; grind) | grind)
                refine .seq ?_
                refine .plain Try.tmOk Try.tmMixed [] (by decide +kernel) (by intro q hq; simp only [go_sem, Nat.reduceSub, Int.reduceEq, Nat.reduceLT, Nat.reduceDiv, Nat.reduceAdd, Nat.reduceBEq, Nat.reduceLeDiff, reduceCtorEq, Nat.reduceEqDiff, Nat.reduceMod, appendD, hwn5]; exact hq) (by first | rfl | (simp only [go_sem, Nat.reduceLeDiff]; done) | (simp only [go_sem, Nat.reduceLeDiff]; rfl) | (simp; done) | (simp [oneD] <;> omega) | (simp_all; done) | (simp_all [oneD] <;> omega)) (by first | exact Nat.le_refl _ | exact Nat.le_of_ble_eq_true rfl | (dsimp only; omega) | (simp <;> omega)) ?_
                have hq := Option.some.inj hx2
                subst x2
                try dsimp only at hx1
                have hq := Option.some.inj hx1
                subst x1
                try dsimp only at h
                have hq := Option.some.inj h
                subst r
                refine .ret ⟨.inr rfl, ResIs.to ?_⟩
                simp only [ResIs, resL, resD, resT, go_sem, Nat.reduceSub, Int.reduceEq, Nat.reduceLT, Nat.reduceDiv, Nat.reduceAdd, Nat.reduceBEq, Nat.reduceLeDiff, reduceCtorEq, Nat.reduceEqDiff, Nat.reduceMod, Try.f5, Try.tm_4]
              · skip
                replace hx2 := ite_r hx2 (by first | simpa using hc5 | (simp at hc5 ⊢; omega) | (simp at hc5 ⊢; grind) | grind)
                refine .skip ?_
                refine .plain Try.tmOk Try.tmMixed [1, 2, 3, 7, 8, 9, 10, 11] (by decide +kernel) (by intro q hq; simp only [go_sem, Nat.reduceSub, Int.reduceEq, Nat.reduceLT, Nat.reduceDiv, Nat.reduceAdd, Nat.reduceBEq, Nat.reduceLeDiff, reduceCtorEq, Nat.reduceEqDiff, Nat.reduceMod, appendD, Try.tm_26, TAttempt.d, hwn5]; exact hq) (by first | rfl | (simp only [go_sem, Nat.reduceLeDiff]; done) | (simp only [go_sem, Nat.reduceLeDiff]; rfl) | (simp; done) | (simp [oneD] <;> omega) | (simp_all; done) | (simp_all [oneD] <;> omega)) (by first | exact Nat.le_refl _ | exact Nat.le_of_ble_eq_true rfl | (dsimp only; omega) | (simp <;> omega)) ?_
                refine ⟨_, ?_, (Option.some.inj hx2).symm⟩
                refine Goes.box 0 [.int .u8 v4.1.Phase, .int .i64 v4.1.Ballot] (.imm 1 (v4.1.Members.map (D.int .i64)) 12) (.imm 1 (v4.1.Members.map (D.int .i64)) 4) [.str v4.1.Wish, .str v4.1.Value, .imm 3 (v4.1.Promises.map TPromise.d) 12, .imm 1 (v4.1.Accepted.map (D.int .i64)) 12] rfl (WkG.new4 _ _ rfl) ?_
                refine Goes.box 0 [.int .u8 v4.1.Phase, .int .i64 v4.1.Ballot, .imm 1 (v4.1.Members.map (D.int .i64)) 4, .str v4.1.Wish, .str v4.1.Value] (.imm 3 (v4.1.Promises.map TPromise.d) 12) (.imm 3 (v4.1.Promises.map TPromise.d) 4) [.imm 1 (v4.1.Accepted.map (D.int .i64)) 12] rfl (WkG.new4 _ _ rfl) ?_
                refine Goes.box 0 [.int .u8 v4.1.Phase, .int .i64 v4.1.Ballot, .imm 1 (v4.1.Members.map (D.int .i64)) 4, .str v4.1.Wish, .str v4.1.Value, .imm 3 (v4.1.Promises.map TPromise.d) 4] (.imm 1 (v4.1.Accepted.map (D.int .i64)) 12) (.imm 1 (v4.1.Accepted.map (D.int .i64)) 4) [] rfl (WkG.new4 _ _ rfl) ?_
                refine Goes.mv [1, 2, 3, 7, 8, 9, 10] [0, 1, 6] [(6, 4)] ?_ (Nat.le_of_ble_eq_true rfl) (Nat.le_of_ble_eq_true rfl) rfl
                first | rfl | (simp only [go_sem, Nat.reduceBEq, Nat.reduceAdd]; done) | (simp only [go_sem, Nat.reduceBEq, Nat.reduceAdd]; rfl)
          · skip
            rintro ⟨n6, n7, l9, s5, s6, l10, l11, l12⟩ hj1
            subst x2
            try dsimp only at hx1
            simp only [Try.St_towncrierlaw08_AttemptChosen_5]
            refine .plain Try.tmOk Try.tmMixed [1, 2, 3, 7, 8, 9, 10] (by decide +kernel) (by intro q hq; simp only [go_sem, Nat.reduceSub, Int.reduceEq, Nat.reduceLT, Nat.reduceDiv, Nat.reduceAdd, Nat.reduceBEq, Nat.reduceLeDiff, reduceCtorEq, Nat.reduceEqDiff, Nat.reduceMod, appendD, Try.tm_3, hwn5]; exact hq) (by first | rfl | (simp only [go_sem, Nat.reduceLeDiff]; done) | (simp only [go_sem, Nat.reduceLeDiff]; rfl) | (simp; done) | (simp [oneD] <;> omega) | (simp_all; done) | (simp_all [oneD] <;> omega)) (by first | exact Nat.le_refl _ | exact Nat.le_of_ble_eq_true rfl | (dsimp only; omega) | (simp <;> omega)) ?_
            refine ⟨(n5 + 1, _, _, _, _, _, _, _, _), ?_, ⟨by omega, hx1⟩, by dsimp only; omega⟩
            refine Goes.mv [1, 2, 3, 7, 8, 9, 10] [0, 1, 4] [(4, 3)] ?_ (Nat.le_of_ble_eq_true rfl) (Nat.le_of_ble_eq_true rfl) rfl
            first | rfl | (simp only [go_sem, Nat.reduceBEq, Nat.reduceAdd]; done) | (simp only [go_sem, Nat.reduceBEq, Nat.reduceAdd]; rfl)
        · skip
          have h2 : n5 = l.length := by have h2b := of_decide_eq_false hc3; omega
          rw [List.drop_of_length_le (by omega), m_towncrierlaw08_AttemptChosen_loop1] at hx1
          refine .exit ?_
          refine ⟨_, ?_, (Option.some.inj hx1).symm⟩
          refine Goes.mv [3, 7, 8, 9] [0, 1, 3] [] ?_ (Nat.le_of_ble_eq_true rfl) (Nat.le_of_ble_eq_true rfl) rfl
          first | rfl | (simp only [go_sem, Nat.reduceBEq, Nat.reduceAdd]; done) | (simp only [go_sem, Nat.reduceBEq, Nat.reduceAdd]; rfl)
      · skip
        rintro ⟨n1, n2, l1, s1, s2, l2, l3, l4⟩ hj2
        subst x1
        try dsimp only at h
        simp only [Try.St_towncrierlaw08_AttemptChosen_1]
        refine .seq ?_
        refine .seq ?_
        refine .plain Try.tmOk Try.tmMixed [3, 7, 8, 9] (by decide +kernel) (by intro q hq; simp only [go_sem, Nat.reduceSub, Int.reduceEq, Nat.reduceLT, Nat.reduceDiv, Nat.reduceAdd, Nat.reduceBEq, Nat.reduceLeDiff, reduceCtorEq, Nat.reduceEqDiff, Nat.reduceMod, appendD, Try.tm_5, Try.tm_26, TAttempt.d]; exact hq) (by first | rfl | (simp only [go_sem, Nat.reduceLeDiff]; done) | (simp only [go_sem, Nat.reduceLeDiff]; rfl) | (simp; done) | (simp [oneD] <;> omega) | (simp_all; done) | (simp_all [oneD] <;> omega)) (by first | exact Nat.le_refl _ | exact Nat.le_of_ble_eq_true rfl | (dsimp only; omega) | (simp <;> omega)) ?_
        refine .cond rfl rfl (fun hc6 => ?_) (fun hc6 => ?_)
        · skip
          replace h := ite_l h (by first | simpa using hc6 | (simp at hc6 ⊢; omega) | (simp at hc6 ⊢; grind) | grind)
          refine .seq ?_
          obtain ⟨v7, hv7, h⟩ := bind_some h
          refine .reg Try.tmOk Try.tmMixed [3, 7, 8] (by decide +kernel) ?_
          refine .RN 4 (dr := false) (.inr fun _ _ _ h => ⟨nofun, h.2⟩) (by intro q hq; simp only [go_sem, Nat.reduceSub, Int.reduceEq, Nat.reduceLT, Nat.reduceDiv, Nat.reduceAdd, Nat.reduceBEq, Nat.reduceLeDiff, reduceCtorEq, Nat.reduceEqDiff, Nat.reduceMod, appendD, Try.tm_26, TAttempt.d]; exact hq) (by first | rfl | (simp only [go_sem, Nat.reduceLeDiff]; done) | (simp only [go_sem, Nat.reduceLeDiff]; rfl) | (simp; done) | (simp [oneD] <;> omega) | (simp_all; done) | (simp_all [oneD] <;> omega)) (by first | exact Nat.le_refl _ | exact Nat.le_of_ble_eq_true rfl | (dsimp only; omega) | (simp <;> omega)) ?_
          refine .gcall (r := .bool v7) rfl rfl rfl rfl rfl (fun hg => ⟨[], [.agg [.int .u8 n1, .int .i64 n2, .imm 1 (l1.map (D.int .i64)) 4, .str s1, .str s2, .imm 3 (l2.map TPromise.d) 4, .imm 1 (l3.map (D.int .i64)) 4], .agg [.int .u8 a.Phase, .int .i64 a.Ballot, .imm 1 (a.Members.map (D.int .i64)) 4, .str a.Wish, .str a.Value, .imm 3 (a.Promises.map TPromise.d) 4, .imm 1 (a.Accepted.map (D.int .i64)) 4]], _, rfl, (by first | (simp only [opds, opd, ev, ofVal, getR, getL, Nat.beq, cond_true, cond_false, Bool.not_true, Bool.false_or, Bool.and_true, Bool.true_and, Prod.mk.injEq, true_and]; done) | (simp only [opds, opd, ev, ofVal, getR, getL, Nat.beq, cond_true, cond_false, Bool.not_true, Bool.false_or, Bool.and_true, Bool.true_and, Prod.mk.injEq, true_and]; first | exact hg | simpa using hg | (simp at hg ⊢; grind)) | rfl), rfl, (callP_towncrierref08_Same (⟨n1, n2, l1, s1, s2, l2, l3⟩ : TAttempt) a v7 (ite_l hv7 (by first | simpa using hg | (simp at hg ⊢; omega) | (simp at hg ⊢; grind) | grind)))⟩) ?_
          refine .RN 2 (dr := false) (.inr fun _ _ _ h => ⟨nofun, h.2⟩) (by intro q hq; simp only [go_sem, Nat.reduceSub, Int.reduceEq, Nat.reduceLT, Nat.reduceDiv, Nat.reduceAdd, Nat.reduceBEq, Nat.reduceLeDiff, reduceCtorEq, Nat.reduceEqDiff, Nat.reduceMod, appendD, TAttempt.d]; exact hq) (by first | rfl | (simp only [go_sem, Nat.reduceLeDiff]; done) | (simp only [go_sem, Nat.reduceLeDiff]; rfl) | (simp; done) | (simp [oneD] <;> omega) | (simp_all; done) | (simp_all [oneD] <;> omega)) (by first | exact Nat.le_refl _ | exact Nat.le_of_ble_eq_true rfl | (dsimp only; omega) | (simp <;> omega)) ?_
          refine .nil ⟨nofun, ?_⟩
          have hq := Option.some.inj h
          subst r
          refine .ret ⟨.inr rfl, ResIs.to ?_⟩
          simp only [ResIs, resL, resD, resT, go_sem, Nat.reduceSub, Int.reduceEq, Nat.reduceLT, Nat.reduceDiv, Nat.reduceAdd, Nat.reduceBEq, Nat.reduceLeDiff, reduceCtorEq, Nat.reduceEqDiff, Nat.reduceMod, Try.f5, Try.tm_4]
        · skip
          replace h := ite_r h (by first | simpa using hc6 | (simp at hc6 ⊢; omega) | (simp at hc6 ⊢; grind) | grind)
          refine .skip ?_
          refine .seq ?_
          obtain ⟨v8, hv8, h⟩ := bind_some h
          refine .reg Try.tmOk Try.tmMixed [3, 7, 9] (by decide +kernel) ?_
          refine .RN 3 (dr := false) (.inr fun _ _ _ h => ⟨nofun, h.2⟩) (by intro q hq; simp only [go_sem, Nat.reduceSub, Int.reduceEq, Nat.reduceLT, Nat.reduceDiv, Nat.reduceAdd, Nat.reduceBEq, Nat.reduceLeDiff, reduceCtorEq, Nat.reduceEqDiff, Nat.reduceMod, appendD, Try.tm_22, Try.tm_26, TAttempt.d]; exact hq) (by first | rfl | (simp only [go_sem, Nat.reduceLeDiff]; done) | (simp only [go_sem, Nat.reduceLeDiff]; rfl) | (simp; done) | (simp [oneD] <;> omega) | (simp_all; done) | (simp_all [oneD] <;> omega)) (by first | exact Nat.le_refl _ | exact Nat.le_of_ble_eq_true rfl | (dsimp only; omega) | (simp <;> omega)) ?_
          refine .lcall (r := .tuple [.bool v8.1, .int .i64 v8.2]) [] rfl rfl rfl rfl rfl (lend2s_cons rfl (lend2s_cons (lend2_of (lend_ref (pl_int .i64) (by first | rfl | (simp only [go_sem, Nat.reduceBEq]; rfl)) (by first | rfl | (simp; done) | (simp <;> omega))) trivial) lend2s_nil)) rfl (callP_quorum_Most l1 l4 v8 hv8) ?_
          refine .RN 5 (dr := false) (.inr fun _ _ _ h => ⟨nofun, h.2⟩) (by intro q hq; simp only [go_sem, Nat.reduceSub, Int.reduceEq, Nat.reduceLT, Nat.reduceDiv, Nat.reduceAdd, Nat.reduceBEq, Nat.reduceLeDiff, reduceCtorEq, Nat.reduceEqDiff, Nat.reduceMod, appendD, TAttempt.d]; exact hq) (by first | rfl | (simp only [go_sem, Nat.reduceLeDiff]; done) | (simp only [go_sem, Nat.reduceLeDiff]; rfl) | (simp; done) | (simp [oneD] <;> omega) | (simp_all; done) | (simp_all [oneD] <;> omega)) (by first | exact Nat.le_refl _ | exact Nat.le_of_ble_eq_true rfl | (dsimp only; omega) | (simp <;> omega)) ?_
          refine .nil ⟨nofun, ?_⟩
          refine .seq ?_
          refine .reg Try.tmOk Try.tmMixed [3, 7, 13, 14] (by decide +kernel) ?_
          refine .RN 6 (dr := false) (.inr fun _ _ _ h => ⟨nofun, h.2⟩) (by intro q hq; simp only [go_sem, Nat.reduceSub, Int.reduceEq, Nat.reduceLT, Nat.reduceDiv, Nat.reduceAdd, Nat.reduceBEq, Nat.reduceLeDiff, reduceCtorEq, Nat.reduceEqDiff, Nat.reduceMod, appendD, Try.tm_27, TAttempt.d]; exact hq) (by first | rfl | (simp only [go_sem, Nat.reduceLeDiff]; done) | (simp only [go_sem, Nat.reduceLeDiff]; rfl) | (simp; done) | (simp [oneD] <;> omega) | (simp_all; done) | (simp_all [oneD] <;> omega)) (by first | exact Nat.le_refl _ | exact Nat.le_of_ble_eq_true rfl | (dsimp only; omega) | (simp <;> omega)) ?_
          refine .RN 7 (dr := false) (.inr fun _ _ _ h => ⟨nofun, h.2⟩) (by intro q hq; simp only [go_sem, Nat.reduceSub, Int.reduceEq, Nat.reduceLT, Nat.reduceDiv, Nat.reduceAdd, Nat.reduceBEq, Nat.reduceLeDiff, reduceCtorEq, Nat.reduceEqDiff, Nat.reduceMod, appendD, Try.tm_4, Try.tm_5, Try.tm_26, TAttempt.d]; exact hq) (by first | rfl | (simp only [go_sem, Nat.reduceLeDiff]; done) | (simp only [go_sem, Nat.reduceLeDiff]; rfl) | (simp; done) | (simp [oneD] <;> omega) | (simp_all; done) | (simp_all [oneD] <;> omega)) (by first | exact Nat.le_refl _ | exact Nat.le_of_ble_eq_true rfl | (dsimp only; omega) | (simp <;> omega)) ?_
          refine .nil ⟨nofun, ?_⟩
          have hq := Option.some.inj h
          subst r
          refine .ret ⟨.inr rfl, ResIs.to ?_⟩
          simp only [ResIs, resL, resD, resT, go_sem, Nat.reduceSub, Int.reduceEq, Nat.reduceLT, Nat.reduceDiv, Nat.reduceAdd, Nat.reduceBEq, Nat.reduceLeDiff, reduceCtorEq, Nat.reduceEqDiff, Nat.reduceMod, Try.f5, Try.tm_4]
end Go.Proofs
end
section
/- What the bits of two quorums tell, in plain words. -/

namespace Go.Proofs
open Go.Tm

/-- rising lists of numbers up to 5, from behind a number on -/
def risesP : Int → List Int → Bool
  | _, [] => true
  | last, n :: r => decide (last < n) && decide (n < 6) && risesP n r
def gen : Nat → Int → List (List Int)
  | 0, _ => [[]]
  | f + 1, lo => gen f (lo + 1) ++ (gen f (lo + 1)).map fun r => (lo + 1) :: r

theorem nil_gen : ∀ (f : Nat) (lo : Int), [] ∈ gen f lo
  | 0, _ => by simp [gen]
  | f + 1, lo => by simp only [gen, List.mem_append]; exact .inl (nil_gen f _)

theorem mem_gen : ∀ (f : Nat) (lo : Int) (l : List Int), 5 - lo ≤ f → risesP lo l = true → l ∈ gen f lo
  | f, lo, [], _, _ => nil_gen f lo
  | 0, lo, x :: r, hf, h => by
    simp only [risesP, Bool.and_eq_true, decide_eq_true_eq] at h
    omega
  | f + 1, lo, x :: r, hf, h => by
    have h' := h
    simp only [risesP, Bool.and_eq_true, decide_eq_true_eq] at h'
    simp only [gen, List.mem_append, List.mem_map]
    by_cases hx : x = lo + 1
    · subst hx
      exact .inr ⟨r, mem_gen f (lo + 1) r (by omega) h'.2, rfl⟩
    · refine .inl (mem_gen f (lo + 1) (x :: r) (by omega) ?_)
      simp only [risesP, Bool.and_eq_true, decide_eq_true_eq]
      exact ⟨⟨by omega, h'.1.2⟩, h'.2⟩

def setB (l : List Int) : Int := l.foldl (fun s n => bif decide (n ≥ 0) && decide (n < 6) then bitw .or .u64 s (shw true .u64 1 n) else s) 0
def hasI (l : List Int) (n : Int) : Bool := l.any fun x => x == n
end Go.Proofs
end
section
/- How many members are among some nodes, by bits, in plain words. -/

namespace Go.Proofs
open Go.Tm

def popI (n : Int) : Int :=
  let a := wr .u64 (bitw .and .u64 (shw false .u64 n 1) 6148914691236517205 + bitw .and .u64 n 6148914691236517205)
  let b := wr .u64 (bitw .and .u64 (shw false .u64 a 2) 3689348814741910323 + bitw .and .u64 a 3689348814741910323)
  let c := bitw .and .u64 (wr .u64 (shw false .u64 b 4 + b)) 1085102592571150095
  let d := wr .u64 (c + shw false .u64 c 8)
  let e := wr .u64 (d + shw false .u64 d 16)
  let f := wr .u64 (e + shw false .u64 e 32)
  bitw .and .i64 (wr .i64 f) 127

def mask (p : Int → Bool) : List Int := [0, 1, 2, 3, 4, 5].filter p

theorem mask_gen (p : Int → Bool) : mask p ∈ gen 6 (-1) := by
  refine mem_gen 6 (-1) _ (by omega) ?_
  unfold mask
  cases h0 : p 0 <;> cases h1 : p 1 <;> cases h2 : p 2 <;> cases h3 : p 3 <;> cases h4 : p 4 <;> cases h5 : p 5 <;> simp [h0, h1, h2, h3, h4, h5, risesP]

def setStep (s n : Int) : Int := bif decide (n ≥ 0) && decide (n < 6) then bitw .or .u64 s (shw true .u64 1 n) else s
theorem setB_snoc (l : List Int) (n : Int) : setB (l ++ [n]) = setStep (setB l) n := by
  unfold setB
  rw [List.foldl_append]
  rfl

theorem step_all : ((gen 6 (-1)).all fun k => [0, 1, 2, 3, 4, 5].all fun n => setStep (setB k) n == setB (mask fun x => hasI k x || x == n)) = true := by decide +kernel
theorem mask_congr {p q : Int → Bool} (h : ∀ x ∈ [(0 : Int), 1, 2, 3, 4, 5], p x = q x) : mask p = mask q := by
  unfold mask
  exact List.filter_congr h

theorem hasI_mask (p : Int → Bool) (x : Int) (hx : x ∈ [(0 : Int), 1, 2, 3, 4, 5]) : hasI (mask p) x = p x := by
  unfold hasI mask
  rw [List.any_filter]
  simp only [List.any_cons, List.any_nil]
  simp only [List.mem_cons, List.not_mem_nil, or_false] at hx
  rcases hx with rfl | rfl | rfl | rfl | rfl | rfl <;> simp

theorem hasI_snoc (l : List Int) (n x : Int) : hasI (l ++ [n]) x = (hasI l x || n == x) := by
  unfold hasI
  simp

theorem setB_mask (l : List Int) : setB l = setB (mask (hasI l)) := by
  generalize hm : l.reverse = r
  have hl : l = r.reverse := by rw [← hm, List.reverse_reverse]
  clear hm
  subst hl
  induction r with
  | nil => decide +kernel
  | cons n r ih =>
    rw [List.reverse_cons, setB_snoc, ih]
    by_cases hn : n ∈ [(0 : Int), 1, 2, 3, 4, 5]
    · have h := List.all_eq_true.1 (List.all_eq_true.1 step_all _ (mask_gen (hasI r.reverse))) n hn
      rw [eq_of_beq h]
      congr 1
      refine mask_congr fun x hx => ?_
      rw [hasI_mask _ x hx, hasI_snoc]
      congr 1
      rw [Bool.eq_iff_iff, beq_iff_eq, beq_iff_eq]
      exact eq_comm
    · have h1 : setStep (setB (mask (hasI r.reverse))) n = setB (mask (hasI r.reverse)) := by
        unfold setStep
        have : (decide (n ≥ 0) && decide (n < 6)) = false := by
          rw [Bool.eq_false_iff]
          intro hh
          simp only [Bool.and_eq_true, decide_eq_true_eq] at hh
          exact hn (by simp only [List.mem_cons, List.not_mem_nil, or_false]; omega)
        rw [this]; rfl
      rw [h1]
      congr 1
      refine mask_congr fun x hx => ?_
      rw [hasI_snoc]
      have : (n == x) = false := by
        rw [Bool.eq_false_iff]
        intro hh
        rw [eq_of_beq hh] at hn
        exact hn hx
      rw [this, Bool.or_false]

theorem pop_all : ((gen 6 (-1)).all fun m => (gen 6 (-1)).all fun k => popI (bitw .and .u64 (setB m) (setB k)) == ((m.filter (hasI k)).length : Int)) = true := by decide +kernel

theorem rises_mem {m : List Int} (hm : risesP (-1) m = true) : ∀ x ∈ m, x ∈ [(0 : Int), 1, 2, 3, 4, 5] := by
  have key : ∀ (l : List Int) (k : Int), risesP k l = true → ∀ x ∈ l, k < x ∧ x < 6 := by
    intro l
    induction l with
    | nil => intro _ _ x hx; cases hx
    | cons y l ih =>
      intro k h x hx
      simp only [risesP, Bool.and_eq_true, decide_eq_true_eq] at h
      rcases List.mem_cons.1 hx with rfl | hx
      · exact h.1
      · have := ih y h.2 x hx
        omega
  intro x hx
  have := key m (-1) hm x hx
  simp only [List.mem_cons, List.not_mem_nil, or_false]
  omega

/-- as many members are among them as the bits tell -/
theorem pop_count {m : List Int} (hm : risesP (-1) m = true) (s : List Int) : popI (bitw .and .u64 (setB m) (setB s)) = ((m.filter (hasI s)).length : Int) := by
  rw [setB_mask s]
  have h := List.all_eq_true.1 (List.all_eq_true.1 pop_all m (mem_gen 6 (-1) m (by omega) hm)) _ (mask_gen (hasI s))
  rw [eq_of_beq h]
  congr 2
  exact List.filter_congr fun x hx => hasI_mask _ x (rises_mem hm x hx)
end Go.Proofs
end
section
/- Plain facts about the models of chapter 08. -/


namespace Go.Proofs
open Go.Tm
set_option linter.unusedSimpArgs false

theorem nodes_loop (l : List TPromise) : ∀ acc : List Int, acc.length + l.length < 1000000 → m_attempt_nodes_loop1 l acc = some (acc ++ l.map TPromise.Node) := by
  induction l with
  | nil => intro acc _; simp [m_attempt_nodes_loop1]
  | cons y l ih =>
    intro acc h
    simp only [List.length_cons] at h
    rw [m_attempt_nodes_loop1, if_pos (by simp; omega), ih _ (by simp; omega)]
    simp
theorem nodes_eq (l : List TPromise) (h : l.length < 1000000) : m_attempt_nodes l = some (l.map TPromise.Node) := by
  rw [m_attempt_nodes, nodes_loop l [] (by simpa using h)]; rfl
def bestS : List TPromise → List UInt8 → Int → List UInt8
  | [], s, _ => s
  | y :: l, s, n => if y.Ballot > n then bestS l y.Value y.Ballot else bestS l s n
theorem best_loop (l : List TPromise) : ∀ s n, m_attempt_Best_loop1 l s n = some (bestS l s n) := by
  induction l with
  | nil => intro s n; rfl
  | cons y l ih =>
    intro s n
    rw [m_attempt_Best_loop1, bestS]
    split <;> simp only [Option.bind_some] <;> exact ih _ _
theorem best_eq (l : List TPromise) (w : List UInt8) : m_attempt_Best l w = some (bestS l w 0) := by
  rw [m_attempt_Best, best_loop]; rfl

theorem index_loop (v : Int) (l : List Int) : ∀ n : Nat, (v ∈ l → ∃ k : Nat, m_slices_Index_int_int_loop1 v l n = some (.inl (k : Int))) ∧ (v ∉ l → m_slices_Index_int_int_loop1 v l n = some (.inr ())) := by
  induction l with
  | nil => intro n; exact ⟨(fun h => by cases h), fun _ => rfl⟩
  | cons y l ih =>
    intro n
    rw [m_slices_Index_int_int_loop1]
    by_cases h : v = y
    · rw [if_pos h]
      exact ⟨fun _ => ⟨n, rfl⟩, fun hn => absurd (h ▸ List.mem_cons_self) hn⟩
    · rw [if_neg h]
      refine ⟨fun hv => (ih (n + 1)).1 ?_, fun hv => (ih (n + 1)).2 fun hh => hv (List.mem_cons_of_mem _ hh)⟩
      rcases List.mem_cons.1 hv with hv | hv
      · exact absurd hv h
      · exact hv
theorem has_eq (l : List Int) (v : Int) : m_quorum_Has l v = some (decide (v ∈ l)) := by
  rw [m_quorum_Has, m_slices_Contains_int_int, m_slices_Index_int_int]
  by_cases h : v ∈ l
  · obtain ⟨k, hk⟩ := (index_loop v l 0).1 h
    rw [hk]
    simp [h]
  · rw [(index_loop v l 0).2 h]
    simp [h]
end Go.Proofs
end
section
/- Plain facts about quorums and ballots. -/

namespace Go.Proofs
open Go.Tm
set_option linter.unusedSimpArgs false

theorem rises_lt : ∀ (l : List Int) (k : Int), risesP k l = true → ∀ x ∈ l, k < x ∧ x < 6 := by
  intro l
  induction l with
  | nil => intro _ _ x hx; cases hx
  | cons y l ih =>
    intro k h x hx
    simp only [risesP, Bool.and_eq_true, decide_eq_true_eq] at h
    rcases List.mem_cons.1 hx with rfl | hx
    · exact h.1
    · have := ih y h.2 x hx
      omega
theorem qcheck_loop (l : List Int) : ∀ n, m_quorum_Check_loop1 l n = some (if risesP n l = true then .inr (l.getLastD n) else .inl 60) := by
  induction l with
  | nil => intro n; simp [m_quorum_Check_loop1, risesP]
  | cons y l ih =>
    intro n
    rw [m_quorum_Check_loop1]
    by_cases h : (y ≤ n) ∨ (y ≥ 6)
    · rw [if_pos h, if_neg (by simp only [risesP, Bool.and_eq_true, decide_eq_true_eq]; omega)]
    · rw [if_neg h, ih]
      have : risesP n (y :: l) = risesP y l := by
        simp only [risesP]
        have h1 : decide (n < y) = true := by simp; omega
        have h2 : decide (y < 6) = true := by simp; omega
        simp [h1, h2]
      rw [this, List.getLastD_cons]
def QOk (l : List Int) : Prop := l.length ≤ 6 ∧ risesP (-1) l = true ∧ l ≠ []
instance (l : List Int) : Decidable (QOk l) := by unfold QOk; infer_instance
theorem qcheck_eq (l : List Int) : m_quorum_Check l = some (if l.length > 6 then 4 else if risesP (-1) l = true ∧ l ≠ [] then 0 else 60) := by
  rw [m_quorum_Check]
  by_cases h : (l.length : Int) > 6
  · rw [if_pos h, if_pos (by omega)]
  · rw [if_neg h, if_neg (by omega), qcheck_loop]
    by_cases hr : risesP (-1) l = true
    · rw [if_pos hr]
      cases l with
      | nil => simp
      | cons y l =>
        have hl := (rises_lt (y :: l) (-1) hr ((y :: l).getLastD (-1)) (by rw [List.getLastD_eq_getLast?, List.getLast?_eq_some_getLast (by simp)]; exact List.getLast_mem (by simp))).1
        simp only [Option.bind_some, ne_eq, reduceCtorEq, not_false_eq_true, and_true, if_pos hr]
        rw [if_neg (by omega)]
    · rw [if_neg hr]
      simp [hr]
theorem qok_iff (l : List Int) : m_quorum_Check l = some 0 ↔ QOk l := by
  rw [qcheck_eq]
  unfold QOk
  by_cases h : l.length > 6
  · rw [if_pos h]; simp; omega
  · rw [if_neg h]
    by_cases h2 : risesP (-1) l = true ∧ l ≠ []
    · rw [if_pos h2]; simp only [true_iff]; exact ⟨by omega, h2⟩
    · rw [if_neg h2]; simp; intro _ h3; exact Classical.byContradiction fun h4 => h2 ⟨h3, h4⟩
end Go.Proofs
end
section
/- Plain facts about ballots, promises and rising lists. -/

namespace Go.Proofs
open Go.Tm
set_option linter.unusedSimpArgs false

/-- may this number be a ballot's? -/
def BOk (b : Int) : Prop := ¬ (wr .i64 (b.tdiv 8) < 1 ∨ wr .i64 (b.tdiv 8) > 1048576) ∧ b.tmod 8 ≥ 0 ∧ b.tmod 8 < 6
instance (b : Int) : Decidable (BOk b) := by unfold BOk; infer_instance
theorem bcheck_eq (b : Int) : m_ballot_Check b = some (if BOk b then 0 else 50) := by
  rw [m_ballot_Check, m_ballot_Of, m_ballot_node]
  unfold BOk
  by_cases h : wr .i64 (b.tdiv 8) < 1 ∨ wr .i64 (b.tdiv 8) > 1048576
  · simp [h]
  · by_cases h1 : b.tmod 8 ≥ 0 <;> by_cases h2 : b.tmod 8 < 6 <;> simp [h, h1, h2]
/-- may this be promised to a ballot? -/
def MayS (p : TPromise) (b : Int) : Prop := if p.Ballot = 0 then p.Value = [] else BOk p.Ballot ∧ p.Ballot < b ∧ p.Value.length ≤ 1024
instance (p : TPromise) (b : Int) : Decidable (MayS p b) := by unfold MayS; infer_instance
theorem may_eq (p : TPromise) (b : Int) : m_attempt_may p b = some (decide (MayS p b)) := by
  rw [m_attempt_may, bcheck_eq]
  by_cases h : p.Ballot = 0
  · have e : MayS p b ↔ p.Value = [] := by unfold MayS; rw [if_pos h]
    have e2 : decide (MayS p b) = decide (p.Value = []) := decide_eq_decide.2 e
    rw [if_pos h, e2]
    congr 1
    rw [Bool.eq_iff_iff]
    simp
  · have e : MayS p b ↔ (BOk p.Ballot ∧ p.Ballot < b ∧ p.Value.length ≤ 1024) := by unfold MayS; rw [if_neg h]
    have e2 : decide (MayS p b) = decide (BOk p.Ballot ∧ p.Ballot < b ∧ p.Value.length ≤ 1024) := decide_eq_decide.2 e
    rw [if_neg h, e2]
    by_cases h1 : BOk p.Ballot <;> simp [h1]
    rw [Bool.eq_iff_iff]
    simp
    intro _
    omega
end Go.Proofs
end
section
/- Plain facts about rising lists among members. -/

namespace Go.Proofs
open Go.Tm
set_option linter.unusedSimpArgs false

/-- rising, all of them members, from behind a number on -/
def riseS (m : List Int) : Option Int → List Int → Bool
  | _, [] => true
  | k, y :: l => (match k with | none => true | some k => decide (k < y)) && decide (y ∈ m) && riseS m (some y) l
theorem rising_loop (m a0 : List Int) : ∀ (l : List Int) (n : Nat), a0.drop n = l → m_attempt_rising_loop1 a0 m l n = some (if riseS m (if n = 0 then none else some (a0.getD (n - 1) default)) l = true then .inr () else .inl false) := by
  intro l
  induction l with
  | nil => intro n _; simp [m_attempt_rising_loop1, riseS]
  | cons y l ih =>
    intro n h
    have hn : n < a0.length := by
      rcases Nat.lt_or_ge n a0.length with h1 | h1
      · exact h1
      · rw [List.drop_eq_nil_of_le h1] at h; cases h
    have hy : a0.getD n default = y := by
      have := List.drop_eq_getElem_cons hn
      rw [h] at this
      simp only [List.cons.injEq] at this
      simp [List.getD, List.getElem?_eq_getElem hn, this.1]
    have hl : a0.drop (n + 1) = l := by
      have := List.drop_eq_getElem_cons hn
      rw [h] at this
      simp only [List.cons.injEq] at this
      exact this.2.symm
    rw [m_attempt_rising_loop1, has_eq]
    have key := ih (n + 1) hl
    rw [if_neg (show ¬ (n + 1 = 0) by omega), show n + 1 - 1 = n from rfl, hy] at key
    by_cases h0 : n = 0
    · subst h0
      by_cases hm : y ∈ m
      · simp [hm, key, riseS]
      · simp [hm, riseS]
    · have hp : (n : Int) > 0 := by omega
      rw [if_neg h0]
      generalize a0.getD (n - 1) default = z
      by_cases hle : y ≤ z
      · have : ¬ (z < y) := by omega
        have hn0 : 0 < n := by omega
        simp [hle, riseS, this, h0, hn0]
      · have : z < y := by omega
        by_cases hm : y ∈ m
        · simp [hle, riseS, this, hm, key]
        · simp [hle, riseS, this, hm]
theorem rising_eq (l m : List Int) : m_attempt_rising l m = some (riseS m none l) := by
  rw [m_attempt_rising, rising_loop m l l 0 (by simp)]
  rw [if_pos rfl]
  cases h : riseS m none l <;> simp
end Go.Proofs
end
section
/- Plain facts about majorities. -/

namespace Go.Proofs
open Go.Tm
set_option linter.unusedSimpArgs false

theorem set_loop (l : List Int) : ∀ s, m_quorum_set_loop1 l s = some (l.foldl (fun s n => bif decide (n ≥ 0) && decide (n < 6) then bitw .or .u64 s (shw true .u64 1 n) else s) s) := by
  induction l with
  | nil => intro s; rfl
  | cons y l ih =>
    intro s
    rw [m_quorum_set_loop1, List.foldl_cons]
    by_cases h0 : y ≥ 0
    · by_cases h6 : y < 6
      · have : 0 ≤ y := h0
        simp [h0, h6, this, ih]
      · simp [h0, h6, ih]
    · simp [h0, ih]
theorem set_eq (l : List Int) : m_quorum_set l = some (setB l) := by
  rw [m_quorum_set, set_loop]; rfl
theorem ones_eq (n : Int) : m_math_bits_OnesCount n = some (popI n) := by
  rw [m_math_bits_OnesCount, m_math_bits_OnesCount64]
  rfl
/-- as many members as a majority needs -/
def mostS (m l : List Int) : Bool := decide (((m.filter (hasI l)).length : Int) ≥ (m.length / 2 + 1 : Nat))
theorem most_eq (m l : List Int) (hm : QOk m) (hl : l.length ≤ 1000) : m_quorum_Most m l = some (mostS m l, 0) := by
  have hn : wr .i64 (wr .i64 ((m.length : Int).tdiv 2) + 1) = ((m.length / 2 + 1 : Nat) : Int) := by
    have h6 := hm.1
    generalize m.length = k at h6
    match k, h6 with
    | 0, _ => decide +kernel
    | 1, _ => decide +kernel
    | 2, _ => decide +kernel
    | 3, _ => decide +kernel
    | 4, _ => decide +kernel
    | 5, _ => decide +kernel
    | 6, _ => decide +kernel
    | k + 7, h => omega
  rw [m_quorum_Most, m_quorum_Need, (qok_iff m).2 hm]
  simp only [Option.bind_some, not_true_eq_false, if_false, hn]
  rw [if_neg (by omega), set_eq, set_eq]
  simp only [Option.bind_some, ones_eq, pop_count hm.2.1 l]
  rfl
end Go.Proofs
end
section
/- Plain facts about valid attempts. -/

namespace Go.Proofs
open Go.Tm
set_option linter.unusedSimpArgs false

theorem indexFunc_loop (f : TPromise → Option Bool) (g : TPromise → Bool) (hf : ∀ x, f x = some (g x)) (l : List TPromise) : ∀ n : Nat, (l.any g = true → ∃ k : Nat, m_slices_IndexFunc_Promise_Promise_loop1 f l n = some (.inl (k : Int))) ∧ (l.any g = false → m_slices_IndexFunc_Promise_Promise_loop1 f l n = some (.inr ())) := by
  induction l with
  | nil => intro n; exact ⟨(fun h => by cases h), fun _ => rfl⟩
  | cons y l ih =>
    intro n
    rw [m_slices_IndexFunc_Promise_Promise_loop1, hf, List.any_cons]
    cases hg : g y with
    | true => exact ⟨fun _ => ⟨n, by simp⟩, fun h => by cases h⟩
    | false => simpa using ih (n + 1)
theorem containsFunc_eq (f : TPromise → Option Bool) (g : TPromise → Bool) (hf : ∀ x, f x = some (g x)) (l : List TPromise) : m_slices_ContainsFunc_Promise_Promise l f = some (l.any g) := by
  rw [m_slices_ContainsFunc_Promise_Promise, m_slices_IndexFunc_Promise_Promise]
  cases h : l.any g with
  | true => obtain ⟨k, hk⟩ := (indexFunc_loop f g hf l 0).1 h; rw [hk]; simp
  | false => rw [(indexFunc_loop f g hf l 0).2 h]; simp

theorem equal_loop (b : List Int) : ∀ (l : List Int) (n : Nat), n + l.length = b.length → m_slices_Equal_int_int_loop1 b l n = some (if l = b.drop n then .inr () else .inl false) := by
  intro l
  induction l with
  | nil => intro n h; simp [m_slices_Equal_int_int_loop1]; simp at h; omega
  | cons y l ih =>
    intro n h
    simp only [List.length_cons] at h
    have hn : n < b.length := by omega
    have hg : b.getD n default = b[n] := by simp [List.getD, List.getElem?_eq_getElem hn]
    have hd := List.drop_eq_getElem_cons hn
    rw [m_slices_Equal_int_int_loop1, if_pos hn, hg]
    generalize b[n] = z at hd
    rw [hd]
    by_cases hy : y = z
    · rw [if_neg (by simpa using hy), ih (n + 1) (by omega)]
      simp only [hy, List.cons.injEq, true_and]
    · rw [if_pos hy]
      simp only [hy, List.cons.injEq, false_and, if_false]
theorem equal_eq (a b : List Int) : m_slices_Equal_int_int a b = some (decide (a = b)) := by
  rw [m_slices_Equal_int_int]
  by_cases h : (a.length : Int) = (b.length : Int)
  · rw [if_neg (by simpa using h), equal_loop b a 0 (by omega), List.drop_zero]
    by_cases hab : a = b <;> simp [hab]
  · rw [if_pos h]
    have : a ≠ b := fun hh => h (by rw [hh])
    simp [this]

theorem equalP_loop (b : List TPromise) : ∀ (l : List TPromise) (n : Nat), n + l.length = b.length → m_slices_Equal_Promise_Promise_loop1 b l n = some (if l = b.drop n then .inr () else .inl false) := by
  intro l
  induction l with
  | nil => intro n h; simp [m_slices_Equal_Promise_Promise_loop1]; simp at h; omega
  | cons y l ih =>
    intro n h
    simp only [List.length_cons] at h
    have hn : n < b.length := by omega
    have hg : b.getD n default = b[n] := by simp [List.getD, List.getElem?_eq_getElem hn]
    have hd := List.drop_eq_getElem_cons hn
    rw [m_slices_Equal_Promise_Promise_loop1, if_pos hn, hg]
    generalize b[n] = z at hd
    rw [hd]
    have e : (y.Node = z.Node ∧ y.Ballot = z.Ballot ∧ y.Value = z.Value) ↔ y = z := by cases y; cases z; simp
    by_cases hy : y = z
    · rw [if_neg (by simpa using e.2 hy), ih (n + 1) (by omega)]
      simp only [hy, List.cons.injEq, true_and]
    · rw [if_pos (fun hh => hy (e.1 hh))]
      simp only [hy, List.cons.injEq, false_and, if_false]
theorem equalP_eq (a b : List TPromise) : m_slices_Equal_Promise_Promise a b = some (decide (a = b)) := by
  rw [m_slices_Equal_Promise_Promise]
  by_cases h : (a.length : Int) = (b.length : Int)
  · rw [if_neg (by simpa using h), equalP_loop b a 0 (by omega), List.drop_zero]
    by_cases hab : a = b <;> simp [hab]
  · rw [if_pos h]
    have : a ≠ b := fun hh => h (by rw [hh])
    simp [this]
theorem same_eq (a b : TAttempt) : m_attempt_Same a b = some (decide (a = b)) := by
  obtain ⟨p, bl, m, w, v, pr, ac⟩ := a
  obtain ⟨p', bl', m', w', v', pr', ac'⟩ := b
  simp only [m_attempt_Same, equal_eq, equalP_eq, TAttempt.mk.injEq]
  by_cases h1 : p = p' <;> by_cases h2 : bl = bl' <;> by_cases h3 : m = m' <;> by_cases h4 : w = w' <;> by_cases h5 : v = v' <;> by_cases h6 : pr = pr' <;> simp [h1, h2, h3, h4, h5, h6]
end Go.Proofs
end
section
/- Plain facts about valid attempts: what attempt.Check tells. -/

namespace Go.Proofs
open Go.Tm
set_option linter.unusedSimpArgs false

/-- what every begun attempt keeps -/
structure Kept (a : TAttempt) : Prop where
  ballot : BOk a.Ballot
  members : QOk a.Members
  wish : a.Wish.length ≤ 1024
  nodes : riseS a.Members none (a.Promises.map TPromise.Node) = true
  accepted : riseS a.Members none a.Accepted = true
  may : ∀ p ∈ a.Promises, MayS p a.Ballot
  most : mostS a.Members (a.Promises.map TPromise.Node) = decide (a.Phase > 1)
  chosen : mostS a.Members a.Accepted = (a.Phase == 3)
  value : a.Phase = 1 ∨ a.Value = bestS a.Promises a.Wish 0
def Valid (a : TAttempt) : Prop :=
  if a.Phase = 0 then a = ⟨0, 0, [], [], [], [], []⟩
  else ((a.Phase = 1 ∧ a.Value = [] ∧ a.Accepted = []) ∨ a.Phase = 2 ∨ a.Phase = 3) ∧ Kept a
theorem any_may (l : List TPromise) (b : Int) : (l.any fun x => !decide (MayS x b)) = true ↔ ¬ ∀ p ∈ l, MayS p b := by
  simp

theorem risesP_len : ∀ (l : List Int) (k : Int), risesP k l = true → k < 6 → (l.length : Int) ≤ 5 - k := by
  intro l
  induction l with
  | nil => intro k _ h; simp; omega
  | cons y l ih =>
    intro k h hk
    simp only [risesP, Bool.and_eq_true, decide_eq_true_eq] at h
    have := ih y h.2 h.1.2
    simp only [List.length_cons]
    omega
theorem riseS_risesP {m : List Int} (hm : QOk m) : ∀ (l : List Int) (k : Int), riseS m (some k) l = true → risesP k l = true := by
  intro l
  induction l with
  | nil => intro _ _; rfl
  | cons y l ih =>
    intro k h
    simp only [riseS, Bool.and_eq_true, decide_eq_true_eq] at h
    have := (rises_lt m (-1) hm.2.1 y h.1.2).2
    simp only [risesP, Bool.and_eq_true, decide_eq_true_eq]
    exact ⟨⟨h.1.1, this⟩, ih y h.2⟩
theorem riseS_none {m : List Int} (hm : QOk m) (l : List Int) (h : riseS m none l = true) : risesP (-1) l = true := by
  cases l with
  | nil => rfl
  | cons y l =>
    simp only [riseS, Bool.and_eq_true, decide_eq_true_eq, true_and] at h
    have := rises_lt m (-1) hm.2.1 y h.1
    simp only [risesP, Bool.and_eq_true, decide_eq_true_eq]
    exact ⟨this, riseS_risesP hm l y h.2⟩
theorem riseS_len {m : List Int} (hm : QOk m) (l : List Int) (h : riseS m none l = true) : l.length ≤ 6 := by
  have := risesP_len l (-1) (riseS_none hm l h) (by omega)
  omega

theorem amost_eq (m l : List Int) (hm : QOk m) (hl : l.length ≤ 1000) : m_attempt_most m l = some (mostS m l) := by
  rw [m_attempt_most, most_eq m l hm hl]; rfl
theorem check1_eq (x : TPromise) (a : TAttempt) : m_attempt_Check_1 x a = some (!decide (MayS x a.Ballot)) := by
  rw [m_attempt_Check_1, may_eq]; rfl
theorem qcheck_ne {m : List Int} (h : ¬ QOk m) : ∃ e, m_quorum_Check m = some e ∧ e ≠ 0 := by
  have h2 : m_quorum_Check m ≠ some 0 := fun hh => h ((qok_iff m).1 hh)
  rw [qcheck_eq] at h2 ⊢
  exact ⟨_, rfl, fun hh => h2 (by rw [hh])⟩

theorem kept_iff (a : TAttempt) : Kept a ↔ BOk a.Ballot ∧ QOk a.Members ∧ a.Wish.length ≤ 1024 ∧ riseS a.Members none (a.Promises.map TPromise.Node) = true ∧ riseS a.Members none a.Accepted = true ∧ (∀ p ∈ a.Promises, MayS p a.Ballot) ∧ mostS a.Members (a.Promises.map TPromise.Node) = decide (a.Phase > 1) ∧ mostS a.Members a.Accepted = (a.Phase == 3) ∧ (a.Phase = 1 ∨ a.Value = bestS a.Promises a.Wish 0) :=
  ⟨fun h => ⟨h.1, h.2, h.3, h.4, h.5, h.6, h.7, h.8, h.9⟩, fun ⟨h1, h2, h3, h4, h5, h6, h7, h8, h9⟩ => ⟨h1, h2, h3, h4, h5, h6, h7, h8, h9⟩⟩

/-- what attempt.Check asks of all begun attempts -/
def checkTail (a0 : TAttempt) (b2 : Bool) : Option Bool :=
  Option.bind (if b2 = true then m_ballot_Check a0.Ballot else some default) fun v2 =>
  Option.bind (if (b2 = true) ∧ (v2 = 0) then m_quorum_Check a0.Members else some default) fun v3 =>
  Option.bind (if (((b2 = true) ∧ (v2 = 0)) ∧ (v3 = 0)) ∧ ((a0.Wish.length : Int) ≤ 1024) then m_attempt_nodes a0.Promises else some default) fun v4 =>
  Option.bind (if (((b2 = true) ∧ (v2 = 0)) ∧ (v3 = 0)) ∧ ((a0.Wish.length : Int) ≤ 1024) then m_attempt_rising v4 a0.Members else some default) fun v5 =>
  Option.bind (if ((((b2 = true) ∧ (v2 = 0)) ∧ (v3 = 0)) ∧ ((a0.Wish.length : Int) ≤ 1024)) ∧ (v5 = true) then m_attempt_rising a0.Accepted a0.Members else some default) fun v6 =>
  Option.bind (if (((((b2 = true) ∧ (v2 = 0)) ∧ (v3 = 0)) ∧ ((a0.Wish.length : Int) ≤ 1024)) ∧ (v5 = true)) ∧ (v6 = true) then m_slices_ContainsFunc_Promise_Promise a0.Promises (fun x0 => m_attempt_Check_1 x0 a0) else some default) fun v7 =>
  Option.bind (if ((((((b2 = true) ∧ (v2 = 0)) ∧ (v3 = 0)) ∧ ((a0.Wish.length : Int) ≤ 1024)) ∧ (v5 = true)) ∧ (v6 = true)) ∧ (¬ (v7 = true)) then m_attempt_nodes a0.Promises else some default) fun v8 =>
  Option.bind (if ((((((b2 = true) ∧ (v2 = 0)) ∧ (v3 = 0)) ∧ ((a0.Wish.length : Int) ≤ 1024)) ∧ (v5 = true)) ∧ (v6 = true)) ∧ (¬ (v7 = true)) then m_attempt_most a0.Members v8 else some default) fun v9 =>
  Option.bind (if (((((((b2 = true) ∧ (v2 = 0)) ∧ (v3 = 0)) ∧ ((a0.Wish.length : Int) ≤ 1024)) ∧ (v5 = true)) ∧ (v6 = true)) ∧ (¬ (v7 = true))) ∧ ((v9 == (decide (a0.Phase > 1))) = true) then m_attempt_most a0.Members a0.Accepted else some default) fun v10 =>
  Option.bind (if (((((((((b2 = true) ∧ (v2 = 0)) ∧ (v3 = 0)) ∧ ((a0.Wish.length : Int) ≤ 1024)) ∧ (v5 = true)) ∧ (v6 = true)) ∧ (¬ (v7 = true))) ∧ ((v9 == (decide (a0.Phase > 1))) = true)) ∧ ((v10 == (a0.Phase == 3)) = true)) ∧ (¬ (a0.Phase = 1)) then m_attempt_Best a0.Promises a0.Wish else some default) fun v11 =>
  some (((((((((b2 && (v2 == 0)) && (v3 == 0)) && (decide ((a0.Wish.length : Int) ≤ 1024))) && v5) && v6) && (!v7)) && (v9 == (decide (a0.Phase > 1)))) && (v10 == (a0.Phase == 3))) && ((a0.Phase == 1) || (a0.Value == v11)))

theorem tail_eq (a : TAttempt) (hl : a.Promises.length < 1000000) (b2 : Bool) : ∃ r, checkTail a b2 = some r ∧ (r = true ↔ b2 = true ∧ Kept a) := by
  unfold checkTail
  rw [kept_iff]
  cases b2 with
  | false => simp
  | true =>
    rw [bcheck_eq]
    by_cases hb : BOk a.Ballot
    · by_cases hq : QOk a.Members
      · have hq0 := (qok_iff _).2 hq
        by_cases hw : a.Wish.length ≤ 1024
        · have hw' : (a.Wish.length : Int) ≤ 1024 := by omega
          simp only [hb, hq0, hw', if_true, and_self, Option.bind_some, nodes_eq _ hl, rising_eq]
          by_cases h5 : riseS a.Members none (a.Promises.map TPromise.Node) = true
          · by_cases h6 : riseS a.Members none a.Accepted = true
            · have l1 := riseS_len hq _ h5
              have l2 := riseS_len hq _ h6
              rw [containsFunc_eq _ (fun x => !decide (MayS x a.Ballot)) (fun x => check1_eq x a)]
              simp only [h5, h6, and_self, if_true, Option.bind_some]
              by_cases h7 : ∀ p ∈ a.Promises, MayS p a.Ballot
              · have h7' : (a.Promises.any fun x => !decide (MayS x a.Ballot)) = false := by
                  rw [Bool.eq_false_iff]; intro hh; exact (any_may _ _).1 hh h7
                simp only [h7', Bool.false_eq_true, not_false_eq_true, and_self, if_true, Option.bind_some, amost_eq _ _ hq (Nat.le_trans l1 (by omega)), amost_eq _ _ hq (Nat.le_trans l2 (by omega)), best_eq]
                by_cases h9 : mostS a.Members (a.Promises.map TPromise.Node) = decide (a.Phase > 1)
                · by_cases h10 : mostS a.Members a.Accepted = (a.Phase == 3)
                  · by_cases h11 : a.Phase = 1
                    · simp [h9, h10, h11, hq, hw]
                      exact h7
                    · simp [h9, h10, h11, hq, hw]
                      exact fun _ => h7
                  · simp [h9, h10]
                · simp [h9]
              · have h7' := (any_may _ _).2 h7
                simp [h7', h7]
            · simp [h5, h6]
          · simp [h5]
        · have hw' : ¬ (a.Wish.length : Int) ≤ 1024 := by omega
          simp [hb, hq0, hw, hw']
      · obtain ⟨e, he, hne⟩ := qcheck_ne hq
        simp [hb, he, hne, hq]
    · simp [hb]

theorem check_eq (a : TAttempt) (hl : a.Promises.length < 1000000) : ∃ e, m_attempt_Check a = some e ∧ (e = 0 ↔ Valid a) := by
  unfold Valid
  rw [m_attempt_Check]
  by_cases h0 : a.Phase = 0
  · rw [if_pos h0, if_pos h0, same_eq]
    by_cases hz : a = ⟨0, 0, [], [], [], [], []⟩ <;> simp [hz]
  · rw [if_neg h0, if_neg h0]
    have key : ∀ b2 : Bool, ∃ e, (Option.bind (checkTail a b2) fun b1 => if ¬ (b1 = true) then some (8 : Int) else some 0) = some e ∧ (e = 0 ↔ b2 = true ∧ Kept a) := by
      intro b2
      obtain ⟨r, h1, h2⟩ := tail_eq a hl b2
      rw [h1, ← h2]
      cases r <;> simp
    by_cases h1 : a.Phase = 1
    · rw [if_pos h1]
      obtain ⟨e, he, h2⟩ := key ((a.Value == []) && ((a.Accepted.length : Int) == 0))
      refine ⟨e, he, ?_⟩
      rw [h2]
      simp [h1]
    · rw [if_neg h1]
      by_cases h2 : a.Phase = 2
      · obtain ⟨e, he, h3⟩ := key true
        refine ⟨e, ?_, ?_⟩
        · have hb : (a.Phase == 2) = true := by simp [h2]
          rw [if_pos h2, hb]
          exact he
        · rw [h3]
          simp [h2]
      · by_cases h3 : a.Phase = 3
        · obtain ⟨e, he, h4⟩ := key true
          refine ⟨e, ?_, ?_⟩
          · have hb : (a.Phase == 3) = true := by simp [h3]
            rw [if_neg h2]
            refine Eq.trans ?_ he
            show Option.bind (Option.bind (Option.bind (some (a.Phase == 3)) _) _) _ = _
            generalize hg : (a.Phase == 3) = q at hb
            subst hb
            unfold checkTail
            rw [hg]
            rfl
          · rw [h4]
            simp [h3]
        · exact ⟨8, by simp [h2, h3], by simp [h1, h2, h3]⟩
end Go.Proofs
end
section
/- Plain facts about sort.Search. -/

namespace Go.Proofs
open Go.Tm
set_option linter.unusedSimpArgs false

theorem half_eq (i j : Nat) (h : i + j < 4000000) : wr .i64 (shw false .u64 (wr .u64 (wr .i64 ((i : Int) + (j : Int)))) 1) = (((i + j) / 2 : Nat) : Int) := by
  have e1 : wr .i64 ((i : Int) + (j : Int)) = (i : Int) + (j : Int) := wr_eq _ _ (by show (-9223372036854775808 : Int) ≤ _; omega) (by show _ ≤ (9223372036854775807 : Int); omega)
  have e2 : wr .u64 ((i : Int) + (j : Int)) = (i : Int) + (j : Int) := wr_eq _ _ (by show (0 : Int) ≤ _; omega) (by show _ ≤ (18446744073709551615 : Int); omega)
  have e3 : shw false .u64 ((i : Int) + (j : Int)) 1 = (((i + j) / 2 : Nat) : Int) := by
    unfold shw
    show Int.fdiv ((i : Int) + (j : Int)) 2 = _
    rw [Int.fdiv_eq_ediv_of_nonneg _ (by omega)]
    omega
  rw [e1, e2, e3]
  exact wr_eq _ _ (by show (-9223372036854775808 : Int) ≤ _; omega) (by show _ ≤ (9223372036854775807 : Int); omega)
theorem search_loop (f : Int → Option Bool) (K n : Nat) (hn : n < 1000000) (hf : ∀ x : Nat, x < n → f (x : Int) = some (decide (K ≤ x))) : ∀ (fu i j : Nat), j - i < fu → i ≤ K → K ≤ j → j ≤ n → m_sort_Search_loop1 f fu (i : Int) (j : Int) = some (K : Int) := by
  intro fu
  induction fu with
  | zero => intro i j h; omega
  | succ fu ih =>
    intro i j h h1 h2 h3
    rw [m_sort_Search_loop1]
    by_cases hij : i < j
    · rw [if_pos (by omega), half_eq i j (by omega), hf _ (by omega)]
      simp only [Option.bind_some]
      by_cases hk : K ≤ (i + j) / 2
      · rw [if_neg (by simpa using hk)]
        exact ih i ((i + j) / 2) (by omega) h1 hk (by omega)
      · rw [if_pos (by simpa using hk)]
        have e : wr .i64 ((((i + j) / 2 : Nat) : Int) + 1) = (((i + j) / 2 + 1 : Nat) : Int) := wr_eq _ _ (by show (-9223372036854775808 : Int) ≤ _; omega) (by show _ ≤ (9223372036854775807 : Int); omega)
        rw [e]
        exact ih _ j (by omega) (by omega) h2 h3
    · rw [if_neg (by omega)]
      congr 2
      omega
theorem search_eq (f : Int → Option Bool) (K n : Nat) (hn : n < 1000000) (hK : K ≤ n) (hf : ∀ x : Nat, x < n → f (x : Int) = some (decide (K ≤ x))) : m_sort_Search (n : Int) f = some (K : Int) := by
  rw [m_sort_Search]
  have h := search_loop f K n hn hf ((n : Int).toNat + 1) 0 n (by simp) (by omega) hK (by omega)
  rw [show ((0 : Nat) : Int) = 0 from rfl] at h
  rw [h]
  rfl
end Go.Proofs
end
