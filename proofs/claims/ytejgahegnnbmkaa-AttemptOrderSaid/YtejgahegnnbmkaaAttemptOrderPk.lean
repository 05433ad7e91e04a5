/- Models of functions, printed by gw.py. -/
import Derived.Test.YtejgahegnnbmkaaAttemptOrderPf
import Derived.Test.YtejgahegnnbmkaaAttemptOrderPg
import Derived.Test.YtejgahegnnbmkaaAttemptOrderPh
import Derived.Test.YtejgahegnnbmkaaAttemptOrderPi
import Derived.Test.YtejgahegnnbmkaaAttemptOrderPj
section
namespace Go.Proofs
open Go.Tm

def m_attempt_Promised_1 (a0 : Int) (c0 : TAttempt) (c1 : TPromise) : Option Bool :=
  if (0 ≤ a0 ∧ a0 < (c0.Promises.length : Int)) then
  some (decide ((c0.Promises.getD a0.toNat default).Node ≥ c1.Node))
  else none

def m_attempt_Promised (a : TAttempt) (b : Int) (p : TPromise) : Option (TAttempt × Int) :=
  Option.bind (m_attempt_Check a) fun v1 =>
  if ¬ (v1 = 0) then
  some ((⟨0, 0, [], [], [], [], []⟩ : TAttempt), v1)
  else
  Option.bind (if ¬ ((¬ (a.Phase = 1)) ∨ (¬ (b = a.Ballot))) then m_quorum_Has a.Members p.Node else some default) fun v2 =>
  if ((¬ (a.Phase = 1)) ∨ (¬ (b = a.Ballot))) ∨ (¬ (v2 = true)) then
  some ((⟨0, 0, [], [], [], [], []⟩ : TAttempt), 6)
  else
  Option.bind (m_attempt_may p b) fun v3 =>
  if ¬ (v3 = true) then
  some ((⟨0, 0, [], [], [], [], []⟩ : TAttempt), 8)
  else
  Option.bind (m_attempt_Twin a) fun v4 =>
  Option.bind (m_sort_Search (v4.Promises.length : Int) (fun x0 => m_attempt_Promised_1 x0 v4 p)) fun v5 =>
  if (v5 < (v4.Promises.length : Int)) → (0 ≤ v5 ∧ v5 < (v4.Promises.length : Int)) then
  if (v5 < (v4.Promises.length : Int)) ∧ ((v4.Promises.getD v5.toNat default).Node = p.Node) then
  some (v4, 0)
  else
  if 0 ≤ v5 ∧ v5 ≤ (v4.Promises.length : Int) then
  if v4.Promises.length < 1000000 then
  Option.bind (α := Int × (List UInt8)) (Option.bind (m_attempt_nodes ((v4.Promises.take v5.toNat) ++ (p :: (v4.Promises.drop v5.toNat)))) fun v6 =>
  Option.bind (m_attempt_most v4.Members v6) fun v7 =>
  if v7 = true then
  Option.bind (m_attempt_Best ((v4.Promises.take v5.toNat) ++ (p :: (v4.Promises.drop v5.toNat))) v4.Wish) fun v8 =>
  some (2, v8)
  else
  some (v4.Phase, v4.Value)) fun (n1, s1) =>
  some ((⟨n1, v4.Ballot, v4.Members, v4.Wish, s1, ((v4.Promises.take v5.toNat) ++ (p :: (v4.Promises.drop v5.toNat))), v4.Accepted⟩ : TAttempt), 0)
  else none
  else none
  else none

def m_attempt_Accepted (a : TAttempt) (b : Int) (node : Int) : Option (TAttempt × Int) :=
  Option.bind (m_attempt_Check a) fun v1 =>
  if ¬ (v1 = 0) then
  some ((⟨0, 0, [], [], [], [], []⟩ : TAttempt), v1)
  else
  Option.bind (if ¬ ((a.Phase < 2) ∨ (¬ (b = a.Ballot))) then m_quorum_Has a.Members node else some default) fun v2 =>
  if ((a.Phase < 2) ∨ (¬ (b = a.Ballot))) ∨ (¬ (v2 = true)) then
  some ((⟨0, 0, [], [], [], [], []⟩ : TAttempt), 6)
  else
  Option.bind (m_attempt_Twin a) fun v3 =>
  Option.bind (m_sort_SearchInts v3.Accepted node) fun v4 =>
  Option.bind (α := (List Int)) (if (¬ (v4 = (v3.Accepted.length : Int))) → (0 ≤ v4 ∧ v4 < (v3.Accepted.length : Int)) then
  if (v4 = (v3.Accepted.length : Int)) ∨ (¬ ((v3.Accepted.getD v4.toNat default) = node)) then
  if 0 ≤ v4 ∧ v4 ≤ (v3.Accepted.length : Int) then
  if v3.Accepted.length < 1000000 then
  some ((v3.Accepted.take v4.toNat) ++ (node :: (v3.Accepted.drop v4.toNat)))
  else none
  else none
  else
  some v3.Accepted
  else none) fun l1 =>
  Option.bind (α := Int) (Option.bind (m_attempt_most v3.Members l1) fun v5 =>
  if v5 = true then
  some 3
  else
  some v3.Phase) fun n1 =>
  some ((⟨n1, v3.Ballot, v3.Members, v3.Wish, v3.Value, v3.Promises, l1⟩ : TAttempt), 0)
end Go.Proofs
end
section
/- The walks of functions, printed by gw.py. -/









namespace Go.Proofs
open Go.Tm Go.RowKit Go.WideShapes
set_option maxRecDepth 100000
set_option maxHeartbeats 4000000
set_option linter.unusedSimpArgs false
set_option linter.unusedVariables false
attribute [local go_sem] argVars runE runK isCallV stepE aop opd opdsL opds opdO ev ofVal keep List.any Nat.beq Bool.false_or Bool.true_or aggEq cond_true cond_false Bool.cond_false_right Bool.cond_true_left beq_true beq_false imp_self implies_true getR getL put St.app effL del nwB blt_dec Nat.lt_irrefl Nat.lt_add_one ble_dec Nat.le_refl Nat.beq_refl roomNZ appendIn capS capK mkZ_zero mkZL_zero zeroEl D.ids D.idsL Option.getD bin arith sarith binT dpick Tm.part splice fillD oneD loadD storeD srcD sliceD idxOk decide_true gval dstAt D.cells List.map_cons List.map_nil List.take List.drop List.length_map List.append Int.toNat_natCast and_true true_and decide_false List.length_cons List.length_nil List.append_nil List.nil_append Bool.and_true Bool.true_and Bool.not_false Bool.not_true ne_eq not_false_eq_true BEq.rfl List.getElem?_cons_zero List.getElem?_cons_succ List.getElem?_nil Nat.zero_add List.all_cons List.all_nil List.isEmpty_cons List.isEmpty_nil List.any_cons List.any_nil List.drop_succ_cons List.drop_zero unfL unf okM okML low3 List.cons_append true_or or_true Nat.zero_mul Nat.zero_le fpOf opIds mvV mvH mvF pickL D.ren D.renL Blk.ren List.map_append List.length_append Bool.not_not Bool.or_not_self Bool.not_or_self Bool.or_true


theorem callP_attempt_Promised_1 (a0 : Int) (c0 : TAttempt) (c1 : TPromise) (r : Bool) (h : m_attempt_Promised_1 a0 c0 c1 = some r) : CallP Try.prog 84 [.int .i64 a0, .iptr 0 [.int .u8 c0.Phase, .int .i64 c0.Ballot, .imm 1 (c0.Members.map (D.int .i64)) 4, .str c0.Wish, .str c0.Value, .imm 3 (c0.Promises.map TPromise.d) 4, .imm 1 (c0.Accepted.map (D.int .i64)) 4], .iptr 0 [.int .i64 c1.Node, .int .i64 c1.Ballot, .str c1.Value]] (.bool r) := by
  refine callP_intro Try.tmOk 2 Try.func84 rfl (by decide) rfl rfl (Nat.le_of_ble_eq_true rfl) ?_
  intro hwf
  unfold m_attempt_Promised_1 at h
  refine .seq ?_
  refine .plain Try.tmOk Try.tmMixed [0, 1, 2] (by decide +kernel) (by intro q hq; simp only [go_sem, Nat.reduceSub, Int.reduceEq, Nat.reduceLT, Nat.reduceDiv, Nat.reduceAdd, Nat.reduceBEq, Nat.reduceLeDiff, reduceCtorEq, Nat.reduceEqDiff, Nat.reduceMod, appendD]; exact hq) (by first | rfl | (simp only [go_sem, Nat.reduceLeDiff]; done) | (simp only [go_sem, Nat.reduceLeDiff]; rfl) | (simp; done) | (simp [oneD] <;> omega) | (simp_all; done) | (simp_all [oneD] <;> omega)) (by first | exact Nat.le_refl _ | exact Nat.le_of_ble_eq_true rfl | (dsimp only; omega) | (simp <;> omega)) ?_
  refine .seq ?_
  obtain ⟨k1, h⟩ := ite_ck h
  have e1 := nth_mapI TPromise.d c0.Promises a0
  replace e1 := e1 k1
  refine .reg Try.tmOk Try.tmMixed [0, 1, 2] (by decide +kernel) ?_
  refine .RN 6 (dr := true) (.inl rfl) (by intro q hq; simp only [go_sem, Nat.reduceSub, Int.reduceEq, Nat.reduceLT, Nat.reduceDiv, Nat.reduceAdd, Nat.reduceBEq, Nat.reduceLeDiff, reduceCtorEq, Nat.reduceEqDiff, Nat.reduceMod, appendD, Try.tm_3, Try.tm_23, Try.tm_26, Try.tm_31, e1, TAttempt.d, TPromise.d]; exact hq) (by first | rfl | (simp only [go_sem, Nat.reduceLeDiff]; done) | (simp only [go_sem, Nat.reduceLeDiff]; rfl) | (simp; done) | (simp [oneD] <;> omega) | (simp_all; done) | (simp_all [oneD] <;> omega)) (by first | exact Nat.le_refl _ | exact Nat.le_of_ble_eq_true rfl | (dsimp only; omega) | (simp <;> omega)) ?_
  refine .RN 4 (dr := true) (.inl rfl) (by intro q hq; simp only [go_sem, Nat.reduceSub, Int.reduceEq, Nat.reduceLT, Nat.reduceDiv, Nat.reduceAdd, Nat.reduceBEq, Nat.reduceLeDiff, reduceCtorEq, Nat.reduceEqDiff, Nat.reduceMod, appendD, Try.tm_3, Try.tm_31, e1, TAttempt.d, TPromise.d]; exact hq) (by first | rfl | (simp only [go_sem, Nat.reduceLeDiff]; done) | (simp only [go_sem, Nat.reduceLeDiff]; rfl) | (simp; done) | (simp [oneD] <;> omega) | (simp_all; done) | (simp_all [oneD] <;> omega)) (by first | exact Nat.le_refl _ | exact Nat.le_of_ble_eq_true rfl | (dsimp only; omega) | (simp <;> omega)) ?_
  refine .nil ⟨fun _ => schedB_of (by kernel_rfl), ?_⟩
  have hq := Option.some.inj h
  subst r
  refine .ret ⟨.inr rfl, ResIs.to ?_⟩
  simp only [ResIs, resL, resD, resT, go_sem, Nat.reduceSub, Int.reduceEq, Nat.reduceLT, Nat.reduceDiv, Nat.reduceAdd, Nat.reduceBEq, Nat.reduceLeDiff, reduceCtorEq, Nat.reduceEqDiff, Nat.reduceMod, Try.f84, Try.tm_4]

def Try.St_attempt_Promised_1 (p : TPromise) (v4 : TAttempt) (v5 : Int) (n1 : Int) (s1 : List UInt8) : St := ⟨[(3, .ptr 0 0), (6, .ptr 2 0)], [(0, .box [.int .u8 n1, .int .i64 v4.Ballot, .ref 30 1 0 v4.Members.length (some unkC), .str v4.Wish, .str s1, .ref 31 3 0 (((v4.Promises.take v5.toNat) ++ (p :: (v4.Promises.drop v5.toNat))).length) (some unkC), .ref 32 1 0 v4.Accepted.length (some unkC)]), (2, .box [.int .u8 0, .int .i64 0, .imm 0 [] 0, .str [], .str [], .imm 0 [] 0, .imm 0 [] 0]), (30, .arr 3 1 true (v4.Members.map (D.int .i64))), (31, .arr 31 3 true (((v4.Promises.take v5.toNat) ++ (p :: (v4.Promises.drop v5.toNat))).map TPromise.d)), (32, .arr 3 1 true (v4.Accepted.map (D.int .i64)))], 33⟩
attribute [local go_sem] Try.St_attempt_Promised_1
theorem callH_attempt_Promised (a : TAttempt) (b : Int) (p : TPromise) (r : TAttempt × Int) (h : m_attempt_Promised a b p = some r) : CallH Try.prog 17 [.agg [.int .u8 a.Phase, .int .i64 a.Ballot, .imm 1 (a.Members.map (D.int .i64)) 4, .str a.Wish, .str a.Value, .imm 3 (a.Promises.map TPromise.d) 4, .imm 1 (a.Accepted.map (D.int .i64)) 4], .int .i64 b, .agg [.int .i64 p.Node, .int .i64 p.Ballot, .str p.Value]] [] (.tuple [.agg [.int .u8 r.1.Phase, .int .i64 r.1.Ballot, .ref 0 1 0 r.1.Members.length (some unkC), .str r.1.Wish, .str r.1.Value, .ref 1 3 0 r.1.Promises.length (some unkC), .ref 2 1 0 r.1.Accepted.length (some unkC)], .int .i64 r.2]) [(0, some (.arr 3 1 true (r.1.Members.map (D.int .i64)))), (1, some (.arr 31 3 true (r.1.Promises.map TPromise.d))), (2, some (.arr 3 1 true (r.1.Accepted.map (D.int .i64))))] (0, 38) := by
  refine callH_intro' Try.tmOk Try.func17 rfl (by decide) (Nat.le_of_ble_eq_true rfl) (by simp) ?_
  intro hwf
  unfold m_attempt_Promised at h
  refine .ends 0 (Nat.le_refl _) ?_
  refine .seq ?_
  refine .plain Try.tmOk Try.tmMixed [0, 1, 2] (by decide +kernel) (by intro q hq; simp only [go_sem, Nat.reduceSub, Int.reduceEq, Nat.reduceLT, Nat.reduceDiv, Nat.reduceAdd, Nat.reduceBEq, Nat.reduceLeDiff, reduceCtorEq, Nat.reduceEqDiff, Nat.reduceMod, appendD, Try.tm_26, Try.tm_31, TAttempt.d, TPromise.d]; exact hq) (by first | rfl | (simp only [go_sem, Nat.reduceLeDiff]; done) | (simp only [go_sem, Nat.reduceLeDiff]; rfl) | (simp; done) | (simp [oneD] <;> omega) | (simp_all; done) | (simp_all [oneD] <;> omega)) (by first | exact Nat.le_refl _ | exact Nat.le_of_ble_eq_true rfl | (dsimp only; omega) | (simp <;> omega)) ?_
  refine .seq ?_
  refine .seq ?_
  obtain ⟨v1, hv1, h⟩ := bind_some h
  refine .reg Try.tmOk Try.tmMixed [1, 3, 5, 6] (by decide +kernel) ?_
  refine .RN 1 (dr := false) (.inr fun _ _ _ h => ⟨nofun, h.2⟩) (by intro q hq; simp only [go_sem, Nat.reduceSub, Int.reduceEq, Nat.reduceLT, Nat.reduceDiv, Nat.reduceAdd, Nat.reduceBEq, Nat.reduceLeDiff, reduceCtorEq, Nat.reduceEqDiff, Nat.reduceMod, appendD, Try.tm_26, TAttempt.d]; exact hq) (by first | rfl | (simp only [go_sem, Nat.reduceLeDiff]; done) | (simp only [go_sem, Nat.reduceLeDiff]; rfl) | (simp; done) | (simp [oneD] <;> omega) | (simp_all; done) | (simp_all [oneD] <;> omega)) (by first | exact Nat.le_refl _ | exact Nat.le_of_ble_eq_true rfl | (dsimp only; omega) | (simp <;> omega)) ?_
  refine .call (r := .int .i64 v1) rfl rfl rfl rfl rfl rfl (callP_attempt_Check a v1 hv1) ?_
  refine .RN 1 (dr := false) (.inr fun _ _ _ h => ⟨nofun, h.2⟩) (by intro q hq; simp only [go_sem, Nat.reduceSub, Int.reduceEq, Nat.reduceLT, Nat.reduceDiv, Nat.reduceAdd, Nat.reduceBEq, Nat.reduceLeDiff, reduceCtorEq, Nat.reduceEqDiff, Nat.reduceMod, appendD, TAttempt.d]; exact hq) (by first | rfl | (simp only [go_sem, Nat.reduceLeDiff]; done) | (simp only [go_sem, Nat.reduceLeDiff]; rfl) | (simp; done) | (simp [oneD] <;> omega) | (simp_all; done) | (simp_all [oneD] <;> omega)) (by first | exact Nat.le_refl _ | exact Nat.le_of_ble_eq_true rfl | (dsimp only; omega) | (simp <;> omega)) ?_
  refine .nil ⟨nofun, ?_⟩
  refine .seq ?_
  refine .plain Try.tmOk Try.tmMixed [1, 3, 5, 6, 8] (by decide +kernel) (by intro q hq; simp only [go_sem, Nat.reduceSub, Int.reduceEq, Nat.reduceLT, Nat.reduceDiv, Nat.reduceAdd, Nat.reduceBEq, Nat.reduceLeDiff, reduceCtorEq, Nat.reduceEqDiff, Nat.reduceMod, appendD, Try.tm_27]; exact hq) (by first | rfl | (simp only [go_sem, Nat.reduceLeDiff]; done) | (simp only [go_sem, Nat.reduceLeDiff]; rfl) | (simp; done) | (simp [oneD] <;> omega) | (simp_all; done) | (simp_all [oneD] <;> omega)) (by first | exact Nat.le_refl _ | exact Nat.le_of_ble_eq_true rfl | (dsimp only; omega) | (simp <;> omega)) ?_
  refine .cond rfl rfl (fun hc1 => ?_) (fun hc1 => ?_)
  · skip
    replace h := ite_l h (by first | simpa using hc1 | (simp at hc1 ⊢; omega) | (simp at hc1 ⊢; grind) | grind)
    refine .seq ?_
    refine .plain Try.tmOk Try.tmMixed [6, 8] (by decide +kernel) (by intro q hq; simp only [go_sem, Nat.reduceSub, Int.reduceEq, Nat.reduceLT, Nat.reduceDiv, Nat.reduceAdd, Nat.reduceBEq, Nat.reduceLeDiff, reduceCtorEq, Nat.reduceEqDiff, Nat.reduceMod, appendD, Try.tm_26, TAttempt.d]; exact hq) (by first | rfl | (simp only [go_sem, Nat.reduceLeDiff]; done) | (simp only [go_sem, Nat.reduceLeDiff]; rfl) | (simp; done) | (simp [oneD] <;> omega) | (simp_all; done) | (simp_all [oneD] <;> omega)) (by first | exact Nat.le_refl _ | exact Nat.le_of_ble_eq_true rfl | (dsimp only; omega) | (simp <;> omega)) ?_
    have hq := Option.some.inj h
    subst r
    refine .ret ⟨⟨[(6, .ptr 3 0), (7, .int .i64 (((⟨0, 0, [], [], [], [], []⟩ : TAttempt), v1).2))], [(0, .arr 3 1 true ((((⟨0, 0, [], [], [], [], []⟩ : TAttempt), v1).1.Members).map (D.int .i64))), (1, .arr 31 3 true ((((⟨0, 0, [], [], [], [], []⟩ : TAttempt), v1).1.Promises).map TPromise.d)), (2, .arr 3 1 true ((((⟨0, 0, [], [], [], [], []⟩ : TAttempt), v1).1.Accepted).map (D.int .i64))), (3, .box [.int .u8 (((⟨0, 0, [], [], [], [], []⟩ : TAttempt), v1).1.Phase), .int .i64 (((⟨0, 0, [], [], [], [], []⟩ : TAttempt), v1).1.Ballot), .ref 0 1 0 ((((⟨0, 0, [], [], [], [], []⟩ : TAttempt), v1).1.Members).length) (some unkC), .str (((⟨0, 0, [], [], [], [], []⟩ : TAttempt), v1).1.Wish), .str (((⟨0, 0, [], [], [], [], []⟩ : TAttempt), v1).1.Value), .ref 1 3 0 ((((⟨0, 0, [], [], [], [], []⟩ : TAttempt), v1).1.Promises).length) (some unkC), .ref 2 1 0 ((((⟨0, 0, [], [], [], [], []⟩ : TAttempt), v1).1.Accepted).length) (some unkC)])], 4⟩, ?_, .inr rfl, retH [2, 1, 0] ?_ ?_⟩
    · skip
      refine Goes.new0 1 3 (Nat.le_of_ble_eq_true rfl) ?_
      refine Goes.box 2 [.int .u8 0, .int .i64 0] (.imm 0 [] 0) (.ref 3 1 0 0 (some unkC)) [.str [], .str [], .imm 0 [] 0, .imm 0 [] 0] rfl (WkG.own0 3 1 0 0 (by decide)) ?_
      refine Goes.new0 3 31 (Nat.le_of_ble_eq_true rfl) ?_
      refine Goes.box 2 [.int .u8 0, .int .i64 0, .ref 3 1 0 0 (some unkC), .str [], .str []] (.imm 0 [] 0) (.ref 4 3 0 0 (some unkC)) [.imm 0 [] 0] rfl (WkG.own0 4 3 0 0 (by decide)) ?_
      refine Goes.new0 1 3 (Nat.le_of_ble_eq_true rfl) ?_
      refine Goes.box 2 [.int .u8 0, .int .i64 0, .ref 3 1 0 0 (some unkC), .str [], .str [], .ref 4 3 0 0 (some unkC)] (.imm 0 [] 0) (.ref 5 1 0 0 (some unkC)) [] rfl (WkG.own0 5 1 0 0 (by decide)) ?_
      refine Goes.mv [6, 7] [3, 4, 5, 2] [(3, 0), (4, 1), (5, 2), (2, 3)] ?_ (Nat.le_of_ble_eq_true rfl) (Nat.le_of_ble_eq_true rfl) rfl
      first | rfl | (simp only [go_sem, Nat.reduceBEq, Nat.reduceAdd]; done) | (simp only [go_sem, Nat.reduceBEq, Nat.reduceAdd]; rfl)
    · simp only [ResIs, resL, resD, resT, go_sem, Nat.reduceSub, Int.reduceEq, Nat.reduceLT, Nat.reduceDiv, Nat.reduceAdd, Nat.reduceBEq, Nat.reduceLeDiff, reduceCtorEq, Nat.reduceEqDiff, Nat.reduceMod, Try.f17, Try.tm_26, Try.tm_27]
    · rfl
  · skip
    replace h := ite_r h (by first | simpa using hc1 | (simp at hc1 ⊢; omega) | (simp at hc1 ⊢; grind) | grind)
    refine .skip ?_
    refine .seq ?_
    refine .seq ?_
    obtain ⟨v2, hv2, h⟩ := bind_some h
    refine .reg Try.tmOk Try.tmMixed [1, 3, 5, 6] (by decide +kernel) ?_
    refine .RN 6 (dr := false) (.inr fun _ _ _ h => ⟨nofun, h.2⟩) (by intro q hq; simp only [go_sem, Nat.reduceSub, Int.reduceEq, Nat.reduceLT, Nat.reduceDiv, Nat.reduceAdd, Nat.reduceBEq, Nat.reduceLeDiff, reduceCtorEq, Nat.reduceEqDiff, Nat.reduceMod, appendD, Try.tm_5, Try.tm_26, TAttempt.d, TPromise.d]; exact hq) (by first | rfl | (simp only [go_sem, Nat.reduceLeDiff]; done) | (simp only [go_sem, Nat.reduceLeDiff]; rfl) | (simp; done) | (simp [oneD] <;> omega) | (simp_all; done) | (simp_all [oneD] <;> omega)) (by first | exact Nat.le_refl _ | exact Nat.le_of_ble_eq_true rfl | (dsimp only; omega) | (simp <;> omega)) ?_
    refine .RN 8 (dr := false) (.inr fun _ _ _ h => ⟨nofun, h.2⟩) (by intro q hq; simp only [go_sem, Nat.reduceSub, Int.reduceEq, Nat.reduceLT, Nat.reduceDiv, Nat.reduceAdd, Nat.reduceBEq, Nat.reduceLeDiff, reduceCtorEq, Nat.reduceEqDiff, Nat.reduceMod, appendD, Try.tm_3, Try.tm_22, Try.tm_26, Try.tm_31, TAttempt.d, TPromise.d]; exact hq) (by first | rfl | (simp only [go_sem, Nat.reduceLeDiff]; done) | (simp only [go_sem, Nat.reduceLeDiff]; rfl) | (simp; done) | (simp [oneD] <;> omega) | (simp_all; done) | (simp_all [oneD] <;> omega)) (by first | exact Nat.le_refl _ | exact Nat.le_of_ble_eq_true rfl | (dsimp only; omega) | (simp <;> omega)) ?_
    refine .gcall (r := .bool v2) rfl rfl rfl rfl rfl (fun hg => ⟨[], [.imm 1 (a.Members.map (D.int .i64)) 4, .int .i64 p.Node], _, rfl, (by first | (simp only [opds, opd, ev, ofVal, getR, getL, Nat.beq, cond_true, cond_false, Bool.not_true, Bool.false_or, Bool.and_true, Bool.true_and, Prod.mk.injEq, true_and]; done) | (simp only [opds, opd, ev, ofVal, getR, getL, Nat.beq, cond_true, cond_false, Bool.not_true, Bool.false_or, Bool.and_true, Bool.true_and, Prod.mk.injEq, true_and]; first | exact hg | simpa using hg | (simp at hg ⊢; grind)) | rfl), rfl, (callP_quorum_Has a.Members p.Node v2 (ite_l hv2 (by first | simpa using hg | (simp at hg ⊢; omega) | (simp at hg ⊢; grind) | grind)))⟩) ?_
    refine .RN 2 (dr := false) (.inr fun _ _ _ h => ⟨nofun, h.2⟩) (by intro q hq; simp only [go_sem, Nat.reduceSub, Int.reduceEq, Nat.reduceLT, Nat.reduceDiv, Nat.reduceAdd, Nat.reduceBEq, Nat.reduceLeDiff, reduceCtorEq, Nat.reduceEqDiff, Nat.reduceMod, appendD, TAttempt.d, TPromise.d]; exact hq) (by first | rfl | (simp only [go_sem, Nat.reduceLeDiff]; done) | (simp only [go_sem, Nat.reduceLeDiff]; rfl) | (simp; done) | (simp [oneD] <;> omega) | (simp_all; done) | (simp_all [oneD] <;> omega)) (by first | exact Nat.le_refl _ | exact Nat.le_of_ble_eq_true rfl | (dsimp only; omega) | (simp <;> omega)) ?_
    refine .nil ⟨nofun, ?_⟩
    refine .cond rfl rfl (fun hc2 => ?_) (fun hc2 => ?_)
    · skip
      replace h := ite_l h (by first | simpa using hc2 | (simp at hc2 ⊢; omega) | (simp at hc2 ⊢; grind) | grind)
      refine .seq ?_
      refine .plain Try.tmOk Try.tmMixed [6] (by decide +kernel) (by intro q hq; simp only [go_sem, Nat.reduceSub, Int.reduceEq, Nat.reduceLT, Nat.reduceDiv, Nat.reduceAdd, Nat.reduceBEq, Nat.reduceLeDiff, reduceCtorEq, Nat.reduceEqDiff, Nat.reduceMod, appendD, Try.tm_26, TAttempt.d]; exact hq) (by first | rfl | (simp only [go_sem, Nat.reduceLeDiff]; done) | (simp only [go_sem, Nat.reduceLeDiff]; rfl) | (simp; done) | (simp [oneD] <;> omega) | (simp_all; done) | (simp_all [oneD] <;> omega)) (by first | exact Nat.le_refl _ | exact Nat.le_of_ble_eq_true rfl | (dsimp only; omega) | (simp <;> omega)) ?_
      have hq := Option.some.inj h
      subst r
      refine .ret ⟨⟨[(6, .ptr 3 0), (7, .int .i64 (((⟨0, 0, [], [], [], [], []⟩ : TAttempt), 6).2))], [(0, .arr 3 1 true ((((⟨0, 0, [], [], [], [], []⟩ : TAttempt), 6).1.Members).map (D.int .i64))), (1, .arr 31 3 true ((((⟨0, 0, [], [], [], [], []⟩ : TAttempt), 6).1.Promises).map TPromise.d)), (2, .arr 3 1 true ((((⟨0, 0, [], [], [], [], []⟩ : TAttempt), 6).1.Accepted).map (D.int .i64))), (3, .box [.int .u8 (((⟨0, 0, [], [], [], [], []⟩ : TAttempt), 6).1.Phase), .int .i64 (((⟨0, 0, [], [], [], [], []⟩ : TAttempt), 6).1.Ballot), .ref 0 1 0 ((((⟨0, 0, [], [], [], [], []⟩ : TAttempt), 6).1.Members).length) (some unkC), .str (((⟨0, 0, [], [], [], [], []⟩ : TAttempt), 6).1.Wish), .str (((⟨0, 0, [], [], [], [], []⟩ : TAttempt), 6).1.Value), .ref 1 3 0 ((((⟨0, 0, [], [], [], [], []⟩ : TAttempt), 6).1.Promises).length) (some unkC), .ref 2 1 0 ((((⟨0, 0, [], [], [], [], []⟩ : TAttempt), 6).1.Accepted).length) (some unkC)])], 4⟩, ?_, .inr rfl, retH [2, 1, 0] ?_ ?_⟩
      · skip
        refine Goes.new0 1 3 (Nat.le_of_ble_eq_true rfl) ?_
        refine Goes.box 2 [.int .u8 0, .int .i64 0] (.imm 0 [] 0) (.ref 3 1 0 0 (some unkC)) [.str [], .str [], .imm 0 [] 0, .imm 0 [] 0] rfl (WkG.own0 3 1 0 0 (by decide)) ?_
        refine Goes.new0 3 31 (Nat.le_of_ble_eq_true rfl) ?_
        refine Goes.box 2 [.int .u8 0, .int .i64 0, .ref 3 1 0 0 (some unkC), .str [], .str []] (.imm 0 [] 0) (.ref 4 3 0 0 (some unkC)) [.imm 0 [] 0] rfl (WkG.own0 4 3 0 0 (by decide)) ?_
        refine Goes.new0 1 3 (Nat.le_of_ble_eq_true rfl) ?_
        refine Goes.box 2 [.int .u8 0, .int .i64 0, .ref 3 1 0 0 (some unkC), .str [], .str [], .ref 4 3 0 0 (some unkC)] (.imm 0 [] 0) (.ref 5 1 0 0 (some unkC)) [] rfl (WkG.own0 5 1 0 0 (by decide)) ?_
        refine Goes.mv [6, 7] [3, 4, 5, 2] [(3, 0), (4, 1), (5, 2), (2, 3)] ?_ (Nat.le_of_ble_eq_true rfl) (Nat.le_of_ble_eq_true rfl) rfl
        first | rfl | (simp only [go_sem, Nat.reduceBEq, Nat.reduceAdd]; done) | (simp only [go_sem, Nat.reduceBEq, Nat.reduceAdd]; rfl)
      · simp only [ResIs, resL, resD, resT, go_sem, Nat.reduceSub, Int.reduceEq, Nat.reduceLT, Nat.reduceDiv, Nat.reduceAdd, Nat.reduceBEq, Nat.reduceLeDiff, reduceCtorEq, Nat.reduceEqDiff, Nat.reduceMod, Try.f17, Try.tm_26, Try.tm_27]
      · rfl
    · skip
      replace h := ite_r h (by first | simpa using hc2 | (simp at hc2 ⊢; omega) | (simp at hc2 ⊢; grind) | grind)
      refine .skip ?_
      refine .seq ?_
      refine .seq ?_
      obtain ⟨v3, hv3, h⟩ := bind_some h
      refine .reg Try.tmOk Try.tmMixed [1, 3, 5, 6] (by decide +kernel) ?_
      refine .RN 2 (dr := false) (.inr fun _ _ _ h => ⟨nofun, h.2⟩) (by intro q hq; simp only [go_sem, Nat.reduceSub, Int.reduceEq, Nat.reduceLT, Nat.reduceDiv, Nat.reduceAdd, Nat.reduceBEq, Nat.reduceLeDiff, reduceCtorEq, Nat.reduceEqDiff, Nat.reduceMod, appendD, Try.tm_31, TPromise.d]; exact hq) (by first | rfl | (simp only [go_sem, Nat.reduceLeDiff]; done) | (simp only [go_sem, Nat.reduceLeDiff]; rfl) | (simp; done) | (simp [oneD] <;> omega) | (simp_all; done) | (simp_all [oneD] <;> omega)) (by first | exact Nat.le_refl _ | exact Nat.le_of_ble_eq_true rfl | (dsimp only; omega) | (simp <;> omega)) ?_
      refine .call (r := .bool v3) rfl rfl rfl rfl rfl rfl (callP_attempt_may p b v3 hv3) ?_
      refine .RN 1 (dr := false) (.inr fun _ _ _ h => ⟨nofun, h.2⟩) (by intro q hq; simp only [go_sem, Nat.reduceSub, Int.reduceEq, Nat.reduceLT, Nat.reduceDiv, Nat.reduceAdd, Nat.reduceBEq, Nat.reduceLeDiff, reduceCtorEq, Nat.reduceEqDiff, Nat.reduceMod, appendD, TPromise.d]; exact hq) (by first | rfl | (simp only [go_sem, Nat.reduceLeDiff]; done) | (simp only [go_sem, Nat.reduceLeDiff]; rfl) | (simp; done) | (simp [oneD] <;> omega) | (simp_all; done) | (simp_all [oneD] <;> omega)) (by first | exact Nat.le_refl _ | exact Nat.le_of_ble_eq_true rfl | (dsimp only; omega) | (simp <;> omega)) ?_
      refine .nil ⟨nofun, ?_⟩
      refine .cond rfl rfl (fun hc3 => ?_) (fun hc3 => ?_)
      · skip
        replace h := ite_l h (by first | simpa using hc3 | (simp at hc3 ⊢; omega) | (simp at hc3 ⊢; grind) | grind)
        refine .seq ?_
        refine .plain Try.tmOk Try.tmMixed [6] (by decide +kernel) (by intro q hq; simp only [go_sem, Nat.reduceSub, Int.reduceEq, Nat.reduceLT, Nat.reduceDiv, Nat.reduceAdd, Nat.reduceBEq, Nat.reduceLeDiff, reduceCtorEq, Nat.reduceEqDiff, Nat.reduceMod, appendD, Try.tm_26, TAttempt.d]; exact hq) (by first | rfl | (simp only [go_sem, Nat.reduceLeDiff]; done) | (simp only [go_sem, Nat.reduceLeDiff]; rfl) | (simp; done) | (simp [oneD] <;> omega) | (simp_all; done) | (simp_all [oneD] <;> omega)) (by first | exact Nat.le_refl _ | exact Nat.le_of_ble_eq_true rfl | (dsimp only; omega) | (simp <;> omega)) ?_
        have hq := Option.some.inj h
        subst r
        refine .ret ⟨⟨[(6, .ptr 3 0), (7, .int .i64 (((⟨0, 0, [], [], [], [], []⟩ : TAttempt), 8).2))], [(0, .arr 3 1 true ((((⟨0, 0, [], [], [], [], []⟩ : TAttempt), 8).1.Members).map (D.int .i64))), (1, .arr 31 3 true ((((⟨0, 0, [], [], [], [], []⟩ : TAttempt), 8).1.Promises).map TPromise.d)), (2, .arr 3 1 true ((((⟨0, 0, [], [], [], [], []⟩ : TAttempt), 8).1.Accepted).map (D.int .i64))), (3, .box [.int .u8 (((⟨0, 0, [], [], [], [], []⟩ : TAttempt), 8).1.Phase), .int .i64 (((⟨0, 0, [], [], [], [], []⟩ : TAttempt), 8).1.Ballot), .ref 0 1 0 ((((⟨0, 0, [], [], [], [], []⟩ : TAttempt), 8).1.Members).length) (some unkC), .str (((⟨0, 0, [], [], [], [], []⟩ : TAttempt), 8).1.Wish), .str (((⟨0, 0, [], [], [], [], []⟩ : TAttempt), 8).1.Value), .ref 1 3 0 ((((⟨0, 0, [], [], [], [], []⟩ : TAttempt), 8).1.Promises).length) (some unkC), .ref 2 1 0 ((((⟨0, 0, [], [], [], [], []⟩ : TAttempt), 8).1.Accepted).length) (some unkC)])], 4⟩, ?_, .inr rfl, retH [2, 1, 0] ?_ ?_⟩
        · skip
          refine Goes.new0 1 3 (Nat.le_of_ble_eq_true rfl) ?_
          refine Goes.box 2 [.int .u8 0, .int .i64 0] (.imm 0 [] 0) (.ref 3 1 0 0 (some unkC)) [.str [], .str [], .imm 0 [] 0, .imm 0 [] 0] rfl (WkG.own0 3 1 0 0 (by decide)) ?_
          refine Goes.new0 3 31 (Nat.le_of_ble_eq_true rfl) ?_
          refine Goes.box 2 [.int .u8 0, .int .i64 0, .ref 3 1 0 0 (some unkC), .str [], .str []] (.imm 0 [] 0) (.ref 4 3 0 0 (some unkC)) [.imm 0 [] 0] rfl (WkG.own0 4 3 0 0 (by decide)) ?_
          refine Goes.new0 1 3 (Nat.le_of_ble_eq_true rfl) ?_
          refine Goes.box 2 [.int .u8 0, .int .i64 0, .ref 3 1 0 0 (some unkC), .str [], .str [], .ref 4 3 0 0 (some unkC)] (.imm 0 [] 0) (.ref 5 1 0 0 (some unkC)) [] rfl (WkG.own0 5 1 0 0 (by decide)) ?_
          refine Goes.mv [6, 7] [3, 4, 5, 2] [(3, 0), (4, 1), (5, 2), (2, 3)] ?_ (Nat.le_of_ble_eq_true rfl) (Nat.le_of_ble_eq_true rfl) rfl
          first | rfl | (simp only [go_sem, Nat.reduceBEq, Nat.reduceAdd]; done) | (simp only [go_sem, Nat.reduceBEq, Nat.reduceAdd]; rfl)
        · simp only [ResIs, resL, resD, resT, go_sem, Nat.reduceSub, Int.reduceEq, Nat.reduceLT, Nat.reduceDiv, Nat.reduceAdd, Nat.reduceBEq, Nat.reduceLeDiff, reduceCtorEq, Nat.reduceEqDiff, Nat.reduceMod, Try.f17, Try.tm_26, Try.tm_27]
        · rfl
      · skip
        replace h := ite_r h (by first | simpa using hc3 | (simp at hc3 ⊢; omega) | (simp at hc3 ⊢; grind) | grind)
        refine .skip ?_
        refine .seq ?_
        obtain ⟨v4, hv4, h⟩ := bind_some h
        refine .reg Try.tmOk Try.tmMixed [3, 5, 6] (by decide +kernel) ?_
        refine .RN 1 (dr := false) (.inr fun _ _ _ h => ⟨nofun, h.2⟩) (by intro q hq; simp only [go_sem, Nat.reduceSub, Int.reduceEq, Nat.reduceLT, Nat.reduceDiv, Nat.reduceAdd, Nat.reduceBEq, Nat.reduceLeDiff, reduceCtorEq, Nat.reduceEqDiff, Nat.reduceMod, appendD, Try.tm_26, TAttempt.d]; exact hq) (by first | rfl | (simp only [go_sem, Nat.reduceLeDiff]; done) | (simp only [go_sem, Nat.reduceLeDiff]; rfl) | (simp; done) | (simp [oneD] <;> omega) | (simp_all; done) | (simp_all [oneD] <;> omega)) (by first | exact Nat.le_refl _ | exact Nat.le_of_ble_eq_true rfl | (dsimp only; omega) | (simp <;> omega)) ?_
        refine .ncall (r := .agg [.int .u8 v4.Phase, .int .i64 v4.Ballot, .ref 14 1 0 v4.Members.length (some unkC), .str v4.Wish, .str v4.Value, .ref 15 3 0 v4.Promises.length (some unkC), .ref 16 1 0 v4.Accepted.length (some unkC)]) (eff := [(14, some (.arr 3 1 true (v4.Members.map (D.int .i64)))), (15, some (.arr 31 3 true (v4.Promises.map TPromise.d))), (16, some (.arr 3 1 true (v4.Accepted.map (D.int .i64))))]) (nw := (14, 28)) [] rfl rfl rfl rfl rfl (lend2s_cons rfl lend2s_nil) rfl (callH_at 14 (Nat.le_of_ble_eq_true rfl) (callH_attempt_Twin a v4 hv4)) (newE_cons rfl rfl (newB_arr pl0_i64 _ _ _) (newE_cons rfl rfl (newB_arr pl0_TPromise _ _ _) (newE_cons rfl rfl (newB_arr pl0_i64 _ _ _) newE_nil))) (by intro i hi; simp [D.ids, D.idsL] at hi; omega) rfl ⟨Nat.le_of_ble_eq_true rfl, Nat.le_of_ble_eq_true rfl⟩ ?_
        refine .RN 1 (dr := false) (.inr fun _ _ _ h => ⟨nofun, h.2⟩) (by intro q hq; simp only [go_sem, Nat.reduceSub, Int.reduceEq, Nat.reduceLT, Nat.reduceDiv, Nat.reduceAdd, Nat.reduceBEq, Nat.reduceLeDiff, reduceCtorEq, Nat.reduceEqDiff, Nat.reduceMod, appendD, Try.tm_26, TAttempt.d]; exact hq) (by first | rfl | (simp only [go_sem, Nat.reduceLeDiff]; done) | (simp only [go_sem, Nat.reduceLeDiff]; rfl) | (simp; done) | (simp [oneD] <;> omega) | (simp_all; done) | (simp_all [oneD] <;> omega)) (by first | exact Nat.le_refl _ | exact Nat.le_of_ble_eq_true rfl | (dsimp only; omega) | (simp <;> omega)) ?_
        refine .nil ⟨nofun, ?_⟩
        refine .seq ?_
        obtain ⟨v5, hv5, h⟩ := bind_some h
        refine .reg Try.tmOk Try.tmMixed [3, 5, 6] (by decide +kernel) ?_
        refine .RN 4 (dr := false) (.inr fun _ _ _ h => ⟨nofun, h.2⟩) (by intro q hq; simp only [go_sem, Nat.reduceSub, Int.reduceEq, Nat.reduceLT, Nat.reduceDiv, Nat.reduceAdd, Nat.reduceBEq, Nat.reduceLeDiff, reduceCtorEq, Nat.reduceEqDiff, Nat.reduceMod, appendD, Try.tm_23, Try.tm_26, TAttempt.d, TPromise.d]; exact hq) (by first | rfl | (simp only [go_sem, Nat.reduceLeDiff]; done) | (simp only [go_sem, Nat.reduceLeDiff]; rfl) | (simp; done) | (simp [oneD] <;> omega) | (simp_all; done) | (simp_all [oneD] <;> omega)) (by first | exact Nat.le_refl _ | exact Nat.le_of_ble_eq_true rfl | (dsimp only; omega) | (simp <;> omega)) ?_
        refine .lcall (r := .int .i64 v5) [14, 15, 16] rfl rfl rfl rfl rfl (lend2s_cons rfl (lend2s_cons (lend2_fn (lend2s_cons (lend2_ptr rfl (lends_cons rfl (lends_cons rfl (lends_cons (lend_ref (pl_int .i64) (by first | rfl | (simp only [go_sem, Nat.reduceBEq]; rfl)) (by first | rfl | (simp; done) | (simp <;> omega))) (lends_cons rfl (lends_cons rfl (lends_cons (lend_ref pl_TPromise (by first | rfl | (simp only [go_sem, Nat.reduceBEq]; rfl)) (by first | rfl | (simp; done) | (simp <;> omega))) (lends_cons (lend_ref (pl_int .i64) (by first | rfl | (simp only [go_sem, Nat.reduceBEq]; rfl)) (by first | rfl | (simp; done) | (simp <;> omega))) lends_nil)))))))) (lend2s_cons (lend2_ptr rfl (lends_cons rfl (lends_cons rfl (lends_cons rfl lends_nil)))) lend2s_nil))) lend2s_nil)) rfl (callP_sort_Search (v4.Promises.length : Int) 84 [.iptr 0 [.int .u8 v4.Phase, .int .i64 v4.Ballot, .imm 1 (v4.Members.map (D.int .i64)) 4, .str v4.Wish, .str v4.Value, .imm 3 (v4.Promises.map TPromise.d) 4, .imm 1 (v4.Accepted.map (D.int .i64)) 4], .iptr 0 [.int .i64 p.Node, .int .i64 p.Ballot, .str p.Value]] (fun _ => rfl) (fun _ => rfl) (fun _ => rfl) (fun x0 => m_attempt_Promised_1 x0 v4 p) (fun x0 y hy => callP_attempt_Promised_1 x0 v4 p y hy) v5 hv5) ?_
        refine .RN 1 (dr := false) (.inr fun _ _ _ h => ⟨nofun, h.2⟩) (by intro q hq; simp only [go_sem, Nat.reduceSub, Int.reduceEq, Nat.reduceLT, Nat.reduceDiv, Nat.reduceAdd, Nat.reduceBEq, Nat.reduceLeDiff, reduceCtorEq, Nat.reduceEqDiff, Nat.reduceMod, appendD, TAttempt.d, TPromise.d]; exact hq) (by first | rfl | (simp only [go_sem, Nat.reduceLeDiff]; done) | (simp only [go_sem, Nat.reduceLeDiff]; rfl) | (simp; done) | (simp [oneD] <;> omega) | (simp_all; done) | (simp_all [oneD] <;> omega)) (by first | exact Nat.le_refl _ | exact Nat.le_of_ble_eq_true rfl | (dsimp only; omega) | (simp <;> omega)) ?_
        refine .nil ⟨nofun, ?_⟩
        refine .seq ?_
        obtain ⟨k1, h⟩ := ite_ck h
        refine .seqM 28 (fun (_ : Unit) => ⟨[(3, .ptr 0 0), (5, .ptr 1 0), (6, .ptr 2 0), (9, .int .i64 v5), (61, .bool ((decide (v5 < (v4.Promises.length : Int))) && ((v4.Promises.getD v5.toNat default).Node == p.Node)))], [(0, .box [.int .u8 v4.Phase, .int .i64 v4.Ballot, .ref 14 1 0 v4.Members.length (some unkC), .str v4.Wish, .str v4.Value, .ref 15 3 0 v4.Promises.length (some unkC), .ref 16 1 0 v4.Accepted.length (some unkC)]), (1, .box [.int .i64 p.Node, .int .i64 p.Ballot, .str p.Value]), (2, .box [.int .u8 0, .int .i64 0, .imm 0 [] 0, .str [], .str [], .imm 0 [] 0, .imm 0 [] 0]), (14, .arr 3 1 true (v4.Members.map (D.int .i64))), (15, .arr 31 3 true (v4.Promises.map TPromise.d)), (16, .arr 3 1 true (v4.Accepted.map (D.int .i64)))], 28⟩) (fun _ => True) (Nat.le_of_ble_eq_true rfl) ?_ (fun _ _ => ?_)
        · skip
          by_cases hgd : v5 < (v4.Promises.length : Int)
          · skip
            have eg10 := nth_mapI TPromise.d v4.Promises v5 (k1 hgd)
            refine .reg Try.tmOk Try.tmMixed [3, 5, 6, 9] (by decide +kernel) ?_
            refine .RN 6 (dr := true) (.inl rfl) (by intro q hq; simp only [go_sem, Nat.reduceSub, Int.reduceEq, Nat.reduceLT, Nat.reduceDiv, Nat.reduceAdd, Nat.reduceBEq, Nat.reduceLeDiff, reduceCtorEq, Nat.reduceEqDiff, Nat.reduceMod, appendD, Try.tm_3, Try.tm_23, Try.tm_26, eg10, TAttempt.d, TPromise.d]; exact hq) (by first | rfl | (simp only [go_sem, Nat.reduceLeDiff]; done) | (simp only [go_sem, Nat.reduceLeDiff]; rfl) | (simp; done) | (simp [oneD] <;> omega) | (simp_all; done) | (simp_all [oneD] <;> omega)) (by first | exact Nat.le_refl _ | exact Nat.le_of_ble_eq_true rfl | (dsimp only; omega) | (simp <;> omega)) ?_
            refine .RN 6 (dr := true) (.inl rfl) (by intro q hq; simp only [go_sem, Nat.reduceSub, Int.reduceEq, Nat.reduceLT, Nat.reduceDiv, Nat.reduceAdd, Nat.reduceBEq, Nat.reduceLeDiff, reduceCtorEq, Nat.reduceEqDiff, Nat.reduceMod, appendD, Try.tm_3, Try.tm_23, Try.tm_26, Try.tm_31, eg10, TAttempt.d, TPromise.d]; exact hq) (by first | rfl | (simp only [go_sem, Nat.reduceLeDiff]; done) | (simp only [go_sem, Nat.reduceLeDiff]; rfl) | (simp; done) | (simp [oneD] <;> omega) | (simp_all; done) | (simp_all [oneD] <;> omega)) (by first | exact Nat.le_refl _ | exact Nat.le_of_ble_eq_true rfl | (dsimp only; omega) | (simp <;> omega)) ?_
            refine .RN 4 (dr := true) (.inl rfl) (by intro q hq; simp only [go_sem, Nat.reduceSub, Int.reduceEq, Nat.reduceLT, Nat.reduceDiv, Nat.reduceAdd, Nat.reduceBEq, Nat.reduceLeDiff, reduceCtorEq, Nat.reduceEqDiff, Nat.reduceMod, appendD, Try.tm_3, Try.tm_31, eg10, TAttempt.d, TPromise.d]; exact hq) (by first | rfl | (simp only [go_sem, Nat.reduceLeDiff]; done) | (simp only [go_sem, Nat.reduceLeDiff]; rfl) | (simp; done) | (simp [oneD] <;> omega) | (simp_all; done) | (simp_all [oneD] <;> omega)) (by first | exact Nat.le_refl _ | exact Nat.le_of_ble_eq_true rfl | (dsimp only; omega) | (simp <;> omega)) ?_
            refine .nil ⟨fun _ => schedB_of (by kernel_rfl), ?_⟩
            refine ⟨(), ?_, trivial⟩
            refine Goes.mv [3, 5, 6, 9, 61] [0, 1, 2, 14, 15, 16] [] ?_ (Nat.le_of_ble_eq_true rfl) (Nat.le_of_ble_eq_true rfl) rfl
            first | rfl | (simp only [go_sem, Nat.reduceBEq, Nat.reduceAdd]; done) | (simp only [go_sem, Nat.reduceBEq, Nat.reduceAdd]; rfl)
          · skip
            have hgf1 : (decide (v5 < (v4.Promises.length : Int))) = false := by first | simpa using hgd | (simp at hgd ⊢; omega) | grind
            rcases nth_or TPromise.d v4.Promises v5.toNat with eg10 | eg10
            · skip
              refine .reg Try.tmOk Try.tmMixed [3, 5, 6, 9] (by decide +kernel) ?_
              refine .RN 6 (dr := true) (.inl rfl) (by intro q hq; simp only [go_sem, Nat.reduceSub, Int.reduceEq, Nat.reduceLT, Nat.reduceDiv, Nat.reduceAdd, Nat.reduceBEq, Nat.reduceLeDiff, reduceCtorEq, Nat.reduceEqDiff, Nat.reduceMod, appendD, Try.tm_3, Try.tm_23, Try.tm_26, eg10, hgf1, TAttempt.d, TPromise.d]; exact hq) (by first | rfl | (simp only [go_sem, Nat.reduceLeDiff]; done) | (simp only [go_sem, Nat.reduceLeDiff]; rfl) | (simp; done) | (simp [oneD] <;> omega) | (simp_all; done) | (simp_all [oneD] <;> omega)) (by first | exact Nat.le_refl _ | exact Nat.le_of_ble_eq_true rfl | (dsimp only; omega) | (simp <;> omega)) ?_
              refine .RN 6 (dr := true) (.inl rfl) (by intro q hq; simp only [go_sem, Nat.reduceSub, Int.reduceEq, Nat.reduceLT, Nat.reduceDiv, Nat.reduceAdd, Nat.reduceBEq, Nat.reduceLeDiff, reduceCtorEq, Nat.reduceEqDiff, Nat.reduceMod, appendD, Try.tm_3, Try.tm_23, Try.tm_26, Try.tm_31, eg10, hgf1, TAttempt.d, TPromise.d]; exact hq) (by first | rfl | (simp only [go_sem, Nat.reduceLeDiff]; done) | (simp only [go_sem, Nat.reduceLeDiff]; rfl) | (simp; done) | (simp [oneD] <;> omega) | (simp_all; done) | (simp_all [oneD] <;> omega)) (by first | exact Nat.le_refl _ | exact Nat.le_of_ble_eq_true rfl | (dsimp only; omega) | (simp <;> omega)) ?_
              refine .RN 4 (dr := true) (.inl rfl) (by intro q hq; simp only [go_sem, Nat.reduceSub, Int.reduceEq, Nat.reduceLT, Nat.reduceDiv, Nat.reduceAdd, Nat.reduceBEq, Nat.reduceLeDiff, reduceCtorEq, Nat.reduceEqDiff, Nat.reduceMod, appendD, Try.tm_3, Try.tm_31, eg10, hgf1, TAttempt.d, TPromise.d]; exact hq) (by first | rfl | (simp only [go_sem, Nat.reduceLeDiff]; done) | (simp only [go_sem, Nat.reduceLeDiff]; rfl) | (simp; done) | (simp [oneD] <;> omega) | (simp_all; done) | (simp_all [oneD] <;> omega)) (by first | exact Nat.le_refl _ | exact Nat.le_of_ble_eq_true rfl | (dsimp only; omega) | (simp <;> omega)) ?_
              refine .nil ⟨fun _ => schedB_of (by kernel_rfl), ?_⟩
              refine ⟨(), ?_, trivial⟩
              refine Goes.mv [3, 5, 6, 9, 61] [0, 1, 2, 14, 15, 16] [] ?_ (Nat.le_of_ble_eq_true rfl) (Nat.le_of_ble_eq_true rfl) rfl
              first | rfl | (simp only [hgf1, go_sem, Nat.reduceBEq, Nat.reduceAdd, Bool.false_and, Bool.true_or, Bool.and_false]; done) | (simp only [hgf1, go_sem, Nat.reduceBEq, Nat.reduceAdd, Bool.false_and, Bool.true_or, Bool.and_false]; rfl)
            · skip
              refine .reg Try.tmOk Try.tmMixed [3, 5, 6, 9] (by decide +kernel) ?_
              refine .RN 6 (dr := true) (.inl rfl) (by intro q hq; simp only [go_sem, Nat.reduceSub, Int.reduceEq, Nat.reduceLT, Nat.reduceDiv, Nat.reduceAdd, Nat.reduceBEq, Nat.reduceLeDiff, reduceCtorEq, Nat.reduceEqDiff, Nat.reduceMod, appendD, Try.tm_3, Try.tm_23, Try.tm_26, eg10, hgf1, TAttempt.d, TPromise.d]; exact hq) (by first | rfl | (simp only [go_sem, Nat.reduceLeDiff]; done) | (simp only [go_sem, Nat.reduceLeDiff]; rfl) | (simp; done) | (simp [oneD] <;> omega) | (simp_all; done) | (simp_all [oneD] <;> omega)) (by first | exact Nat.le_refl _ | exact Nat.le_of_ble_eq_true rfl | (dsimp only; omega) | (simp <;> omega)) ?_
              refine .RN 6 (dr := true) (.inl rfl) (by intro q hq; simp only [go_sem, Nat.reduceSub, Int.reduceEq, Nat.reduceLT, Nat.reduceDiv, Nat.reduceAdd, Nat.reduceBEq, Nat.reduceLeDiff, reduceCtorEq, Nat.reduceEqDiff, Nat.reduceMod, appendD, Try.tm_3, Try.tm_23, Try.tm_26, Try.tm_31, eg10, hgf1, TAttempt.d, TPromise.d]; exact hq) (by first | rfl | (simp only [go_sem, Nat.reduceLeDiff]; done) | (simp only [go_sem, Nat.reduceLeDiff]; rfl) | (simp; done) | (simp [oneD] <;> omega) | (simp_all; done) | (simp_all [oneD] <;> omega)) (by first | exact Nat.le_refl _ | exact Nat.le_of_ble_eq_true rfl | (dsimp only; omega) | (simp <;> omega)) ?_
              refine .RN 4 (dr := true) (.inl rfl) (by intro q hq; simp only [go_sem, Nat.reduceSub, Int.reduceEq, Nat.reduceLT, Nat.reduceDiv, Nat.reduceAdd, Nat.reduceBEq, Nat.reduceLeDiff, reduceCtorEq, Nat.reduceEqDiff, Nat.reduceMod, appendD, Try.tm_3, Try.tm_31, eg10, hgf1, TAttempt.d, TPromise.d]; exact hq) (by first | rfl | (simp only [go_sem, Nat.reduceLeDiff]; done) | (simp only [go_sem, Nat.reduceLeDiff]; rfl) | (simp; done) | (simp [oneD] <;> omega) | (simp_all; done) | (simp_all [oneD] <;> omega)) (by first | exact Nat.le_refl _ | exact Nat.le_of_ble_eq_true rfl | (dsimp only; omega) | (simp <;> omega)) ?_
              refine .nil ⟨fun _ => schedB_of (by kernel_rfl), ?_⟩
              refine ⟨(), ?_, trivial⟩
              refine Goes.mv [3, 5, 6, 9, 61] [0, 1, 2, 14, 15, 16] [] ?_ (Nat.le_of_ble_eq_true rfl) (Nat.le_of_ble_eq_true rfl) rfl
              first | rfl | (simp only [hgf1, go_sem, Nat.reduceBEq, Nat.reduceAdd, Bool.false_and, Bool.true_or, Bool.and_false]; done) | (simp only [hgf1, go_sem, Nat.reduceBEq, Nat.reduceAdd, Bool.false_and, Bool.true_or, Bool.and_false]; rfl)
        refine .cond rfl rfl (fun hc4 => ?_) (fun hc4 => ?_)
        · skip
          replace h := ite_l h (by first | simpa using hc4 | (simp at hc4 ⊢; omega) | (simp at hc4 ⊢; grind) | grind)
          refine .seq ?_
          refine .plain Try.tmOk Try.tmMixed [3, 6] (by decide +kernel) (by intro q hq; simp only [go_sem, Nat.reduceSub, Int.reduceEq, Nat.reduceLT, Nat.reduceDiv, Nat.reduceAdd, Nat.reduceBEq, Nat.reduceLeDiff, reduceCtorEq, Nat.reduceEqDiff, Nat.reduceMod, appendD, Try.tm_26, TAttempt.d]; exact hq) (by first | rfl | (simp only [go_sem, Nat.reduceLeDiff]; done) | (simp only [go_sem, Nat.reduceLeDiff]; rfl) | (simp; done) | (simp [oneD] <;> omega) | (simp_all; done) | (simp_all [oneD] <;> omega)) (by first | exact Nat.le_refl _ | exact Nat.le_of_ble_eq_true rfl | (dsimp only; omega) | (simp <;> omega)) ?_
          have hq := Option.some.inj h
          subst r
          refine .ret ⟨⟨[(6, .ptr 3 0), (7, .int .i64 ((v4, 0).2))], [(0, .arr 3 1 true (((v4, 0).1.Members).map (D.int .i64))), (1, .arr 31 3 true (((v4, 0).1.Promises).map TPromise.d)), (2, .arr 3 1 true (((v4, 0).1.Accepted).map (D.int .i64))), (3, .box [.int .u8 ((v4, 0).1.Phase), .int .i64 ((v4, 0).1.Ballot), .ref 0 1 0 (((v4, 0).1.Members).length) (some unkC), .str ((v4, 0).1.Wish), .str ((v4, 0).1.Value), .ref 1 3 0 (((v4, 0).1.Promises).length) (some unkC), .ref 2 1 0 (((v4, 0).1.Accepted).length) (some unkC)])], 4⟩, ?_, .inr rfl, retH [2, 1, 0] ?_ ?_⟩
          · skip
            refine Goes.mv [6, 7] [14, 15, 16, 2] [(14, 0), (15, 1), (16, 2), (2, 3)] ?_ (Nat.le_of_ble_eq_true rfl) (Nat.le_of_ble_eq_true rfl) rfl
            first | rfl | (simp only [go_sem, Nat.reduceBEq, Nat.reduceAdd]; done) | (simp only [go_sem, Nat.reduceBEq, Nat.reduceAdd]; rfl)
          · simp only [ResIs, resL, resD, resT, go_sem, Nat.reduceSub, Int.reduceEq, Nat.reduceLT, Nat.reduceDiv, Nat.reduceAdd, Nat.reduceBEq, Nat.reduceLeDiff, reduceCtorEq, Nat.reduceEqDiff, Nat.reduceMod, Try.f17, Try.tm_26, Try.tm_27]
          · rfl
        · skip
          replace h := ite_r h (by first | simpa using hc4 | (simp at hc4 ⊢; omega) | (simp at hc4 ⊢; grind) | grind)
          refine .skip ?_
          refine .seq ?_
          obtain ⟨k2, h⟩ := ite_ck h
          obtain ⟨k3, h⟩ := ite_ck h
          refine .reg Try.tmOk Try.tmMixed [3, 5, 6, 9] (by decide +kernel) ?_
          refine .RN 5 (dr := false) (.inr fun _ _ _ h => ⟨nofun, h.2⟩) (by intro q hq; simp only [go_sem, Nat.reduceSub, Int.reduceEq, Nat.reduceLT, Nat.reduceDiv, Nat.reduceAdd, Nat.reduceBEq, Nat.reduceLeDiff, reduceCtorEq, Nat.reduceEqDiff, Nat.reduceMod, appendD, Try.tm_23, Try.tm_26, Try.tm_31, TAttempt.d, TPromise.d]; exact hq) (by first | rfl | (simp only [go_sem, Nat.reduceLeDiff]; done) | (simp only [go_sem, Nat.reduceLeDiff]; rfl) | (simp; done) | (simp [oneD] <;> omega) | (simp_all; done) | (simp_all [oneD] <;> omega)) (by first | exact Nat.le_refl _ | exact Nat.le_of_ble_eq_true rfl | (dsimp only; omega) | (simp <;> omega)) ?_
          refine .hcall (r := .ref 29 3 0 (((v4.Promises.take v5.toNat) ++ (p :: (v4.Promises.drop v5.toNat))).length) (some unkC)) rfl rfl rfl rfl rfl (insT85 15 28 29 (by decide) (by decide) (by decide) v4.Promises p v5 k2 k3) (fun id b h => getL_pick [15, 28] _ id b h) (by simp) (.inr ⟨Nat.le_refl _, Nat.le_of_ble_eq_true rfl⟩) ?_
          refine .RN 2 (dr := false) (.inr fun _ _ _ h => ⟨nofun, h.2⟩) (by intro q hq; simp only [go_sem, Nat.reduceSub, Int.reduceEq, Nat.reduceLT, Nat.reduceDiv, Nat.reduceAdd, Nat.reduceBEq, Nat.reduceLeDiff, reduceCtorEq, Nat.reduceEqDiff, Nat.reduceMod, appendD, Try.tm_23, Try.tm_26, TAttempt.d, TPromise.d]; exact hq) (by first | rfl | (simp only [go_sem, Nat.reduceLeDiff]; done) | (simp only [go_sem, Nat.reduceLeDiff]; rfl) | (simp; done) | (simp [oneD] <;> omega) | (simp_all; done) | (simp_all [oneD] <;> omega)) (by first | exact Nat.le_refl _ | exact Nat.le_of_ble_eq_true rfl | (dsimp only; omega) | (simp <;> omega)) ?_
          refine .nil ⟨nofun, ?_⟩
          obtain ⟨x1, hx1, h⟩ := bind_some h
          refine .seqM 30 (fun (j : Int × (List UInt8)) => Try.St_attempt_Promised_1 p v4 v5 j.1 j.2) (fun j => x1 = j) (Nat.le_of_ble_eq_true rfl) ?_ ?_
          · skip
            refine .seq ?_
            obtain ⟨v6, hv6, hx1⟩ := bind_some hx1
            obtain ⟨v7, hv7, hx1⟩ := bind_some hx1
            refine .reg Try.tmOk Try.tmMixed [3, 6] (by decide +kernel) ?_
            refine .RN 4 (dr := true) (.inl rfl) (by intro q hq; simp only [go_sem, Nat.reduceSub, Int.reduceEq, Nat.reduceLT, Nat.reduceDiv, Nat.reduceAdd, Nat.reduceBEq, Nat.reduceLeDiff, reduceCtorEq, Nat.reduceEqDiff, Nat.reduceMod, appendD, Try.tm_22, Try.tm_23, Try.tm_26, TAttempt.d, TPromise.d]; exact hq) (by first | rfl | (simp only [go_sem, Nat.reduceLeDiff]; done) | (simp only [go_sem, Nat.reduceLeDiff]; rfl) | (simp; done) | (simp [oneD] <;> omega) | (simp_all; done) | (simp_all [oneD] <;> omega)) (by first | exact Nat.le_refl _ | exact Nat.le_of_ble_eq_true rfl | (dsimp only; omega) | (simp <;> omega)) ?_
            refine .ncall (r := .ref 30 1 0 v6.length (some unkC)) (eff := [(30, some (.arr 3 1 true (v6.map (D.int .i64))))]) (nw := (30, 36)) [] rfl rfl rfl rfl rfl (lend2s_cons (lend2_of (lend_ref pl_TPromise (by first | rfl | (simp only [go_sem, Nat.reduceBEq]; rfl)) (by first | rfl | (simp; done) | (simp <;> omega))) trivial) lend2s_nil) rfl (callH_at 30 (Nat.le_of_ble_eq_true rfl) (callH_attempt_nodes ((v4.Promises.take v5.toNat) ++ (p :: (v4.Promises.drop v5.toNat))) v6 hv6)) (newE_cons rfl rfl (newB_arr pl0_i64 _ _ _) newE_nil) (by intro i hi; simp [D.ids, D.idsL] at hi; omega) rfl ⟨Nat.le_of_ble_eq_true rfl, Nat.le_of_ble_eq_true rfl⟩ ?_
            refine .RN 0 (dr := true) (.inl rfl) (by intro q hq; simp only [go_sem, Nat.reduceSub, Int.reduceEq, Nat.reduceLT, Nat.reduceDiv, Nat.reduceAdd, Nat.reduceBEq, Nat.reduceLeDiff, reduceCtorEq, Nat.reduceEqDiff, Nat.reduceMod, appendD, TAttempt.d, TPromise.d]; exact hq) (by first | rfl | (simp only [go_sem, Nat.reduceLeDiff]; done) | (simp only [go_sem, Nat.reduceLeDiff]; rfl) | (simp; done) | (simp [oneD] <;> omega) | (simp_all; done) | (simp_all [oneD] <;> omega)) (by first | exact Nat.le_refl _ | exact Nat.le_of_ble_eq_true rfl | (dsimp only; omega) | (simp <;> omega)) ?_
            refine .lcall (r := .bool v7) [] rfl rfl rfl rfl rfl (lend2s_cons (lend2_of (lend_ref (pl_int .i64) (by first | rfl | (simp only [go_sem, Nat.reduceBEq]; rfl)) (by first | rfl | (simp; done) | (simp <;> omega))) trivial) (lend2s_cons (lend2_of (lend_ref (pl_int .i64) (by first | rfl | (simp only [go_sem, Nat.reduceBEq]; rfl)) (by first | rfl | (simp; done) | (simp <;> omega))) trivial) lend2s_nil)) rfl (callP_attempt_most v4.Members v6 v7 hv7) ?_
            refine .nil ⟨fun _ => schedB_of (by kernel_rfl), ?_⟩
            refine .cond rfl rfl (fun hc5 => ?_) (fun hc5 => ?_)
            · skip
              replace hx1 := ite_l hx1 (by first | simpa using hc5 | (simp at hc5 ⊢; omega) | (simp at hc5 ⊢; grind) | grind)
              obtain ⟨v8, hv8, hx1⟩ := bind_some hx1
              refine .reg Try.tmOk Try.tmMixed [3, 6] (by decide +kernel) ?_
              refine .RN 4 (dr := false) (.inr fun _ _ _ h => ⟨nofun, h.2⟩) (by intro q hq; simp only [go_sem, Nat.reduceSub, Int.reduceEq, Nat.reduceLT, Nat.reduceDiv, Nat.reduceAdd, Nat.reduceBEq, Nat.reduceLeDiff, reduceCtorEq, Nat.reduceEqDiff, Nat.reduceMod, appendD, Try.tm_9, Try.tm_23, Try.tm_26, TAttempt.d, TPromise.d]; exact hq) (by first | rfl | (simp only [go_sem, Nat.reduceLeDiff]; done) | (simp only [go_sem, Nat.reduceLeDiff]; rfl) | (simp; done) | (simp [oneD] <;> omega) | (simp_all; done) | (simp_all [oneD] <;> omega)) (by first | exact Nat.le_refl _ | exact Nat.le_of_ble_eq_true rfl | (dsimp only; omega) | (simp <;> omega)) ?_
              refine .lcall (r := .str v8) [] rfl rfl rfl rfl rfl (lend2s_cons (lend2_of (lend_ref pl_TPromise (by first | rfl | (simp only [go_sem, Nat.reduceBEq]; rfl)) (by first | rfl | (simp; done) | (simp <;> omega))) trivial) (lend2s_cons rfl lend2s_nil)) rfl (callP_attempt_Best ((v4.Promises.take v5.toNat) ++ (p :: (v4.Promises.drop v5.toNat))) v4.Wish v8 hv8) ?_
              refine .RN 4 (dr := false) (.inr fun _ _ _ h => ⟨nofun, h.2⟩) (by intro q hq; simp only [go_sem, Nat.reduceSub, Int.reduceEq, Nat.reduceLT, Nat.reduceDiv, Nat.reduceAdd, Nat.reduceBEq, Nat.reduceLeDiff, reduceCtorEq, Nat.reduceEqDiff, Nat.reduceMod, appendD, Try.tm_5, Try.tm_9, Try.tm_26, TAttempt.d, TPromise.d]; exact hq) (by first | rfl | (simp only [go_sem, Nat.reduceLeDiff]; done) | (simp only [go_sem, Nat.reduceLeDiff]; rfl) | (simp; done) | (simp [oneD] <;> omega) | (simp_all; done) | (simp_all [oneD] <;> omega)) (by first | exact Nat.le_refl _ | exact Nat.le_of_ble_eq_true rfl | (dsimp only; omega) | (simp <;> omega)) ?_
              refine .nil ⟨nofun, ?_⟩
              refine ⟨_, ?_, (Option.some.inj hx1).symm⟩
              refine Goes.mv [3, 6] [0, 2, 14, 29, 16] [(14, 30), (29, 31), (16, 32)] ?_ (Nat.le_of_ble_eq_true rfl) (Nat.le_of_ble_eq_true rfl) rfl
              first | rfl | (simp only [go_sem, Nat.reduceBEq, Nat.reduceAdd]; done) | (simp only [go_sem, Nat.reduceBEq, Nat.reduceAdd]; rfl)
            · skip
              replace hx1 := ite_r hx1 (by first | simpa using hc5 | (simp at hc5 ⊢; omega) | (simp at hc5 ⊢; grind) | grind)
              refine .skip ?_
              refine ⟨_, ?_, (Option.some.inj hx1).symm⟩
              refine Goes.mv [3, 6] [0, 2, 14, 29, 16] [(14, 30), (29, 31), (16, 32)] ?_ (Nat.le_of_ble_eq_true rfl) (Nat.le_of_ble_eq_true rfl) rfl
              first | rfl | (simp only [go_sem, Nat.reduceBEq, Nat.reduceAdd]; done) | (simp only [go_sem, Nat.reduceBEq, Nat.reduceAdd]; rfl)
          · skip
            rintro ⟨n1, s1⟩ hj1
            subst x1
            try dsimp only at h
            simp only [Try.St_attempt_Promised_1]
            refine .seq ?_
            refine .plain Try.tmOk Try.tmMixed [3, 6] (by decide +kernel) (by intro q hq; simp only [go_sem, Nat.reduceSub, Int.reduceEq, Nat.reduceLT, Nat.reduceDiv, Nat.reduceAdd, Nat.reduceBEq, Nat.reduceLeDiff, reduceCtorEq, Nat.reduceEqDiff, Nat.reduceMod, appendD, Try.tm_26, TAttempt.d]; exact hq) (by first | rfl | (simp only [go_sem, Nat.reduceLeDiff]; done) | (simp only [go_sem, Nat.reduceLeDiff]; rfl) | (simp; done) | (simp [oneD] <;> omega) | (simp_all; done) | (simp_all [oneD] <;> omega)) (by first | exact Nat.le_refl _ | exact Nat.le_of_ble_eq_true rfl | (dsimp only; omega) | (simp <;> omega)) ?_
            have hq := Option.some.inj h
            subst r
            refine .ret ⟨⟨[(6, .ptr 3 0), (7, .int .i64 (((⟨n1, v4.Ballot, v4.Members, v4.Wish, s1, ((v4.Promises.take v5.toNat) ++ (p :: (v4.Promises.drop v5.toNat))), v4.Accepted⟩ : TAttempt), 0).2))], [(0, .arr 3 1 true ((((⟨n1, v4.Ballot, v4.Members, v4.Wish, s1, ((v4.Promises.take v5.toNat) ++ (p :: (v4.Promises.drop v5.toNat))), v4.Accepted⟩ : TAttempt), 0).1.Members).map (D.int .i64))), (1, .arr 31 3 true ((((⟨n1, v4.Ballot, v4.Members, v4.Wish, s1, ((v4.Promises.take v5.toNat) ++ (p :: (v4.Promises.drop v5.toNat))), v4.Accepted⟩ : TAttempt), 0).1.Promises).map TPromise.d)), (2, .arr 3 1 true ((((⟨n1, v4.Ballot, v4.Members, v4.Wish, s1, ((v4.Promises.take v5.toNat) ++ (p :: (v4.Promises.drop v5.toNat))), v4.Accepted⟩ : TAttempt), 0).1.Accepted).map (D.int .i64))), (3, .box [.int .u8 (((⟨n1, v4.Ballot, v4.Members, v4.Wish, s1, ((v4.Promises.take v5.toNat) ++ (p :: (v4.Promises.drop v5.toNat))), v4.Accepted⟩ : TAttempt), 0).1.Phase), .int .i64 (((⟨n1, v4.Ballot, v4.Members, v4.Wish, s1, ((v4.Promises.take v5.toNat) ++ (p :: (v4.Promises.drop v5.toNat))), v4.Accepted⟩ : TAttempt), 0).1.Ballot), .ref 0 1 0 ((((⟨n1, v4.Ballot, v4.Members, v4.Wish, s1, ((v4.Promises.take v5.toNat) ++ (p :: (v4.Promises.drop v5.toNat))), v4.Accepted⟩ : TAttempt), 0).1.Members).length) (some unkC), .str (((⟨n1, v4.Ballot, v4.Members, v4.Wish, s1, ((v4.Promises.take v5.toNat) ++ (p :: (v4.Promises.drop v5.toNat))), v4.Accepted⟩ : TAttempt), 0).1.Wish), .str (((⟨n1, v4.Ballot, v4.Members, v4.Wish, s1, ((v4.Promises.take v5.toNat) ++ (p :: (v4.Promises.drop v5.toNat))), v4.Accepted⟩ : TAttempt), 0).1.Value), .ref 1 3 0 ((((⟨n1, v4.Ballot, v4.Members, v4.Wish, s1, ((v4.Promises.take v5.toNat) ++ (p :: (v4.Promises.drop v5.toNat))), v4.Accepted⟩ : TAttempt), 0).1.Promises).length) (some unkC), .ref 2 1 0 ((((⟨n1, v4.Ballot, v4.Members, v4.Wish, s1, ((v4.Promises.take v5.toNat) ++ (p :: (v4.Promises.drop v5.toNat))), v4.Accepted⟩ : TAttempt), 0).1.Accepted).length) (some unkC)])], 4⟩, ?_, .inr rfl, retH [2, 1, 0] ?_ ?_⟩
            · skip
              refine Goes.mv [6, 7] [30, 31, 32, 2] [(30, 0), (31, 1), (32, 2), (2, 3)] ?_ (Nat.le_of_ble_eq_true rfl) (Nat.le_of_ble_eq_true rfl) rfl
              first | rfl | (simp only [go_sem, Nat.reduceBEq, Nat.reduceAdd]; done) | (simp only [go_sem, Nat.reduceBEq, Nat.reduceAdd]; rfl)
            · simp only [ResIs, resL, resD, resT, go_sem, Nat.reduceSub, Int.reduceEq, Nat.reduceLT, Nat.reduceDiv, Nat.reduceAdd, Nat.reduceBEq, Nat.reduceLeDiff, reduceCtorEq, Nat.reduceEqDiff, Nat.reduceMod, Try.f17, Try.tm_26, Try.tm_27]
            · rfl

def Try.St_attempt_Accepted_1 (v3 : TAttempt) (l1 : List Int) : St := ⟨[(3, .ptr 0 0), (6, .ptr 1 0)], [(0, .box [.int .u8 v3.Phase, .int .i64 v3.Ballot, .ref 28 1 0 v3.Members.length (some unkC), .str v3.Wish, .str v3.Value, .ref 29 3 0 v3.Promises.length (some unkC), .ref 30 1 0 l1.length (some unkC)]), (1, .box [.int .u8 0, .int .i64 0, .imm 0 [] 0, .str [], .str [], .imm 0 [] 0, .imm 0 [] 0]), (28, .arr 3 1 true (v3.Members.map (D.int .i64))), (29, .arr 31 3 true (v3.Promises.map TPromise.d)), (30, .arr 3 1 true (l1.map (D.int .i64)))], 31⟩
attribute [local go_sem] Try.St_attempt_Accepted_1
def Try.St_attempt_Accepted_3 (v3 : TAttempt) (l1 : List Int) (n1 : Int) : St := ⟨[(3, .ptr 0 0), (6, .ptr 1 0)], [(0, .box [.int .u8 n1, .int .i64 v3.Ballot, .ref 31 1 0 v3.Members.length (some unkC), .str v3.Wish, .str v3.Value, .ref 32 3 0 v3.Promises.length (some unkC), .ref 33 1 0 l1.length (some unkC)]), (1, .box [.int .u8 0, .int .i64 0, .imm 0 [] 0, .str [], .str [], .imm 0 [] 0, .imm 0 [] 0]), (31, .arr 3 1 true (v3.Members.map (D.int .i64))), (32, .arr 31 3 true (v3.Promises.map TPromise.d)), (33, .arr 3 1 true (l1.map (D.int .i64)))], 34⟩
attribute [local go_sem] Try.St_attempt_Accepted_3
theorem callH_attempt_Accepted (a : TAttempt) (b : Int) (node : Int) (r : TAttempt × Int) (h : m_attempt_Accepted a b node = some r) : CallH Try.prog 24 [.agg [.int .u8 a.Phase, .int .i64 a.Ballot, .imm 1 (a.Members.map (D.int .i64)) 4, .str a.Wish, .str a.Value, .imm 3 (a.Promises.map TPromise.d) 4, .imm 1 (a.Accepted.map (D.int .i64)) 4], .int .i64 b, .int .i64 node] [] (.tuple [.agg [.int .u8 r.1.Phase, .int .i64 r.1.Ballot, .ref 0 1 0 r.1.Members.length (some unkC), .str r.1.Wish, .str r.1.Value, .ref 1 3 0 r.1.Promises.length (some unkC), .ref 2 1 0 r.1.Accepted.length (some unkC)], .int .i64 r.2]) [(0, some (.arr 3 1 true (r.1.Members.map (D.int .i64)))), (1, some (.arr 31 3 true (r.1.Promises.map TPromise.d))), (2, some (.arr 3 1 true (r.1.Accepted.map (D.int .i64))))] (0, 36) := by
  refine callH_intro' Try.tmOk Try.func24 rfl (by decide) (Nat.le_of_ble_eq_true rfl) (by simp) ?_
  intro hwf
  unfold m_attempt_Accepted at h
  refine .ends 0 (Nat.le_refl _) ?_
  refine .seq ?_
  refine .plain Try.tmOk Try.tmMixed [0, 1, 2] (by decide +kernel) (by intro q hq; simp only [go_sem, Nat.reduceSub, Int.reduceEq, Nat.reduceLT, Nat.reduceDiv, Nat.reduceAdd, Nat.reduceBEq, Nat.reduceLeDiff, reduceCtorEq, Nat.reduceEqDiff, Nat.reduceMod, appendD, Try.tm_26, TAttempt.d]; exact hq) (by first | rfl | (simp only [go_sem, Nat.reduceLeDiff]; done) | (simp only [go_sem, Nat.reduceLeDiff]; rfl) | (simp; done) | (simp [oneD] <;> omega) | (simp_all; done) | (simp_all [oneD] <;> omega)) (by first | exact Nat.le_refl _ | exact Nat.le_of_ble_eq_true rfl | (dsimp only; omega) | (simp <;> omega)) ?_
  refine .seq ?_
  refine .seq ?_
  obtain ⟨v1, hv1, h⟩ := bind_some h
  refine .reg Try.tmOk Try.tmMixed [1, 2, 3, 6] (by decide +kernel) ?_
  refine .RN 1 (dr := false) (.inr fun _ _ _ h => ⟨nofun, h.2⟩) (by intro q hq; simp only [go_sem, Nat.reduceSub, Int.reduceEq, Nat.reduceLT, Nat.reduceDiv, Nat.reduceAdd, Nat.reduceBEq, Nat.reduceLeDiff, reduceCtorEq, Nat.reduceEqDiff, Nat.reduceMod, appendD, Try.tm_26, TAttempt.d]; exact hq) (by first | rfl | (simp only [go_sem, Nat.reduceLeDiff]; done) | (simp only [go_sem, Nat.reduceLeDiff]; rfl) | (simp; done) | (simp [oneD] <;> omega) | (simp_all; done) | (simp_all [oneD] <;> omega)) (by first | exact Nat.le_refl _ | exact Nat.le_of_ble_eq_true rfl | (dsimp only; omega) | (simp <;> omega)) ?_
  refine .call (r := .int .i64 v1) rfl rfl rfl rfl rfl rfl (callP_attempt_Check a v1 hv1) ?_
  refine .RN 1 (dr := false) (.inr fun _ _ _ h => ⟨nofun, h.2⟩) (by intro q hq; simp only [go_sem, Nat.reduceSub, Int.reduceEq, Nat.reduceLT, Nat.reduceDiv, Nat.reduceAdd, Nat.reduceBEq, Nat.reduceLeDiff, reduceCtorEq, Nat.reduceEqDiff, Nat.reduceMod, appendD, TAttempt.d]; exact hq) (by first | rfl | (simp only [go_sem, Nat.reduceLeDiff]; done) | (simp only [go_sem, Nat.reduceLeDiff]; rfl) | (simp; done) | (simp [oneD] <;> omega) | (simp_all; done) | (simp_all [oneD] <;> omega)) (by first | exact Nat.le_refl _ | exact Nat.le_of_ble_eq_true rfl | (dsimp only; omega) | (simp <;> omega)) ?_
  refine .nil ⟨nofun, ?_⟩
  refine .seq ?_
  refine .plain Try.tmOk Try.tmMixed [1, 2, 3, 6, 8] (by decide +kernel) (by intro q hq; simp only [go_sem, Nat.reduceSub, Int.reduceEq, Nat.reduceLT, Nat.reduceDiv, Nat.reduceAdd, Nat.reduceBEq, Nat.reduceLeDiff, reduceCtorEq, Nat.reduceEqDiff, Nat.reduceMod, appendD, Try.tm_27]; exact hq) (by first | rfl | (simp only [go_sem, Nat.reduceLeDiff]; done) | (simp only [go_sem, Nat.reduceLeDiff]; rfl) | (simp; done) | (simp [oneD] <;> omega) | (simp_all; done) | (simp_all [oneD] <;> omega)) (by first | exact Nat.le_refl _ | exact Nat.le_of_ble_eq_true rfl | (dsimp only; omega) | (simp <;> omega)) ?_
  refine .cond rfl rfl (fun hc1 => ?_) (fun hc1 => ?_)
  · skip
    replace h := ite_l h (by first | simpa using hc1 | (simp at hc1 ⊢; omega) | (simp at hc1 ⊢; grind) | grind)
    refine .seq ?_
    refine .plain Try.tmOk Try.tmMixed [6, 8] (by decide +kernel) (by intro q hq; simp only [go_sem, Nat.reduceSub, Int.reduceEq, Nat.reduceLT, Nat.reduceDiv, Nat.reduceAdd, Nat.reduceBEq, Nat.reduceLeDiff, reduceCtorEq, Nat.reduceEqDiff, Nat.reduceMod, appendD, Try.tm_26, TAttempt.d]; exact hq) (by first | rfl | (simp only [go_sem, Nat.reduceLeDiff]; done) | (simp only [go_sem, Nat.reduceLeDiff]; rfl) | (simp; done) | (simp [oneD] <;> omega) | (simp_all; done) | (simp_all [oneD] <;> omega)) (by first | exact Nat.le_refl _ | exact Nat.le_of_ble_eq_true rfl | (dsimp only; omega) | (simp <;> omega)) ?_
    have hq := Option.some.inj h
    subst r
    refine .ret ⟨⟨[(6, .ptr 3 0), (7, .int .i64 (((⟨0, 0, [], [], [], [], []⟩ : TAttempt), v1).2))], [(0, .arr 3 1 true ((((⟨0, 0, [], [], [], [], []⟩ : TAttempt), v1).1.Members).map (D.int .i64))), (1, .arr 31 3 true ((((⟨0, 0, [], [], [], [], []⟩ : TAttempt), v1).1.Promises).map TPromise.d)), (2, .arr 3 1 true ((((⟨0, 0, [], [], [], [], []⟩ : TAttempt), v1).1.Accepted).map (D.int .i64))), (3, .box [.int .u8 (((⟨0, 0, [], [], [], [], []⟩ : TAttempt), v1).1.Phase), .int .i64 (((⟨0, 0, [], [], [], [], []⟩ : TAttempt), v1).1.Ballot), .ref 0 1 0 ((((⟨0, 0, [], [], [], [], []⟩ : TAttempt), v1).1.Members).length) (some unkC), .str (((⟨0, 0, [], [], [], [], []⟩ : TAttempt), v1).1.Wish), .str (((⟨0, 0, [], [], [], [], []⟩ : TAttempt), v1).1.Value), .ref 1 3 0 ((((⟨0, 0, [], [], [], [], []⟩ : TAttempt), v1).1.Promises).length) (some unkC), .ref 2 1 0 ((((⟨0, 0, [], [], [], [], []⟩ : TAttempt), v1).1.Accepted).length) (some unkC)])], 4⟩, ?_, .inr rfl, retH [2, 1, 0] ?_ ?_⟩
    · skip
      refine Goes.new0 1 3 (Nat.le_of_ble_eq_true rfl) ?_
      refine Goes.box 1 [.int .u8 0, .int .i64 0] (.imm 0 [] 0) (.ref 2 1 0 0 (some unkC)) [.str [], .str [], .imm 0 [] 0, .imm 0 [] 0] rfl (WkG.own0 2 1 0 0 (by decide)) ?_
      refine Goes.new0 3 31 (Nat.le_of_ble_eq_true rfl) ?_
      refine Goes.box 1 [.int .u8 0, .int .i64 0, .ref 2 1 0 0 (some unkC), .str [], .str []] (.imm 0 [] 0) (.ref 3 3 0 0 (some unkC)) [.imm 0 [] 0] rfl (WkG.own0 3 3 0 0 (by decide)) ?_
      refine Goes.new0 1 3 (Nat.le_of_ble_eq_true rfl) ?_
      refine Goes.box 1 [.int .u8 0, .int .i64 0, .ref 2 1 0 0 (some unkC), .str [], .str [], .ref 3 3 0 0 (some unkC)] (.imm 0 [] 0) (.ref 4 1 0 0 (some unkC)) [] rfl (WkG.own0 4 1 0 0 (by decide)) ?_
      refine Goes.mv [6, 7] [2, 3, 4, 1] [(2, 0), (3, 1), (4, 2), (1, 3)] ?_ (Nat.le_of_ble_eq_true rfl) (Nat.le_of_ble_eq_true rfl) rfl
      first | rfl | (simp only [go_sem, Nat.reduceBEq, Nat.reduceAdd]; done) | (simp only [go_sem, Nat.reduceBEq, Nat.reduceAdd]; rfl)
    · simp only [ResIs, resL, resD, resT, go_sem, Nat.reduceSub, Int.reduceEq, Nat.reduceLT, Nat.reduceDiv, Nat.reduceAdd, Nat.reduceBEq, Nat.reduceLeDiff, reduceCtorEq, Nat.reduceEqDiff, Nat.reduceMod, Try.f24, Try.tm_26, Try.tm_27]
    · rfl
  · skip
    replace h := ite_r h (by first | simpa using hc1 | (simp at hc1 ⊢; omega) | (simp at hc1 ⊢; grind) | grind)
    refine .skip ?_
    refine .seq ?_
    refine .seq ?_
    obtain ⟨v2, hv2, h⟩ := bind_some h
    refine .reg Try.tmOk Try.tmMixed [1, 2, 3, 6] (by decide +kernel) ?_
    refine .RN 6 (dr := false) (.inr fun _ _ _ h => ⟨nofun, h.2⟩) (by intro q hq; simp only [go_sem, Nat.reduceSub, Int.reduceEq, Nat.reduceLT, Nat.reduceDiv, Nat.reduceAdd, Nat.reduceBEq, Nat.reduceLeDiff, reduceCtorEq, Nat.reduceEqDiff, Nat.reduceMod, appendD, Try.tm_5, Try.tm_26, TAttempt.d]; exact hq) (by first | rfl | (simp only [go_sem, Nat.reduceLeDiff]; done) | (simp only [go_sem, Nat.reduceLeDiff]; rfl) | (simp; done) | (simp [oneD] <;> omega) | (simp_all; done) | (simp_all [oneD] <;> omega)) (by first | exact Nat.le_refl _ | exact Nat.le_of_ble_eq_true rfl | (dsimp only; omega) | (simp <;> omega)) ?_
    refine .RN 7 (dr := false) (.inr fun _ _ _ h => ⟨nofun, h.2⟩) (by intro q hq; simp only [go_sem, Nat.reduceSub, Int.reduceEq, Nat.reduceLT, Nat.reduceDiv, Nat.reduceAdd, Nat.reduceBEq, Nat.reduceLeDiff, reduceCtorEq, Nat.reduceEqDiff, Nat.reduceMod, appendD, Try.tm_3, Try.tm_22, Try.tm_26, TAttempt.d]; exact hq) (by first | rfl | (simp only [go_sem, Nat.reduceLeDiff]; done) | (simp only [go_sem, Nat.reduceLeDiff]; rfl) | (simp; done) | (simp [oneD] <;> omega) | (simp_all; done) | (simp_all [oneD] <;> omega)) (by first | exact Nat.le_refl _ | exact Nat.le_of_ble_eq_true rfl | (dsimp only; omega) | (simp <;> omega)) ?_
    refine .gcall (r := .bool v2) rfl rfl rfl rfl rfl (fun hg => ⟨[], [.imm 1 (a.Members.map (D.int .i64)) 4, .int .i64 node], _, rfl, (by first | (simp only [opds, opd, ev, ofVal, getR, getL, Nat.beq, cond_true, cond_false, Bool.not_true, Bool.false_or, Bool.and_true, Bool.true_and, Prod.mk.injEq, true_and]; done) | (simp only [opds, opd, ev, ofVal, getR, getL, Nat.beq, cond_true, cond_false, Bool.not_true, Bool.false_or, Bool.and_true, Bool.true_and, Prod.mk.injEq, true_and]; first | exact hg | simpa using hg | (simp at hg ⊢; grind)) | rfl), rfl, (callP_quorum_Has a.Members node v2 (ite_l hv2 (by first | simpa using hg | (simp at hg ⊢; omega) | (simp at hg ⊢; grind) | grind)))⟩) ?_
    refine .RN 2 (dr := false) (.inr fun _ _ _ h => ⟨nofun, h.2⟩) (by intro q hq; simp only [go_sem, Nat.reduceSub, Int.reduceEq, Nat.reduceLT, Nat.reduceDiv, Nat.reduceAdd, Nat.reduceBEq, Nat.reduceLeDiff, reduceCtorEq, Nat.reduceEqDiff, Nat.reduceMod, appendD, TAttempt.d]; exact hq) (by first | rfl | (simp only [go_sem, Nat.reduceLeDiff]; done) | (simp only [go_sem, Nat.reduceLeDiff]; rfl) | (simp; done) | (simp [oneD] <;> omega) | (simp_all; done) | (simp_all [oneD] <;> omega)) (by first | exact Nat.le_refl _ | exact Nat.le_of_ble_eq_true rfl | (dsimp only; omega) | (simp <;> omega)) ?_
    refine .nil ⟨nofun, ?_⟩
    refine .cond rfl rfl (fun hc2 => ?_) (fun hc2 => ?_)
    · skip
      replace h := ite_l h (by first | simpa using hc2 | (simp at hc2 ⊢; omega) | (simp at hc2 ⊢; grind) | grind)
      refine .seq ?_
      refine .plain Try.tmOk Try.tmMixed [6] (by decide +kernel) (by intro q hq; simp only [go_sem, Nat.reduceSub, Int.reduceEq, Nat.reduceLT, Nat.reduceDiv, Nat.reduceAdd, Nat.reduceBEq, Nat.reduceLeDiff, reduceCtorEq, Nat.reduceEqDiff, Nat.reduceMod, appendD, Try.tm_26, TAttempt.d]; exact hq) (by first | rfl | (simp only [go_sem, Nat.reduceLeDiff]; done) | (simp only [go_sem, Nat.reduceLeDiff]; rfl) | (simp; done) | (simp [oneD] <;> omega) | (simp_all; done) | (simp_all [oneD] <;> omega)) (by first | exact Nat.le_refl _ | exact Nat.le_of_ble_eq_true rfl | (dsimp only; omega) | (simp <;> omega)) ?_
      have hq := Option.some.inj h
      subst r
      refine .ret ⟨⟨[(6, .ptr 3 0), (7, .int .i64 (((⟨0, 0, [], [], [], [], []⟩ : TAttempt), 6).2))], [(0, .arr 3 1 true ((((⟨0, 0, [], [], [], [], []⟩ : TAttempt), 6).1.Members).map (D.int .i64))), (1, .arr 31 3 true ((((⟨0, 0, [], [], [], [], []⟩ : TAttempt), 6).1.Promises).map TPromise.d)), (2, .arr 3 1 true ((((⟨0, 0, [], [], [], [], []⟩ : TAttempt), 6).1.Accepted).map (D.int .i64))), (3, .box [.int .u8 (((⟨0, 0, [], [], [], [], []⟩ : TAttempt), 6).1.Phase), .int .i64 (((⟨0, 0, [], [], [], [], []⟩ : TAttempt), 6).1.Ballot), .ref 0 1 0 ((((⟨0, 0, [], [], [], [], []⟩ : TAttempt), 6).1.Members).length) (some unkC), .str (((⟨0, 0, [], [], [], [], []⟩ : TAttempt), 6).1.Wish), .str (((⟨0, 0, [], [], [], [], []⟩ : TAttempt), 6).1.Value), .ref 1 3 0 ((((⟨0, 0, [], [], [], [], []⟩ : TAttempt), 6).1.Promises).length) (some unkC), .ref 2 1 0 ((((⟨0, 0, [], [], [], [], []⟩ : TAttempt), 6).1.Accepted).length) (some unkC)])], 4⟩, ?_, .inr rfl, retH [2, 1, 0] ?_ ?_⟩
      · skip
        refine Goes.new0 1 3 (Nat.le_of_ble_eq_true rfl) ?_
        refine Goes.box 1 [.int .u8 0, .int .i64 0] (.imm 0 [] 0) (.ref 2 1 0 0 (some unkC)) [.str [], .str [], .imm 0 [] 0, .imm 0 [] 0] rfl (WkG.own0 2 1 0 0 (by decide)) ?_
        refine Goes.new0 3 31 (Nat.le_of_ble_eq_true rfl) ?_
        refine Goes.box 1 [.int .u8 0, .int .i64 0, .ref 2 1 0 0 (some unkC), .str [], .str []] (.imm 0 [] 0) (.ref 3 3 0 0 (some unkC)) [.imm 0 [] 0] rfl (WkG.own0 3 3 0 0 (by decide)) ?_
        refine Goes.new0 1 3 (Nat.le_of_ble_eq_true rfl) ?_
        refine Goes.box 1 [.int .u8 0, .int .i64 0, .ref 2 1 0 0 (some unkC), .str [], .str [], .ref 3 3 0 0 (some unkC)] (.imm 0 [] 0) (.ref 4 1 0 0 (some unkC)) [] rfl (WkG.own0 4 1 0 0 (by decide)) ?_
        refine Goes.mv [6, 7] [2, 3, 4, 1] [(2, 0), (3, 1), (4, 2), (1, 3)] ?_ (Nat.le_of_ble_eq_true rfl) (Nat.le_of_ble_eq_true rfl) rfl
        first | rfl | (simp only [go_sem, Nat.reduceBEq, Nat.reduceAdd]; done) | (simp only [go_sem, Nat.reduceBEq, Nat.reduceAdd]; rfl)
      · simp only [ResIs, resL, resD, resT, go_sem, Nat.reduceSub, Int.reduceEq, Nat.reduceLT, Nat.reduceDiv, Nat.reduceAdd, Nat.reduceBEq, Nat.reduceLeDiff, reduceCtorEq, Nat.reduceEqDiff, Nat.reduceMod, Try.f24, Try.tm_26, Try.tm_27]
      · rfl
    · skip
      replace h := ite_r h (by first | simpa using hc2 | (simp at hc2 ⊢; omega) | (simp at hc2 ⊢; grind) | grind)
      refine .skip ?_
      refine .seq ?_
      obtain ⟨v3, hv3, h⟩ := bind_some h
      refine .reg Try.tmOk Try.tmMixed [2, 3, 6] (by decide +kernel) ?_
      refine .RN 1 (dr := false) (.inr fun _ _ _ h => ⟨nofun, h.2⟩) (by intro q hq; simp only [go_sem, Nat.reduceSub, Int.reduceEq, Nat.reduceLT, Nat.reduceDiv, Nat.reduceAdd, Nat.reduceBEq, Nat.reduceLeDiff, reduceCtorEq, Nat.reduceEqDiff, Nat.reduceMod, appendD, Try.tm_26, TAttempt.d]; exact hq) (by first | rfl | (simp only [go_sem, Nat.reduceLeDiff]; done) | (simp only [go_sem, Nat.reduceLeDiff]; rfl) | (simp; done) | (simp [oneD] <;> omega) | (simp_all; done) | (simp_all [oneD] <;> omega)) (by first | exact Nat.le_refl _ | exact Nat.le_of_ble_eq_true rfl | (dsimp only; omega) | (simp <;> omega)) ?_
      refine .ncall (r := .agg [.int .u8 v3.Phase, .int .i64 v3.Ballot, .ref 14 1 0 v3.Members.length (some unkC), .str v3.Wish, .str v3.Value, .ref 15 3 0 v3.Promises.length (some unkC), .ref 16 1 0 v3.Accepted.length (some unkC)]) (eff := [(14, some (.arr 3 1 true (v3.Members.map (D.int .i64)))), (15, some (.arr 31 3 true (v3.Promises.map TPromise.d))), (16, some (.arr 3 1 true (v3.Accepted.map (D.int .i64))))]) (nw := (14, 28)) [] rfl rfl rfl rfl rfl (lend2s_cons rfl lend2s_nil) rfl (callH_at 14 (Nat.le_of_ble_eq_true rfl) (callH_attempt_Twin a v3 hv3)) (newE_cons rfl rfl (newB_arr pl0_i64 _ _ _) (newE_cons rfl rfl (newB_arr pl0_TPromise _ _ _) (newE_cons rfl rfl (newB_arr pl0_i64 _ _ _) newE_nil))) (by intro i hi; simp [D.ids, D.idsL] at hi; omega) rfl ⟨Nat.le_of_ble_eq_true rfl, Nat.le_of_ble_eq_true rfl⟩ ?_
      refine .RN 1 (dr := false) (.inr fun _ _ _ h => ⟨nofun, h.2⟩) (by intro q hq; simp only [go_sem, Nat.reduceSub, Int.reduceEq, Nat.reduceLT, Nat.reduceDiv, Nat.reduceAdd, Nat.reduceBEq, Nat.reduceLeDiff, reduceCtorEq, Nat.reduceEqDiff, Nat.reduceMod, appendD, Try.tm_26, TAttempt.d]; exact hq) (by first | rfl | (simp only [go_sem, Nat.reduceLeDiff]; done) | (simp only [go_sem, Nat.reduceLeDiff]; rfl) | (simp; done) | (simp [oneD] <;> omega) | (simp_all; done) | (simp_all [oneD] <;> omega)) (by first | exact Nat.le_refl _ | exact Nat.le_of_ble_eq_true rfl | (dsimp only; omega) | (simp <;> omega)) ?_
      refine .nil ⟨nofun, ?_⟩
      refine .seq ?_
      obtain ⟨v4, hv4, h⟩ := bind_some h
      refine .reg Try.tmOk Try.tmMixed [2, 3, 6] (by decide +kernel) ?_
      refine .RN 3 (dr := false) (.inr fun _ _ _ h => ⟨nofun, h.2⟩) (by intro q hq; simp only [go_sem, Nat.reduceSub, Int.reduceEq, Nat.reduceLT, Nat.reduceDiv, Nat.reduceAdd, Nat.reduceBEq, Nat.reduceLeDiff, reduceCtorEq, Nat.reduceEqDiff, Nat.reduceMod, appendD, Try.tm_22, Try.tm_26, TAttempt.d]; exact hq) (by first | rfl | (simp only [go_sem, Nat.reduceLeDiff]; done) | (simp only [go_sem, Nat.reduceLeDiff]; rfl) | (simp; done) | (simp [oneD] <;> omega) | (simp_all; done) | (simp_all [oneD] <;> omega)) (by first | exact Nat.le_refl _ | exact Nat.le_of_ble_eq_true rfl | (dsimp only; omega) | (simp <;> omega)) ?_
      refine .lcall (r := .int .i64 v4) [] rfl rfl rfl rfl rfl (lend2s_cons (lend2_of (lend_ref (pl_int .i64) (by first | rfl | (simp only [go_sem, Nat.reduceBEq]; rfl)) (by first | rfl | (simp; done) | (simp <;> omega))) trivial) (lend2s_cons rfl lend2s_nil)) rfl (callP_sort_SearchInts v3.Accepted node v4 hv4) ?_
      refine .RN 1 (dr := false) (.inr fun _ _ _ h => ⟨nofun, h.2⟩) (by intro q hq; simp only [go_sem, Nat.reduceSub, Int.reduceEq, Nat.reduceLT, Nat.reduceDiv, Nat.reduceAdd, Nat.reduceBEq, Nat.reduceLeDiff, reduceCtorEq, Nat.reduceEqDiff, Nat.reduceMod, appendD, TAttempt.d]; exact hq) (by first | rfl | (simp only [go_sem, Nat.reduceLeDiff]; done) | (simp only [go_sem, Nat.reduceLeDiff]; rfl) | (simp; done) | (simp [oneD] <;> omega) | (simp_all; done) | (simp_all [oneD] <;> omega)) (by first | exact Nat.le_refl _ | exact Nat.le_of_ble_eq_true rfl | (dsimp only; omega) | (simp <;> omega)) ?_
      refine .nil ⟨nofun, ?_⟩
      obtain ⟨x1, hx1, h⟩ := bind_some h
      refine .seqM 28 (fun (j : (List Int)) => Try.St_attempt_Accepted_1 v3 j) (fun j => x1 = j) (Nat.le_of_ble_eq_true rfl) ?_ ?_
      · skip
        obtain ⟨k1, hx1⟩ := ite_ck hx1
        refine .seqM 28 (fun (_ : Unit) => ⟨[(2, .int .i64 node), (3, .ptr 0 0), (6, .ptr 1 0), (9, .int .i64 v4), (52, .bool ((v4 == (v3.Accepted.length : Int)) || ((v3.Accepted.getD v4.toNat default) != node)))], [(0, .box [.int .u8 v3.Phase, .int .i64 v3.Ballot, .ref 14 1 0 v3.Members.length (some unkC), .str v3.Wish, .str v3.Value, .ref 15 3 0 v3.Promises.length (some unkC), .ref 16 1 0 v3.Accepted.length (some unkC)]), (1, .box [.int .u8 0, .int .i64 0, .imm 0 [] 0, .str [], .str [], .imm 0 [] 0, .imm 0 [] 0]), (14, .arr 3 1 true (v3.Members.map (D.int .i64))), (15, .arr 31 3 true (v3.Promises.map TPromise.d)), (16, .arr 3 1 true (v3.Accepted.map (D.int .i64)))], 28⟩) (fun _ => True) (Nat.le_of_ble_eq_true rfl) ?_ (fun _ _ => ?_)
        · skip
          by_cases hgd : ¬ (v4 = (v3.Accepted.length : Int))
          · skip
            have eg10 := nth_mapI (D.int .i64) v3.Accepted v4 (k1 hgd)
            refine .reg Try.tmOk Try.tmMixed [2, 3, 6, 9] (by decide +kernel) ?_
            refine .RN 6 (dr := false) (.inr fun _ _ _ h => ⟨nofun, h.2⟩) (by intro q hq; simp only [go_sem, Nat.reduceSub, Int.reduceEq, Nat.reduceLT, Nat.reduceDiv, Nat.reduceAdd, Nat.reduceBEq, Nat.reduceLeDiff, reduceCtorEq, Nat.reduceEqDiff, Nat.reduceMod, appendD, Try.tm_3, Try.tm_22, Try.tm_26, eg10, TAttempt.d]; exact hq) (by first | rfl | (simp only [go_sem, Nat.reduceLeDiff]; done) | (simp only [go_sem, Nat.reduceLeDiff]; rfl) | (simp; done) | (simp [oneD] <;> omega) | (simp_all; done) | (simp_all [oneD] <;> omega)) (by first | exact Nat.le_refl _ | exact Nat.le_of_ble_eq_true rfl | (dsimp only; omega) | (simp <;> omega)) ?_
            refine .RN 8 (dr := false) (.inr fun _ _ _ h => ⟨nofun, h.2⟩) (by intro q hq; simp only [go_sem, Nat.reduceSub, Int.reduceEq, Nat.reduceLT, Nat.reduceDiv, Nat.reduceAdd, Nat.reduceBEq, Nat.reduceLeDiff, reduceCtorEq, Nat.reduceEqDiff, Nat.reduceMod, appendD, Try.tm_3, Try.tm_22, Try.tm_26, eg10, TAttempt.d]; exact hq) (by first | rfl | (simp only [go_sem, Nat.reduceLeDiff]; done) | (simp only [go_sem, Nat.reduceLeDiff]; rfl) | (simp; done) | (simp [oneD] <;> omega) | (simp_all; done) | (simp_all [oneD] <;> omega)) (by first | exact Nat.le_refl _ | exact Nat.le_of_ble_eq_true rfl | (dsimp only; omega) | (simp <;> omega)) ?_
            refine .nil ⟨nofun, ?_⟩
            refine ⟨(), ?_, trivial⟩
            refine Goes.mv [2, 3, 6, 9, 52] [0, 1, 14, 15, 16] [] ?_ (Nat.le_of_ble_eq_true rfl) (Nat.le_of_ble_eq_true rfl) rfl
            first | rfl | (simp only [go_sem, Nat.reduceBEq, Nat.reduceAdd]; done) | (simp only [go_sem, Nat.reduceBEq, Nat.reduceAdd]; rfl)
          · skip
            have hgf1 : (!(v4 == (v3.Accepted.length : Int))) = false := by first | simpa using hgd | (simp at hgd ⊢; omega) | grind
            have hgf1t : (v4 == (v3.Accepted.length : Int)) = true := by simpa using hgf1
            rcases nth_or (D.int .i64) v3.Accepted v4.toNat with eg10 | eg10
            · skip
              refine .reg Try.tmOk Try.tmMixed [2, 3, 6, 9] (by decide +kernel) ?_
              refine .RN 6 (dr := false) (.inr fun _ _ _ h => ⟨nofun, h.2⟩) (by intro q hq; simp only [go_sem, Nat.reduceSub, Int.reduceEq, Nat.reduceLT, Nat.reduceDiv, Nat.reduceAdd, Nat.reduceBEq, Nat.reduceLeDiff, reduceCtorEq, Nat.reduceEqDiff, Nat.reduceMod, appendD, Try.tm_3, Try.tm_22, Try.tm_26, eg10, hgf1, hgf1t, TAttempt.d]; exact hq) (by first | rfl | (simp only [go_sem, Nat.reduceLeDiff]; done) | (simp only [go_sem, Nat.reduceLeDiff]; rfl) | (simp; done) | (simp [oneD] <;> omega) | (simp_all; done) | (simp_all [oneD] <;> omega)) (by first | exact Nat.le_refl _ | exact Nat.le_of_ble_eq_true rfl | (dsimp only; omega) | (simp <;> omega)) ?_
              refine .RN 8 (dr := false) (.inr fun _ _ _ h => ⟨nofun, h.2⟩) (by intro q hq; simp only [go_sem, Nat.reduceSub, Int.reduceEq, Nat.reduceLT, Nat.reduceDiv, Nat.reduceAdd, Nat.reduceBEq, Nat.reduceLeDiff, reduceCtorEq, Nat.reduceEqDiff, Nat.reduceMod, appendD, Try.tm_3, Try.tm_22, Try.tm_26, eg10, hgf1, hgf1t, TAttempt.d]; exact hq) (by first | rfl | (simp only [go_sem, Nat.reduceLeDiff]; done) | (simp only [go_sem, Nat.reduceLeDiff]; rfl) | (simp; done) | (simp [oneD] <;> omega) | (simp_all; done) | (simp_all [oneD] <;> omega)) (by first | exact Nat.le_refl _ | exact Nat.le_of_ble_eq_true rfl | (dsimp only; omega) | (simp <;> omega)) ?_
              refine .nil ⟨nofun, ?_⟩
              refine ⟨(), ?_, trivial⟩
              refine Goes.mv [2, 3, 6, 9, 52] [0, 1, 14, 15, 16] [] ?_ (Nat.le_of_ble_eq_true rfl) (Nat.le_of_ble_eq_true rfl) rfl
              first | rfl | (simp only [hgf1, hgf1t, go_sem, Nat.reduceBEq, Nat.reduceAdd, Bool.false_and, Bool.true_or, Bool.and_false]; done) | (simp only [hgf1, hgf1t, go_sem, Nat.reduceBEq, Nat.reduceAdd, Bool.false_and, Bool.true_or, Bool.and_false]; rfl)
            · skip
              refine .reg Try.tmOk Try.tmMixed [2, 3, 6, 9] (by decide +kernel) ?_
              refine .RN 6 (dr := false) (.inr fun _ _ _ h => ⟨nofun, h.2⟩) (by intro q hq; simp only [go_sem, Nat.reduceSub, Int.reduceEq, Nat.reduceLT, Nat.reduceDiv, Nat.reduceAdd, Nat.reduceBEq, Nat.reduceLeDiff, reduceCtorEq, Nat.reduceEqDiff, Nat.reduceMod, appendD, Try.tm_3, Try.tm_22, Try.tm_26, eg10, hgf1, hgf1t, TAttempt.d]; exact hq) (by first | rfl | (simp only [go_sem, Nat.reduceLeDiff]; done) | (simp only [go_sem, Nat.reduceLeDiff]; rfl) | (simp; done) | (simp [oneD] <;> omega) | (simp_all; done) | (simp_all [oneD] <;> omega)) (by first | exact Nat.le_refl _ | exact Nat.le_of_ble_eq_true rfl | (dsimp only; omega) | (simp <;> omega)) ?_
              refine .RN 8 (dr := false) (.inr fun _ _ _ h => ⟨nofun, h.2⟩) (by intro q hq; simp only [go_sem, Nat.reduceSub, Int.reduceEq, Nat.reduceLT, Nat.reduceDiv, Nat.reduceAdd, Nat.reduceBEq, Nat.reduceLeDiff, reduceCtorEq, Nat.reduceEqDiff, Nat.reduceMod, appendD, Try.tm_3, Try.tm_22, Try.tm_26, eg10, hgf1, hgf1t, TAttempt.d]; exact hq) (by first | rfl | (simp only [go_sem, Nat.reduceLeDiff]; done) | (simp only [go_sem, Nat.reduceLeDiff]; rfl) | (simp; done) | (simp [oneD] <;> omega) | (simp_all; done) | (simp_all [oneD] <;> omega)) (by first | exact Nat.le_refl _ | exact Nat.le_of_ble_eq_true rfl | (dsimp only; omega) | (simp <;> omega)) ?_
              refine .nil ⟨nofun, ?_⟩
              refine ⟨(), ?_, trivial⟩
              refine Goes.mv [2, 3, 6, 9, 52] [0, 1, 14, 15, 16] [] ?_ (Nat.le_of_ble_eq_true rfl) (Nat.le_of_ble_eq_true rfl) rfl
              first | rfl | (simp only [hgf1, hgf1t, go_sem, Nat.reduceBEq, Nat.reduceAdd, Bool.false_and, Bool.true_or, Bool.and_false]; done) | (simp only [hgf1, hgf1t, go_sem, Nat.reduceBEq, Nat.reduceAdd, Bool.false_and, Bool.true_or, Bool.and_false]; rfl)
        refine .cond rfl rfl (fun hc3 => ?_) (fun hc3 => ?_)
        · skip
          replace hx1 := ite_l hx1 (by first | simpa using hc3 | (simp at hc3 ⊢; omega) | (simp at hc3 ⊢; grind) | grind)
          obtain ⟨k2, hx1⟩ := ite_ck hx1
          obtain ⟨k3, hx1⟩ := ite_ck hx1
          refine .reg Try.tmOk Try.tmMixed [2, 3, 6, 9] (by decide +kernel) ?_
          refine .RN 5 (dr := false) (.inr fun _ _ _ h => ⟨nofun, h.2⟩) (by intro q hq; simp only [go_sem, Nat.reduceSub, Int.reduceEq, Nat.reduceLT, Nat.reduceDiv, Nat.reduceAdd, Nat.reduceBEq, Nat.reduceLeDiff, reduceCtorEq, Nat.reduceEqDiff, Nat.reduceMod, appendD, Try.tm_22, Try.tm_26, TAttempt.d]; exact hq) (by first | rfl | (simp only [go_sem, Nat.reduceLeDiff]; done) | (simp only [go_sem, Nat.reduceLeDiff]; rfl) | (simp; done) | (simp [oneD] <;> omega) | (simp_all; done) | (simp_all [oneD] <;> omega)) (by first | exact Nat.le_refl _ | exact Nat.le_of_ble_eq_true rfl | (dsimp only; omega) | (simp <;> omega)) ?_
          refine .hcall (r := .ref 29 1 0 (((v3.Accepted.take v4.toNat) ++ (node :: (v3.Accepted.drop v4.toNat))).length) (some unkC)) rfl rfl rfl rfl rfl (insT101 16 28 29 (by decide) (by decide) (by decide) v3.Accepted node v4 k2 k3) (fun id b h => getL_pick [16, 28] _ id b h) (by simp) (.inr ⟨Nat.le_refl _, Nat.le_of_ble_eq_true rfl⟩) ?_
          refine .RN 2 (dr := false) (.inr fun _ _ _ h => ⟨nofun, h.2⟩) (by intro q hq; simp only [go_sem, Nat.reduceSub, Int.reduceEq, Nat.reduceLT, Nat.reduceDiv, Nat.reduceAdd, Nat.reduceBEq, Nat.reduceLeDiff, reduceCtorEq, Nat.reduceEqDiff, Nat.reduceMod, appendD, Try.tm_22, Try.tm_26, TAttempt.d]; exact hq) (by first | rfl | (simp only [go_sem, Nat.reduceLeDiff]; done) | (simp only [go_sem, Nat.reduceLeDiff]; rfl) | (simp; done) | (simp [oneD] <;> omega) | (simp_all; done) | (simp_all [oneD] <;> omega)) (by first | exact Nat.le_refl _ | exact Nat.le_of_ble_eq_true rfl | (dsimp only; omega) | (simp <;> omega)) ?_
          refine .nil ⟨nofun, ?_⟩
          refine ⟨_, ?_, (Option.some.inj hx1).symm⟩
          refine Goes.mv [3, 6] [0, 1, 14, 15, 29] [(14, 28), (15, 29), (29, 30)] ?_ (Nat.le_of_ble_eq_true rfl) (Nat.le_of_ble_eq_true rfl) rfl
          first | rfl | (simp only [go_sem, Nat.reduceBEq, Nat.reduceAdd]; done) | (simp only [go_sem, Nat.reduceBEq, Nat.reduceAdd]; rfl)
        · skip
          replace hx1 := ite_r hx1 (by first | simpa using hc3 | (simp at hc3 ⊢; omega) | (simp at hc3 ⊢; grind) | grind)
          refine .skip ?_
          refine ⟨_, ?_, (Option.some.inj hx1).symm⟩
          refine Goes.mv [3, 6] [0, 1, 14, 15, 16] [(14, 28), (15, 29), (16, 30)] ?_ (Nat.le_of_ble_eq_true rfl) (Nat.le_of_ble_eq_true rfl) rfl
          first | rfl | (simp only [go_sem, Nat.reduceBEq, Nat.reduceAdd]; done) | (simp only [go_sem, Nat.reduceBEq, Nat.reduceAdd]; rfl)
      · skip
        rintro l1 hj1
        subst x1
        try dsimp only at h
        simp only [Try.St_attempt_Accepted_1]
        obtain ⟨x2, hx2, h⟩ := bind_some h
        refine .seqM 31 (fun (j : Int) => Try.St_attempt_Accepted_3 v3 l1 j) (fun j => x2 = j) (Nat.le_of_ble_eq_true rfl) ?_ ?_
        · skip
          refine .seq ?_
          obtain ⟨v5, hv5, hx2⟩ := bind_some hx2
          refine .reg Try.tmOk Try.tmMixed [3, 6] (by decide +kernel) ?_
          refine .RN 4 (dr := false) (.inr fun _ _ _ h => ⟨nofun, h.2⟩) (by intro q hq; simp only [go_sem, Nat.reduceSub, Int.reduceEq, Nat.reduceLT, Nat.reduceDiv, Nat.reduceAdd, Nat.reduceBEq, Nat.reduceLeDiff, reduceCtorEq, Nat.reduceEqDiff, Nat.reduceMod, appendD, Try.tm_22, Try.tm_26, TAttempt.d]; exact hq) (by first | rfl | (simp only [go_sem, Nat.reduceLeDiff]; done) | (simp only [go_sem, Nat.reduceLeDiff]; rfl) | (simp; done) | (simp [oneD] <;> omega) | (simp_all; done) | (simp_all [oneD] <;> omega)) (by first | exact Nat.le_refl _ | exact Nat.le_of_ble_eq_true rfl | (dsimp only; omega) | (simp <;> omega)) ?_
          refine .lcall (r := .bool v5) [] rfl rfl rfl rfl rfl (lend2s_cons (lend2_of (lend_ref (pl_int .i64) (by first | rfl | (simp only [go_sem, Nat.reduceBEq]; rfl)) (by first | rfl | (simp; done) | (simp <;> omega))) trivial) (lend2s_cons (lend2_of (lend_ref (pl_int .i64) (by first | rfl | (simp only [go_sem, Nat.reduceBEq]; rfl)) (by first | rfl | (simp; done) | (simp <;> omega))) trivial) lend2s_nil)) rfl (callP_attempt_most v3.Members l1 v5 hv5) ?_
          refine .nil ⟨nofun, ?_⟩
          refine .cond rfl rfl (fun hc4 => ?_) (fun hc4 => ?_)
          · skip
            replace hx2 := ite_l hx2 (by first | simpa using hc4 | (simp at hc4 ⊢; omega) | (simp at hc4 ⊢; grind) | grind)
            refine .plain Try.tmOk Try.tmMixed [3, 6] (by decide +kernel) (by intro q hq; simp only [go_sem, Nat.reduceSub, Int.reduceEq, Nat.reduceLT, Nat.reduceDiv, Nat.reduceAdd, Nat.reduceBEq, Nat.reduceLeDiff, reduceCtorEq, Nat.reduceEqDiff, Nat.reduceMod, appendD, Try.tm_5, Try.tm_26, TAttempt.d]; exact hq) (by first | rfl | (simp only [go_sem, Nat.reduceLeDiff]; done) | (simp only [go_sem, Nat.reduceLeDiff]; rfl) | (simp; done) | (simp [oneD] <;> omega) | (simp_all; done) | (simp_all [oneD] <;> omega)) (by first | exact Nat.le_refl _ | exact Nat.le_of_ble_eq_true rfl | (dsimp only; omega) | (simp <;> omega)) ?_
            refine ⟨_, ?_, (Option.some.inj hx2).symm⟩
            refine Goes.mv [3, 6] [0, 1, 28, 29, 30] [(28, 31), (29, 32), (30, 33)] ?_ (Nat.le_of_ble_eq_true rfl) (Nat.le_of_ble_eq_true rfl) rfl
            first | rfl | (simp only [go_sem, Nat.reduceBEq, Nat.reduceAdd]; done) | (simp only [go_sem, Nat.reduceBEq, Nat.reduceAdd]; rfl)
          · skip
            replace hx2 := ite_r hx2 (by first | simpa using hc4 | (simp at hc4 ⊢; omega) | (simp at hc4 ⊢; grind) | grind)
            refine .skip ?_
            refine ⟨_, ?_, (Option.some.inj hx2).symm⟩
            refine Goes.mv [3, 6] [0, 1, 28, 29, 30] [(28, 31), (29, 32), (30, 33)] ?_ (Nat.le_of_ble_eq_true rfl) (Nat.le_of_ble_eq_true rfl) rfl
            first | rfl | (simp only [go_sem, Nat.reduceBEq, Nat.reduceAdd]; done) | (simp only [go_sem, Nat.reduceBEq, Nat.reduceAdd]; rfl)
        · skip
          rintro n1 hj2
          subst x2
          try dsimp only at h
          simp only [Try.St_attempt_Accepted_3]
          refine .seq ?_
          refine .plain Try.tmOk Try.tmMixed [3, 6] (by decide +kernel) (by intro q hq; simp only [go_sem, Nat.reduceSub, Int.reduceEq, Nat.reduceLT, Nat.reduceDiv, Nat.reduceAdd, Nat.reduceBEq, Nat.reduceLeDiff, reduceCtorEq, Nat.reduceEqDiff, Nat.reduceMod, appendD, Try.tm_26, TAttempt.d]; exact hq) (by first | rfl | (simp only [go_sem, Nat.reduceLeDiff]; done) | (simp only [go_sem, Nat.reduceLeDiff]; rfl) | (simp; done) | (simp [oneD] <;> omega) | (simp_all; done) | (simp_all [oneD] <;> omega)) (by first | exact Nat.le_refl _ | exact Nat.le_of_ble_eq_true rfl | (dsimp only; omega) | (simp <;> omega)) ?_
          have hq := Option.some.inj h
          subst r
          refine .ret ⟨⟨[(6, .ptr 3 0), (7, .int .i64 (((⟨n1, v3.Ballot, v3.Members, v3.Wish, v3.Value, v3.Promises, l1⟩ : TAttempt), 0).2))], [(0, .arr 3 1 true ((((⟨n1, v3.Ballot, v3.Members, v3.Wish, v3.Value, v3.Promises, l1⟩ : TAttempt), 0).1.Members).map (D.int .i64))), (1, .arr 31 3 true ((((⟨n1, v3.Ballot, v3.Members, v3.Wish, v3.Value, v3.Promises, l1⟩ : TAttempt), 0).1.Promises).map TPromise.d)), (2, .arr 3 1 true ((((⟨n1, v3.Ballot, v3.Members, v3.Wish, v3.Value, v3.Promises, l1⟩ : TAttempt), 0).1.Accepted).map (D.int .i64))), (3, .box [.int .u8 (((⟨n1, v3.Ballot, v3.Members, v3.Wish, v3.Value, v3.Promises, l1⟩ : TAttempt), 0).1.Phase), .int .i64 (((⟨n1, v3.Ballot, v3.Members, v3.Wish, v3.Value, v3.Promises, l1⟩ : TAttempt), 0).1.Ballot), .ref 0 1 0 ((((⟨n1, v3.Ballot, v3.Members, v3.Wish, v3.Value, v3.Promises, l1⟩ : TAttempt), 0).1.Members).length) (some unkC), .str (((⟨n1, v3.Ballot, v3.Members, v3.Wish, v3.Value, v3.Promises, l1⟩ : TAttempt), 0).1.Wish), .str (((⟨n1, v3.Ballot, v3.Members, v3.Wish, v3.Value, v3.Promises, l1⟩ : TAttempt), 0).1.Value), .ref 1 3 0 ((((⟨n1, v3.Ballot, v3.Members, v3.Wish, v3.Value, v3.Promises, l1⟩ : TAttempt), 0).1.Promises).length) (some unkC), .ref 2 1 0 ((((⟨n1, v3.Ballot, v3.Members, v3.Wish, v3.Value, v3.Promises, l1⟩ : TAttempt), 0).1.Accepted).length) (some unkC)])], 4⟩, ?_, .inr rfl, retH [2, 1, 0] ?_ ?_⟩
          · skip
            refine Goes.mv [6, 7] [31, 32, 33, 1] [(31, 0), (32, 1), (33, 2), (1, 3)] ?_ (Nat.le_of_ble_eq_true rfl) (Nat.le_of_ble_eq_true rfl) rfl
            first | rfl | (simp only [go_sem, Nat.reduceBEq, Nat.reduceAdd]; done) | (simp only [go_sem, Nat.reduceBEq, Nat.reduceAdd]; rfl)
          · simp only [ResIs, resL, resD, resT, go_sem, Nat.reduceSub, Int.reduceEq, Nat.reduceLT, Nat.reduceDiv, Nat.reduceAdd, Nat.reduceBEq, Nat.reduceLeDiff, reduceCtorEq, Nat.reduceEqDiff, Nat.reduceMod, Try.f24, Try.tm_26, Try.tm_27]
          · rfl

end Go.Proofs
end
section
/- Models of functions, printed by gw.py. -/







namespace Go.Proofs
open Go.Tm
set_option linter.unusedVariables false

def m_towncrierlaw08_begun : Option (TAttempt × Int) :=
  Option.bind (m_attempt_Begin [0, 1, 2] 17 [119]) fun v1 =>
  some (v1.1, v1.2)

def m_towncrierlaw08_told : Option (TAttempt × Bool) :=
  Option.bind (m_towncrierlaw08_begun ) fun v1 =>
  Option.bind (m_attempt_Promised v1.1 17 (⟨0, 0, []⟩ : TPromise)) fun v2 =>
  Option.bind (m_attempt_Promised v2.1 17 (⟨2, 8, [120]⟩ : TPromise)) fun v3 =>
  some (v3.1, (((v1.2 == 0) && (v2.2 == 0)) && (v3.2 == 0)))

def m_towncrierlaw08_alive : Option Bool :=
  Option.bind (m_towncrierlaw08_told ) fun v1 =>
  some ((v1.2 && (v1.1.Phase == 2)) && (v1.1.Value == [120]))
end Go.Proofs
end
section
/- The walks of functions, printed by gw.py. -/









namespace Go.Proofs
open Go.Tm Go.RowKit Go.WideShapes
set_option maxRecDepth 100000
set_option maxHeartbeats 4000000
set_option linter.unusedSimpArgs false
set_option linter.unusedVariables false
attribute [local go_sem] argVars runE runK isCallV stepE aop opd opdsL opds opdO ev ofVal keep List.any Nat.beq Bool.false_or Bool.true_or aggEq cond_true cond_false Bool.cond_false_right Bool.cond_true_left beq_true beq_false imp_self implies_true getR getL put St.app effL del nwB blt_dec Nat.lt_irrefl Nat.lt_add_one ble_dec Nat.le_refl Nat.beq_refl roomNZ appendIn capS capK mkZ_zero mkZL_zero zeroEl D.ids D.idsL Option.getD bin arith sarith binT dpick Tm.part splice fillD oneD loadD storeD srcD sliceD idxOk decide_true gval dstAt D.cells List.map_cons List.map_nil List.take List.drop List.length_map List.append Int.toNat_natCast and_true true_and decide_false List.length_cons List.length_nil List.append_nil List.nil_append Bool.and_true Bool.true_and Bool.not_false Bool.not_true ne_eq not_false_eq_true BEq.rfl List.getElem?_cons_zero List.getElem?_cons_succ List.getElem?_nil Nat.zero_add List.all_cons List.all_nil List.isEmpty_cons List.isEmpty_nil List.any_cons List.any_nil List.drop_succ_cons List.drop_zero unfL unf okM okML low3 List.cons_append true_or or_true Nat.zero_mul Nat.zero_le fpOf opIds mvV mvH mvF pickL D.ren D.renL Blk.ren List.map_append List.length_append Bool.not_not Bool.or_not_self Bool.not_or_self Bool.or_true

theorem callH_towncrierlaw08_begun (r : TAttempt × Int) (h : m_towncrierlaw08_begun  = some r) : CallH Try.prog 172 [] [] (.tuple [.agg [.int .u8 r.1.Phase, .int .i64 r.1.Ballot, .ref 0 1 0 r.1.Members.length (some unkC), .str r.1.Wish, .str r.1.Value, .ref 1 3 0 r.1.Promises.length (some unkC), .ref 2 1 0 r.1.Accepted.length (some unkC)], .int .i64 r.2]) [(0, some (.arr 3 1 true (r.1.Members.map (D.int .i64)))), (1, some (.arr 31 3 true (r.1.Promises.map TPromise.d))), (2, some (.arr 3 1 true (r.1.Accepted.map (D.int .i64))))] (0, 22) := by
  refine callH_intro' Try.tmOk Try.func172 rfl (by decide) (Nat.le_of_ble_eq_true rfl) (by simp) ?_
  intro hwf
  unfold m_towncrierlaw08_begun at h
  refine .ends 0 (Nat.le_refl _) ?_
  refine .seq ?_
  refine .plain Try.tmOk Try.tmMixed [] (by decide +kernel) (by intro q hq; simp only [go_sem, Nat.reduceSub, Int.reduceEq, Nat.reduceLT, Nat.reduceDiv, Nat.reduceAdd, Nat.reduceBEq, Nat.reduceLeDiff, reduceCtorEq, Nat.reduceEqDiff, Nat.reduceMod, appendD, Try.tm_26, TAttempt.d]; exact hq) (by first | rfl | (simp only [go_sem, Nat.reduceLeDiff]; done) | (simp only [go_sem, Nat.reduceLeDiff]; rfl) | (simp; done) | (simp [oneD] <;> omega) | (simp_all; done) | (simp_all [oneD] <;> omega)) (by first | exact Nat.le_refl _ | exact Nat.le_of_ble_eq_true rfl | (dsimp only; omega) | (simp <;> omega)) ?_
  refine .seq ?_
  obtain ⟨v1, hv1, h⟩ := bind_some h
  refine .reg Try.tmOk Try.tmMixed [0] (by decide +kernel) ?_
  refine .RN 1 (dr := false) (.inr fun _ _ _ h => ⟨nofun, h.2⟩) (by intro q hq; simp only [go_sem, Nat.reduceSub, Int.reduceEq, Nat.reduceLT, Nat.reduceDiv, Nat.reduceAdd, Nat.reduceBEq, Nat.reduceLeDiff, reduceCtorEq, Nat.reduceEqDiff, Nat.reduceMod, appendD, Try.tm_22, TAttempt.d]; exact hq) (by first | rfl | (simp only [go_sem, Nat.reduceLeDiff]; done) | (simp only [go_sem, Nat.reduceLeDiff]; rfl) | (simp; done) | (simp [oneD] <;> omega) | (simp_all; done) | (simp_all [oneD] <;> omega)) (by first | exact Nat.le_refl _ | exact Nat.le_of_ble_eq_true rfl | (dsimp only; omega) | (simp <;> omega)) ?_
  refine .ncall (r := .tuple [.agg [.int .u8 v1.1.Phase, .int .i64 v1.1.Ballot, .ref 10 1 0 v1.1.Members.length (some unkC), .str v1.1.Wish, .str v1.1.Value, .ref 11 3 0 v1.1.Promises.length (some unkC), .ref 12 1 0 v1.1.Accepted.length (some unkC)], .int .i64 v1.2]) (eff := [(10, some (.arr 3 1 true (v1.1.Members.map (D.int .i64)))), (11, some (.arr 31 3 true (v1.1.Promises.map TPromise.d))), (12, some (.arr 3 1 true (v1.1.Accepted.map (D.int .i64))))]) (nw := (10, 20)) [] rfl rfl rfl rfl rfl (lend2s_cons (lend2_of (lend_ref (pl_int .i64) (by first | rfl | (simp only [go_sem, Nat.reduceBEq]; rfl)) (by first | rfl | (simp; done) | (simp <;> omega))) trivial) (lend2s_cons rfl (lend2s_cons rfl lend2s_nil))) rfl (callH_at 10 (Nat.le_of_ble_eq_true rfl) (callH_attempt_Begin [0, 1, 2] 17 [119] v1 hv1)) (newE_cons rfl rfl (newB_arr pl0_i64 _ _ _) (newE_cons rfl rfl (newB_arr pl0_TPromise _ _ _) (newE_cons rfl rfl (newB_arr pl0_i64 _ _ _) newE_nil))) (by intro i hi; simp [D.ids, D.idsL] at hi; omega) rfl ⟨Nat.le_of_ble_eq_true rfl, Nat.le_of_ble_eq_true rfl⟩ ?_
  refine .RN 4 (dr := false) (.inr fun _ _ _ h => ⟨nofun, h.2⟩) (by intro q hq; simp only [go_sem, Nat.reduceSub, Int.reduceEq, Nat.reduceLT, Nat.reduceDiv, Nat.reduceAdd, Nat.reduceBEq, Nat.reduceLeDiff, reduceCtorEq, Nat.reduceEqDiff, Nat.reduceMod, appendD, Try.tm_26, TAttempt.d]; exact hq) (by first | rfl | (simp only [go_sem, Nat.reduceLeDiff]; done) | (simp only [go_sem, Nat.reduceLeDiff]; rfl) | (simp; done) | (simp [oneD] <;> omega) | (simp_all; done) | (simp_all [oneD] <;> omega)) (by first | exact Nat.le_refl _ | exact Nat.le_of_ble_eq_true rfl | (dsimp only; omega) | (simp <;> omega)) ?_
  refine .nil ⟨nofun, ?_⟩
  have hq := Option.some.inj h
  subst r
  refine .ret ⟨⟨[(0, .ptr 3 0), (1, .int .i64 ((v1.1, v1.2).2))], [(0, .arr 3 1 true (((v1.1, v1.2).1.Members).map (D.int .i64))), (1, .arr 31 3 true (((v1.1, v1.2).1.Promises).map TPromise.d)), (2, .arr 3 1 true (((v1.1, v1.2).1.Accepted).map (D.int .i64))), (3, .box [.int .u8 ((v1.1, v1.2).1.Phase), .int .i64 ((v1.1, v1.2).1.Ballot), .ref 0 1 0 (((v1.1, v1.2).1.Members).length) (some unkC), .str ((v1.1, v1.2).1.Wish), .str ((v1.1, v1.2).1.Value), .ref 1 3 0 (((v1.1, v1.2).1.Promises).length) (some unkC), .ref 2 1 0 (((v1.1, v1.2).1.Accepted).length) (some unkC)])], 4⟩, ?_, .inr rfl, retH [2, 1, 0] ?_ ?_⟩
  · skip
    refine Goes.mv [0, 1] [10, 11, 12, 0] [(10, 0), (11, 1), (12, 2), (0, 3)] ?_ (Nat.le_of_ble_eq_true rfl) (Nat.le_of_ble_eq_true rfl) rfl
    first | rfl | (simp only [go_sem, Nat.reduceBEq, Nat.reduceAdd]; done) | (simp only [go_sem, Nat.reduceBEq, Nat.reduceAdd]; rfl)
  · simp only [ResIs, resL, resD, resT, go_sem, Nat.reduceSub, Int.reduceEq, Nat.reduceLT, Nat.reduceDiv, Nat.reduceAdd, Nat.reduceBEq, Nat.reduceLeDiff, reduceCtorEq, Nat.reduceEqDiff, Nat.reduceMod, Try.f172, Try.tm_26, Try.tm_27]
  · rfl

theorem callH_towncrierlaw08_told (r : TAttempt × Bool) (h : m_towncrierlaw08_told  = some r) : CallH Try.prog 77 [] [] (.tuple [.agg [.int .u8 r.1.Phase, .int .i64 r.1.Ballot, .ref 0 1 0 r.1.Members.length (some unkC), .str r.1.Wish, .str r.1.Value, .ref 1 3 0 r.1.Promises.length (some unkC), .ref 2 1 0 r.1.Accepted.length (some unkC)], .bool r.2]) [(0, some (.arr 3 1 true (r.1.Members.map (D.int .i64)))), (1, some (.arr 31 3 true (r.1.Promises.map TPromise.d))), (2, some (.arr 3 1 true (r.1.Accepted.map (D.int .i64))))] (0, 123) := by
  refine callH_intro' Try.tmOk Try.func77 rfl (by decide) (Nat.le_of_ble_eq_true rfl) (by simp) ?_
  intro hwf
  unfold m_towncrierlaw08_told at h
  refine .ends 0 (Nat.le_refl _) ?_
  refine .seq ?_
  refine .plain Try.tmOk Try.tmMixed [] (by decide +kernel) (by intro q hq; simp only [go_sem, Nat.reduceSub, Int.reduceEq, Nat.reduceLT, Nat.reduceDiv, Nat.reduceAdd, Nat.reduceBEq, Nat.reduceLeDiff, reduceCtorEq, Nat.reduceEqDiff, Nat.reduceMod, appendD, Try.tm_26, TAttempt.d]; exact hq) (by first | rfl | (simp only [go_sem, Nat.reduceLeDiff]; done) | (simp only [go_sem, Nat.reduceLeDiff]; rfl) | (simp; done) | (simp [oneD] <;> omega) | (simp_all; done) | (simp_all [oneD] <;> omega)) (by first | exact Nat.le_refl _ | exact Nat.le_of_ble_eq_true rfl | (dsimp only; omega) | (simp <;> omega)) ?_
  refine .seq ?_
  obtain ⟨v1, hv1, h⟩ := bind_some h
  refine .reg Try.tmOk Try.tmMixed [0] (by decide +kernel) ?_
  refine .ncall (r := .tuple [.agg [.int .u8 v1.1.Phase, .int .i64 v1.1.Ballot, .ref 22 1 0 v1.1.Members.length (some unkC), .str v1.1.Wish, .str v1.1.Value, .ref 23 3 0 v1.1.Promises.length (some unkC), .ref 24 1 0 v1.1.Accepted.length (some unkC)], .int .i64 v1.2]) (eff := [(22, some (.arr 3 1 true (v1.1.Members.map (D.int .i64)))), (23, some (.arr 31 3 true (v1.1.Promises.map TPromise.d))), (24, some (.arr 3 1 true (v1.1.Accepted.map (D.int .i64))))]) (nw := (22, 44)) [] rfl rfl rfl rfl rfl lend2s_nil rfl (callH_at 22 (Nat.le_of_ble_eq_true rfl) (callH_towncrierlaw08_begun  v1 hv1)) (newE_cons rfl rfl (newB_arr pl0_i64 _ _ _) (newE_cons rfl rfl (newB_arr pl0_TPromise _ _ _) (newE_cons rfl rfl (newB_arr pl0_i64 _ _ _) newE_nil))) (by intro i hi; simp [D.ids, D.idsL] at hi; omega) rfl ⟨Nat.le_of_ble_eq_true rfl, Nat.le_of_ble_eq_true rfl⟩ ?_
  refine .RN 6 (dr := false) (.inr fun _ _ _ h => ⟨nofun, h.2⟩) (by intro q hq; simp only [go_sem, Nat.reduceSub, Int.reduceEq, Nat.reduceLT, Nat.reduceDiv, Nat.reduceAdd, Nat.reduceBEq, Nat.reduceLeDiff, reduceCtorEq, Nat.reduceEqDiff, Nat.reduceMod, appendD, Try.tm_26, TAttempt.d]; exact hq) (by first | rfl | (simp only [go_sem, Nat.reduceLeDiff]; done) | (simp only [go_sem, Nat.reduceLeDiff]; rfl) | (simp; done) | (simp [oneD] <;> omega) | (simp_all; done) | (simp_all [oneD] <;> omega)) (by first | exact Nat.le_refl _ | exact Nat.le_of_ble_eq_true rfl | (dsimp only; omega) | (simp <;> omega)) ?_
  refine .nil ⟨nofun, ?_⟩
  refine .seq ?_
  obtain ⟨v2, hv2, h⟩ := bind_some h
  refine .reg Try.tmOk Try.tmMixed [0, 2, 3] (by decide +kernel) ?_
  refine .RN 2 (dr := false) (.inr fun _ _ _ h => ⟨nofun, h.2⟩) (by intro q hq; simp only [go_sem, Nat.reduceSub, Int.reduceEq, Nat.reduceLT, Nat.reduceDiv, Nat.reduceAdd, Nat.reduceBEq, Nat.reduceLeDiff, reduceCtorEq, Nat.reduceEqDiff, Nat.reduceMod, appendD, Try.tm_26, Try.tm_31, TAttempt.d, TPromise.d]; exact hq) (by first | rfl | (simp only [go_sem, Nat.reduceLeDiff]; done) | (simp only [go_sem, Nat.reduceLeDiff]; rfl) | (simp; done) | (simp [oneD] <;> omega) | (simp_all; done) | (simp_all [oneD] <;> omega)) (by first | exact Nat.le_refl _ | exact Nat.le_of_ble_eq_true rfl | (dsimp only; omega) | (simp <;> omega)) ?_
  refine .ncall (r := .tuple [.agg [.int .u8 v2.1.Phase, .int .i64 v2.1.Ballot, .ref 45 1 0 v2.1.Members.length (some unkC), .str v2.1.Wish, .str v2.1.Value, .ref 46 3 0 v2.1.Promises.length (some unkC), .ref 47 1 0 v2.1.Accepted.length (some unkC)], .int .i64 v2.2]) (eff := [(45, some (.arr 3 1 true (v2.1.Members.map (D.int .i64)))), (46, some (.arr 31 3 true (v2.1.Promises.map TPromise.d))), (47, some (.arr 3 1 true (v2.1.Accepted.map (D.int .i64))))]) (nw := (45, 83)) [] rfl rfl rfl rfl rfl (lend2s_cons (lend2_of (lend_agg (lends_cons rfl (lends_cons rfl (lends_cons (lend_ref (pl_int .i64) (by first | rfl | (simp only [go_sem, Nat.reduceBEq]; rfl)) (by first | rfl | (simp; done) | (simp <;> omega))) (lends_cons rfl (lends_cons rfl (lends_cons (lend_ref pl_TPromise (by first | rfl | (simp only [go_sem, Nat.reduceBEq]; rfl)) (by first | rfl | (simp; done) | (simp <;> omega))) (lends_cons (lend_ref (pl_int .i64) (by first | rfl | (simp only [go_sem, Nat.reduceBEq]; rfl)) (by first | rfl | (simp; done) | (simp <;> omega))) lends_nil)))))))) trivial) (lend2s_cons rfl (lend2s_cons rfl lend2s_nil))) rfl (callH_at 45 (Nat.le_of_ble_eq_true rfl) (callH_attempt_Promised v1.1 17 (⟨0, 0, []⟩ : TPromise) v2 hv2)) (newE_cons rfl rfl (newB_arr pl0_i64 _ _ _) (newE_cons rfl rfl (newB_arr pl0_TPromise _ _ _) (newE_cons rfl rfl (newB_arr pl0_i64 _ _ _) newE_nil))) (by intro i hi; simp [D.ids, D.idsL] at hi; omega) rfl ⟨Nat.le_of_ble_eq_true rfl, Nat.le_of_ble_eq_true rfl⟩ ?_
  refine .RN 5 (dr := false) (.inr fun _ _ _ h => ⟨nofun, h.2⟩) (by intro q hq; simp only [go_sem, Nat.reduceSub, Int.reduceEq, Nat.reduceLT, Nat.reduceDiv, Nat.reduceAdd, Nat.reduceBEq, Nat.reduceLeDiff, reduceCtorEq, Nat.reduceEqDiff, Nat.reduceMod, appendD, Try.tm_26, TAttempt.d, TPromise.d]; exact hq) (by first | rfl | (simp only [go_sem, Nat.reduceLeDiff]; done) | (simp only [go_sem, Nat.reduceLeDiff]; rfl) | (simp; done) | (simp [oneD] <;> omega) | (simp_all; done) | (simp_all [oneD] <;> omega)) (by first | exact Nat.le_refl _ | exact Nat.le_of_ble_eq_true rfl | (dsimp only; omega) | (simp <;> omega)) ?_
  refine .nil ⟨nofun, ?_⟩
  refine .seq ?_
  obtain ⟨v3, hv3, h⟩ := bind_some h
  refine .reg Try.tmOk Try.tmMixed [0, 2, 3, 4] (by decide +kernel) ?_
  refine .RN 2 (dr := false) (.inr fun _ _ _ h => ⟨nofun, h.2⟩) (by intro q hq; simp only [go_sem, Nat.reduceSub, Int.reduceEq, Nat.reduceLT, Nat.reduceDiv, Nat.reduceAdd, Nat.reduceBEq, Nat.reduceLeDiff, reduceCtorEq, Nat.reduceEqDiff, Nat.reduceMod, appendD, Try.tm_26, Try.tm_31, TAttempt.d, TPromise.d]; exact hq) (by first | rfl | (simp only [go_sem, Nat.reduceLeDiff]; done) | (simp only [go_sem, Nat.reduceLeDiff]; rfl) | (simp; done) | (simp [oneD] <;> omega) | (simp_all; done) | (simp_all [oneD] <;> omega)) (by first | exact Nat.le_refl _ | exact Nat.le_of_ble_eq_true rfl | (dsimp only; omega) | (simp <;> omega)) ?_
  refine .ncall (r := .tuple [.agg [.int .u8 v3.1.Phase, .int .i64 v3.1.Ballot, .ref 83 1 0 v3.1.Members.length (some unkC), .str v3.1.Wish, .str v3.1.Value, .ref 84 3 0 v3.1.Promises.length (some unkC), .ref 85 1 0 v3.1.Accepted.length (some unkC)], .int .i64 v3.2]) (eff := [(83, some (.arr 3 1 true (v3.1.Members.map (D.int .i64)))), (84, some (.arr 31 3 true (v3.1.Promises.map TPromise.d))), (85, some (.arr 3 1 true (v3.1.Accepted.map (D.int .i64))))]) (nw := (83, 121)) [] rfl rfl rfl rfl rfl (lend2s_cons (lend2_of (lend_agg (lends_cons rfl (lends_cons rfl (lends_cons (lend_ref (pl_int .i64) (by first | rfl | (simp only [go_sem, Nat.reduceBEq]; rfl)) (by first | rfl | (simp; done) | (simp <;> omega))) (lends_cons rfl (lends_cons rfl (lends_cons (lend_ref pl_TPromise (by first | rfl | (simp only [go_sem, Nat.reduceBEq]; rfl)) (by first | rfl | (simp; done) | (simp <;> omega))) (lends_cons (lend_ref (pl_int .i64) (by first | rfl | (simp only [go_sem, Nat.reduceBEq]; rfl)) (by first | rfl | (simp; done) | (simp <;> omega))) lends_nil)))))))) trivial) (lend2s_cons rfl (lend2s_cons rfl lend2s_nil))) rfl (callH_at 83 (Nat.le_of_ble_eq_true rfl) (callH_attempt_Promised v2.1 17 (⟨2, 8, [120]⟩ : TPromise) v3 hv3)) (newE_cons rfl rfl (newB_arr pl0_i64 _ _ _) (newE_cons rfl rfl (newB_arr pl0_TPromise _ _ _) (newE_cons rfl rfl (newB_arr pl0_i64 _ _ _) newE_nil))) (by intro i hi; simp [D.ids, D.idsL] at hi; omega) rfl ⟨Nat.le_of_ble_eq_true rfl, Nat.le_of_ble_eq_true rfl⟩ ?_
  refine .RN 5 (dr := false) (.inr fun _ _ _ h => ⟨nofun, h.2⟩) (by intro q hq; simp only [go_sem, Nat.reduceSub, Int.reduceEq, Nat.reduceLT, Nat.reduceDiv, Nat.reduceAdd, Nat.reduceBEq, Nat.reduceLeDiff, reduceCtorEq, Nat.reduceEqDiff, Nat.reduceMod, appendD, Try.tm_26, TAttempt.d, TPromise.d]; exact hq) (by first | rfl | (simp only [go_sem, Nat.reduceLeDiff]; done) | (simp only [go_sem, Nat.reduceLeDiff]; rfl) | (simp; done) | (simp [oneD] <;> omega) | (simp_all; done) | (simp_all [oneD] <;> omega)) (by first | exact Nat.le_refl _ | exact Nat.le_of_ble_eq_true rfl | (dsimp only; omega) | (simp <;> omega)) ?_
  refine .nil ⟨nofun, ?_⟩
  refine .seq ?_
  refine .reg Try.tmOk Try.tmMixed [0, 2, 3, 4, 5] (by decide +kernel) ?_
  refine .RN 6 (dr := false) (.inr fun _ _ _ h => ⟨nofun, h.2⟩) (by intro q hq; simp only [go_sem, Nat.reduceSub, Int.reduceEq, Nat.reduceLT, Nat.reduceDiv, Nat.reduceAdd, Nat.reduceBEq, Nat.reduceLeDiff, reduceCtorEq, Nat.reduceEqDiff, Nat.reduceMod, appendD, Try.tm_26, Try.tm_27, TAttempt.d]; exact hq) (by first | rfl | (simp only [go_sem, Nat.reduceLeDiff]; done) | (simp only [go_sem, Nat.reduceLeDiff]; rfl) | (simp; done) | (simp [oneD] <;> omega) | (simp_all; done) | (simp_all [oneD] <;> omega)) (by first | exact Nat.le_refl _ | exact Nat.le_of_ble_eq_true rfl | (dsimp only; omega) | (simp <;> omega)) ?_
  refine .RN 7 (dr := false) (.inr fun _ _ _ h => ⟨nofun, h.2⟩) (by intro q hq; simp only [go_sem, Nat.reduceSub, Int.reduceEq, Nat.reduceLT, Nat.reduceDiv, Nat.reduceAdd, Nat.reduceBEq, Nat.reduceLeDiff, reduceCtorEq, Nat.reduceEqDiff, Nat.reduceMod, appendD, Try.tm_26, Try.tm_27, TAttempt.d]; exact hq) (by first | rfl | (simp only [go_sem, Nat.reduceLeDiff]; done) | (simp only [go_sem, Nat.reduceLeDiff]; rfl) | (simp; done) | (simp [oneD] <;> omega) | (simp_all; done) | (simp_all [oneD] <;> omega)) (by first | exact Nat.le_refl _ | exact Nat.le_of_ble_eq_true rfl | (dsimp only; omega) | (simp <;> omega)) ?_
  refine .nil ⟨nofun, ?_⟩
  have hq := Option.some.inj h
  subst r
  refine .ret ⟨⟨[(0, .ptr 3 0), (1, .bool ((v3.1, (((v1.2 == 0) && (v2.2 == 0)) && (v3.2 == 0))).2))], [(0, .arr 3 1 true (((v3.1, (((v1.2 == 0) && (v2.2 == 0)) && (v3.2 == 0))).1.Members).map (D.int .i64))), (1, .arr 31 3 true (((v3.1, (((v1.2 == 0) && (v2.2 == 0)) && (v3.2 == 0))).1.Promises).map TPromise.d)), (2, .arr 3 1 true (((v3.1, (((v1.2 == 0) && (v2.2 == 0)) && (v3.2 == 0))).1.Accepted).map (D.int .i64))), (3, .box [.int .u8 ((v3.1, (((v1.2 == 0) && (v2.2 == 0)) && (v3.2 == 0))).1.Phase), .int .i64 ((v3.1, (((v1.2 == 0) && (v2.2 == 0)) && (v3.2 == 0))).1.Ballot), .ref 0 1 0 (((v3.1, (((v1.2 == 0) && (v2.2 == 0)) && (v3.2 == 0))).1.Members).length) (some unkC), .str ((v3.1, (((v1.2 == 0) && (v2.2 == 0)) && (v3.2 == 0))).1.Wish), .str ((v3.1, (((v1.2 == 0) && (v2.2 == 0)) && (v3.2 == 0))).1.Value), .ref 1 3 0 (((v3.1, (((v1.2 == 0) && (v2.2 == 0)) && (v3.2 == 0))).1.Promises).length) (some unkC), .ref 2 1 0 (((v3.1, (((v1.2 == 0) && (v2.2 == 0)) && (v3.2 == 0))).1.Accepted).length) (some unkC)])], 4⟩, ?_, .inr rfl, retH [2, 1, 0] ?_ ?_⟩
  · skip
    refine Goes.mv [0, 1] [83, 84, 85, 0] [(83, 0), (84, 1), (85, 2), (0, 3)] ?_ (Nat.le_of_ble_eq_true rfl) (Nat.le_of_ble_eq_true rfl) rfl
    first | rfl | (simp only [go_sem, Nat.reduceBEq, Nat.reduceAdd]; done) | (simp only [go_sem, Nat.reduceBEq, Nat.reduceAdd]; rfl)
  · simp only [ResIs, resL, resD, resT, go_sem, Nat.reduceSub, Int.reduceEq, Nat.reduceLT, Nat.reduceDiv, Nat.reduceAdd, Nat.reduceBEq, Nat.reduceLeDiff, reduceCtorEq, Nat.reduceEqDiff, Nat.reduceMod, Try.f77, Try.tm_4, Try.tm_26]
  · rfl

theorem callP_towncrierlaw08_alive (r : Bool) (h : m_towncrierlaw08_alive  = some r) : CallP Try.prog 15 [] (.bool r) := by
  refine callP_intro Try.tmOk 249 Try.func15 rfl (by decide) rfl rfl (Nat.le_of_ble_eq_true rfl) ?_
  intro hwf
  unfold m_towncrierlaw08_alive at h
  refine .seq ?_
  refine .plain Try.tmOk Try.tmMixed [] (by decide +kernel) (by intro q hq; simp only [go_sem, Nat.reduceSub, Int.reduceEq, Nat.reduceLT, Nat.reduceDiv, Nat.reduceAdd, Nat.reduceBEq, Nat.reduceLeDiff, reduceCtorEq, Nat.reduceEqDiff, Nat.reduceMod, appendD]; exact hq) (by first | rfl | (simp only [go_sem, Nat.reduceLeDiff]; done) | (simp only [go_sem, Nat.reduceLeDiff]; rfl) | (simp; done) | (simp [oneD] <;> omega) | (simp_all; done) | (simp_all [oneD] <;> omega)) (by first | exact Nat.le_refl _ | exact Nat.le_of_ble_eq_true rfl | (dsimp only; omega) | (simp <;> omega)) ?_
  refine .seq ?_
  obtain ⟨v1, hv1, h⟩ := bind_some h
  refine .reg Try.tmOk Try.tmMixed [] (by decide +kernel) ?_
  refine .ncall (r := .tuple [.agg [.int .u8 v1.1.Phase, .int .i64 v1.1.Ballot, .ref 123 1 0 v1.1.Members.length (some unkC), .str v1.1.Wish, .str v1.1.Value, .ref 124 3 0 v1.1.Promises.length (some unkC), .ref 125 1 0 v1.1.Accepted.length (some unkC)], .bool v1.2]) (eff := [(123, some (.arr 3 1 true (v1.1.Members.map (D.int .i64)))), (124, some (.arr 31 3 true (v1.1.Promises.map TPromise.d))), (125, some (.arr 3 1 true (v1.1.Accepted.map (D.int .i64))))]) (nw := (123, 246)) [] rfl rfl rfl rfl rfl lend2s_nil rfl (callH_at 123 (Nat.le_of_ble_eq_true rfl) (callH_towncrierlaw08_told  v1 hv1)) (newE_cons rfl rfl (newB_arr pl0_i64 _ _ _) (newE_cons rfl rfl (newB_arr pl0_TPromise _ _ _) (newE_cons rfl rfl (newB_arr pl0_i64 _ _ _) newE_nil))) (by intro i hi; simp [D.ids, D.idsL] at hi; omega) rfl ⟨Nat.le_of_ble_eq_true rfl, Nat.le_of_ble_eq_true rfl⟩ ?_
  refine .RN 6 (dr := false) (.inr fun _ _ _ h => ⟨nofun, h.2⟩) (by intro q hq; simp only [go_sem, Nat.reduceSub, Int.reduceEq, Nat.reduceLT, Nat.reduceDiv, Nat.reduceAdd, Nat.reduceBEq, Nat.reduceLeDiff, reduceCtorEq, Nat.reduceEqDiff, Nat.reduceMod, appendD, Try.tm_26, TAttempt.d]; exact hq) (by first | rfl | (simp only [go_sem, Nat.reduceLeDiff]; done) | (simp only [go_sem, Nat.reduceLeDiff]; rfl) | (simp; done) | (simp [oneD] <;> omega) | (simp_all; done) | (simp_all [oneD] <;> omega)) (by first | exact Nat.le_refl _ | exact Nat.le_of_ble_eq_true rfl | (dsimp only; omega) | (simp <;> omega)) ?_
  refine .nil ⟨nofun, ?_⟩
  refine .seq ?_
  refine .reg Try.tmOk Try.tmMixed [1, 2] (by decide +kernel) ?_
  refine .RN 6 (dr := false) (.inr fun _ _ _ h => ⟨nofun, h.2⟩) (by intro q hq; simp only [go_sem, Nat.reduceSub, Int.reduceEq, Nat.reduceLT, Nat.reduceDiv, Nat.reduceAdd, Nat.reduceBEq, Nat.reduceLeDiff, reduceCtorEq, Nat.reduceEqDiff, Nat.reduceMod, appendD, Try.tm_5, Try.tm_26, TAttempt.d]; exact hq) (by first | rfl | (simp only [go_sem, Nat.reduceLeDiff]; done) | (simp only [go_sem, Nat.reduceLeDiff]; rfl) | (simp; done) | (simp [oneD] <;> omega) | (simp_all; done) | (simp_all [oneD] <;> omega)) (by first | exact Nat.le_refl _ | exact Nat.le_of_ble_eq_true rfl | (dsimp only; omega) | (simp <;> omega)) ?_
  refine .RN 6 (dr := false) (.inr fun _ _ _ h => ⟨nofun, h.2⟩) (by intro q hq; simp only [go_sem, Nat.reduceSub, Int.reduceEq, Nat.reduceLT, Nat.reduceDiv, Nat.reduceAdd, Nat.reduceBEq, Nat.reduceLeDiff, reduceCtorEq, Nat.reduceEqDiff, Nat.reduceMod, appendD, Try.tm_9, Try.tm_26, TAttempt.d]; exact hq) (by first | rfl | (simp only [go_sem, Nat.reduceLeDiff]; done) | (simp only [go_sem, Nat.reduceLeDiff]; rfl) | (simp; done) | (simp [oneD] <;> omega) | (simp_all; done) | (simp_all [oneD] <;> omega)) (by first | exact Nat.le_refl _ | exact Nat.le_of_ble_eq_true rfl | (dsimp only; omega) | (simp <;> omega)) ?_
  refine .nil ⟨nofun, ?_⟩
  have hq := Option.some.inj h
  subst r
  refine .ret ⟨.inr rfl, ResIs.to ?_⟩
  simp only [ResIs, resL, resD, resT, go_sem, Nat.reduceSub, Int.reduceEq, Nat.reduceLT, Nat.reduceDiv, Nat.reduceAdd, Nat.reduceBEq, Nat.reduceLeDiff, reduceCtorEq, Nat.reduceEqDiff, Nat.reduceMod, Try.f15, Try.tm_4]
end Go.Proofs
end
section
/- Models of functions, printed by gw.py. -/








namespace Go.Proofs
open Go.Tm

def m_towncrierlaw08_AttemptOrder (a0 : TAttempt) (a1 : Int) (a2 : TPromise) (a3 : TPromise) (a4 : Int) (a5 : Int) : Option Bool :=
  Option.bind (m_towncrierlaw08_alive ) fun v1 =>
  if ¬ (v1 = true) then
  some false
  else
  Option.bind (m_towncrierref08_Great a0) fun v2 =>
  if ((v2 = true) ∨ ((a2.Value.length : Int) > 5000)) ∨ ((a3.Value.length : Int) > 5000) then
  some v1
  else
  Option.bind (m_attempt_Promised a0 a1 a2) fun v3 =>
  Option.bind (m_attempt_Promised a0 a1 a3) fun v4 =>
  Option.bind (α := Bool ⊕ Unit) (if ((((v3.2 = 0) ∧ (v4.2 = 0)) ∧ (v3.1.Phase = 1)) ∧ (v4.1.Phase = 1)) ∧ (¬ (a2.Node = a3.Node)) then
  Option.bind (m_attempt_Promised v3.1 a1 a3) fun v5 =>
  Option.bind (m_attempt_Promised v4.1 a1 a2) fun v6 =>
  Option.bind (if ¬ ((¬ (v5.2 = 0)) ∨ (¬ (v6.2 = 0))) then m_towncrierref08_Same v5.1 v6.1 else some default) fun v7 =>
  if ((¬ (v5.2 = 0)) ∨ (¬ (v6.2 = 0))) ∨ (¬ (v7 = true)) then
  some (.inl false)
  else
  some (.inr ())
  else
  some (.inr ())) fun z => match z with
  | (.inl r) => some r
  | (.inr _) =>
  Option.bind (m_attempt_Accepted a0 a1 a4) fun v8 =>
  Option.bind (m_attempt_Accepted a0 a1 a5) fun v9 =>
  if (¬ (v8.2 = 0)) ∨ (¬ (v9.2 = 0)) then
  some v1
  else
  Option.bind (m_attempt_Accepted v8.1 a1 a5) fun v10 =>
  Option.bind (m_attempt_Accepted v9.1 a1 a4) fun v11 =>
  Option.bind (if ((v1 = true) ∧ (v10.2 = 0)) ∧ (v11.2 = 0) then m_towncrierref08_Same v10.1 v11.1 else some default) fun v12 =>
  some (((v1 && (v10.2 == 0)) && (v11.2 == 0)) && v12)
end Go.Proofs
end
