/- Models of functions, printed by gw.py. -/
import Derived.Test.YtejgahegnnbmkaaAttemptTellsPf
import Derived.Test.YtejgahegnnbmkaaAttemptTellsPg
import Derived.Test.YtejgahegnnbmkaaAttemptTellsPh
import Derived.Test.YtejgahegnnbmkaaAttemptTellsPi
import Derived.Test.YtejgahegnnbmkaaAttemptTellsPj
import Derived.Test.YtejgahegnnbmkaaAttemptTellsPe
section
namespace Go.Proofs
open Go.Tm

def m_towncrierlaw08_AttemptTells_loop1 (ballot : Int) (v1 : Bool) : List TPromise → Int → Int → (List Int) → (List UInt8) → (List UInt8) → (List TPromise) → (List Int) → Option (Bool ⊕ (Int × Int × (List Int) × (List UInt8) × (List UInt8) × (List TPromise) × (List Int)))
  | [], n3, n4, l4, s3, s4, l5, l6 =>
    some (.inr (n3, n4, l4, s3, s4, l5, l6))
  | y1 :: rest1, n3, n4, l4, s3, s4, l5, l6 =>
    Option.bind (α := Bool ⊕ (Int × Int × (List Int) × (List UInt8) × (List UInt8) × (List TPromise) × (List Int))) (if ((y1.Value).length : Int) > 5000 then
    some (.inl v1)
    else
    Option.bind (m_attempt_Promised (⟨n3, n4, l4, s3, s4, l5, l6⟩ : TAttempt) ballot (y1)) fun v3 =>
    if v3.2 = 0 then
    some (.inr (v3.1.Phase, v3.1.Ballot, v3.1.Members, v3.1.Wish, v3.1.Value, v3.1.Promises, v3.1.Accepted))
    else
    some (.inr (n3, n4, l4, s3, s4, l5, l6))) fun z => match z with
    | (.inl r) => some (.inl r)
    | (.inr (n6, n7, l7, s5, s6, l8, l9)) =>
    m_towncrierlaw08_AttemptTells_loop1 ballot v1 rest1 n6 n7 l7 s5 s6 l8 l9
def m_towncrierlaw08_AttemptTells_loop2 (l2 : List TPromise) : Nat → Int → Int → Option (Int)
  | 0, _, _ => none
  | fu1 + 1, n9, n10 =>
    if n10 < (l2.length : Int) then
    if (0 ≤ n10 ∧ n10 < (l2.length : Int)) then
    m_towncrierlaw08_AttemptTells_loop2 l2 fu1 (max n9 ((l2.getD n10.toNat default).Ballot)) (wr .i64 (n10 + 1))
    else none
    else
    some n9
def m_towncrierlaw08_AttemptTells_loop3 (s2 : List UInt8) (l2 : List TPromise) (n8 : Int) : Nat → Bool → Int → Option (Bool)
  | 0, _, _ => none
  | fu2 + 1, b2, n11 =>
    if (n11 < (l2.length : Int)) ∧ (n8 > 0) then
    if (¬ ((n11 > 0) ∧ (b2 = true))) → (0 ≤ n11 ∧ n11 < (l2.length : Int)) then
    if ((¬ ((n11 > 0) ∧ (b2 = true))) ∧ ((l2.getD n11.toNat default).Ballot = n8)) → (0 ≤ n11 ∧ n11 < (l2.length : Int)) then
    m_towncrierlaw08_AttemptTells_loop3 s2 l2 n8 fu2 (((decide (n11 > 0)) && b2) || (((l2.getD n11.toNat default).Ballot == n8) && ((l2.getD n11.toNat default).Value == s2))) (wr .i64 (n11 + 1))
    else none
    else none
    else
    some b2
def m_towncrierlaw08_AttemptTells (members : List Int) (ballot : Int) (wish : List UInt8) (l : List TPromise) : Option Bool :=
  Option.bind (m_towncrierlaw08_alive ) fun v1 =>
  if ¬ (v1 = true) then
  some false
  else
  Option.bind (m_attempt_Begin members ballot wish) fun v2 =>
  if (¬ (v2.2 = 0)) ∨ ((l.length : Int) > 50) then
  some v1
  else
  Option.bind (α := Bool ⊕ (Int × Int × (List Int) × (List UInt8) × (List UInt8) × (List TPromise) × (List Int))) (m_towncrierlaw08_AttemptTells_loop1 ballot v1 l v2.1.Phase v2.1.Ballot v2.1.Members v2.1.Wish v2.1.Value v2.1.Promises v2.1.Accepted) fun z => match z with
  | (.inl r) => some r
  | (.inr (n1, n2, l1, s1, s2, l2, l3)) =>
  Option.bind (m_towncrierlaw08_nodes l2) fun v4 =>
  Option.bind (m_quorum_Most members v4) fun v5 =>
  Option.bind (if ¬ ((¬ (v5.2 = 0)) ∨ ((!(v5.1 == (n1 == 2))) = true)) then m_attempt_Check (⟨n1, n2, l1, s1, s2, l2, l3⟩ : TAttempt) else some default) fun v6 =>
  if ((((¬ (v5.2 = 0)) ∨ ((!(v5.1 == (n1 == 2))) = true)) ∨ (¬ (v6 = 0))) ∨ (¬ (n2 = ballot))) ∨ (¬ (s1 = wish)) then
  some false
  else
  if ¬ (v5.1 = true) then
  some ((v1 && (n1 == 1)) && (s2 == []))
  else
  Option.bind (α := Int) (m_towncrierlaw08_AttemptTells_loop2 l2 (l2.length + 1) 0 0) fun n8 =>
  Option.bind (α := Bool) (m_towncrierlaw08_AttemptTells_loop3 s2 l2 n8 (l2.length + 1) (s2 == wish) 0) fun b1 =>
  some (v1 && b1)
end Go.Proofs
end
section
/- The walks of functions, printed by gw.py. -/










namespace Go.Proofs
open Go.Tm Go.RowKit Go.WideShapes
set_option maxRecDepth 100000
set_option maxHeartbeats 4000000
set_option linter.unusedSimpArgs false
set_option linter.unusedVariables false
attribute [local go_sem] argVars runE runK isCallV stepE aop opd opdsL opds opdO ev ofVal keep List.any Nat.beq Bool.false_or Bool.true_or aggEq cond_true cond_false Bool.cond_false_right Bool.cond_true_left beq_true beq_false imp_self implies_true getR getL put St.app effL del nwB blt_dec Nat.lt_irrefl Nat.lt_add_one ble_dec Nat.le_refl Nat.beq_refl roomNZ appendIn capS capK mkZ_zero mkZL_zero zeroEl D.ids D.idsL Option.getD bin arith sarith binT dpick Tm.part splice fillD oneD loadD storeD srcD sliceD idxOk decide_true gval dstAt D.cells List.map_cons List.map_nil List.take List.drop List.length_map List.append Int.toNat_natCast and_true true_and decide_false List.length_cons List.length_nil List.append_nil List.nil_append Bool.and_true Bool.true_and Bool.not_false Bool.not_true ne_eq not_false_eq_true BEq.rfl List.getElem?_cons_zero List.getElem?_cons_succ List.getElem?_nil Nat.zero_add List.all_cons List.all_nil List.isEmpty_cons List.isEmpty_nil List.any_cons List.any_nil List.drop_succ_cons List.drop_zero unfL unf okM okML low3 List.cons_append true_or or_true Nat.zero_mul Nat.zero_le fpOf opIds mvV mvH mvF pickL D.ren D.renL Blk.ren List.map_append List.length_append Bool.not_not Bool.or_not_self Bool.not_or_self Bool.or_true

def Try.St_towncrierlaw08_AttemptTells_1 (members : List Int) (ballot : Int) (wish : List UInt8) (v1 : Bool) (n1 : Int) (n2 : Int) (l1 : List Int) (s1 : List UInt8) (s2 : List UInt8) (l2 : List TPromise) (l3 : List Int) : St := ⟨[(0, .imm 1 (members.map (D.int .i64)) 4), (1, .int .i64 ballot), (2, .str wish), (9, .bool v1), (10, .ptr 20 0)], [(20, .box [.int .u8 n1, .int .i64 n2, .ref 21 1 0 l1.length (some unkC), .str s1, .str s2, .ref 22 3 0 l2.length (some unkC), .ref 23 1 0 l3.length (some unkC)]), (21, .arr 3 1 true (l1.map (D.int .i64))), (22, .arr 31 3 true (l2.map TPromise.d)), (23, .arr 3 1 true (l3.map (D.int .i64)))], 24⟩
attribute [local go_sem] Try.St_towncrierlaw08_AttemptTells_1
def Try.St_towncrierlaw08_AttemptTells_3 (members : List Int) (ballot : Int) (wish : List UInt8) (l : List TPromise) (v1 : Bool) (n5 : Nat) (n3 : Int) (n4 : Int) (l4 : List Int) (s3 : List UInt8) (s4 : List UInt8) (l5 : List TPromise) (l6 : List Int) : St := ⟨[(0, .imm 1 (members.map (D.int .i64)) 4), (1, .int .i64 ballot), (2, .str wish), (3, .imm 3 (l.map TPromise.d) 4), (9, .bool v1), (10, .ptr 20 0), (12, .int .i64 (n5 : Int))], [(20, .box [.int .u8 n3, .int .i64 n4, .ref 21 1 0 l4.length (some unkC), .str s3, .str s4, .ref 22 3 0 l5.length (some unkC), .ref 23 1 0 l6.length (some unkC)]), (21, .arr 3 1 true (l4.map (D.int .i64))), (22, .arr 31 3 true (l5.map TPromise.d)), (23, .arr 3 1 true (l6.map (D.int .i64)))], 24⟩
attribute [local go_sem] Try.St_towncrierlaw08_AttemptTells_3
def Try.St_towncrierlaw08_AttemptTells_5 (members : List Int) (ballot : Int) (wish : List UInt8) (l : List TPromise) (v1 : Bool) (n5 : Nat) (n6 : Int) (n7 : Int) (l7 : List Int) (s5 : List UInt8) (s6 : List UInt8) (l8 : List TPromise) (l9 : List Int) : St := ⟨[(0, .imm 1 (members.map (D.int .i64)) 4), (1, .int .i64 ballot), (2, .str wish), (3, .imm 3 (l.map TPromise.d) 4), (9, .bool v1), (10, .ptr 20 0), (12, .int .i64 (n5 : Int))], [(20, .box [.int .u8 n6, .int .i64 n7, .ref 24 1 0 l7.length (some unkC), .str s5, .str s6, .ref 25 3 0 l8.length (some unkC), .ref 26 1 0 l9.length (some unkC)]), (24, .arr 3 1 true (l7.map (D.int .i64))), (25, .arr 31 3 true (l8.map TPromise.d)), (26, .arr 3 1 true (l9.map (D.int .i64)))], 27⟩
attribute [local go_sem] Try.St_towncrierlaw08_AttemptTells_5
def Try.St_towncrierlaw08_AttemptTells_7 (wish : List UInt8) (v1 : Bool) (n1 : Int) (n2 : Int) (l1 : List Int) (s1 : List UInt8) (s2 : List UInt8) (l2 : List TPromise) (l3 : List Int) (n8 : Int) : St := ⟨[(9, .bool v1), (10, .ptr 20 0), (17, .int .i64 n8), (18, .bool (s2 == wish))], [(20, .box [.int .u8 n1, .int .i64 n2, .ref 29 1 0 l1.length (some unkC), .str s1, .str s2, .ref 30 3 0 l2.length (some unkC), .ref 31 1 0 l3.length (some unkC)]), (29, .arr 3 1 true (l1.map (D.int .i64))), (30, .arr 31 3 true (l2.map TPromise.d)), (31, .arr 3 1 true (l3.map (D.int .i64)))], 32⟩
attribute [local go_sem] Try.St_towncrierlaw08_AttemptTells_7
def Try.St_towncrierlaw08_AttemptTells_9 (wish : List UInt8) (v1 : Bool) (n1 : Int) (n2 : Int) (l1 : List Int) (s1 : List UInt8) (s2 : List UInt8) (l2 : List TPromise) (l3 : List Int) (n9 : Int) (n10 : Int) : St := ⟨[(9, .bool v1), (10, .ptr 20 0), (17, .int .i64 n9), (18, .bool (s2 == wish)), (19, .int .i64 n10)], [(20, .box [.int .u8 n1, .int .i64 n2, .ref 29 1 0 l1.length (some unkC), .str s1, .str s2, .ref 30 3 0 l2.length (some unkC), .ref 31 1 0 l3.length (some unkC)]), (29, .arr 3 1 true (l1.map (D.int .i64))), (30, .arr 31 3 true (l2.map TPromise.d)), (31, .arr 3 1 true (l3.map (D.int .i64)))], 32⟩
attribute [local go_sem] Try.St_towncrierlaw08_AttemptTells_9
def Try.St_towncrierlaw08_AttemptTells_11 (v1 : Bool) (b1 : Bool) : St := ⟨[(9, .bool v1), (18, .bool b1)], [], 32⟩
attribute [local go_sem] Try.St_towncrierlaw08_AttemptTells_11
def Try.St_towncrierlaw08_AttemptTells_13 (v1 : Bool) (n1 : Int) (n2 : Int) (l1 : List Int) (s1 : List UInt8) (s2 : List UInt8) (l2 : List TPromise) (l3 : List Int) (n8 : Int) (b2 : Bool) (n11 : Int) : St := ⟨[(9, .bool v1), (10, .ptr 20 0), (17, .int .i64 n8), (18, .bool b2), (20, .int .i64 n11)], [(20, .box [.int .u8 n1, .int .i64 n2, .ref 32 1 0 l1.length (some unkC), .str s1, .str s2, .ref 33 3 0 l2.length (some unkC), .ref 34 1 0 l3.length (some unkC)]), (32, .arr 3 1 true (l1.map (D.int .i64))), (33, .arr 31 3 true (l2.map TPromise.d)), (34, .arr 3 1 true (l3.map (D.int .i64)))], 35⟩
attribute [local go_sem] Try.St_towncrierlaw08_AttemptTells_13
theorem callP_towncrierlaw08_AttemptTells (members : List Int) (ballot : Int) (wish : List UInt8) (l : List TPromise) (r : Bool) (h : m_towncrierlaw08_AttemptTells members ballot wish l = some r) : CallP Try.prog 3 [.imm 1 (members.map (D.int .i64)) 4, .int .i64 ballot, .str wish, .imm 3 (l.map TPromise.d) 4] (.bool r) := by
  refine callP_intro Try.tmOk 79 Try.func3 rfl (by decide) rfl rfl (Nat.le_of_ble_eq_true rfl) ?_
  intro hwf
  unfold m_towncrierlaw08_AttemptTells at h
  refine .seq ?_
  refine .plain Try.tmOk Try.tmMixed [0, 1, 2, 3] (by decide +kernel) (by intro q hq; simp only [go_sem, Nat.reduceSub, Int.reduceEq, Nat.reduceLT, Nat.reduceDiv, Nat.reduceAdd, Nat.reduceBEq, Nat.reduceLeDiff, reduceCtorEq, Nat.reduceEqDiff, Nat.reduceMod, appendD]; exact hq) (by first | rfl | (simp only [go_sem, Nat.reduceLeDiff]; done) | (simp only [go_sem, Nat.reduceLeDiff]; rfl) | (simp; done) | (simp [oneD] <;> omega) | (simp_all; done) | (simp_all [oneD] <;> omega)) (by first | exact Nat.le_refl _ | exact Nat.le_of_ble_eq_true rfl | (dsimp only; omega) | (simp <;> omega)) ?_
  refine .seq ?_
  obtain ⟨v1, hv1, h⟩ := bind_some h
  refine .reg Try.tmOk Try.tmMixed [0, 1, 2, 3] (by decide +kernel) ?_
  refine .call (r := .bool v1) rfl rfl rfl rfl rfl rfl (callP_towncrierlaw08_alive  v1 hv1) ?_
  refine .RN 1 (dr := false) (.inr fun _ _ _ h => ⟨nofun, h.2⟩) (by intro q hq; simp only [go_sem, Nat.reduceSub, Int.reduceEq, Nat.reduceLT, Nat.reduceDiv, Nat.reduceAdd, Nat.reduceBEq, Nat.reduceLeDiff, reduceCtorEq, Nat.reduceEqDiff, Nat.reduceMod, appendD]; exact hq) (by first | rfl | (simp only [go_sem, Nat.reduceLeDiff]; done) | (simp only [go_sem, Nat.reduceLeDiff]; rfl) | (simp; done) | (simp [oneD] <;> omega) | (simp_all; done) | (simp_all [oneD] <;> omega)) (by first | exact Nat.le_refl _ | exact Nat.le_of_ble_eq_true rfl | (dsimp only; omega) | (simp <;> omega)) ?_
  refine .nil ⟨nofun, ?_⟩
  refine .seq ?_
  refine .seq ?_
  refine .plain Try.tmOk Try.tmMixed [0, 1, 2, 3, 9] (by decide +kernel) (by intro q hq; simp only [go_sem, Nat.reduceSub, Int.reduceEq, Nat.reduceLT, Nat.reduceDiv, Nat.reduceAdd, Nat.reduceBEq, Nat.reduceLeDiff, reduceCtorEq, Nat.reduceEqDiff, Nat.reduceMod, appendD]; exact hq) (by first | rfl | (simp only [go_sem, Nat.reduceLeDiff]; done) | (simp only [go_sem, Nat.reduceLeDiff]; rfl) | (simp; done) | (simp [oneD] <;> omega) | (simp_all; done) | (simp_all [oneD] <;> omega)) (by first | exact Nat.le_refl _ | exact Nat.le_of_ble_eq_true rfl | (dsimp only; omega) | (simp <;> omega)) ?_
  refine .cond rfl rfl (fun hc1 => ?_) (fun hc1 => ?_)
  · skip
    replace h := ite_l h (by first | simpa using hc1 | (simp at hc1 ⊢; omega) | (simp at hc1 ⊢; grind) | grind)
    refine .seq ?_
    refine .plain Try.tmOk Try.tmMixed [] (by decide +kernel) (by intro q hq; simp only [go_sem, Nat.reduceSub, Int.reduceEq, Nat.reduceLT, Nat.reduceDiv, Nat.reduceAdd, Nat.reduceBEq, Nat.reduceLeDiff, reduceCtorEq, Nat.reduceEqDiff, Nat.reduceMod, appendD]; exact hq) (by first | rfl | (simp only [go_sem, Nat.reduceLeDiff]; done) | (simp only [go_sem, Nat.reduceLeDiff]; rfl) | (simp; done) | (simp [oneD] <;> omega) | (simp_all; done) | (simp_all [oneD] <;> omega)) (by first | exact Nat.le_refl _ | exact Nat.le_of_ble_eq_true rfl | (dsimp only; omega) | (simp <;> omega)) ?_
    have hq := Option.some.inj h
    subst r
    refine .ret ⟨.inr rfl, ResIs.to ?_⟩
    simp only [ResIs, resL, resD, resT, go_sem, Nat.reduceSub, Int.reduceEq, Nat.reduceLT, Nat.reduceDiv, Nat.reduceAdd, Nat.reduceBEq, Nat.reduceLeDiff, reduceCtorEq, Nat.reduceEqDiff, Nat.reduceMod, Try.f3, Try.tm_4]
  · skip
    replace h := ite_r h (by first | simpa using hc1 | (simp at hc1 ⊢; omega) | (simp at hc1 ⊢; grind) | grind)
    refine .skip ?_
    refine .seq ?_
    obtain ⟨v2, hv2, h⟩ := bind_some h
    refine .reg Try.tmOk Try.tmMixed [0, 1, 2, 3, 9] (by decide +kernel) ?_
    refine .RN 3 (dr := false) (.inr fun _ _ _ h => ⟨nofun, h.2⟩) (by intro q hq; simp only [go_sem, Nat.reduceSub, Int.reduceEq, Nat.reduceLT, Nat.reduceDiv, Nat.reduceAdd, Nat.reduceBEq, Nat.reduceLeDiff, reduceCtorEq, Nat.reduceEqDiff, Nat.reduceMod, appendD, TAttempt.d]; exact hq) (by first | rfl | (simp only [go_sem, Nat.reduceLeDiff]; done) | (simp only [go_sem, Nat.reduceLeDiff]; rfl) | (simp; done) | (simp [oneD] <;> omega) | (simp_all; done) | (simp_all [oneD] <;> omega)) (by first | exact Nat.le_refl _ | exact Nat.le_of_ble_eq_true rfl | (dsimp only; omega) | (simp <;> omega)) ?_
    refine .ncall (r := .tuple [.agg [.int .u8 v2.1.Phase, .int .i64 v2.1.Ballot, .ref 10 1 0 v2.1.Members.length (some unkC), .str v2.1.Wish, .str v2.1.Value, .ref 11 3 0 v2.1.Promises.length (some unkC), .ref 12 1 0 v2.1.Accepted.length (some unkC)], .int .i64 v2.2]) (eff := [(10, some (.arr 3 1 true (v2.1.Members.map (D.int .i64)))), (11, some (.arr 31 3 true (v2.1.Promises.map TPromise.d))), (12, some (.arr 3 1 true (v2.1.Accepted.map (D.int .i64))))]) (nw := (10, 20)) [] rfl rfl rfl rfl rfl (lend2s_cons rfl (lend2s_cons rfl (lend2s_cons rfl lend2s_nil))) rfl (callH_at 10 (Nat.le_of_ble_eq_true rfl) (callH_attempt_Begin members ballot wish v2 hv2)) (newE_cons rfl rfl (newB_arr pl0_i64 _ _ _) (newE_cons rfl rfl (newB_arr pl0_TPromise _ _ _) (newE_cons rfl rfl (newB_arr pl0_i64 _ _ _) newE_nil))) (by intro i hi; simp [D.ids, D.idsL] at hi; omega) rfl ⟨Nat.le_of_ble_eq_true rfl, Nat.le_of_ble_eq_true rfl⟩ ?_
    refine .RN 6 (dr := false) (.inr fun _ _ _ h => ⟨nofun, h.2⟩) (by intro q hq; simp only [go_sem, Nat.reduceSub, Int.reduceEq, Nat.reduceLT, Nat.reduceDiv, Nat.reduceAdd, Nat.reduceBEq, Nat.reduceLeDiff, reduceCtorEq, Nat.reduceEqDiff, Nat.reduceMod, appendD, Try.tm_26, TAttempt.d]; exact hq) (by first | rfl | (simp only [go_sem, Nat.reduceLeDiff]; done) | (simp only [go_sem, Nat.reduceLeDiff]; rfl) | (simp; done) | (simp [oneD] <;> omega) | (simp_all; done) | (simp_all [oneD] <;> omega)) (by first | exact Nat.le_refl _ | exact Nat.le_of_ble_eq_true rfl | (dsimp only; omega) | (simp <;> omega)) ?_
    refine .nil ⟨nofun, ?_⟩
    refine .seq ?_
    refine .seq ?_
    refine .plain Try.tmOk Try.tmMixed [0, 1, 2, 3, 9, 10, 11] (by decide +kernel) (by intro q hq; simp only [go_sem, Nat.reduceSub, Int.reduceEq, Nat.reduceLT, Nat.reduceDiv, Nat.reduceAdd, Nat.reduceBEq, Nat.reduceLeDiff, reduceCtorEq, Nat.reduceEqDiff, Nat.reduceMod, appendD, Try.tm_3, Try.tm_23, Try.tm_27, TPromise.d]; exact hq) (by first | rfl | (simp only [go_sem, Nat.reduceLeDiff]; done) | (simp only [go_sem, Nat.reduceLeDiff]; rfl) | (simp; done) | (simp [oneD] <;> omega) | (simp_all; done) | (simp_all [oneD] <;> omega)) (by first | exact Nat.le_refl _ | exact Nat.le_of_ble_eq_true rfl | (dsimp only; omega) | (simp <;> omega)) ?_
    refine .cond rfl rfl (fun hc2 => ?_) (fun hc2 => ?_)
    · skip
      replace h := ite_l h (by first | simpa using hc2 | (simp at hc2 ⊢; omega) | (simp at hc2 ⊢; grind) | grind)
      refine .seq ?_
      refine .plain Try.tmOk Try.tmMixed [9] (by decide +kernel) (by intro q hq; simp only [go_sem, Nat.reduceSub, Int.reduceEq, Nat.reduceLT, Nat.reduceDiv, Nat.reduceAdd, Nat.reduceBEq, Nat.reduceLeDiff, reduceCtorEq, Nat.reduceEqDiff, Nat.reduceMod, appendD]; exact hq) (by first | rfl | (simp only [go_sem, Nat.reduceLeDiff]; done) | (simp only [go_sem, Nat.reduceLeDiff]; rfl) | (simp; done) | (simp [oneD] <;> omega) | (simp_all; done) | (simp_all [oneD] <;> omega)) (by first | exact Nat.le_refl _ | exact Nat.le_of_ble_eq_true rfl | (dsimp only; omega) | (simp <;> omega)) ?_
      have hq := Option.some.inj h
      subst r
      refine .ret ⟨.inr rfl, ResIs.to ?_⟩
      simp only [ResIs, resL, resD, resT, go_sem, Nat.reduceSub, Int.reduceEq, Nat.reduceLT, Nat.reduceDiv, Nat.reduceAdd, Nat.reduceBEq, Nat.reduceLeDiff, reduceCtorEq, Nat.reduceEqDiff, Nat.reduceMod, Try.f3, Try.tm_4]
    · skip
      replace h := ite_r h (by first | simpa using hc2 | (simp at hc2 ⊢; omega) | (simp at hc2 ⊢; grind) | grind)
      refine .skip ?_
      obtain ⟨x1, hx1, h⟩ := bind_some h
      refine .seqM 21 (fun (j : Int × Int × (List Int) × (List UInt8) × (List UInt8) × (List TPromise) × (List Int)) => Try.St_towncrierlaw08_AttemptTells_1 members ballot wish v1 j.1 j.2.1 j.2.2.1 j.2.2.2.1 j.2.2.2.2.1 j.2.2.2.2.2.1 j.2.2.2.2.2.2) (fun j => x1 = (.inr j)) (Nat.le_of_ble_eq_true rfl) ?_ ?_
      · skip
        refine .seq ?_
        refine .plain Try.tmOk Try.tmMixed [0, 1, 2, 3, 9, 10] (by decide +kernel) (by intro q hq; simp only [go_sem, Nat.reduceSub, Int.reduceEq, Nat.reduceLT, Nat.reduceDiv, Nat.reduceAdd, Nat.reduceBEq, Nat.reduceLeDiff, reduceCtorEq, Nat.reduceEqDiff, Nat.reduceMod, appendD]; exact hq) (by first | rfl | (simp only [go_sem, Nat.reduceLeDiff]; done) | (simp only [go_sem, Nat.reduceLeDiff]; rfl) | (simp; done) | (simp [oneD] <;> omega) | (simp_all; done) | (simp_all [oneD] <;> omega)) (by first | exact Nat.le_refl _ | exact Nat.le_of_ble_eq_true rfl | (dsimp only; omega) | (simp <;> omega)) ?_
        refine .block ?_
        refine .loopG 21 (fun (j : Nat × Int × Int × (List Int) × (List UInt8) × (List UInt8) × (List TPromise) × (List Int)) => Try.St_towncrierlaw08_AttemptTells_3 members ballot wish l v1 j.1 j.2.1 j.2.2.1 j.2.2.2.1 j.2.2.2.2.1 j.2.2.2.2.2.1 j.2.2.2.2.2.2.1 j.2.2.2.2.2.2.2) (fun j => j.1 ≤ l.length ∧ m_towncrierlaw08_AttemptTells_loop1 ballot v1 (l.drop j.1) j.2.1 j.2.2.1 j.2.2.2.1 j.2.2.2.2.1 j.2.2.2.2.2.1 j.2.2.2.2.2.2.1 j.2.2.2.2.2.2.2 = some x1) (fun j => l.length - j.1) (0, v2.1.Phase, v2.1.Ballot, v2.1.Members, v2.1.Wish, v2.1.Value, v2.1.Promises, v2.1.Accepted) (Nat.le_of_ble_eq_true rfl) ?_ ⟨Nat.zero_le _, hx1⟩ ?_
        · skip
          refine Goes.mv [0, 1, 2, 3, 9, 10, 12] [20, 10, 11, 12] [(10, 21), (11, 22), (12, 23)] ?_ (Nat.le_of_ble_eq_true rfl) (Nat.le_of_ble_eq_true rfl) rfl
          first | rfl | (simp only [go_sem, Nat.reduceBEq, Nat.reduceAdd]; done) | (simp only [go_sem, Nat.reduceBEq, Nat.reduceAdd]; rfl)
        rintro ⟨n5, n3, n4, l4, s3, s4, l5, l6⟩ ⟨hi1, hx1⟩
        simp only [Try.St_towncrierlaw08_AttemptTells_3]
        simp only at hi1 hx1
        refine .wf 3 (.imm 3 (l.map TPromise.d) 4) rfl ?_
        intro hln5
        replace hln5 : (l.length : Int) ≤ 9223372036854775807 := by simp only [wf, wfL, IntKind.max, IntKind.min, IntKind.signed, IntKind.bits, List.length_map] at hln5; first | exact hln5.2 | exact hln5.1 | (simp at hln5; omega)
        refine .seq ?_
        refine .seq ?_
        refine .plain Try.tmOk Try.tmMixed [0, 1, 2, 3, 9, 10, 12] (by decide +kernel) (by intro q hq; simp only [go_sem, Nat.reduceSub, Int.reduceEq, Nat.reduceLT, Nat.reduceDiv, Nat.reduceAdd, Nat.reduceBEq, Nat.reduceLeDiff, reduceCtorEq, Nat.reduceEqDiff, Nat.reduceMod, appendD, Try.tm_3, Try.tm_23, TPromise.d]; exact hq) (by first | rfl | (simp only [go_sem, Nat.reduceLeDiff]; done) | (simp only [go_sem, Nat.reduceLeDiff]; rfl) | (simp; done) | (simp [oneD] <;> omega) | (simp_all; done) | (simp_all [oneD] <;> omega)) (by first | exact Nat.le_refl _ | exact Nat.le_of_ble_eq_true rfl | (dsimp only; omega) | (simp <;> omega)) ?_
        refine .cond rfl rfl (fun hc3 => ?_) (fun hc3 => ?_)
        · skip
          have h1 : n5 < l.length := by simpa using hc3
          have hwn5 : wr .i64 ((n5 : Int) + 1) = ((n5 + 1 : Nat) : Int) := wr_succ h1 hln5
          have hpn5 : wr .i64 ((n5 : Int) - 1) = (n5 : Int) - 1 := wr_pred h1 hln5
          rw [List.drop_eq_getElem_cons h1, m_towncrierlaw08_AttemptTells_loop1] at hx1
          refine .skip ?_
          obtain ⟨x2, hx2, hx1⟩ := bind_some hx1
          refine .seqM 24 (fun (j : Int × Int × (List Int) × (List UInt8) × (List UInt8) × (List TPromise) × (List Int)) => Try.St_towncrierlaw08_AttemptTells_5 members ballot wish l v1 n5 j.1 j.2.1 j.2.2.1 j.2.2.2.1 j.2.2.2.2.1 j.2.2.2.2.2.1 j.2.2.2.2.2.2) (fun j => x2 = (.inr j)) (Nat.le_of_ble_eq_true rfl) ?_ ?_
          · skip
            refine .block ?_
            refine .seq ?_
            refine .seq ?_
            have e1 := nth_map TPromise.d l n5 h1
            refine .plain Try.tmOk Try.tmMixed [0, 1, 2, 3, 9, 10, 12] (by decide +kernel) (by intro q hq; simp only [go_sem, Nat.reduceSub, Int.reduceEq, Nat.reduceLT, Nat.reduceDiv, Nat.reduceAdd, Nat.reduceBEq, Nat.reduceLeDiff, reduceCtorEq, Nat.reduceEqDiff, Nat.reduceMod, appendD, Try.tm_3, Try.tm_9, Try.tm_23, Try.tm_31, e1, TPromise.d, hwn5]; exact hq) (by first | rfl | (simp only [go_sem, Nat.reduceLeDiff]; done) | (simp only [go_sem, Nat.reduceLeDiff]; rfl) | (simp; done) | (simp [oneD] <;> omega) | (simp_all; done) | (simp_all [oneD] <;> omega)) (by first | exact Nat.le_refl _ | exact Nat.le_of_ble_eq_true rfl | (dsimp only; omega) | (simp <;> omega)) ?_
            refine .cond rfl rfl (fun hc4 => ?_) (fun hc4 => ?_)
            · skip
              replace hx2 := ite_l hx2 (by first | simpa using hc4 | (simp at hc4 ⊢; omega) | (simp at hc4 ⊢; grind) | grind)
              refine .seq ?_
              refine .plain Try.tmOk Try.tmMixed [9] (by decide +kernel) (by intro q hq; simp only [go_sem, Nat.reduceSub, Int.reduceEq, Nat.reduceLT, Nat.reduceDiv, Nat.reduceAdd, Nat.reduceBEq, Nat.reduceLeDiff, reduceCtorEq, Nat.reduceEqDiff, Nat.reduceMod, appendD, hwn5]; exact hq) (by first | rfl | (simp only [go_sem, Nat.reduceLeDiff]; done) | (simp only [go_sem, Nat.reduceLeDiff]; rfl) | (simp; done) | (simp [oneD] <;> omega) | (simp_all; done) | (simp_all [oneD] <;> omega)) (by first | exact Nat.le_refl _ | exact Nat.le_of_ble_eq_true rfl | (dsimp only; omega) | (simp <;> omega)) ?_
              have hq := Option.some.inj hx2
              subst x2
              try dsimp only at hx1
              have hq := Option.some.inj hx1
              subst x1
              try dsimp only at h
              have hq := Option.some.inj h
              subst r
              refine .ret ⟨.inr rfl, ResIs.to ?_⟩
              simp only [ResIs, resL, resD, resT, go_sem, Nat.reduceSub, Int.reduceEq, Nat.reduceLT, Nat.reduceDiv, Nat.reduceAdd, Nat.reduceBEq, Nat.reduceLeDiff, reduceCtorEq, Nat.reduceEqDiff, Nat.reduceMod, Try.f3, Try.tm_4]
            · skip
              replace hx2 := ite_r hx2 (by first | simpa using hc4 | (simp at hc4 ⊢; omega) | (simp at hc4 ⊢; grind) | grind)
              refine .skip ?_
              refine .seq ?_
              obtain ⟨v3, hv3, hx2⟩ := bind_some hx2
              have e2 := nth_map TPromise.d l n5 h1
              refine .reg Try.tmOk Try.tmMixed [0, 1, 2, 3, 9, 10, 12] (by decide +kernel) ?_
              refine .RN 6 (dr := true) (.inl rfl) (by intro q hq; simp only [go_sem, Nat.reduceSub, Int.reduceEq, Nat.reduceLT, Nat.reduceDiv, Nat.reduceAdd, Nat.reduceBEq, Nat.reduceLeDiff, reduceCtorEq, Nat.reduceEqDiff, Nat.reduceMod, appendD, Try.tm_23, Try.tm_26, Try.tm_31, e2, TAttempt.d, TPromise.d, hwn5]; exact hq) (by first | rfl | (simp only [go_sem, Nat.reduceLeDiff]; done) | (simp only [go_sem, Nat.reduceLeDiff]; rfl) | (simp; done) | (simp [oneD] <;> omega) | (simp_all; done) | (simp_all [oneD] <;> omega)) (by first | exact Nat.le_refl _ | exact Nat.le_of_ble_eq_true rfl | (dsimp only; omega) | (simp <;> omega)) ?_
              refine .ncall (r := .tuple [.agg [.int .u8 v3.1.Phase, .int .i64 v3.1.Ballot, .ref 38 1 0 v3.1.Members.length (some unkC), .str v3.1.Wish, .str v3.1.Value, .ref 39 3 0 v3.1.Promises.length (some unkC), .ref 40 1 0 v3.1.Accepted.length (some unkC)], .int .i64 v3.2]) (eff := [(38, some (.arr 3 1 true (v3.1.Members.map (D.int .i64)))), (39, some (.arr 31 3 true (v3.1.Promises.map TPromise.d))), (40, some (.arr 3 1 true (v3.1.Accepted.map (D.int .i64))))]) (nw := (38, 76)) [] rfl rfl rfl rfl rfl (lend2s_cons (lend2_of (lend_agg (lends_cons rfl (lends_cons rfl (lends_cons (lend_ref (pl_int .i64) (by first | rfl | (simp only [go_sem, Nat.reduceBEq]; rfl)) (by first | rfl | (simp; done) | (simp <;> omega))) (lends_cons rfl (lends_cons rfl (lends_cons (lend_ref pl_TPromise (by first | rfl | (simp only [go_sem, Nat.reduceBEq]; rfl)) (by first | rfl | (simp; done) | (simp <;> omega))) (lends_cons (lend_ref (pl_int .i64) (by first | rfl | (simp only [go_sem, Nat.reduceBEq]; rfl)) (by first | rfl | (simp; done) | (simp <;> omega))) lends_nil)))))))) trivial) (lend2s_cons rfl (lend2s_cons rfl lend2s_nil))) rfl (callH_at 38 (Nat.le_of_ble_eq_true rfl) (callH_attempt_Promised (⟨n3, n4, l4, s3, s4, l5, l6⟩ : TAttempt) ballot (l[n5]) v3 hv3)) (newE_cons rfl rfl (newB_arr pl0_i64 _ _ _) (newE_cons rfl rfl (newB_arr pl0_TPromise _ _ _) (newE_cons rfl rfl (newB_arr pl0_i64 _ _ _) newE_nil))) (by intro i hi; simp [D.ids, D.idsL] at hi; omega) rfl ⟨Nat.le_of_ble_eq_true rfl, Nat.le_of_ble_eq_true rfl⟩ ?_
              refine .RN 6 (dr := true) (.inl rfl) (by intro q hq; simp only [go_sem, Nat.reduceSub, Int.reduceEq, Nat.reduceLT, Nat.reduceDiv, Nat.reduceAdd, Nat.reduceBEq, Nat.reduceLeDiff, reduceCtorEq, Nat.reduceEqDiff, Nat.reduceMod, appendD, Try.tm_26, e2, TAttempt.d, TPromise.d, hwn5]; exact hq) (by first | rfl | (simp only [go_sem, Nat.reduceLeDiff]; done) | (simp only [go_sem, Nat.reduceLeDiff]; rfl) | (simp; done) | (simp [oneD] <;> omega) | (simp_all; done) | (simp_all [oneD] <;> omega)) (by first | exact Nat.le_refl _ | exact Nat.le_of_ble_eq_true rfl | (dsimp only; omega) | (simp <;> omega)) ?_
              refine .nil ⟨fun _ => schedB_of (by kernel_rfl), ?_⟩
              refine .seq ?_
              refine .plain Try.tmOk Try.tmMixed [0, 1, 2, 3, 9, 10, 12, 13, 14] (by decide +kernel) (by intro q hq; simp only [go_sem, Nat.reduceSub, Int.reduceEq, Nat.reduceLT, Nat.reduceDiv, Nat.reduceAdd, Nat.reduceBEq, Nat.reduceLeDiff, reduceCtorEq, Nat.reduceEqDiff, Nat.reduceMod, appendD, Try.tm_27, hwn5]; exact hq) (by first | rfl | (simp only [go_sem, Nat.reduceLeDiff]; done) | (simp only [go_sem, Nat.reduceLeDiff]; rfl) | (simp; done) | (simp [oneD] <;> omega) | (simp_all; done) | (simp_all [oneD] <;> omega)) (by first | exact Nat.le_refl _ | exact Nat.le_of_ble_eq_true rfl | (dsimp only; omega) | (simp <;> omega)) ?_
              refine .cond rfl rfl (fun hc5 => ?_) (fun hc5 => ?_)
              · skip
                replace hx2 := ite_l hx2 (by first | simpa using hc5 | (simp at hc5 ⊢; omega) | (simp at hc5 ⊢; grind) | grind)
                refine .plain Try.tmOk Try.tmMixed [0, 1, 2, 3, 9, 10, 12, 13] (by decide +kernel) (by intro q hq; simp only [go_sem, Nat.reduceSub, Int.reduceEq, Nat.reduceLT, Nat.reduceDiv, Nat.reduceAdd, Nat.reduceBEq, Nat.reduceLeDiff, reduceCtorEq, Nat.reduceEqDiff, Nat.reduceMod, appendD, Try.tm_26, TAttempt.d, hwn5]; exact hq) (by first | rfl | (simp only [go_sem, Nat.reduceLeDiff]; done) | (simp only [go_sem, Nat.reduceLeDiff]; rfl) | (simp; done) | (simp [oneD] <;> omega) | (simp_all; done) | (simp_all [oneD] <;> omega)) (by first | exact Nat.le_refl _ | exact Nat.le_of_ble_eq_true rfl | (dsimp only; omega) | (simp <;> omega)) ?_
                refine ⟨_, ?_, (Option.some.inj hx2).symm⟩
                refine Goes.mv [0, 1, 2, 3, 9, 10, 12] [20, 38, 39, 40] [(38, 24), (39, 25), (40, 26)] ?_ (Nat.le_of_ble_eq_true rfl) (Nat.le_of_ble_eq_true rfl) rfl
                first | rfl | (simp only [go_sem, Nat.reduceBEq, Nat.reduceAdd]; done) | (simp only [go_sem, Nat.reduceBEq, Nat.reduceAdd]; rfl)
              · skip
                replace hx2 := ite_r hx2 (by first | simpa using hc5 | (simp at hc5 ⊢; omega) | (simp at hc5 ⊢; grind) | grind)
                refine .skip ?_
                refine ⟨_, ?_, (Option.some.inj hx2).symm⟩
                refine Goes.mv [0, 1, 2, 3, 9, 10, 12] [20, 21, 22, 23] [(21, 24), (22, 25), (23, 26)] ?_ (Nat.le_of_ble_eq_true rfl) (Nat.le_of_ble_eq_true rfl) rfl
                first | rfl | (simp only [go_sem, Nat.reduceBEq, Nat.reduceAdd]; done) | (simp only [go_sem, Nat.reduceBEq, Nat.reduceAdd]; rfl)
          · skip
            rintro ⟨n6, n7, l7, s5, s6, l8, l9⟩ hj1
            subst x2
            try dsimp only at hx1
            simp only [Try.St_towncrierlaw08_AttemptTells_5]
            refine .plain Try.tmOk Try.tmMixed [0, 1, 2, 3, 9, 10, 12] (by decide +kernel) (by intro q hq; simp only [go_sem, Nat.reduceSub, Int.reduceEq, Nat.reduceLT, Nat.reduceDiv, Nat.reduceAdd, Nat.reduceBEq, Nat.reduceLeDiff, reduceCtorEq, Nat.reduceEqDiff, Nat.reduceMod, appendD, Try.tm_3, hwn5]; exact hq) (by first | rfl | (simp only [go_sem, Nat.reduceLeDiff]; done) | (simp only [go_sem, Nat.reduceLeDiff]; rfl) | (simp; done) | (simp [oneD] <;> omega) | (simp_all; done) | (simp_all [oneD] <;> omega)) (by first | exact Nat.le_refl _ | exact Nat.le_of_ble_eq_true rfl | (dsimp only; omega) | (simp <;> omega)) ?_
            refine ⟨(n5 + 1, _, _, _, _, _, _, _), ?_, ⟨by omega, hx1⟩, by dsimp only; omega⟩
            refine Goes.mv [0, 1, 2, 3, 9, 10, 12] [20, 24, 25, 26] [(24, 21), (25, 22), (26, 23)] ?_ (Nat.le_of_ble_eq_true rfl) (Nat.le_of_ble_eq_true rfl) rfl
            first | rfl | (simp only [go_sem, Nat.reduceBEq, Nat.reduceAdd]; done) | (simp only [go_sem, Nat.reduceBEq, Nat.reduceAdd]; rfl)
        · skip
          have h2 : n5 = l.length := by have h2b := of_decide_eq_false hc3; omega
          rw [List.drop_of_length_le (by omega), m_towncrierlaw08_AttemptTells_loop1] at hx1
          refine .exit ?_
          refine ⟨_, ?_, (Option.some.inj hx1).symm⟩
          refine Goes.mv [0, 1, 2, 9, 10] [20, 21, 22, 23] [] ?_ (Nat.le_of_ble_eq_true rfl) (Nat.le_of_ble_eq_true rfl) rfl
          first | rfl | (simp only [go_sem, Nat.reduceBEq, Nat.reduceAdd]; done) | (simp only [go_sem, Nat.reduceBEq, Nat.reduceAdd]; rfl)
      · skip
        rintro ⟨n1, n2, l1, s1, s2, l2, l3⟩ hj2
        subst x1
        try dsimp only at h
        simp only [Try.St_towncrierlaw08_AttemptTells_1]
        refine .seq ?_
        obtain ⟨v4, hv4, h⟩ := bind_some h
        obtain ⟨v5, hv5, h⟩ := bind_some h
        refine .reg Try.tmOk Try.tmMixed [0, 1, 2, 9, 10] (by decide +kernel) ?_
        refine .RN 3 (dr := false) (.inr fun _ _ _ h => ⟨nofun, h.2⟩) (by intro q hq; simp only [go_sem, Nat.reduceSub, Int.reduceEq, Nat.reduceLT, Nat.reduceDiv, Nat.reduceAdd, Nat.reduceBEq, Nat.reduceLeDiff, reduceCtorEq, Nat.reduceEqDiff, Nat.reduceMod, appendD, Try.tm_23, Try.tm_26, TAttempt.d, TPromise.d]; exact hq) (by first | rfl | (simp only [go_sem, Nat.reduceLeDiff]; done) | (simp only [go_sem, Nat.reduceLeDiff]; rfl) | (simp; done) | (simp [oneD] <;> omega) | (simp_all; done) | (simp_all [oneD] <;> omega)) (by first | exact Nat.le_refl _ | exact Nat.le_of_ble_eq_true rfl | (dsimp only; omega) | (simp <;> omega)) ?_
        refine .ncall (r := .ref 24 1 0 v4.length (some unkC)) (eff := [(24, some (.arr 3 1 true (v4.map (D.int .i64))))]) (nw := (24, 29)) [] rfl rfl rfl rfl rfl (lend2s_cons (lend2_of (lend_ref pl_TPromise (by first | rfl | (simp only [go_sem, Nat.reduceBEq]; rfl)) (by first | rfl | (simp; done) | (simp <;> omega))) trivial) lend2s_nil) rfl (callH_at 24 (Nat.le_of_ble_eq_true rfl) (callH_towncrierlaw08_nodes l2 v4 hv4)) (newE_cons rfl rfl (newB_arr pl0_i64 _ _ _) newE_nil) (by intro i hi; simp [D.ids, D.idsL] at hi; omega) rfl ⟨Nat.le_of_ble_eq_true rfl, Nat.le_of_ble_eq_true rfl⟩ ?_
        refine .RN 0 (dr := false) (.inr fun _ _ _ h => ⟨nofun, h.2⟩) (by intro q hq; simp only [go_sem, Nat.reduceSub, Int.reduceEq, Nat.reduceLT, Nat.reduceDiv, Nat.reduceAdd, Nat.reduceBEq, Nat.reduceLeDiff, reduceCtorEq, Nat.reduceEqDiff, Nat.reduceMod, appendD, TAttempt.d, TPromise.d]; exact hq) (by first | rfl | (simp only [go_sem, Nat.reduceLeDiff]; done) | (simp only [go_sem, Nat.reduceLeDiff]; rfl) | (simp; done) | (simp [oneD] <;> omega) | (simp_all; done) | (simp_all [oneD] <;> omega)) (by first | exact Nat.le_refl _ | exact Nat.le_of_ble_eq_true rfl | (dsimp only; omega) | (simp <;> omega)) ?_
        refine .lcall (r := .tuple [.bool v5.1, .int .i64 v5.2]) [] rfl rfl rfl rfl rfl (lend2s_cons rfl (lend2s_cons (lend2_of (lend_ref (pl_int .i64) (by first | rfl | (simp only [go_sem, Nat.reduceBEq]; rfl)) (by first | rfl | (simp; done) | (simp <;> omega))) trivial) lend2s_nil)) rfl (callP_quorum_Most members v4 v5 hv5) ?_
        refine .RN 5 (dr := false) (.inr fun _ _ _ h => ⟨nofun, h.2⟩) (by intro q hq; simp only [go_sem, Nat.reduceSub, Int.reduceEq, Nat.reduceLT, Nat.reduceDiv, Nat.reduceAdd, Nat.reduceBEq, Nat.reduceLeDiff, reduceCtorEq, Nat.reduceEqDiff, Nat.reduceMod, appendD, TAttempt.d, TPromise.d]; exact hq) (by first | rfl | (simp only [go_sem, Nat.reduceLeDiff]; done) | (simp only [go_sem, Nat.reduceLeDiff]; rfl) | (simp; done) | (simp [oneD] <;> omega) | (simp_all; done) | (simp_all [oneD] <;> omega)) (by first | exact Nat.le_refl _ | exact Nat.le_of_ble_eq_true rfl | (dsimp only; omega) | (simp <;> omega)) ?_
        refine .nil ⟨nofun, ?_⟩
        refine .seq ?_
        refine .seq ?_
        obtain ⟨v6, hv6, h⟩ := bind_some h
        refine .reg Try.tmOk Try.tmMixed [1, 2, 9, 10, 15, 16] (by decide +kernel) ?_
        refine .RN 6 (dr := false) (.inr fun _ _ _ h => ⟨nofun, h.2⟩) (by intro q hq; simp only [go_sem, Nat.reduceSub, Int.reduceEq, Nat.reduceLT, Nat.reduceDiv, Nat.reduceAdd, Nat.reduceBEq, Nat.reduceLeDiff, reduceCtorEq, Nat.reduceEqDiff, Nat.reduceMod, appendD, Try.tm_5, Try.tm_26, Try.tm_27, TAttempt.d]; exact hq) (by first | rfl | (simp only [go_sem, Nat.reduceLeDiff]; done) | (simp only [go_sem, Nat.reduceLeDiff]; rfl) | (simp; done) | (simp [oneD] <;> omega) | (simp_all; done) | (simp_all [oneD] <;> omega)) (by first | exact Nat.le_refl _ | exact Nat.le_of_ble_eq_true rfl | (dsimp only; omega) | (simp <;> omega)) ?_
        refine .RN 5 (dr := false) (.inr fun _ _ _ h => ⟨nofun, h.2⟩) (by intro q hq; simp only [go_sem, Nat.reduceSub, Int.reduceEq, Nat.reduceLT, Nat.reduceDiv, Nat.reduceAdd, Nat.reduceBEq, Nat.reduceLeDiff, reduceCtorEq, Nat.reduceEqDiff, Nat.reduceMod, appendD, Try.tm_4, Try.tm_5, Try.tm_26, TAttempt.d]; exact hq) (by first | rfl | (simp only [go_sem, Nat.reduceLeDiff]; done) | (simp only [go_sem, Nat.reduceLeDiff]; rfl) | (simp; done) | (simp [oneD] <;> omega) | (simp_all; done) | (simp_all [oneD] <;> omega)) (by first | exact Nat.le_refl _ | exact Nat.le_of_ble_eq_true rfl | (dsimp only; omega) | (simp <;> omega)) ?_
        refine .glcall (r := .int .i64 v6) [] rfl rfl rfl rfl rfl (fun hg => ⟨[], [.agg [.int .u8 n1, .int .i64 n2, .ref 21 1 0 l1.length (some unkC), .str s1, .str s2, .ref 22 3 0 l2.length (some unkC), .ref 23 1 0 l3.length (some unkC)]], _, rfl, (by first | (simp only [opds, opd, ev, ofVal, getR, getL, Nat.beq, cond_true, cond_false, Bool.not_true, Bool.false_or, Bool.and_true, Bool.true_and, Prod.mk.injEq, true_and]; done) | (simp only [opds, opd, ev, ofVal, getR, getL, Nat.beq, cond_true, cond_false, Bool.not_true, Bool.false_or, Bool.and_true, Bool.true_and, Prod.mk.injEq, true_and]; first | exact hg | simpa using hg | (simp at hg ⊢; grind)) | rfl), (lend2s_cons (lend2_of (lend_agg (lends_cons rfl (lends_cons rfl (lends_cons (lend_ref (pl_int .i64) (by first | rfl | (simp only [go_sem, Nat.reduceBEq]; rfl)) (by first | rfl | (simp; done) | (simp <;> omega))) (lends_cons rfl (lends_cons rfl (lends_cons (lend_ref pl_TPromise (by first | rfl | (simp only [go_sem, Nat.reduceBEq]; rfl)) (by first | rfl | (simp; done) | (simp <;> omega))) (lends_cons (lend_ref (pl_int .i64) (by first | rfl | (simp only [go_sem, Nat.reduceBEq]; rfl)) (by first | rfl | (simp; done) | (simp <;> omega))) lends_nil)))))))) trivial) lend2s_nil), rfl, (callP_attempt_Check (⟨n1, n2, l1, s1, s2, l2, l3⟩ : TAttempt) v6 (ite_l hv6 (by first | simpa using hg | (simp at hg ⊢; omega) | (simp at hg ⊢; grind) | grind)))⟩) ?_
        refine .RN 6 (dr := false) (.inr fun _ _ _ h => ⟨nofun, h.2⟩) (by intro q hq; simp only [go_sem, Nat.reduceSub, Int.reduceEq, Nat.reduceLT, Nat.reduceDiv, Nat.reduceAdd, Nat.reduceBEq, Nat.reduceLeDiff, reduceCtorEq, Nat.reduceEqDiff, Nat.reduceMod, appendD, Try.tm_3, Try.tm_26, Try.tm_27, TAttempt.d]; exact hq) (by first | rfl | (simp only [go_sem, Nat.reduceLeDiff]; done) | (simp only [go_sem, Nat.reduceLeDiff]; rfl) | (simp; done) | (simp [oneD] <;> omega) | (simp_all; done) | (simp_all [oneD] <;> omega)) (by first | exact Nat.le_refl _ | exact Nat.le_of_ble_eq_true rfl | (dsimp only; omega) | (simp <;> omega)) ?_
        refine .RN 8 (dr := false) (.inr fun _ _ _ h => ⟨nofun, h.2⟩) (by intro q hq; simp only [go_sem, Nat.reduceSub, Int.reduceEq, Nat.reduceLT, Nat.reduceDiv, Nat.reduceAdd, Nat.reduceBEq, Nat.reduceLeDiff, reduceCtorEq, Nat.reduceEqDiff, Nat.reduceMod, appendD, Try.tm_3, Try.tm_9, Try.tm_26, TAttempt.d]; exact hq) (by first | rfl | (simp only [go_sem, Nat.reduceLeDiff]; done) | (simp only [go_sem, Nat.reduceLeDiff]; rfl) | (simp; done) | (simp [oneD] <;> omega) | (simp_all; done) | (simp_all [oneD] <;> omega)) (by first | exact Nat.le_refl _ | exact Nat.le_of_ble_eq_true rfl | (dsimp only; omega) | (simp <;> omega)) ?_
        refine .nil ⟨nofun, ?_⟩
        refine .cond rfl rfl (fun hc6 => ?_) (fun hc6 => ?_)
        · skip
          replace h := ite_l h (by first | simpa using hc6 | (simp at hc6 ⊢; omega) | (simp at hc6 ⊢; grind) | grind)
          refine .seq ?_
          refine .plain Try.tmOk Try.tmMixed [] (by decide +kernel) (by intro q hq; simp only [go_sem, Nat.reduceSub, Int.reduceEq, Nat.reduceLT, Nat.reduceDiv, Nat.reduceAdd, Nat.reduceBEq, Nat.reduceLeDiff, reduceCtorEq, Nat.reduceEqDiff, Nat.reduceMod, appendD]; exact hq) (by first | rfl | (simp only [go_sem, Nat.reduceLeDiff]; done) | (simp only [go_sem, Nat.reduceLeDiff]; rfl) | (simp; done) | (simp [oneD] <;> omega) | (simp_all; done) | (simp_all [oneD] <;> omega)) (by first | exact Nat.le_refl _ | exact Nat.le_of_ble_eq_true rfl | (dsimp only; omega) | (simp <;> omega)) ?_
          have hq := Option.some.inj h
          subst r
          refine .ret ⟨.inr rfl, ResIs.to ?_⟩
          simp only [ResIs, resL, resD, resT, go_sem, Nat.reduceSub, Int.reduceEq, Nat.reduceLT, Nat.reduceDiv, Nat.reduceAdd, Nat.reduceBEq, Nat.reduceLeDiff, reduceCtorEq, Nat.reduceEqDiff, Nat.reduceMod, Try.f3, Try.tm_4]
        · skip
          replace h := ite_r h (by first | simpa using hc6 | (simp at hc6 ⊢; omega) | (simp at hc6 ⊢; grind) | grind)
          refine .skip ?_
          refine .seq ?_
          refine .seq ?_
          refine .plain Try.tmOk Try.tmMixed [2, 9, 10, 15] (by decide +kernel) (by intro q hq; simp only [go_sem, Nat.reduceSub, Int.reduceEq, Nat.reduceLT, Nat.reduceDiv, Nat.reduceAdd, Nat.reduceBEq, Nat.reduceLeDiff, reduceCtorEq, Nat.reduceEqDiff, Nat.reduceMod, appendD]; exact hq) (by first | rfl | (simp only [go_sem, Nat.reduceLeDiff]; done) | (simp only [go_sem, Nat.reduceLeDiff]; rfl) | (simp; done) | (simp [oneD] <;> omega) | (simp_all; done) | (simp_all [oneD] <;> omega)) (by first | exact Nat.le_refl _ | exact Nat.le_of_ble_eq_true rfl | (dsimp only; omega) | (simp <;> omega)) ?_
          refine .cond rfl rfl (fun hc7 => ?_) (fun hc7 => ?_)
          · skip
            replace h := ite_l h (by first | simpa using hc7 | (simp at hc7 ⊢; omega) | (simp at hc7 ⊢; grind) | grind)
            refine .seq ?_
            refine .reg Try.tmOk Try.tmMixed [9, 10] (by decide +kernel) ?_
            refine .RN 6 (dr := false) (.inr fun _ _ _ h => ⟨nofun, h.2⟩) (by intro q hq; simp only [go_sem, Nat.reduceSub, Int.reduceEq, Nat.reduceLT, Nat.reduceDiv, Nat.reduceAdd, Nat.reduceBEq, Nat.reduceLeDiff, reduceCtorEq, Nat.reduceEqDiff, Nat.reduceMod, appendD, Try.tm_5, Try.tm_26, TAttempt.d]; exact hq) (by first | rfl | (simp only [go_sem, Nat.reduceLeDiff]; done) | (simp only [go_sem, Nat.reduceLeDiff]; rfl) | (simp; done) | (simp [oneD] <;> omega) | (simp_all; done) | (simp_all [oneD] <;> omega)) (by first | exact Nat.le_refl _ | exact Nat.le_of_ble_eq_true rfl | (dsimp only; omega) | (simp <;> omega)) ?_
            refine .RN 6 (dr := false) (.inr fun _ _ _ h => ⟨nofun, h.2⟩) (by intro q hq; simp only [go_sem, Nat.reduceSub, Int.reduceEq, Nat.reduceLT, Nat.reduceDiv, Nat.reduceAdd, Nat.reduceBEq, Nat.reduceLeDiff, reduceCtorEq, Nat.reduceEqDiff, Nat.reduceMod, appendD, Try.tm_9, Try.tm_26, TAttempt.d]; exact hq) (by first | rfl | (simp only [go_sem, Nat.reduceLeDiff]; done) | (simp only [go_sem, Nat.reduceLeDiff]; rfl) | (simp; done) | (simp [oneD] <;> omega) | (simp_all; done) | (simp_all [oneD] <;> omega)) (by first | exact Nat.le_refl _ | exact Nat.le_of_ble_eq_true rfl | (dsimp only; omega) | (simp <;> omega)) ?_
            refine .nil ⟨nofun, ?_⟩
            have hq := Option.some.inj h
            subst r
            refine .ret ⟨.inr rfl, ResIs.to ?_⟩
            simp only [ResIs, resL, resD, resT, go_sem, Nat.reduceSub, Int.reduceEq, Nat.reduceLT, Nat.reduceDiv, Nat.reduceAdd, Nat.reduceBEq, Nat.reduceLeDiff, reduceCtorEq, Nat.reduceEqDiff, Nat.reduceMod, Try.f3, Try.tm_4]
          · skip
            replace h := ite_r h (by first | simpa using hc7 | (simp at hc7 ⊢; omega) | (simp at hc7 ⊢; grind) | grind)
            refine .skip ?_
            refine .seq ?_
            refine .drawn Try.tmOk Try.tmMixed [2, 9, 10] (by decide +kernel) (by intro q hq; simp only [go_sem, Nat.reduceSub, Int.reduceEq, Nat.reduceLT, Nat.reduceDiv, Nat.reduceAdd, Nat.reduceBEq, Nat.reduceLeDiff, reduceCtorEq, Nat.reduceEqDiff, Nat.reduceMod, appendD, Try.tm_9, Try.tm_26, TAttempt.d]; exact hq) (schedB_of (by kernel_rfl)) (by first | rfl | (simp only [go_sem, Nat.reduceLeDiff]; done) | (simp only [go_sem, Nat.reduceLeDiff]; rfl) | (simp; done) | (simp [oneD] <;> omega) | (simp_all; done) | (simp_all [oneD] <;> omega)) (by first | exact Nat.le_refl _ | exact Nat.le_of_ble_eq_true rfl | (dsimp only; omega) | (simp <;> omega)) ?_
            obtain ⟨x3, hx3, h⟩ := bind_some h
            refine .seqM 29 (fun (j : Int) => Try.St_towncrierlaw08_AttemptTells_7 wish v1 n1 n2 l1 s1 s2 l2 l3 j) (fun j => x3 = j) (Nat.le_of_ble_eq_true rfl) ?_ ?_
            · skip
              refine .seq ?_
              refine .plain Try.tmOk Try.tmMixed [9, 10, 17, 18] (by decide +kernel) (by intro q hq; simp only [go_sem, Nat.reduceSub, Int.reduceEq, Nat.reduceLT, Nat.reduceDiv, Nat.reduceAdd, Nat.reduceBEq, Nat.reduceLeDiff, reduceCtorEq, Nat.reduceEqDiff, Nat.reduceMod, appendD]; exact hq) (by first | rfl | (simp only [go_sem, Nat.reduceLeDiff]; done) | (simp only [go_sem, Nat.reduceLeDiff]; rfl) | (simp; done) | (simp [oneD] <;> omega) | (simp_all; done) | (simp_all [oneD] <;> omega)) (by first | exact Nat.le_refl _ | exact Nat.le_of_ble_eq_true rfl | (dsimp only; omega) | (simp <;> omega)) ?_
              refine .block ?_
              refine .loopG 29 (fun (j : Nat × Int × Int) => Try.St_towncrierlaw08_AttemptTells_9 wish v1 n1 n2 l1 s1 s2 l2 l3 j.2.1 j.2.2) (fun j => m_towncrierlaw08_AttemptTells_loop2 l2 j.1 j.2.1 j.2.2 = some x3) (fun j => j.1) (l2.length + 1, 0, 0) (Nat.le_of_ble_eq_true rfl) ?_ hx3 ?_
              · skip
                refine Goes.mv [9, 10, 17, 18, 19] [20, 21, 22, 23] [(21, 29), (22, 30), (23, 31)] ?_ (Nat.le_of_ble_eq_true rfl) (Nat.le_of_ble_eq_true rfl) rfl
                first | rfl | (simp only [go_sem, Nat.reduceBEq, Nat.reduceAdd]; done) | (simp only [go_sem, Nat.reduceBEq, Nat.reduceAdd]; rfl)
              rintro ⟨fu1, n9, n10⟩ hx3
              simp only [Try.St_towncrierlaw08_AttemptTells_9]
              try simp only at hx3
              obtain ⟨fu1, rfl⟩ : ∃ k, fu1 = k + 1 := by cases fu1 with | zero => (rw [m_towncrierlaw08_AttemptTells_loop2] at hx3; cases hx3) | succ k => exact ⟨k, rfl⟩
              rw [m_towncrierlaw08_AttemptTells_loop2] at hx3
              refine .seq ?_
              refine .seq ?_
              refine .plain Try.tmOk Try.tmMixed [9, 10, 17, 18, 19] (by decide +kernel) (by intro q hq; simp only [go_sem, Nat.reduceSub, Int.reduceEq, Nat.reduceLT, Nat.reduceDiv, Nat.reduceAdd, Nat.reduceBEq, Nat.reduceLeDiff, reduceCtorEq, Nat.reduceEqDiff, Nat.reduceMod, appendD, Try.tm_3, Try.tm_23, Try.tm_26, TAttempt.d, TPromise.d]; exact hq) (by first | rfl | (simp only [go_sem, Nat.reduceLeDiff]; done) | (simp only [go_sem, Nat.reduceLeDiff]; rfl) | (simp; done) | (simp [oneD] <;> omega) | (simp_all; done) | (simp_all [oneD] <;> omega)) (by first | exact Nat.le_refl _ | exact Nat.le_of_ble_eq_true rfl | (dsimp only; omega) | (simp <;> omega)) ?_
              refine .cond rfl rfl (fun hc8 => ?_) (fun hc8 => ?_)
              · skip
                replace hx3 := ite_l hx3 (by first | simpa using hc8 | (simp at hc8 ⊢; omega) | (simp at hc8 ⊢; grind) | grind)
                refine .skip ?_
                refine .seq ?_
                refine .block ?_
                obtain ⟨k1, hx3⟩ := ite_ck hx3
                have e3 := nth_mapI TPromise.d l2 n10
                replace e3 := e3 k1
                refine .reg Try.tmOk Try.tmMixed [9, 10, 17, 18, 19] (by decide +kernel) ?_
                refine .RN 6 (dr := false) (.inr fun _ _ _ h => ⟨nofun, h.2⟩) (by intro q hq; simp only [go_sem, Nat.reduceSub, Int.reduceEq, Nat.reduceLT, Nat.reduceDiv, Nat.reduceAdd, Nat.reduceBEq, Nat.reduceLeDiff, reduceCtorEq, Nat.reduceEqDiff, Nat.reduceMod, appendD, Try.tm_23, Try.tm_26, Try.tm_31, e3, TAttempt.d, TPromise.d]; exact hq) (by first | rfl | (simp only [go_sem, Nat.reduceLeDiff]; done) | (simp only [go_sem, Nat.reduceLeDiff]; rfl) | (simp; done) | (simp [oneD] <;> omega) | (simp_all; done) | (simp_all [oneD] <;> omega)) (by first | exact Nat.le_refl _ | exact Nat.le_of_ble_eq_true rfl | (dsimp only; omega) | (simp <;> omega)) ?_
                refine .RN 3 (dr := false) (.inr fun _ _ _ h => ⟨nofun, h.2⟩) (by intro q hq; simp only [go_sem, Nat.reduceSub, Int.reduceEq, Nat.reduceLT, Nat.reduceDiv, Nat.reduceAdd, Nat.reduceBEq, Nat.reduceLeDiff, reduceCtorEq, Nat.reduceEqDiff, Nat.reduceMod, appendD, Try.tm_3, e3, TAttempt.d, TPromise.d]; exact hq) (by first | rfl | (simp only [go_sem, Nat.reduceLeDiff]; done) | (simp only [go_sem, Nat.reduceLeDiff]; rfl) | (simp; done) | (simp [oneD] <;> omega) | (simp_all; done) | (simp_all [oneD] <;> omega)) (by first | exact Nat.le_refl _ | exact Nat.le_of_ble_eq_true rfl | (dsimp only; omega) | (simp <;> omega)) ?_
                refine .nil ⟨nofun, ?_⟩
                refine .plain Try.tmOk Try.tmMixed [9, 10, 17, 18, 19] (by decide +kernel) (by intro q hq; simp only [go_sem, Nat.reduceSub, Int.reduceEq, Nat.reduceLT, Nat.reduceDiv, Nat.reduceAdd, Nat.reduceBEq, Nat.reduceLeDiff, reduceCtorEq, Nat.reduceEqDiff, Nat.reduceMod, appendD, Try.tm_3]; exact hq) (by first | rfl | (simp only [go_sem, Nat.reduceLeDiff]; done) | (simp only [go_sem, Nat.reduceLeDiff]; rfl) | (simp; done) | (simp [oneD] <;> omega) | (simp_all; done) | (simp_all [oneD] <;> omega)) (by first | exact Nat.le_refl _ | exact Nat.le_of_ble_eq_true rfl | (dsimp only; omega) | (simp <;> omega)) ?_
                refine ⟨(fu1, _, _), ?_, hx3, by dsimp only; omega⟩
                refine Goes.mv [9, 10, 17, 18, 19] [20, 29, 30, 31] [] ?_ (Nat.le_of_ble_eq_true rfl) (Nat.le_of_ble_eq_true rfl) rfl
                first | rfl | (simp only [go_sem, Nat.reduceBEq, Nat.reduceAdd]; done) | (simp only [go_sem, Nat.reduceBEq, Nat.reduceAdd]; rfl)
              · skip
                replace hx3 := ite_r hx3 (by first | simpa using hc8 | (simp at hc8 ⊢; omega) | (simp at hc8 ⊢; grind) | grind)
                refine .exit ?_
                refine ⟨_, ?_, (Option.some.inj hx3).symm⟩
                refine Goes.mv [9, 10, 17, 18] [20, 29, 30, 31] [] ?_ (Nat.le_of_ble_eq_true rfl) (Nat.le_of_ble_eq_true rfl) rfl
                first | rfl | (simp only [go_sem, Nat.reduceBEq, Nat.reduceAdd]; done) | (simp only [go_sem, Nat.reduceBEq, Nat.reduceAdd]; rfl)
            · skip
              rintro n8 hj3
              subst x3
              try dsimp only at h
              simp only [Try.St_towncrierlaw08_AttemptTells_7]
              obtain ⟨x4, hx4, h⟩ := bind_some h
              refine .seqM 32 (fun (j : Bool) => Try.St_towncrierlaw08_AttemptTells_11 v1 j) (fun j => x4 = j) (Nat.le_of_ble_eq_true rfl) ?_ ?_
              · skip
                refine .seq ?_
                refine .plain Try.tmOk Try.tmMixed [9, 10, 17, 18] (by decide +kernel) (by intro q hq; simp only [go_sem, Nat.reduceSub, Int.reduceEq, Nat.reduceLT, Nat.reduceDiv, Nat.reduceAdd, Nat.reduceBEq, Nat.reduceLeDiff, reduceCtorEq, Nat.reduceEqDiff, Nat.reduceMod, appendD]; exact hq) (by first | rfl | (simp only [go_sem, Nat.reduceLeDiff]; done) | (simp only [go_sem, Nat.reduceLeDiff]; rfl) | (simp; done) | (simp [oneD] <;> omega) | (simp_all; done) | (simp_all [oneD] <;> omega)) (by first | exact Nat.le_refl _ | exact Nat.le_of_ble_eq_true rfl | (dsimp only; omega) | (simp <;> omega)) ?_
                refine .block ?_
                refine .loopG 32 (fun (j : Nat × Bool × Int) => Try.St_towncrierlaw08_AttemptTells_13 v1 n1 n2 l1 s1 s2 l2 l3 n8 j.2.1 j.2.2) (fun j => m_towncrierlaw08_AttemptTells_loop3 s2 l2 n8 j.1 j.2.1 j.2.2 = some x4) (fun j => j.1) (l2.length + 1, (s2 == wish), 0) (Nat.le_of_ble_eq_true rfl) ?_ hx4 ?_
                · skip
                  refine Goes.mv [9, 10, 17, 18, 20] [20, 29, 30, 31] [(29, 32), (30, 33), (31, 34)] ?_ (Nat.le_of_ble_eq_true rfl) (Nat.le_of_ble_eq_true rfl) rfl
                  first | rfl | (simp only [go_sem, Nat.reduceBEq, Nat.reduceAdd]; done) | (simp only [go_sem, Nat.reduceBEq, Nat.reduceAdd]; rfl)
                rintro ⟨fu2, b2, n11⟩ hx4
                simp only [Try.St_towncrierlaw08_AttemptTells_13]
                try simp only at hx4
                obtain ⟨fu2, rfl⟩ : ∃ k, fu2 = k + 1 := by cases fu2 with | zero => (rw [m_towncrierlaw08_AttemptTells_loop3] at hx4; cases hx4) | succ k => exact ⟨k, rfl⟩
                rw [m_towncrierlaw08_AttemptTells_loop3] at hx4
                refine .seq ?_
                refine .seq ?_
                refine .reg Try.tmOk Try.tmMixed [9, 10, 17, 18, 20] (by decide +kernel) ?_
                refine .RN 6 (dr := false) (.inr fun _ _ _ h => ⟨nofun, h.2⟩) (by intro q hq; simp only [go_sem, Nat.reduceSub, Int.reduceEq, Nat.reduceLT, Nat.reduceDiv, Nat.reduceAdd, Nat.reduceBEq, Nat.reduceLeDiff, reduceCtorEq, Nat.reduceEqDiff, Nat.reduceMod, appendD, Try.tm_3, Try.tm_23, Try.tm_26, TAttempt.d, TPromise.d]; exact hq) (by first | rfl | (simp only [go_sem, Nat.reduceLeDiff]; done) | (simp only [go_sem, Nat.reduceLeDiff]; rfl) | (simp; done) | (simp [oneD] <;> omega) | (simp_all; done) | (simp_all [oneD] <;> omega)) (by first | exact Nat.le_refl _ | exact Nat.le_of_ble_eq_true rfl | (dsimp only; omega) | (simp <;> omega)) ?_
                refine .RN 3 (dr := false) (.inr fun _ _ _ h => ⟨nofun, h.2⟩) (by intro q hq; simp only [go_sem, Nat.reduceSub, Int.reduceEq, Nat.reduceLT, Nat.reduceDiv, Nat.reduceAdd, Nat.reduceBEq, Nat.reduceLeDiff, reduceCtorEq, Nat.reduceEqDiff, Nat.reduceMod, appendD, Try.tm_3, TAttempt.d, TPromise.d]; exact hq) (by first | rfl | (simp only [go_sem, Nat.reduceLeDiff]; done) | (simp only [go_sem, Nat.reduceLeDiff]; rfl) | (simp; done) | (simp [oneD] <;> omega) | (simp_all; done) | (simp_all [oneD] <;> omega)) (by first | exact Nat.le_refl _ | exact Nat.le_of_ble_eq_true rfl | (dsimp only; omega) | (simp <;> omega)) ?_
                refine .nil ⟨nofun, ?_⟩
                refine .cond rfl rfl (fun hc9 => ?_) (fun hc9 => ?_)
                · skip
                  replace hx4 := ite_l hx4 (by first | simpa using hc9 | (simp at hc9 ⊢; omega) | (simp at hc9 ⊢; grind) | grind)
                  refine .skip ?_
                  obtain ⟨k2, hx4⟩ := ite_ck hx4
                  obtain ⟨k3, hx4⟩ := ite_ck hx4
                  refine .seqM 35 (fun (_ : Unit) => ⟨[(9, .bool v1), (10, .ptr 20 0), (17, .int .i64 n8), (18, .bool (((decide (n11 > 0)) && b2) || (((l2.getD n11.toNat default).Ballot == n8) && ((l2.getD n11.toNat default).Value == s2)))), (20, .int .i64 n11)], [(20, .box [.int .u8 n1, .int .i64 n2, .ref 32 1 0 l1.length (some unkC), .str s1, .str s2, .ref 33 3 0 l2.length (some unkC), .ref 34 1 0 l3.length (some unkC)]), (32, .arr 3 1 true (l1.map (D.int .i64))), (33, .arr 31 3 true (l2.map TPromise.d)), (34, .arr 3 1 true (l3.map (D.int .i64)))], 35⟩) (fun _ => True) (Nat.le_of_ble_eq_true rfl) ?_ (fun _ _ => ?_)
                  · skip
                    by_cases hgd : ¬ ((n11 > 0) ∧ (b2 = true))
                    · skip
                      have eg10 := nth_mapI TPromise.d l2 n11 (k2 hgd)
                      by_cases hgd : (¬ ((n11 > 0) ∧ (b2 = true))) ∧ ((l2.getD n11.toNat default).Ballot = n8)
                      · skip
                        have eg20 := nth_mapI TPromise.d l2 n11 (k3 hgd)
                        refine .block ?_
                        refine .reg Try.tmOk Try.tmMixed [9, 10, 17, 18, 20] (by decide +kernel) ?_
                        refine .RN 6 (dr := true) (.inl rfl) (by intro q hq; simp only [go_sem, Nat.reduceSub, Int.reduceEq, Nat.reduceLT, Nat.reduceDiv, Nat.reduceAdd, Nat.reduceBEq, Nat.reduceLeDiff, reduceCtorEq, Nat.reduceEqDiff, Nat.reduceMod, appendD, Try.tm_3, eg10, eg20, TAttempt.d, TPromise.d]; exact hq) (by first | rfl | (simp only [go_sem, Nat.reduceLeDiff]; done) | (simp only [go_sem, Nat.reduceLeDiff]; rfl) | (simp; done) | (simp [oneD] <;> omega) | (simp_all; done) | (simp_all [oneD] <;> omega)) (by first | exact Nat.le_refl _ | exact Nat.le_of_ble_eq_true rfl | (dsimp only; omega) | (simp <;> omega)) ?_
                        refine .RN 6 (dr := true) (.inl rfl) (by intro q hq; simp only [go_sem, Nat.reduceSub, Int.reduceEq, Nat.reduceLT, Nat.reduceDiv, Nat.reduceAdd, Nat.reduceBEq, Nat.reduceLeDiff, reduceCtorEq, Nat.reduceEqDiff, Nat.reduceMod, appendD, Try.tm_3, Try.tm_23, Try.tm_26, Try.tm_31, eg10, eg20, TAttempt.d, TPromise.d]; exact hq) (by first | rfl | (simp only [go_sem, Nat.reduceLeDiff]; done) | (simp only [go_sem, Nat.reduceLeDiff]; rfl) | (simp; done) | (simp [oneD] <;> omega) | (simp_all; done) | (simp_all [oneD] <;> omega)) (by first | exact Nat.le_refl _ | exact Nat.le_of_ble_eq_true rfl | (dsimp only; omega) | (simp <;> omega)) ?_
                        refine .RN 6 (dr := true) (.inl rfl) (by intro q hq; simp only [go_sem, Nat.reduceSub, Int.reduceEq, Nat.reduceLT, Nat.reduceDiv, Nat.reduceAdd, Nat.reduceBEq, Nat.reduceLeDiff, reduceCtorEq, Nat.reduceEqDiff, Nat.reduceMod, appendD, Try.tm_3, Try.tm_23, Try.tm_26, eg10, eg20, TAttempt.d, TPromise.d]; exact hq) (by first | rfl | (simp only [go_sem, Nat.reduceLeDiff]; done) | (simp only [go_sem, Nat.reduceLeDiff]; rfl) | (simp; done) | (simp [oneD] <;> omega) | (simp_all; done) | (simp_all [oneD] <;> omega)) (by first | exact Nat.le_refl _ | exact Nat.le_of_ble_eq_true rfl | (dsimp only; omega) | (simp <;> omega)) ?_
                        refine .RN 6 (dr := true) (.inl rfl) (by intro q hq; simp only [go_sem, Nat.reduceSub, Int.reduceEq, Nat.reduceLT, Nat.reduceDiv, Nat.reduceAdd, Nat.reduceBEq, Nat.reduceLeDiff, reduceCtorEq, Nat.reduceEqDiff, Nat.reduceMod, appendD, Try.tm_9, Try.tm_23, Try.tm_26, Try.tm_31, eg10, eg20, TAttempt.d, TPromise.d]; exact hq) (by first | rfl | (simp only [go_sem, Nat.reduceLeDiff]; done) | (simp only [go_sem, Nat.reduceLeDiff]; rfl) | (simp; done) | (simp [oneD] <;> omega) | (simp_all; done) | (simp_all [oneD] <;> omega)) (by first | exact Nat.le_refl _ | exact Nat.le_of_ble_eq_true rfl | (dsimp only; omega) | (simp <;> omega)) ?_
                        refine .RN 3 (dr := true) (.inl rfl) (by intro q hq; simp only [go_sem, Nat.reduceSub, Int.reduceEq, Nat.reduceLT, Nat.reduceDiv, Nat.reduceAdd, Nat.reduceBEq, Nat.reduceLeDiff, reduceCtorEq, Nat.reduceEqDiff, Nat.reduceMod, appendD, eg10, eg20, TAttempt.d, TPromise.d]; exact hq) (by first | rfl | (simp only [go_sem, Nat.reduceLeDiff]; done) | (simp only [go_sem, Nat.reduceLeDiff]; rfl) | (simp; done) | (simp [oneD] <;> omega) | (simp_all; done) | (simp_all [oneD] <;> omega)) (by first | exact Nat.le_refl _ | exact Nat.le_of_ble_eq_true rfl | (dsimp only; omega) | (simp <;> omega)) ?_
                        refine .nil ⟨fun _ => schedB_of (by kernel_rfl), ?_⟩
                        refine ⟨(), ?_, trivial⟩
                        refine Goes.mv [9, 10, 17, 18, 20] [20, 32, 33, 34] [] ?_ (Nat.le_of_ble_eq_true rfl) (Nat.le_of_ble_eq_true rfl) rfl
                        first | rfl | (simp only [go_sem, Nat.reduceBEq, Nat.reduceAdd]; done) | (simp only [go_sem, Nat.reduceBEq, Nat.reduceAdd]; rfl)
                      · skip
                        have hgf2 : ((!((decide (n11 > 0)) && b2)) && ((l2.getD n11.toNat default).Ballot == n8)) = false := by first | simpa using hgd | (simp at hgd ⊢; omega) | grind
                        rcases nth_or TPromise.d l2 n11.toNat with eg20 | eg20
                        · skip
                          refine .block ?_
                          refine .reg Try.tmOk Try.tmMixed [9, 10, 17, 18, 20] (by decide +kernel) ?_
                          refine .RN 6 (dr := true) (.inl rfl) (by intro q hq; simp only [go_sem, Nat.reduceSub, Int.reduceEq, Nat.reduceLT, Nat.reduceDiv, Nat.reduceAdd, Nat.reduceBEq, Nat.reduceLeDiff, reduceCtorEq, Nat.reduceEqDiff, Nat.reduceMod, appendD, Try.tm_3, eg10, eg20, hgf2, TAttempt.d, TPromise.d]; exact hq) (by first | rfl | (simp only [go_sem, Nat.reduceLeDiff]; done) | (simp only [go_sem, Nat.reduceLeDiff]; rfl) | (simp; done) | (simp [oneD] <;> omega) | (simp_all; done) | (simp_all [oneD] <;> omega)) (by first | exact Nat.le_refl _ | exact Nat.le_of_ble_eq_true rfl | (dsimp only; omega) | (simp <;> omega)) ?_
                          refine .RN 6 (dr := true) (.inl rfl) (by intro q hq; simp only [go_sem, Nat.reduceSub, Int.reduceEq, Nat.reduceLT, Nat.reduceDiv, Nat.reduceAdd, Nat.reduceBEq, Nat.reduceLeDiff, reduceCtorEq, Nat.reduceEqDiff, Nat.reduceMod, appendD, Try.tm_3, Try.tm_23, Try.tm_26, Try.tm_31, eg10, eg20, hgf2, TAttempt.d, TPromise.d]; exact hq) (by first | rfl | (simp only [go_sem, Nat.reduceLeDiff]; done) | (simp only [go_sem, Nat.reduceLeDiff]; rfl) | (simp; done) | (simp [oneD] <;> omega) | (simp_all; done) | (simp_all [oneD] <;> omega)) (by first | exact Nat.le_refl _ | exact Nat.le_of_ble_eq_true rfl | (dsimp only; omega) | (simp <;> omega)) ?_
                          refine .RN 6 (dr := true) (.inl rfl) (by intro q hq; simp only [go_sem, Nat.reduceSub, Int.reduceEq, Nat.reduceLT, Nat.reduceDiv, Nat.reduceAdd, Nat.reduceBEq, Nat.reduceLeDiff, reduceCtorEq, Nat.reduceEqDiff, Nat.reduceMod, appendD, Try.tm_3, Try.tm_23, Try.tm_26, eg10, eg20, hgf2, TAttempt.d, TPromise.d]; exact hq) (by first | rfl | (simp only [go_sem, Nat.reduceLeDiff]; done) | (simp only [go_sem, Nat.reduceLeDiff]; rfl) | (simp; done) | (simp [oneD] <;> omega) | (simp_all; done) | (simp_all [oneD] <;> omega)) (by first | exact Nat.le_refl _ | exact Nat.le_of_ble_eq_true rfl | (dsimp only; omega) | (simp <;> omega)) ?_
                          refine .RN 6 (dr := true) (.inl rfl) (by intro q hq; simp only [go_sem, Nat.reduceSub, Int.reduceEq, Nat.reduceLT, Nat.reduceDiv, Nat.reduceAdd, Nat.reduceBEq, Nat.reduceLeDiff, reduceCtorEq, Nat.reduceEqDiff, Nat.reduceMod, appendD, Try.tm_9, Try.tm_23, Try.tm_26, Try.tm_31, eg10, eg20, hgf2, TAttempt.d, TPromise.d]; exact hq) (by first | rfl | (simp only [go_sem, Nat.reduceLeDiff]; done) | (simp only [go_sem, Nat.reduceLeDiff]; rfl) | (simp; done) | (simp [oneD] <;> omega) | (simp_all; done) | (simp_all [oneD] <;> omega)) (by first | exact Nat.le_refl _ | exact Nat.le_of_ble_eq_true rfl | (dsimp only; omega) | (simp <;> omega)) ?_
                          refine .RN 3 (dr := true) (.inl rfl) (by intro q hq; simp only [go_sem, Nat.reduceSub, Int.reduceEq, Nat.reduceLT, Nat.reduceDiv, Nat.reduceAdd, Nat.reduceBEq, Nat.reduceLeDiff, reduceCtorEq, Nat.reduceEqDiff, Nat.reduceMod, appendD, eg10, eg20, hgf2, TAttempt.d, TPromise.d]; exact hq) (by first | rfl | (simp only [go_sem, Nat.reduceLeDiff]; done) | (simp only [go_sem, Nat.reduceLeDiff]; rfl) | (simp; done) | (simp [oneD] <;> omega) | (simp_all; done) | (simp_all [oneD] <;> omega)) (by first | exact Nat.le_refl _ | exact Nat.le_of_ble_eq_true rfl | (dsimp only; omega) | (simp <;> omega)) ?_
                          refine .nil ⟨fun _ => schedB_of (by kernel_rfl), ?_⟩
                          refine ⟨(), ?_, trivial⟩
                          refine Goes.mv [9, 10, 17, 18, 20] [20, 32, 33, 34] [] ?_ (Nat.le_of_ble_eq_true rfl) (Nat.le_of_ble_eq_true rfl) rfl
                          first | rfl | (simp only [hgf2, go_sem, Nat.reduceBEq, Nat.reduceAdd, Bool.false_and, Bool.true_or, Bool.and_false]; done) | (simp only [hgf2, go_sem, Nat.reduceBEq, Nat.reduceAdd, Bool.false_and, Bool.true_or, Bool.and_false]; rfl)
                        · skip
                          refine .block ?_
                          refine .reg Try.tmOk Try.tmMixed [9, 10, 17, 18, 20] (by decide +kernel) ?_
                          refine .RN 6 (dr := true) (.inl rfl) (by intro q hq; simp only [go_sem, Nat.reduceSub, Int.reduceEq, Nat.reduceLT, Nat.reduceDiv, Nat.reduceAdd, Nat.reduceBEq, Nat.reduceLeDiff, reduceCtorEq, Nat.reduceEqDiff, Nat.reduceMod, appendD, Try.tm_3, eg10, eg20, hgf2, TAttempt.d, TPromise.d]; exact hq) (by first | rfl | (simp only [go_sem, Nat.reduceLeDiff]; done) | (simp only [go_sem, Nat.reduceLeDiff]; rfl) | (simp; done) | (simp [oneD] <;> omega) | (simp_all; done) | (simp_all [oneD] <;> omega)) (by first | exact Nat.le_refl _ | exact Nat.le_of_ble_eq_true rfl | (dsimp only; omega) | (simp <;> omega)) ?_
                          refine .RN 6 (dr := true) (.inl rfl) (by intro q hq; simp only [go_sem, Nat.reduceSub, Int.reduceEq, Nat.reduceLT, Nat.reduceDiv, Nat.reduceAdd, Nat.reduceBEq, Nat.reduceLeDiff, reduceCtorEq, Nat.reduceEqDiff, Nat.reduceMod, appendD, Try.tm_3, Try.tm_23, Try.tm_26, Try.tm_31, eg10, eg20, hgf2, TAttempt.d, TPromise.d]; exact hq) (by first | rfl | (simp only [go_sem, Nat.reduceLeDiff]; done) | (simp only [go_sem, Nat.reduceLeDiff]; rfl) | (simp; done) | (simp [oneD] <;> omega) | (simp_all; done) | (simp_all [oneD] <;> omega)) (by first | exact Nat.le_refl _ | exact Nat.le_of_ble_eq_true rfl | (dsimp only; omega) | (simp <;> omega)) ?_
                          refine .RN 6 (dr := true) (.inl rfl) (by intro q hq; simp only [go_sem, Nat.reduceSub, Int.reduceEq, Nat.reduceLT, Nat.reduceDiv, Nat.reduceAdd, Nat.reduceBEq, Nat.reduceLeDiff, reduceCtorEq, Nat.reduceEqDiff, Nat.reduceMod, appendD, Try.tm_3, Try.tm_23, Try.tm_26, eg10, eg20, hgf2, TAttempt.d, TPromise.d]; exact hq) (by first | rfl | (simp only [go_sem, Nat.reduceLeDiff]; done) | (simp only [go_sem, Nat.reduceLeDiff]; rfl) | (simp; done) | (simp [oneD] <;> omega) | (simp_all; done) | (simp_all [oneD] <;> omega)) (by first | exact Nat.le_refl _ | exact Nat.le_of_ble_eq_true rfl | (dsimp only; omega) | (simp <;> omega)) ?_
                          refine .RN 6 (dr := true) (.inl rfl) (by intro q hq; simp only [go_sem, Nat.reduceSub, Int.reduceEq, Nat.reduceLT, Nat.reduceDiv, Nat.reduceAdd, Nat.reduceBEq, Nat.reduceLeDiff, reduceCtorEq, Nat.reduceEqDiff, Nat.reduceMod, appendD, Try.tm_9, Try.tm_23, Try.tm_26, Try.tm_31, eg10, eg20, hgf2, TAttempt.d, TPromise.d]; exact hq) (by first | rfl | (simp only [go_sem, Nat.reduceLeDiff]; done) | (simp only [go_sem, Nat.reduceLeDiff]; rfl) | (simp; done) | (simp [oneD] <;> omega) | (simp_all; done) | (simp_all [oneD] <;> omega)) (by first | exact Nat.le_refl _ | exact Nat.le_of_ble_eq_true rfl | (dsimp only; omega) | (simp <;> omega)) ?_
                          refine .RN 3 (dr := true) (.inl rfl) (by intro q hq; simp only [go_sem, Nat.reduceSub, Int.reduceEq, Nat.reduceLT, Nat.reduceDiv, Nat.reduceAdd, Nat.reduceBEq, Nat.reduceLeDiff, reduceCtorEq, Nat.reduceEqDiff, Nat.reduceMod, appendD, eg10, eg20, hgf2, TAttempt.d, TPromise.d]; exact hq) (by first | rfl | (simp only [go_sem, Nat.reduceLeDiff]; done) | (simp only [go_sem, Nat.reduceLeDiff]; rfl) | (simp; done) | (simp [oneD] <;> omega) | (simp_all; done) | (simp_all [oneD] <;> omega)) (by first | exact Nat.le_refl _ | exact Nat.le_of_ble_eq_true rfl | (dsimp only; omega) | (simp <;> omega)) ?_
                          refine .nil ⟨fun _ => schedB_of (by kernel_rfl), ?_⟩
                          refine ⟨(), ?_, trivial⟩
                          refine Goes.mv [9, 10, 17, 18, 20] [20, 32, 33, 34] [] ?_ (Nat.le_of_ble_eq_true rfl) (Nat.le_of_ble_eq_true rfl) rfl
                          first | rfl | (simp only [hgf2, go_sem, Nat.reduceBEq, Nat.reduceAdd, Bool.false_and, Bool.true_or, Bool.and_false]; done) | (simp only [hgf2, go_sem, Nat.reduceBEq, Nat.reduceAdd, Bool.false_and, Bool.true_or, Bool.and_false]; rfl)
                    · skip
                      have hgf1 : (!((decide (n11 > 0)) && b2)) = false := by first | simpa using hgd | (simp at hgd ⊢; omega) | grind
                      have hgf1t : ((decide (n11 > 0)) && b2) = true := by simpa using hgf1
                      rcases nth_or TPromise.d l2 n11.toNat with eg10 | eg10
                      · skip
                        by_cases hgd : (¬ ((n11 > 0) ∧ (b2 = true))) ∧ ((l2.getD n11.toNat default).Ballot = n8)
                        · skip
                          have eg30 := nth_mapI TPromise.d l2 n11 (k3 hgd)
                          refine .block ?_
                          refine .reg Try.tmOk Try.tmMixed [9, 10, 17, 18, 20] (by decide +kernel) ?_
                          refine .RN 6 (dr := true) (.inl rfl) (by intro q hq; simp only [go_sem, Nat.reduceSub, Int.reduceEq, Nat.reduceLT, Nat.reduceDiv, Nat.reduceAdd, Nat.reduceBEq, Nat.reduceLeDiff, reduceCtorEq, Nat.reduceEqDiff, Nat.reduceMod, appendD, Try.tm_3, eg10, hgf1, hgf1t, eg30, TAttempt.d, TPromise.d]; exact hq) (by first | rfl | (simp only [go_sem, Nat.reduceLeDiff]; done) | (simp only [go_sem, Nat.reduceLeDiff]; rfl) | (simp; done) | (simp [oneD] <;> omega) | (simp_all; done) | (simp_all [oneD] <;> omega)) (by first | exact Nat.le_refl _ | exact Nat.le_of_ble_eq_true rfl | (dsimp only; omega) | (simp <;> omega)) ?_
                          refine .RN 6 (dr := true) (.inl rfl) (by intro q hq; simp only [go_sem, Nat.reduceSub, Int.reduceEq, Nat.reduceLT, Nat.reduceDiv, Nat.reduceAdd, Nat.reduceBEq, Nat.reduceLeDiff, reduceCtorEq, Nat.reduceEqDiff, Nat.reduceMod, appendD, Try.tm_3, Try.tm_23, Try.tm_26, Try.tm_31, eg10, hgf1, hgf1t, eg30, TAttempt.d, TPromise.d]; exact hq) (by first | rfl | (simp only [go_sem, Nat.reduceLeDiff]; done) | (simp only [go_sem, Nat.reduceLeDiff]; rfl) | (simp; done) | (simp [oneD] <;> omega) | (simp_all; done) | (simp_all [oneD] <;> omega)) (by first | exact Nat.le_refl _ | exact Nat.le_of_ble_eq_true rfl | (dsimp only; omega) | (simp <;> omega)) ?_
                          refine .RN 6 (dr := true) (.inl rfl) (by intro q hq; simp only [go_sem, Nat.reduceSub, Int.reduceEq, Nat.reduceLT, Nat.reduceDiv, Nat.reduceAdd, Nat.reduceBEq, Nat.reduceLeDiff, reduceCtorEq, Nat.reduceEqDiff, Nat.reduceMod, appendD, Try.tm_3, Try.tm_23, Try.tm_26, eg10, hgf1, hgf1t, eg30, TAttempt.d, TPromise.d]; exact hq) (by first | rfl | (simp only [go_sem, Nat.reduceLeDiff]; done) | (simp only [go_sem, Nat.reduceLeDiff]; rfl) | (simp; done) | (simp [oneD] <;> omega) | (simp_all; done) | (simp_all [oneD] <;> omega)) (by first | exact Nat.le_refl _ | exact Nat.le_of_ble_eq_true rfl | (dsimp only; omega) | (simp <;> omega)) ?_
                          refine .RN 6 (dr := true) (.inl rfl) (by intro q hq; simp only [go_sem, Nat.reduceSub, Int.reduceEq, Nat.reduceLT, Nat.reduceDiv, Nat.reduceAdd, Nat.reduceBEq, Nat.reduceLeDiff, reduceCtorEq, Nat.reduceEqDiff, Nat.reduceMod, appendD, Try.tm_9, Try.tm_23, Try.tm_26, Try.tm_31, eg10, hgf1, hgf1t, eg30, TAttempt.d, TPromise.d]; exact hq) (by first | rfl | (simp only [go_sem, Nat.reduceLeDiff]; done) | (simp only [go_sem, Nat.reduceLeDiff]; rfl) | (simp; done) | (simp [oneD] <;> omega) | (simp_all; done) | (simp_all [oneD] <;> omega)) (by first | exact Nat.le_refl _ | exact Nat.le_of_ble_eq_true rfl | (dsimp only; omega) | (simp <;> omega)) ?_
                          refine .RN 3 (dr := true) (.inl rfl) (by intro q hq; simp only [go_sem, Nat.reduceSub, Int.reduceEq, Nat.reduceLT, Nat.reduceDiv, Nat.reduceAdd, Nat.reduceBEq, Nat.reduceLeDiff, reduceCtorEq, Nat.reduceEqDiff, Nat.reduceMod, appendD, eg10, hgf1, hgf1t, eg30, TAttempt.d, TPromise.d]; exact hq) (by first | rfl | (simp only [go_sem, Nat.reduceLeDiff]; done) | (simp only [go_sem, Nat.reduceLeDiff]; rfl) | (simp; done) | (simp [oneD] <;> omega) | (simp_all; done) | (simp_all [oneD] <;> omega)) (by first | exact Nat.le_refl _ | exact Nat.le_of_ble_eq_true rfl | (dsimp only; omega) | (simp <;> omega)) ?_
                          refine .nil ⟨fun _ => schedB_of (by kernel_rfl), ?_⟩
                          refine ⟨(), ?_, trivial⟩
                          refine Goes.mv [9, 10, 17, 18, 20] [20, 32, 33, 34] [] ?_ (Nat.le_of_ble_eq_true rfl) (Nat.le_of_ble_eq_true rfl) rfl
                          first | rfl | (simp only [hgf1, hgf1t, go_sem, Nat.reduceBEq, Nat.reduceAdd, Bool.false_and, Bool.true_or, Bool.and_false]; done) | (simp only [hgf1, hgf1t, go_sem, Nat.reduceBEq, Nat.reduceAdd, Bool.false_and, Bool.true_or, Bool.and_false]; rfl)
                        · skip
                          have hgf3 : ((!((decide (n11 > 0)) && b2)) && ((l2.getD n11.toNat default).Ballot == n8)) = false := by first | simpa using hgd | (simp at hgd ⊢; omega) | grind
                          rcases nth_or TPromise.d l2 n11.toNat with eg30 | eg30
                          · skip
                            refine .block ?_
                            refine .reg Try.tmOk Try.tmMixed [9, 10, 17, 18, 20] (by decide +kernel) ?_
                            refine .RN 6 (dr := true) (.inl rfl) (by intro q hq; simp only [go_sem, Nat.reduceSub, Int.reduceEq, Nat.reduceLT, Nat.reduceDiv, Nat.reduceAdd, Nat.reduceBEq, Nat.reduceLeDiff, reduceCtorEq, Nat.reduceEqDiff, Nat.reduceMod, appendD, Try.tm_3, eg10, hgf1, hgf1t, eg30, hgf3, TAttempt.d, TPromise.d]; exact hq) (by first | rfl | (simp only [go_sem, Nat.reduceLeDiff]; done) | (simp only [go_sem, Nat.reduceLeDiff]; rfl) | (simp; done) | (simp [oneD] <;> omega) | (simp_all; done) | (simp_all [oneD] <;> omega)) (by first | exact Nat.le_refl _ | exact Nat.le_of_ble_eq_true rfl | (dsimp only; omega) | (simp <;> omega)) ?_
                            refine .RN 6 (dr := true) (.inl rfl) (by intro q hq; simp only [go_sem, Nat.reduceSub, Int.reduceEq, Nat.reduceLT, Nat.reduceDiv, Nat.reduceAdd, Nat.reduceBEq, Nat.reduceLeDiff, reduceCtorEq, Nat.reduceEqDiff, Nat.reduceMod, appendD, Try.tm_3, Try.tm_23, Try.tm_26, Try.tm_31, eg10, hgf1, hgf1t, eg30, hgf3, TAttempt.d, TPromise.d]; exact hq) (by first | rfl | (simp only [go_sem, Nat.reduceLeDiff]; done) | (simp only [go_sem, Nat.reduceLeDiff]; rfl) | (simp; done) | (simp [oneD] <;> omega) | (simp_all; done) | (simp_all [oneD] <;> omega)) (by first | exact Nat.le_refl _ | exact Nat.le_of_ble_eq_true rfl | (dsimp only; omega) | (simp <;> omega)) ?_
                            refine .RN 6 (dr := true) (.inl rfl) (by intro q hq; simp only [go_sem, Nat.reduceSub, Int.reduceEq, Nat.reduceLT, Nat.reduceDiv, Nat.reduceAdd, Nat.reduceBEq, Nat.reduceLeDiff, reduceCtorEq, Nat.reduceEqDiff, Nat.reduceMod, appendD, Try.tm_3, Try.tm_23, Try.tm_26, eg10, hgf1, hgf1t, eg30, hgf3, TAttempt.d, TPromise.d]; exact hq) (by first | rfl | (simp only [go_sem, Nat.reduceLeDiff]; done) | (simp only [go_sem, Nat.reduceLeDiff]; rfl) | (simp; done) | (simp [oneD] <;> omega) | (simp_all; done) | (simp_all [oneD] <;> omega)) (by first | exact Nat.le_refl _ | exact Nat.le_of_ble_eq_true rfl | (dsimp only; omega) | (simp <;> omega)) ?_
                            refine .RN 6 (dr := true) (.inl rfl) (by intro q hq; simp only [go_sem, Nat.reduceSub, Int.reduceEq, Nat.reduceLT, Nat.reduceDiv, Nat.reduceAdd, Nat.reduceBEq, Nat.reduceLeDiff, reduceCtorEq, Nat.reduceEqDiff, Nat.reduceMod, appendD, Try.tm_9, Try.tm_23, Try.tm_26, Try.tm_31, eg10, hgf1, hgf1t, eg30, hgf3, TAttempt.d, TPromise.d]; exact hq) (by first | rfl | (simp only [go_sem, Nat.reduceLeDiff]; done) | (simp only [go_sem, Nat.reduceLeDiff]; rfl) | (simp; done) | (simp [oneD] <;> omega) | (simp_all; done) | (simp_all [oneD] <;> omega)) (by first | exact Nat.le_refl _ | exact Nat.le_of_ble_eq_true rfl | (dsimp only; omega) | (simp <;> omega)) ?_
                            refine .RN 3 (dr := true) (.inl rfl) (by intro q hq; simp only [go_sem, Nat.reduceSub, Int.reduceEq, Nat.reduceLT, Nat.reduceDiv, Nat.reduceAdd, Nat.reduceBEq, Nat.reduceLeDiff, reduceCtorEq, Nat.reduceEqDiff, Nat.reduceMod, appendD, eg10, hgf1, hgf1t, eg30, hgf3, TAttempt.d, TPromise.d]; exact hq) (by first | rfl | (simp only [go_sem, Nat.reduceLeDiff]; done) | (simp only [go_sem, Nat.reduceLeDiff]; rfl) | (simp; done) | (simp [oneD] <;> omega) | (simp_all; done) | (simp_all [oneD] <;> omega)) (by first | exact Nat.le_refl _ | exact Nat.le_of_ble_eq_true rfl | (dsimp only; omega) | (simp <;> omega)) ?_
                            refine .nil ⟨fun _ => schedB_of (by kernel_rfl), ?_⟩
                            refine ⟨(), ?_, trivial⟩
                            refine Goes.mv [9, 10, 17, 18, 20] [20, 32, 33, 34] [] ?_ (Nat.le_of_ble_eq_true rfl) (Nat.le_of_ble_eq_true rfl) rfl
                            first | rfl | (simp only [hgf1, hgf1t, hgf3, go_sem, Nat.reduceBEq, Nat.reduceAdd, Bool.false_and, Bool.true_or, Bool.and_false]; done) | (simp only [hgf1, hgf1t, hgf3, go_sem, Nat.reduceBEq, Nat.reduceAdd, Bool.false_and, Bool.true_or, Bool.and_false]; rfl)
                          · skip
                            refine .block ?_
                            refine .reg Try.tmOk Try.tmMixed [9, 10, 17, 18, 20] (by decide +kernel) ?_
                            refine .RN 6 (dr := true) (.inl rfl) (by intro q hq; simp only [go_sem, Nat.reduceSub, Int.reduceEq, Nat.reduceLT, Nat.reduceDiv, Nat.reduceAdd, Nat.reduceBEq, Nat.reduceLeDiff, reduceCtorEq, Nat.reduceEqDiff, Nat.reduceMod, appendD, Try.tm_3, eg10, hgf1, hgf1t, eg30, hgf3, TAttempt.d, TPromise.d]; exact hq) (by first | rfl | (simp only [go_sem, Nat.reduceLeDiff]; done) | (simp only [go_sem, Nat.reduceLeDiff]; rfl) | (simp; done) | (simp [oneD] <;> omega) | (simp_all; done) | (simp_all [oneD] <;> omega)) (by first | exact Nat.le_refl _ | exact Nat.le_of_ble_eq_true rfl | (dsimp only; omega) | (simp <;> omega)) ?_
                            refine .RN 6 (dr := true) (.inl rfl) (by intro q hq; simp only [go_sem, Nat.reduceSub, Int.reduceEq, Nat.reduceLT, Nat.reduceDiv, Nat.reduceAdd, Nat.reduceBEq, Nat.reduceLeDiff, reduceCtorEq, Nat.reduceEqDiff, Nat.reduceMod, appendD, Try.tm_3, Try.tm_23, Try.tm_26, Try.tm_31, eg10, hgf1, hgf1t, eg30, hgf3, TAttempt.d, TPromise.d]; exact hq) (by first | rfl | (simp only [go_sem, Nat.reduceLeDiff]; done) | (simp only [go_sem, Nat.reduceLeDiff]; rfl) | (simp; done) | (simp [oneD] <;> omega) | (simp_all; done) | (simp_all [oneD] <;> omega)) (by first | exact Nat.le_refl _ | exact Nat.le_of_ble_eq_true rfl | (dsimp only; omega) | (simp <;> omega)) ?_
                            refine .RN 6 (dr := true) (.inl rfl) (by intro q hq; simp only [go_sem, Nat.reduceSub, Int.reduceEq, Nat.reduceLT, Nat.reduceDiv, Nat.reduceAdd, Nat.reduceBEq, Nat.reduceLeDiff, reduceCtorEq, Nat.reduceEqDiff, Nat.reduceMod, appendD, Try.tm_3, Try.tm_23, Try.tm_26, eg10, hgf1, hgf1t, eg30, hgf3, TAttempt.d, TPromise.d]; exact hq) (by first | rfl | (simp only [go_sem, Nat.reduceLeDiff]; done) | (simp only [go_sem, Nat.reduceLeDiff]; rfl) | (simp; done) | (simp [oneD] <;> omega) | (simp_all; done) | (simp_all [oneD] <;> omega)) (by first | exact Nat.le_refl _ | exact Nat.le_of_ble_eq_true rfl | (dsimp only; omega) | (simp <;> omega)) ?_
                            refine .RN 6 (dr := true) (.inl rfl) (by intro q hq; simp only [go_sem, Nat.reduceSub, Int.reduceEq, Nat.reduceLT, Nat.reduceDiv, Nat.reduceAdd, Nat.reduceBEq, Nat.reduceLeDiff, reduceCtorEq, Nat.reduceEqDiff, Nat.reduceMod, appendD, Try.tm_9, Try.tm_23, Try.tm_26, Try.tm_31, eg10, hgf1, hgf1t, eg30, hgf3, TAttempt.d, TPromise.d]; exact hq) (by first | rfl | (simp only [go_sem, Nat.reduceLeDiff]; done) | (simp only [go_sem, Nat.reduceLeDiff]; rfl) | (simp; done) | (simp [oneD] <;> omega) | (simp_all; done) | (simp_all [oneD] <;> omega)) (by first | exact Nat.le_refl _ | exact Nat.le_of_ble_eq_true rfl | (dsimp only; omega) | (simp <;> omega)) ?_
                            refine .RN 3 (dr := true) (.inl rfl) (by intro q hq; simp only [go_sem, Nat.reduceSub, Int.reduceEq, Nat.reduceLT, Nat.reduceDiv, Nat.reduceAdd, Nat.reduceBEq, Nat.reduceLeDiff, reduceCtorEq, Nat.reduceEqDiff, Nat.reduceMod, appendD, eg10, hgf1, hgf1t, eg30, hgf3, TAttempt.d, TPromise.d]; exact hq) (by first | rfl | (simp only [go_sem, Nat.reduceLeDiff]; done) | (simp only [go_sem, Nat.reduceLeDiff]; rfl) | (simp; done) | (simp [oneD] <;> omega) | (simp_all; done) | (simp_all [oneD] <;> omega)) (by first | exact Nat.le_refl _ | exact Nat.le_of_ble_eq_true rfl | (dsimp only; omega) | (simp <;> omega)) ?_
                            refine .nil ⟨fun _ => schedB_of (by kernel_rfl), ?_⟩
                            refine ⟨(), ?_, trivial⟩
                            refine Goes.mv [9, 10, 17, 18, 20] [20, 32, 33, 34] [] ?_ (Nat.le_of_ble_eq_true rfl) (Nat.le_of_ble_eq_true rfl) rfl
                            first | rfl | (simp only [hgf1, hgf1t, hgf3, go_sem, Nat.reduceBEq, Nat.reduceAdd, Bool.false_and, Bool.true_or, Bool.and_false]; done) | (simp only [hgf1, hgf1t, hgf3, go_sem, Nat.reduceBEq, Nat.reduceAdd, Bool.false_and, Bool.true_or, Bool.and_false]; rfl)
                      · skip
                        by_cases hgd : (¬ ((n11 > 0) ∧ (b2 = true))) ∧ ((l2.getD n11.toNat default).Ballot = n8)
                        · skip
                          have eg40 := nth_mapI TPromise.d l2 n11 (k3 hgd)
                          refine .block ?_
                          refine .reg Try.tmOk Try.tmMixed [9, 10, 17, 18, 20] (by decide +kernel) ?_
                          refine .RN 6 (dr := true) (.inl rfl) (by intro q hq; simp only [go_sem, Nat.reduceSub, Int.reduceEq, Nat.reduceLT, Nat.reduceDiv, Nat.reduceAdd, Nat.reduceBEq, Nat.reduceLeDiff, reduceCtorEq, Nat.reduceEqDiff, Nat.reduceMod, appendD, Try.tm_3, eg10, hgf1, hgf1t, eg40, TAttempt.d, TPromise.d]; exact hq) (by first | rfl | (simp only [go_sem, Nat.reduceLeDiff]; done) | (simp only [go_sem, Nat.reduceLeDiff]; rfl) | (simp; done) | (simp [oneD] <;> omega) | (simp_all; done) | (simp_all [oneD] <;> omega)) (by first | exact Nat.le_refl _ | exact Nat.le_of_ble_eq_true rfl | (dsimp only; omega) | (simp <;> omega)) ?_
                          refine .RN 6 (dr := true) (.inl rfl) (by intro q hq; simp only [go_sem, Nat.reduceSub, Int.reduceEq, Nat.reduceLT, Nat.reduceDiv, Nat.reduceAdd, Nat.reduceBEq, Nat.reduceLeDiff, reduceCtorEq, Nat.reduceEqDiff, Nat.reduceMod, appendD, Try.tm_3, Try.tm_23, Try.tm_26, Try.tm_31, eg10, hgf1, hgf1t, eg40, TAttempt.d, TPromise.d]; exact hq) (by first | rfl | (simp only [go_sem, Nat.reduceLeDiff]; done) | (simp only [go_sem, Nat.reduceLeDiff]; rfl) | (simp; done) | (simp [oneD] <;> omega) | (simp_all; done) | (simp_all [oneD] <;> omega)) (by first | exact Nat.le_refl _ | exact Nat.le_of_ble_eq_true rfl | (dsimp only; omega) | (simp <;> omega)) ?_
                          refine .RN 6 (dr := true) (.inl rfl) (by intro q hq; simp only [go_sem, Nat.reduceSub, Int.reduceEq, Nat.reduceLT, Nat.reduceDiv, Nat.reduceAdd, Nat.reduceBEq, Nat.reduceLeDiff, reduceCtorEq, Nat.reduceEqDiff, Nat.reduceMod, appendD, Try.tm_3, Try.tm_23, Try.tm_26, eg10, hgf1, hgf1t, eg40, TAttempt.d, TPromise.d]; exact hq) (by first | rfl | (simp only [go_sem, Nat.reduceLeDiff]; done) | (simp only [go_sem, Nat.reduceLeDiff]; rfl) | (simp; done) | (simp [oneD] <;> omega) | (simp_all; done) | (simp_all [oneD] <;> omega)) (by first | exact Nat.le_refl _ | exact Nat.le_of_ble_eq_true rfl | (dsimp only; omega) | (simp <;> omega)) ?_
                          refine .RN 6 (dr := true) (.inl rfl) (by intro q hq; simp only [go_sem, Nat.reduceSub, Int.reduceEq, Nat.reduceLT, Nat.reduceDiv, Nat.reduceAdd, Nat.reduceBEq, Nat.reduceLeDiff, reduceCtorEq, Nat.reduceEqDiff, Nat.reduceMod, appendD, Try.tm_9, Try.tm_23, Try.tm_26, Try.tm_31, eg10, hgf1, hgf1t, eg40, TAttempt.d, TPromise.d]; exact hq) (by first | rfl | (simp only [go_sem, Nat.reduceLeDiff]; done) | (simp only [go_sem, Nat.reduceLeDiff]; rfl) | (simp; done) | (simp [oneD] <;> omega) | (simp_all; done) | (simp_all [oneD] <;> omega)) (by first | exact Nat.le_refl _ | exact Nat.le_of_ble_eq_true rfl | (dsimp only; omega) | (simp <;> omega)) ?_
                          refine .RN 3 (dr := true) (.inl rfl) (by intro q hq; simp only [go_sem, Nat.reduceSub, Int.reduceEq, Nat.reduceLT, Nat.reduceDiv, Nat.reduceAdd, Nat.reduceBEq, Nat.reduceLeDiff, reduceCtorEq, Nat.reduceEqDiff, Nat.reduceMod, appendD, eg10, hgf1, hgf1t, eg40, TAttempt.d, TPromise.d]; exact hq) (by first | rfl | (simp only [go_sem, Nat.reduceLeDiff]; done) | (simp only [go_sem, Nat.reduceLeDiff]; rfl) | (simp; done) | (simp [oneD] <;> omega) | (simp_all; done) | (simp_all [oneD] <;> omega)) (by first | exact Nat.le_refl _ | exact Nat.le_of_ble_eq_true rfl | (dsimp only; omega) | (simp <;> omega)) ?_
                          refine .nil ⟨fun _ => schedB_of (by kernel_rfl), ?_⟩
                          refine ⟨(), ?_, trivial⟩
                          refine Goes.mv [9, 10, 17, 18, 20] [20, 32, 33, 34] [] ?_ (Nat.le_of_ble_eq_true rfl) (Nat.le_of_ble_eq_true rfl) rfl
                          first | rfl | (simp only [hgf1, hgf1t, go_sem, Nat.reduceBEq, Nat.reduceAdd, Bool.false_and, Bool.true_or, Bool.and_false]; done) | (simp only [hgf1, hgf1t, go_sem, Nat.reduceBEq, Nat.reduceAdd, Bool.false_and, Bool.true_or, Bool.and_false]; rfl)
                        · skip
                          have hgf4 : ((!((decide (n11 > 0)) && b2)) && ((l2.getD n11.toNat default).Ballot == n8)) = false := by first | simpa using hgd | (simp at hgd ⊢; omega) | grind
                          rcases nth_or TPromise.d l2 n11.toNat with eg40 | eg40
                          · skip
                            refine .block ?_
                            refine .reg Try.tmOk Try.tmMixed [9, 10, 17, 18, 20] (by decide +kernel) ?_
                            refine .RN 6 (dr := true) (.inl rfl) (by intro q hq; simp only [go_sem, Nat.reduceSub, Int.reduceEq, Nat.reduceLT, Nat.reduceDiv, Nat.reduceAdd, Nat.reduceBEq, Nat.reduceLeDiff, reduceCtorEq, Nat.reduceEqDiff, Nat.reduceMod, appendD, Try.tm_3, eg10, hgf1, hgf1t, eg40, hgf4, TAttempt.d, TPromise.d]; exact hq) (by first | rfl | (simp only [go_sem, Nat.reduceLeDiff]; done) | (simp only [go_sem, Nat.reduceLeDiff]; rfl) | (simp; done) | (simp [oneD] <;> omega) | (simp_all; done) | (simp_all [oneD] <;> omega)) (by first | exact Nat.le_refl _ | exact Nat.le_of_ble_eq_true rfl | (dsimp only; omega) | (simp <;> omega)) ?_
                            refine .RN 6 (dr := true) (.inl rfl) (by intro q hq; simp only [go_sem, Nat.reduceSub, Int.reduceEq, Nat.reduceLT, Nat.reduceDiv, Nat.reduceAdd, Nat.reduceBEq, Nat.reduceLeDiff, reduceCtorEq, Nat.reduceEqDiff, Nat.reduceMod, appendD, Try.tm_3, Try.tm_23, Try.tm_26, Try.tm_31, eg10, hgf1, hgf1t, eg40, hgf4, TAttempt.d, TPromise.d]; exact hq) (by first | rfl | (simp only [go_sem, Nat.reduceLeDiff]; done) | (simp only [go_sem, Nat.reduceLeDiff]; rfl) | (simp; done) | (simp [oneD] <;> omega) | (simp_all; done) | (simp_all [oneD] <;> omega)) (by first | exact Nat.le_refl _ | exact Nat.le_of_ble_eq_true rfl | (dsimp only; omega) | (simp <;> omega)) ?_
                            refine .RN 6 (dr := true) (.inl rfl) (by intro q hq; simp only [go_sem, Nat.reduceSub, Int.reduceEq, Nat.reduceLT, Nat.reduceDiv, Nat.reduceAdd, Nat.reduceBEq, Nat.reduceLeDiff, reduceCtorEq, Nat.reduceEqDiff, Nat.reduceMod, appendD, Try.tm_3, Try.tm_23, Try.tm_26, eg10, hgf1, hgf1t, eg40, hgf4, TAttempt.d, TPromise.d]; exact hq) (by first | rfl | (simp only [go_sem, Nat.reduceLeDiff]; done) | (simp only [go_sem, Nat.reduceLeDiff]; rfl) | (simp; done) | (simp [oneD] <;> omega) | (simp_all; done) | (simp_all [oneD] <;> omega)) (by first | exact Nat.le_refl _ | exact Nat.le_of_ble_eq_true rfl | (dsimp only; omega) | (simp <;> omega)) ?_
                            refine .RN 6 (dr := true) (.inl rfl) (by intro q hq; simp only [go_sem, Nat.reduceSub, Int.reduceEq, Nat.reduceLT, Nat.reduceDiv, Nat.reduceAdd, Nat.reduceBEq, Nat.reduceLeDiff, reduceCtorEq, Nat.reduceEqDiff, Nat.reduceMod, appendD, Try.tm_9, Try.tm_23, Try.tm_26, Try.tm_31, eg10, hgf1, hgf1t, eg40, hgf4, TAttempt.d, TPromise.d]; exact hq) (by first | rfl | (simp only [go_sem, Nat.reduceLeDiff]; done) | (simp only [go_sem, Nat.reduceLeDiff]; rfl) | (simp; done) | (simp [oneD] <;> omega) | (simp_all; done) | (simp_all [oneD] <;> omega)) (by first | exact Nat.le_refl _ | exact Nat.le_of_ble_eq_true rfl | (dsimp only; omega) | (simp <;> omega)) ?_
                            refine .RN 3 (dr := true) (.inl rfl) (by intro q hq; simp only [go_sem, Nat.reduceSub, Int.reduceEq, Nat.reduceLT, Nat.reduceDiv, Nat.reduceAdd, Nat.reduceBEq, Nat.reduceLeDiff, reduceCtorEq, Nat.reduceEqDiff, Nat.reduceMod, appendD, eg10, hgf1, hgf1t, eg40, hgf4, TAttempt.d, TPromise.d]; exact hq) (by first | rfl | (simp only [go_sem, Nat.reduceLeDiff]; done) | (simp only [go_sem, Nat.reduceLeDiff]; rfl) | (simp; done) | (simp [oneD] <;> omega) | (simp_all; done) | (simp_all [oneD] <;> omega)) (by first | exact Nat.le_refl _ | exact Nat.le_of_ble_eq_true rfl | (dsimp only; omega) | (simp <;> omega)) ?_
                            refine .nil ⟨fun _ => schedB_of (by kernel_rfl), ?_⟩
                            refine ⟨(), ?_, trivial⟩
                            refine Goes.mv [9, 10, 17, 18, 20] [20, 32, 33, 34] [] ?_ (Nat.le_of_ble_eq_true rfl) (Nat.le_of_ble_eq_true rfl) rfl
                            first | rfl | (simp only [hgf1, hgf1t, hgf4, go_sem, Nat.reduceBEq, Nat.reduceAdd, Bool.false_and, Bool.true_or, Bool.and_false]; done) | (simp only [hgf1, hgf1t, hgf4, go_sem, Nat.reduceBEq, Nat.reduceAdd, Bool.false_and, Bool.true_or, Bool.and_false]; rfl)
                          · skip
                            refine .block ?_
                            refine .reg Try.tmOk Try.tmMixed [9, 10, 17, 18, 20] (by decide +kernel) ?_
                            refine .RN 6 (dr := true) (.inl rfl) (by intro q hq; simp only [go_sem, Nat.reduceSub, Int.reduceEq, Nat.reduceLT, Nat.reduceDiv, Nat.reduceAdd, Nat.reduceBEq, Nat.reduceLeDiff, reduceCtorEq, Nat.reduceEqDiff, Nat.reduceMod, appendD, Try.tm_3, eg10, hgf1, hgf1t, eg40, hgf4, TAttempt.d, TPromise.d]; exact hq) (by first | rfl | (simp only [go_sem, Nat.reduceLeDiff]; done) | (simp only [go_sem, Nat.reduceLeDiff]; rfl) | (simp; done) | (simp [oneD] <;> omega) | (simp_all; done) | (simp_all [oneD] <;> omega)) (by first | exact Nat.le_refl _ | exact Nat.le_of_ble_eq_true rfl | (dsimp only; omega) | (simp <;> omega)) ?_
                            refine .RN 6 (dr := true) (.inl rfl) (by intro q hq; simp only [go_sem, Nat.reduceSub, Int.reduceEq, Nat.reduceLT, Nat.reduceDiv, Nat.reduceAdd, Nat.reduceBEq, Nat.reduceLeDiff, reduceCtorEq, Nat.reduceEqDiff, Nat.reduceMod, appendD, Try.tm_3, Try.tm_23, Try.tm_26, Try.tm_31, eg10, hgf1, hgf1t, eg40, hgf4, TAttempt.d, TPromise.d]; exact hq) (by first | rfl | (simp only [go_sem, Nat.reduceLeDiff]; done) | (simp only [go_sem, Nat.reduceLeDiff]; rfl) | (simp; done) | (simp [oneD] <;> omega) | (simp_all; done) | (simp_all [oneD] <;> omega)) (by first | exact Nat.le_refl _ | exact Nat.le_of_ble_eq_true rfl | (dsimp only; omega) | (simp <;> omega)) ?_
                            refine .RN 6 (dr := true) (.inl rfl) (by intro q hq; simp only [go_sem, Nat.reduceSub, Int.reduceEq, Nat.reduceLT, Nat.reduceDiv, Nat.reduceAdd, Nat.reduceBEq, Nat.reduceLeDiff, reduceCtorEq, Nat.reduceEqDiff, Nat.reduceMod, appendD, Try.tm_3, Try.tm_23, Try.tm_26, eg10, hgf1, hgf1t, eg40, hgf4, TAttempt.d, TPromise.d]; exact hq) (by first | rfl | (simp only [go_sem, Nat.reduceLeDiff]; done) | (simp only [go_sem, Nat.reduceLeDiff]; rfl) | (simp; done) | (simp [oneD] <;> omega) | (simp_all; done) | (simp_all [oneD] <;> omega)) (by first | exact Nat.le_refl _ | exact Nat.le_of_ble_eq_true rfl | (dsimp only; omega) | (simp <;> omega)) ?_
                            refine .RN 6 (dr := true) (.inl rfl) (by intro q hq; simp only [go_sem, Nat.reduceSub, Int.reduceEq, Nat.reduceLT, Nat.reduceDiv, Nat.reduceAdd, Nat.reduceBEq, Nat.reduceLeDiff, reduceCtorEq, Nat.reduceEqDiff, Nat.reduceMod, appendD, Try.tm_9, Try.tm_23, Try.tm_26, Try.tm_31, eg10, hgf1, hgf1t, eg40, hgf4, TAttempt.d, TPromise.d]; exact hq) (by first | rfl | (simp only [go_sem, Nat.reduceLeDiff]; done) | (simp only [go_sem, Nat.reduceLeDiff]; rfl) | (simp; done) | (simp [oneD] <;> omega) | (simp_all; done) | (simp_all [oneD] <;> omega)) (by first | exact Nat.le_refl _ | exact Nat.le_of_ble_eq_true rfl | (dsimp only; omega) | (simp <;> omega)) ?_
                            refine .RN 3 (dr := true) (.inl rfl) (by intro q hq; simp only [go_sem, Nat.reduceSub, Int.reduceEq, Nat.reduceLT, Nat.reduceDiv, Nat.reduceAdd, Nat.reduceBEq, Nat.reduceLeDiff, reduceCtorEq, Nat.reduceEqDiff, Nat.reduceMod, appendD, eg10, hgf1, hgf1t, eg40, hgf4, TAttempt.d, TPromise.d]; exact hq) (by first | rfl | (simp only [go_sem, Nat.reduceLeDiff]; done) | (simp only [go_sem, Nat.reduceLeDiff]; rfl) | (simp; done) | (simp [oneD] <;> omega) | (simp_all; done) | (simp_all [oneD] <;> omega)) (by first | exact Nat.le_refl _ | exact Nat.le_of_ble_eq_true rfl | (dsimp only; omega) | (simp <;> omega)) ?_
                            refine .nil ⟨fun _ => schedB_of (by kernel_rfl), ?_⟩
                            refine ⟨(), ?_, trivial⟩
                            refine Goes.mv [9, 10, 17, 18, 20] [20, 32, 33, 34] [] ?_ (Nat.le_of_ble_eq_true rfl) (Nat.le_of_ble_eq_true rfl) rfl
                            first | rfl | (simp only [hgf1, hgf1t, hgf4, go_sem, Nat.reduceBEq, Nat.reduceAdd, Bool.false_and, Bool.true_or, Bool.and_false]; done) | (simp only [hgf1, hgf1t, hgf4, go_sem, Nat.reduceBEq, Nat.reduceAdd, Bool.false_and, Bool.true_or, Bool.and_false]; rfl)
                  refine .plain Try.tmOk Try.tmMixed [9, 10, 17, 18, 20] (by decide +kernel) (by intro q hq; simp only [go_sem, Nat.reduceSub, Int.reduceEq, Nat.reduceLT, Nat.reduceDiv, Nat.reduceAdd, Nat.reduceBEq, Nat.reduceLeDiff, reduceCtorEq, Nat.reduceEqDiff, Nat.reduceMod, appendD, Try.tm_3]; exact hq) (by first | rfl | (simp only [go_sem, Nat.reduceLeDiff]; done) | (simp only [go_sem, Nat.reduceLeDiff]; rfl) | (simp; done) | (simp [oneD] <;> omega) | (simp_all; done) | (simp_all [oneD] <;> omega)) (by first | exact Nat.le_refl _ | exact Nat.le_of_ble_eq_true rfl | (dsimp only; omega) | (simp <;> omega)) ?_
                  refine ⟨(fu2, _, _), ?_, hx4, by dsimp only; omega⟩
                  refine Goes.mv [9, 10, 17, 18, 20] [20, 32, 33, 34] [] ?_ (Nat.le_of_ble_eq_true rfl) (Nat.le_of_ble_eq_true rfl) rfl
                  first | rfl | (simp only [go_sem, Nat.reduceBEq, Nat.reduceAdd]; done) | (simp only [go_sem, Nat.reduceBEq, Nat.reduceAdd]; rfl)
                · skip
                  replace hx4 := ite_r hx4 (by first | simpa using hc9 | (simp at hc9 ⊢; omega) | (simp at hc9 ⊢; grind) | grind)
                  refine .exit ?_
                  refine ⟨_, ?_, (Option.some.inj hx4).symm⟩
                  refine Goes.mv [9, 18] [] [] ?_ (Nat.le_of_ble_eq_true rfl) (Nat.le_of_ble_eq_true rfl) rfl
                  first | rfl | (simp only [go_sem, Nat.reduceBEq, Nat.reduceAdd]; done) | (simp only [go_sem, Nat.reduceBEq, Nat.reduceAdd]; rfl)
              · skip
                rintro b1 hj4
                subst x4
                try dsimp only at h
                simp only [Try.St_towncrierlaw08_AttemptTells_11]
                refine .seq ?_
                refine .plain Try.tmOk Try.tmMixed [9, 18] (by decide +kernel) (by intro q hq; simp only [go_sem, Nat.reduceSub, Int.reduceEq, Nat.reduceLT, Nat.reduceDiv, Nat.reduceAdd, Nat.reduceBEq, Nat.reduceLeDiff, reduceCtorEq, Nat.reduceEqDiff, Nat.reduceMod, appendD]; exact hq) (by first | rfl | (simp only [go_sem, Nat.reduceLeDiff]; done) | (simp only [go_sem, Nat.reduceLeDiff]; rfl) | (simp; done) | (simp [oneD] <;> omega) | (simp_all; done) | (simp_all [oneD] <;> omega)) (by first | exact Nat.le_refl _ | exact Nat.le_of_ble_eq_true rfl | (dsimp only; omega) | (simp <;> omega)) ?_
                have hq := Option.some.inj h
                subst r
                refine .ret ⟨.inr rfl, ResIs.to ?_⟩
                simp only [ResIs, resL, resD, resT, go_sem, Nat.reduceSub, Int.reduceEq, Nat.reduceLT, Nat.reduceDiv, Nat.reduceAdd, Nat.reduceBEq, Nat.reduceLeDiff, reduceCtorEq, Nat.reduceEqDiff, Nat.reduceMod, Try.f3, Try.tm_4]
end Go.Proofs
end
section
/- What the bits of two quorums tell, in plain words. -/

namespace Go.Proofs
open Go.Tm

/-- rising lists of numbers up to 5, from behind a number on -/
def risesP : Int → List Int → Bool
  | _, [] => true
  | last, n :: r => decide (last < n) && decide (n < 6) && risesP n r
def gen : Nat → Int → List (List Int)
  | 0, _ => [[]]
  | f + 1, lo => gen f (lo + 1) ++ (gen f (lo + 1)).map fun r => (lo + 1) :: r

theorem nil_gen : ∀ (f : Nat) (lo : Int), [] ∈ gen f lo
  | 0, _ => by simp [gen]
  | f + 1, lo => by simp only [gen, List.mem_append]; exact .inl (nil_gen f _)

theorem mem_gen : ∀ (f : Nat) (lo : Int) (l : List Int), 5 - lo ≤ f → risesP lo l = true → l ∈ gen f lo
  | f, lo, [], _, _ => nil_gen f lo
  | 0, lo, x :: r, hf, h => by
    simp only [risesP, Bool.and_eq_true, decide_eq_true_eq] at h
    omega
  | f + 1, lo, x :: r, hf, h => by
    have h' := h
    simp only [risesP, Bool.and_eq_true, decide_eq_true_eq] at h'
    simp only [gen, List.mem_append, List.mem_map]
    by_cases hx : x = lo + 1
    · subst hx
      exact .inr ⟨r, mem_gen f (lo + 1) r (by omega) h'.2, rfl⟩
    · refine .inl (mem_gen f (lo + 1) (x :: r) (by omega) ?_)
      simp only [risesP, Bool.and_eq_true, decide_eq_true_eq]
      exact ⟨⟨by omega, h'.1.2⟩, h'.2⟩

def setB (l : List Int) : Int := l.foldl (fun s n => bif decide (n ≥ 0) && decide (n < 6) then bitw .or .u64 s (shw true .u64 1 n) else s) 0
def hasI (l : List Int) (n : Int) : Bool := l.any fun x => x == n
end Go.Proofs
end
section
/- How many members are among some nodes, by bits, in plain words. -/

namespace Go.Proofs
open Go.Tm

def popI (n : Int) : Int :=
  let a := wr .u64 (bitw .and .u64 (shw false .u64 n 1) 6148914691236517205 + bitw .and .u64 n 6148914691236517205)
  let b := wr .u64 (bitw .and .u64 (shw false .u64 a 2) 3689348814741910323 + bitw .and .u64 a 3689348814741910323)
  let c := bitw .and .u64 (wr .u64 (shw false .u64 b 4 + b)) 1085102592571150095
  let d := wr .u64 (c + shw false .u64 c 8)
  let e := wr .u64 (d + shw false .u64 d 16)
  let f := wr .u64 (e + shw false .u64 e 32)
  bitw .and .i64 (wr .i64 f) 127

def mask (p : Int → Bool) : List Int := [0, 1, 2, 3, 4, 5].filter p

theorem mask_gen (p : Int → Bool) : mask p ∈ gen 6 (-1) := by
  refine mem_gen 6 (-1) _ (by omega) ?_
  unfold mask
  cases h0 : p 0 <;> cases h1 : p 1 <;> cases h2 : p 2 <;> cases h3 : p 3 <;> cases h4 : p 4 <;> cases h5 : p 5 <;> simp [h0, h1, h2, h3, h4, h5, risesP]

def setStep (s n : Int) : Int := bif decide (n ≥ 0) && decide (n < 6) then bitw .or .u64 s (shw true .u64 1 n) else s
theorem setB_snoc (l : List Int) (n : Int) : setB (l ++ [n]) = setStep (setB l) n := by
  unfold setB
  rw [List.foldl_append]
  rfl

theorem step_all : ((gen 6 (-1)).all fun k => [0, 1, 2, 3, 4, 5].all fun n => setStep (setB k) n == setB (mask fun x => hasI k x || x == n)) = true := by decide +kernel
theorem mask_congr {p q : Int → Bool} (h : ∀ x ∈ [(0 : Int), 1, 2, 3, 4, 5], p x = q x) : mask p = mask q := by
  unfold mask
  exact List.filter_congr h

theorem hasI_mask (p : Int → Bool) (x : Int) (hx : x ∈ [(0 : Int), 1, 2, 3, 4, 5]) : hasI (mask p) x = p x := by
  unfold hasI mask
  rw [List.any_filter]
  simp only [List.any_cons, List.any_nil]
  simp only [List.mem_cons, List.not_mem_nil, or_false] at hx
  rcases hx with rfl | rfl | rfl | rfl | rfl | rfl <;> simp

theorem hasI_snoc (l : List Int) (n x : Int) : hasI (l ++ [n]) x = (hasI l x || n == x) := by
  unfold hasI
  simp

theorem setB_mask (l : List Int) : setB l = setB (mask (hasI l)) := by
  generalize hm : l.reverse = r
  have hl : l = r.reverse := by rw [← hm, List.reverse_reverse]
  clear hm
  subst hl
  induction r with
  | nil => decide +kernel
  | cons n r ih =>
    rw [List.reverse_cons, setB_snoc, ih]
    by_cases hn : n ∈ [(0 : Int), 1, 2, 3, 4, 5]
    · have h := List.all_eq_true.1 (List.all_eq_true.1 step_all _ (mask_gen (hasI r.reverse))) n hn
      rw [eq_of_beq h]
      congr 1
      refine mask_congr fun x hx => ?_
      rw [hasI_mask _ x hx, hasI_snoc]
      congr 1
      rw [Bool.eq_iff_iff, beq_iff_eq, beq_iff_eq]
      exact eq_comm
    · have h1 : setStep (setB (mask (hasI r.reverse))) n = setB (mask (hasI r.reverse)) := by
        unfold setStep
        have : (decide (n ≥ 0) && decide (n < 6)) = false := by
          rw [Bool.eq_false_iff]
          intro hh
          simp only [Bool.and_eq_true, decide_eq_true_eq] at hh
          exact hn (by simp only [List.mem_cons, List.not_mem_nil, or_false]; omega)
        rw [this]; rfl
      rw [h1]
      congr 1
      refine mask_congr fun x hx => ?_
      rw [hasI_snoc]
      have : (n == x) = false := by
        rw [Bool.eq_false_iff]
        intro hh
        rw [eq_of_beq hh] at hn
        exact hn hx
      rw [this, Bool.or_false]

theorem pop_all : ((gen 6 (-1)).all fun m => (gen 6 (-1)).all fun k => popI (bitw .and .u64 (setB m) (setB k)) == ((m.filter (hasI k)).length : Int)) = true := by decide +kernel

theorem rises_mem {m : List Int} (hm : risesP (-1) m = true) : ∀ x ∈ m, x ∈ [(0 : Int), 1, 2, 3, 4, 5] := by
  have key : ∀ (l : List Int) (k : Int), risesP k l = true → ∀ x ∈ l, k < x ∧ x < 6 := by
    intro l
    induction l with
    | nil => intro _ _ x hx; cases hx
    | cons y l ih =>
      intro k h x hx
      simp only [risesP, Bool.and_eq_true, decide_eq_true_eq] at h
      rcases List.mem_cons.1 hx with rfl | hx
      · exact h.1
      · have := ih y h.2 x hx
        omega
  intro x hx
  have := key m (-1) hm x hx
  simp only [List.mem_cons, List.not_mem_nil, or_false]
  omega

/-- as many members are among them as the bits tell -/
theorem pop_count {m : List Int} (hm : risesP (-1) m = true) (s : List Int) : popI (bitw .and .u64 (setB m) (setB s)) = ((m.filter (hasI s)).length : Int) := by
  rw [setB_mask s]
  have h := List.all_eq_true.1 (List.all_eq_true.1 pop_all m (mem_gen 6 (-1) m (by omega) hm)) _ (mask_gen (hasI s))
  rw [eq_of_beq h]
  congr 2
  exact List.filter_congr fun x hx => hasI_mask _ x (rises_mem hm x hx)
end Go.Proofs
end
section
/- Plain facts about the models of chapter 08. -/


namespace Go.Proofs
open Go.Tm
set_option linter.unusedSimpArgs false

theorem nodes_loop (l : List TPromise) : ∀ acc : List Int, acc.length + l.length < 1000000 → m_attempt_nodes_loop1 l acc = some (acc ++ l.map TPromise.Node) := by
  induction l with
  | nil => intro acc _; simp [m_attempt_nodes_loop1]
  | cons y l ih =>
    intro acc h
    simp only [List.length_cons] at h
    rw [m_attempt_nodes_loop1, if_pos (by simp; omega), ih _ (by simp; omega)]
    simp
theorem nodes_eq (l : List TPromise) (h : l.length < 1000000) : m_attempt_nodes l = some (l.map TPromise.Node) := by
  rw [m_attempt_nodes, nodes_loop l [] (by simpa using h)]; rfl
theorem nodesL_loop (l : List TPromise) : ∀ acc : List Int, acc.length + l.length < 1000000 → m_towncrierlaw08_nodes_loop1 l acc = some (acc ++ l.map TPromise.Node) := by
  induction l with
  | nil => intro acc _; simp [m_towncrierlaw08_nodes_loop1]
  | cons y l ih =>
    intro acc h
    simp only [List.length_cons] at h
    rw [m_towncrierlaw08_nodes_loop1, if_pos (by simp; omega), ih _ (by simp; omega)]
    simp
theorem nodesL_eq (l : List TPromise) (h : l.length < 1000000) : m_towncrierlaw08_nodes l = some (l.map TPromise.Node) := by
  rw [m_towncrierlaw08_nodes, nodesL_loop l [] (by simpa using h)]; rfl

def bestS : List TPromise → List UInt8 → Int → List UInt8
  | [], s, _ => s
  | y :: l, s, n => if y.Ballot > n then bestS l y.Value y.Ballot else bestS l s n
theorem best_loop (l : List TPromise) : ∀ s n, m_attempt_Best_loop1 l s n = some (bestS l s n) := by
  induction l with
  | nil => intro s n; rfl
  | cons y l ih =>
    intro s n
    rw [m_attempt_Best_loop1, bestS]
    split <;> simp only [Option.bind_some] <;> exact ih _ _
theorem best_eq (l : List TPromise) (w : List UInt8) : m_attempt_Best l w = some (bestS l w 0) := by
  rw [m_attempt_Best, best_loop]; rfl

theorem index_loop (v : Int) (l : List Int) : ∀ n : Nat, (v ∈ l → ∃ k : Nat, m_slices_Index_int_int_loop1 v l n = some (.inl (k : Int))) ∧ (v ∉ l → m_slices_Index_int_int_loop1 v l n = some (.inr ())) := by
  induction l with
  | nil => intro n; exact ⟨(fun h => by cases h), fun _ => rfl⟩
  | cons y l ih =>
    intro n
    rw [m_slices_Index_int_int_loop1]
    by_cases h : v = y
    · rw [if_pos h]
      exact ⟨fun _ => ⟨n, rfl⟩, fun hn => absurd (h ▸ List.mem_cons_self) hn⟩
    · rw [if_neg h]
      refine ⟨fun hv => (ih (n + 1)).1 ?_, fun hv => (ih (n + 1)).2 fun hh => hv (List.mem_cons_of_mem _ hh)⟩
      rcases List.mem_cons.1 hv with hv | hv
      · exact absurd hv h
      · exact hv
theorem has_eq (l : List Int) (v : Int) : m_quorum_Has l v = some (decide (v ∈ l)) := by
  rw [m_quorum_Has, m_slices_Contains_int_int, m_slices_Index_int_int]
  by_cases h : v ∈ l
  · obtain ⟨k, hk⟩ := (index_loop v l 0).1 h
    rw [hk]
    simp [h]
  · rw [(index_loop v l 0).2 h]
    simp [h]
end Go.Proofs
end
section
/- Plain facts about quorums and ballots. -/

namespace Go.Proofs
open Go.Tm
set_option linter.unusedSimpArgs false

theorem rises_lt : ∀ (l : List Int) (k : Int), risesP k l = true → ∀ x ∈ l, k < x ∧ x < 6 := by
  intro l
  induction l with
  | nil => intro _ _ x hx; cases hx
  | cons y l ih =>
    intro k h x hx
    simp only [risesP, Bool.and_eq_true, decide_eq_true_eq] at h
    rcases List.mem_cons.1 hx with rfl | hx
    · exact h.1
    · have := ih y h.2 x hx
      omega
theorem qcheck_loop (l : List Int) : ∀ n, m_quorum_Check_loop1 l n = some (if risesP n l = true then .inr (l.getLastD n) else .inl 60) := by
  induction l with
  | nil => intro n; simp [m_quorum_Check_loop1, risesP]
  | cons y l ih =>
    intro n
    rw [m_quorum_Check_loop1]
    by_cases h : (y ≤ n) ∨ (y ≥ 6)
    · rw [if_pos h, if_neg (by simp only [risesP, Bool.and_eq_true, decide_eq_true_eq]; omega)]
    · rw [if_neg h, ih]
      have : risesP n (y :: l) = risesP y l := by
        simp only [risesP]
        have h1 : decide (n < y) = true := by simp; omega
        have h2 : decide (y < 6) = true := by simp; omega
        simp [h1, h2]
      rw [this, List.getLastD_cons]
def QOk (l : List Int) : Prop := l.length ≤ 6 ∧ risesP (-1) l = true ∧ l ≠ []
instance (l : List Int) : Decidable (QOk l) := by unfold QOk; infer_instance
theorem qcheck_eq (l : List Int) : m_quorum_Check l = some (if l.length > 6 then 4 else if risesP (-1) l = true ∧ l ≠ [] then 0 else 60) := by
  rw [m_quorum_Check]
  by_cases h : (l.length : Int) > 6
  · rw [if_pos h, if_pos (by omega)]
  · rw [if_neg h, if_neg (by omega), qcheck_loop]
    by_cases hr : risesP (-1) l = true
    · rw [if_pos hr]
      cases l with
      | nil => simp
      | cons y l =>
        have hl := (rises_lt (y :: l) (-1) hr ((y :: l).getLastD (-1)) (by rw [List.getLastD_eq_getLast?, List.getLast?_eq_some_getLast (by simp)]; exact List.getLast_mem (by simp))).1
        simp only [Option.bind_some, ne_eq, reduceCtorEq, not_false_eq_true, and_true, if_pos hr]
        rw [if_neg (by omega)]
    · rw [if_neg hr]
      simp [hr]
theorem qok_iff (l : List Int) : m_quorum_Check l = some 0 ↔ QOk l := by
  rw [qcheck_eq]
  unfold QOk
  by_cases h : l.length > 6
  · rw [if_pos h]; simp; omega
  · rw [if_neg h]
    by_cases h2 : risesP (-1) l = true ∧ l ≠ []
    · rw [if_pos h2]; simp only [true_iff]; exact ⟨by omega, h2⟩
    · rw [if_neg h2]; simp; intro _ h3; exact Classical.byContradiction fun h4 => h2 ⟨h3, h4⟩
end Go.Proofs
end
section
/- Plain facts about ballots, promises and rising lists. -/

namespace Go.Proofs
open Go.Tm
set_option linter.unusedSimpArgs false

/-- may this number be a ballot's? -/
def BOk (b : Int) : Prop := ¬ (wr .i64 (b.tdiv 8) < 1 ∨ wr .i64 (b.tdiv 8) > 1048576) ∧ b.tmod 8 ≥ 0 ∧ b.tmod 8 < 6
instance (b : Int) : Decidable (BOk b) := by unfold BOk; infer_instance
theorem bcheck_eq (b : Int) : m_ballot_Check b = some (if BOk b then 0 else 50) := by
  rw [m_ballot_Check, m_ballot_Of, m_ballot_node]
  unfold BOk
  by_cases h : wr .i64 (b.tdiv 8) < 1 ∨ wr .i64 (b.tdiv 8) > 1048576
  · simp [h]
  · by_cases h1 : b.tmod 8 ≥ 0 <;> by_cases h2 : b.tmod 8 < 6 <;> simp [h, h1, h2]
/-- may this be promised to a ballot? -/
def MayS (p : TPromise) (b : Int) : Prop := if p.Ballot = 0 then p.Value = [] else BOk p.Ballot ∧ p.Ballot < b ∧ p.Value.length ≤ 1024
instance (p : TPromise) (b : Int) : Decidable (MayS p b) := by unfold MayS; infer_instance
theorem may_eq (p : TPromise) (b : Int) : m_attempt_may p b = some (decide (MayS p b)) := by
  rw [m_attempt_may, bcheck_eq]
  by_cases h : p.Ballot = 0
  · have e : MayS p b ↔ p.Value = [] := by unfold MayS; rw [if_pos h]
    have e2 : decide (MayS p b) = decide (p.Value = []) := decide_eq_decide.2 e
    rw [if_pos h, e2]
    congr 1
    rw [Bool.eq_iff_iff]
    simp
  · have e : MayS p b ↔ (BOk p.Ballot ∧ p.Ballot < b ∧ p.Value.length ≤ 1024) := by unfold MayS; rw [if_neg h]
    have e2 : decide (MayS p b) = decide (BOk p.Ballot ∧ p.Ballot < b ∧ p.Value.length ≤ 1024) := decide_eq_decide.2 e
    rw [if_neg h, e2]
    by_cases h1 : BOk p.Ballot <;> simp [h1]
    rw [Bool.eq_iff_iff]
    simp
    intro _
    omega
end Go.Proofs
end
section
/- Plain facts about rising lists among members. -/

namespace Go.Proofs
open Go.Tm
set_option linter.unusedSimpArgs false

/-- rising, all of them members, from behind a number on -/
def riseS (m : List Int) : Option Int → List Int → Bool
  | _, [] => true
  | k, y :: l => (match k with | none => true | some k => decide (k < y)) && decide (y ∈ m) && riseS m (some y) l
theorem rising_loop (m a0 : List Int) : ∀ (l : List Int) (n : Nat), a0.drop n = l → m_attempt_rising_loop1 a0 m l n = some (if riseS m (if n = 0 then none else some (a0.getD (n - 1) default)) l = true then .inr () else .inl false) := by
  intro l
  induction l with
  | nil => intro n _; simp [m_attempt_rising_loop1, riseS]
  | cons y l ih =>
    intro n h
    have hn : n < a0.length := by
      rcases Nat.lt_or_ge n a0.length with h1 | h1
      · exact h1
      · rw [List.drop_eq_nil_of_le h1] at h; cases h
    have hy : a0.getD n default = y := by
      have := List.drop_eq_getElem_cons hn
      rw [h] at this
      simp only [List.cons.injEq] at this
      simp [List.getD, List.getElem?_eq_getElem hn, this.1]
    have hl : a0.drop (n + 1) = l := by
      have := List.drop_eq_getElem_cons hn
      rw [h] at this
      simp only [List.cons.injEq] at this
      exact this.2.symm
    rw [m_attempt_rising_loop1, has_eq]
    have key := ih (n + 1) hl
    rw [if_neg (show ¬ (n + 1 = 0) by omega), show n + 1 - 1 = n from rfl, hy] at key
    by_cases h0 : n = 0
    · subst h0
      by_cases hm : y ∈ m
      · simp [hm, key, riseS]
      · simp [hm, riseS]
    · have hp : (n : Int) > 0 := by omega
      rw [if_neg h0]
      generalize a0.getD (n - 1) default = z
      by_cases hle : y ≤ z
      · have : ¬ (z < y) := by omega
        have hn0 : 0 < n := by omega
        simp [hle, riseS, this, h0, hn0]
      · have : z < y := by omega
        by_cases hm : y ∈ m
        · simp [hle, riseS, this, hm, key]
        · simp [hle, riseS, this, hm]
theorem rising_eq (l m : List Int) : m_attempt_rising l m = some (riseS m none l) := by
  rw [m_attempt_rising, rising_loop m l l 0 (by simp)]
  rw [if_pos rfl]
  cases h : riseS m none l <;> simp
end Go.Proofs
end
section
/- Plain facts about majorities. -/

namespace Go.Proofs
open Go.Tm
set_option linter.unusedSimpArgs false

theorem set_loop (l : List Int) : ∀ s, m_quorum_set_loop1 l s = some (l.foldl (fun s n => bif decide (n ≥ 0) && decide (n < 6) then bitw .or .u64 s (shw true .u64 1 n) else s) s) := by
  induction l with
  | nil => intro s; rfl
  | cons y l ih =>
    intro s
    rw [m_quorum_set_loop1, List.foldl_cons]
    by_cases h0 : y ≥ 0
    · by_cases h6 : y < 6
      · have : 0 ≤ y := h0
        simp [h0, h6, this, ih]
      · simp [h0, h6, ih]
    · simp [h0, ih]
theorem set_eq (l : List Int) : m_quorum_set l = some (setB l) := by
  rw [m_quorum_set, set_loop]; rfl
theorem ones_eq (n : Int) : m_math_bits_OnesCount n = some (popI n) := by
  rw [m_math_bits_OnesCount, m_math_bits_OnesCount64]
  rfl
/-- as many members as a majority needs -/
def mostS (m l : List Int) : Bool := decide (((m.filter (hasI l)).length : Int) ≥ (m.length / 2 + 1 : Nat))
theorem most_eq (m l : List Int) (hm : QOk m) (hl : l.length ≤ 1000) : m_quorum_Most m l = some (mostS m l, 0) := by
  have hn : wr .i64 (wr .i64 ((m.length : Int).tdiv 2) + 1) = ((m.length / 2 + 1 : Nat) : Int) := by
    have h6 := hm.1
    generalize m.length = k at h6
    match k, h6 with
    | 0, _ => decide +kernel
    | 1, _ => decide +kernel
    | 2, _ => decide +kernel
    | 3, _ => decide +kernel
    | 4, _ => decide +kernel
    | 5, _ => decide +kernel
    | 6, _ => decide +kernel
    | k + 7, h => omega
  rw [m_quorum_Most, m_quorum_Need, (qok_iff m).2 hm]
  simp only [Option.bind_some, not_true_eq_false, if_false, hn]
  rw [if_neg (by omega), set_eq, set_eq]
  simp only [Option.bind_some, ones_eq, pop_count hm.2.1 l]
  rfl
end Go.Proofs
end
section
/- Plain facts about valid attempts. -/

namespace Go.Proofs
open Go.Tm
set_option linter.unusedSimpArgs false

theorem indexFunc_loop (f : TPromise → Option Bool) (g : TPromise → Bool) (hf : ∀ x, f x = some (g x)) (l : List TPromise) : ∀ n : Nat, (l.any g = true → ∃ k : Nat, m_slices_IndexFunc_Promise_Promise_loop1 f l n = some (.inl (k : Int))) ∧ (l.any g = false → m_slices_IndexFunc_Promise_Promise_loop1 f l n = some (.inr ())) := by
  induction l with
  | nil => intro n; exact ⟨(fun h => by cases h), fun _ => rfl⟩
  | cons y l ih =>
    intro n
    rw [m_slices_IndexFunc_Promise_Promise_loop1, hf, List.any_cons]
    cases hg : g y with
    | true => exact ⟨fun _ => ⟨n, by simp⟩, fun h => by cases h⟩
    | false => simpa using ih (n + 1)
theorem containsFunc_eq (f : TPromise → Option Bool) (g : TPromise → Bool) (hf : ∀ x, f x = some (g x)) (l : List TPromise) : m_slices_ContainsFunc_Promise_Promise l f = some (l.any g) := by
  rw [m_slices_ContainsFunc_Promise_Promise, m_slices_IndexFunc_Promise_Promise]
  cases h : l.any g with
  | true => obtain ⟨k, hk⟩ := (indexFunc_loop f g hf l 0).1 h; rw [hk]; simp
  | false => rw [(indexFunc_loop f g hf l 0).2 h]; simp

theorem equal_loop (b : List Int) : ∀ (l : List Int) (n : Nat), n + l.length = b.length → m_slices_Equal_int_int_loop1 b l n = some (if l = b.drop n then .inr () else .inl false) := by
  intro l
  induction l with
  | nil => intro n h; simp [m_slices_Equal_int_int_loop1]; simp at h; omega
  | cons y l ih =>
    intro n h
    simp only [List.length_cons] at h
    have hn : n < b.length := by omega
    have hg : b.getD n default = b[n] := by simp [List.getD, List.getElem?_eq_getElem hn]
    have hd := List.drop_eq_getElem_cons hn
    rw [m_slices_Equal_int_int_loop1, if_pos hn, hg]
    generalize b[n] = z at hd
    rw [hd]
    by_cases hy : y = z
    · rw [if_neg (by simpa using hy), ih (n + 1) (by omega)]
      simp only [hy, List.cons.injEq, true_and]
    · rw [if_pos hy]
      simp only [hy, List.cons.injEq, false_and, if_false]
theorem equal_eq (a b : List Int) : m_slices_Equal_int_int a b = some (decide (a = b)) := by
  rw [m_slices_Equal_int_int]
  by_cases h : (a.length : Int) = (b.length : Int)
  · rw [if_neg (by simpa using h), equal_loop b a 0 (by omega), List.drop_zero]
    by_cases hab : a = b <;> simp [hab]
  · rw [if_pos h]
    have : a ≠ b := fun hh => h (by rw [hh])
    simp [this]

theorem equalP_loop (b : List TPromise) : ∀ (l : List TPromise) (n : Nat), n + l.length = b.length → m_slices_Equal_Promise_Promise_loop1 b l n = some (if l = b.drop n then .inr () else .inl false) := by
  intro l
  induction l with
  | nil => intro n h; simp [m_slices_Equal_Promise_Promise_loop1]; simp at h; omega
  | cons y l ih =>
    intro n h
    simp only [List.length_cons] at h
    have hn : n < b.length := by omega
    have hg : b.getD n default = b[n] := by simp [List.getD, List.getElem?_eq_getElem hn]
    have hd := List.drop_eq_getElem_cons hn
    rw [m_slices_Equal_Promise_Promise_loop1, if_pos hn, hg]
    generalize b[n] = z at hd
    rw [hd]
    have e : (y.Node = z.Node ∧ y.Ballot = z.Ballot ∧ y.Value = z.Value) ↔ y = z := by cases y; cases z; simp
    by_cases hy : y = z
    · rw [if_neg (by simpa using e.2 hy), ih (n + 1) (by omega)]
      simp only [hy, List.cons.injEq, true_and]
    · rw [if_pos (fun hh => hy (e.1 hh))]
      simp only [hy, List.cons.injEq, false_and, if_false]
theorem equalP_eq (a b : List TPromise) : m_slices_Equal_Promise_Promise a b = some (decide (a = b)) := by
  rw [m_slices_Equal_Promise_Promise]
  by_cases h : (a.length : Int) = (b.length : Int)
  · rw [if_neg (by simpa using h), equalP_loop b a 0 (by omega), List.drop_zero]
    by_cases hab : a = b <;> simp [hab]
  · rw [if_pos h]
    have : a ≠ b := fun hh => h (by rw [hh])
    simp [this]
theorem same_eq (a b : TAttempt) : m_attempt_Same a b = some (decide (a = b)) := by
  obtain ⟨p, bl, m, w, v, pr, ac⟩ := a
  obtain ⟨p', bl', m', w', v', pr', ac'⟩ := b
  simp only [m_attempt_Same, equal_eq, equalP_eq, TAttempt.mk.injEq]
  by_cases h1 : p = p' <;> by_cases h2 : bl = bl' <;> by_cases h3 : m = m' <;> by_cases h4 : w = w' <;> by_cases h5 : v = v' <;> by_cases h6 : pr = pr' <;> simp [h1, h2, h3, h4, h5, h6]
end Go.Proofs
end
