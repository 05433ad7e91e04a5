/- Texts of the proof. -/
import Derived.Test.YtdoegejmepcmpaaSkeenDoesPg
import Derived.Test.YtdoegejmepcmpaaSkeenDoesPf
section
namespace Go.Proofs
open Go.Tm Go.RowKit Go.WideShapes
set_option maxRecDepth 100000
set_option linter.unusedSimpArgs false
set_option linter.unusedVariables false
attribute [local go_sem] argVars runE runK isCallV stepE aop opd opdsL opds opdO ev ofVal keep List.any natbeq Bool.false_or Bool.true_or aggEq cond_true cond_false Bool.cond_false_right Bool.cond_true_left beq_true beq_false imp_self implies_true getR getL put St.app effL del nwB blt_dec Nat.lt_irrefl Nat.lt_add_one ble_dec Nat.le_refl Nat.beq_refl roomNZ appendIn capS mkZ_zero mkZL_zero zeroEl D.ids D.idsL bin arith sarith binT dpick Tm.part splice fillD oneD loadD storeD srcD sliceD idxOk decide_true gval dstAt D.cells List.map_cons List.map_nil List.take List.drop List.length_map List.append Int.toNat_natCast and_true true_and decide_false List.length_cons List.length_nil List.append_nil List.nil_append Bool.and_true Bool.true_and Bool.not_false Bool.not_true ne_eq not_false_eq_true BEq.rfl List.getElem?_cons_zero List.getElem?_cons_succ List.getElem?_nil Nat.zero_add List.all_cons List.all_nil List.isEmpty_cons List.isEmpty_nil Option.getD_some Option.getD_none List.any_cons List.any_nil List.drop_succ_cons List.drop_zero unfL unf okM okML low3 List.cons_append true_or or_true Nat.zero_mul Nat.zero_le fpOf opIds
theorem overs74 : Overs Try.prog 74 := overs_of (r := 4) Try.func74 (by kernel_rfl) (by kernel_rfl) (by kernel_rfl) (by kernel_rfl) (Try.tmOk.1 22 (by decide)) rfl
theorem ins55e (i j k : Nat) (hij : i ≠ j) (hik : i ≠ k) (hjk : j ≠ k) (L : List D) (x : D) (P Q : Bool) (hL : L.length < 1000000) :
  CallH Try.prog 55 [.ref i 7 0 L.length (some unkC), .int .i64 (L.length : Int), .ref j 7 0 1 (some 1)] [(i, .arr 52 7 P L), (j, .arr 52 7 Q [x])] (.ref k 7 0 (L.length + 1) (some unkC)) [(k, some (.arr 52 7 (P && Q) (L ++ [x]))), (i, none)] (k, k + 1) := by
 have bij : Nat.beq i j = false := beq_ne hij
 have bik : Nat.beq i k = false := beq_ne hik
 have bjk : Nat.beq j k = false := beq_ne hjk
 have bji : Nat.beq j i = false := beq_ne (Ne.symm hij)
 have bki : Nat.beq k i = false := beq_ne (Ne.symm hik)
 have bkj : Nat.beq k j = false := beq_ne (Ne.symm hjk)
 have n10 : ¬ ((1 : Int) = 0) := by omega
 have hx : (1 : Nat) ≤ 1 := Nat.le_refl _
 refine callH_intro' Try.tmOk Try.func55 rfl (by decide) (Nat.le_of_ble_eq_true rfl) (by simp) ?_
 intro hwf
 refine .seq ?_
 refine .plain Try.tmOk Try.tmMixed [0, 1, 2] (by decide +kernel) (by intro q hq; simp only [go_sem, appendD, Nat.reduceSub, Int.reduceEq, Nat.reduceLT, Nat.reduceDiv, Nat.reduceAdd, Nat.reduceBEq, Nat.reduceLeDiff, reduceCtorEq, Nat.reduceEqDiff, Nat.reduceMod, capK, bij, bik, bjk, bji, bki, bkj]; exact hq) (by first | rfl | (simp only [go_sem, Nat.reduceLeDiff]; done) | (simp only [go_sem, Nat.reduceLeDiff]; rfl) | (simp; done) | (simp [oneD] <;> omega) | (simp_all; done) | (simp_all [oneD] <;> omega)) (by first | exact Nat.le_refl _ | exact Nat.le_of_ble_eq_true rfl | (dsimp only; omega) | (simp <;> omega)) ?_
 refine .seq ?_
 refine .plain Try.tmOk Try.tmMixed [0, 1, 2] (by decide +kernel) (by intro q hq; simp only [go_sem, appendD, Nat.reduceSub, Int.reduceEq, Nat.reduceLT, Nat.reduceDiv, Nat.reduceAdd, Nat.reduceBEq, Nat.reduceLeDiff, reduceCtorEq, Nat.reduceEqDiff, Nat.reduceMod, capK, Try.tm_22, Try.tm_3, bij, bik, bjk, bji, bki, bkj]; exact hq) (by first | rfl | (simp only [go_sem, Nat.reduceLeDiff]; done) | (simp only [go_sem, Nat.reduceLeDiff]; rfl) | (simp; done) | (simp [oneD] <;> omega) | (simp_all; done) | (simp_all [oneD] <;> omega)) (by first | exact Nat.le_refl _ | exact Nat.le_of_ble_eq_true rfl | (dsimp only; omega) | (simp <;> omega)) ?_
 refine .seq ?_
 refine .plain Try.tmOk Try.tmMixed [0, 1, 2] (by decide +kernel) (by intro q hq; simp only [go_sem, appendD, Nat.reduceSub, Int.reduceEq, Nat.reduceLT, Nat.reduceDiv, Nat.reduceAdd, Nat.reduceBEq, Nat.reduceLeDiff, reduceCtorEq, Nat.reduceEqDiff, Nat.reduceMod, capK, Try.tm_22, Try.tm_3, bij, bik, bjk, bji, bki, bkj]; exact hq) (by first | rfl | (simp only [go_sem, Nat.reduceLeDiff]; done) | (simp only [go_sem, Nat.reduceLeDiff]; rfl) | (simp; done) | (simp [oneD] <;> omega) | (simp_all; done) | (simp_all [oneD] <;> omega)) (by first | exact Nat.le_refl _ | exact Nat.le_of_ble_eq_true rfl | (dsimp only; omega) | (simp <;> omega)) ?_
 refine .seq ?_
 refine .seq ?_
 refine .plain Try.tmOk Try.tmMixed [0, 1, 2, 7] (by decide +kernel) (by intro q hq; simp only [go_sem, appendD, Nat.reduceSub, Int.reduceEq, Nat.reduceLT, Nat.reduceDiv, Nat.reduceAdd, Nat.reduceBEq, Nat.reduceLeDiff, reduceCtorEq, Nat.reduceEqDiff, Nat.reduceMod, capK, Try.tm_22, Try.tm_3]; exact hq) (by first | rfl | (simp only [go_sem, Nat.reduceLeDiff]; done) | (simp only [go_sem, Nat.reduceLeDiff]; rfl) | (simp; done) | (simp [oneD] <;> omega) | (simp_all; done) | (simp_all [oneD] <;> omega)) (by first | exact Nat.le_refl _ | exact Nat.le_of_ble_eq_true rfl | (dsimp only; omega) | (simp <;> omega)) ?_
 refine .cond rfl rfl (fun hc => by simp at hc) (fun hc => ?_)
 refine .skip ?_
 refine .seq ?_
 refine .plain Try.tmOk Try.tmMixed [0, 1, 2, 7] (by decide +kernel) (by intro q hq; simp only [go_sem, appendD, Nat.reduceSub, Int.reduceEq, Nat.reduceLT, Nat.reduceDiv, Nat.reduceAdd, Nat.reduceBEq, Nat.reduceLeDiff, reduceCtorEq, Nat.reduceEqDiff, Nat.reduceMod, capK, Try.tm_22, Try.tm_3]; exact hq) (by first | rfl | (simp only [go_sem, Nat.reduceLeDiff]; done) | (simp only [go_sem, Nat.reduceLeDiff]; rfl) | (simp; done) | (simp [oneD] <;> omega) | (simp_all; done) | (simp_all [oneD] <;> omega)) (by first | exact Nat.le_refl _ | exact Nat.le_of_ble_eq_true rfl | (dsimp only; omega) | (simp <;> omega)) ?_
 refine .seq ?_
 refine .seq ?_
 refine .plain Try.tmOk Try.tmMixed [0, 1, 2, 7, 8] (by decide +kernel) (by intro q hq; simp only [go_sem, appendD, Nat.reduceSub, Int.reduceEq, Nat.reduceLT, Nat.reduceDiv, Nat.reduceAdd, Nat.reduceBEq, Nat.reduceLeDiff, reduceCtorEq, Nat.reduceEqDiff, Nat.reduceMod, capK, Try.tm_22, Try.tm_3]; exact hq) (by first | rfl | (simp only [go_sem, Nat.reduceLeDiff]; done) | (simp only [go_sem, Nat.reduceLeDiff]; rfl) | (simp; done) | (simp [oneD] <;> omega) | (simp_all; done) | (simp_all [oneD] <;> omega)) (by first | exact Nat.le_refl _ | exact Nat.le_of_ble_eq_true rfl | (dsimp only; omega) | (simp <;> omega)) ?_
 refine .cond rfl rfl (fun hc => ?_) (fun hc => by simp at hc)
 refine .seq ?_
 refine .plain Try.tmOk Try.tmMixed [0, 2] (by decide +kernel) (by intro q hq; simp only [go_sem, appendD, Nat.reduceSub, Int.reduceEq, Nat.reduceLT, Nat.reduceDiv, Nat.reduceAdd, Nat.reduceBEq, Nat.reduceLeDiff, reduceCtorEq, Nat.reduceEqDiff, Nat.reduceMod, capK, Try.tm_22, Try.tm_3, bij, bik, bjk, bji, bki, bkj]; exact hq) (by first | rfl | (simp only [go_sem, Nat.reduceLeDiff]; done) | (simp only [go_sem, Nat.reduceLeDiff]; rfl) | (simp; done) | (simp [oneD] <;> omega) | (simp_all; done) | (simp_all [oneD] <;> omega)) (by first | exact Nat.le_refl _ | exact Nat.le_of_ble_eq_true rfl | (dsimp only; omega) | (simp <;> omega)) ?_
 refine .ret ⟨.inr rfl, retH [j, k] ?_ ?_⟩
 ·simp only [ResIs, resL, resD, resT, go_sem, appendD, Nat.reduceSub, Int.reduceEq, Nat.reduceLT, Nat.reduceDiv, Nat.reduceAdd, Nat.reduceBEq, Nat.reduceLeDiff, reduceCtorEq, Nat.reduceEqDiff, Nat.reduceMod, Try.f55]
 ·simp only [pickL, getL, effL, put, del, Nat.beq_refl, cond_true, cond_false, bij, bik, bjk, bji, bki, bkj, List.take_length]
theorem ins55g (i j k : Nat) (hij : i ≠ j) (hik : i ≠ k) (hjk : j ≠ k) (L : List D) (x : D) (P Q : Bool) (at' c : Nat) (hck : capK c = true) (hat : at' < L.length) (hL : L.length < 1000000) (h1 : L.length ≤ c) (h2 : c < L.length + 1) :
  CallH Try.prog 55 [.ref i 7 0 L.length (some c), .int .i64 (at' : Int), .ref j 7 0 1 (some 1)] [(i, .arr 52 7 P L), (j, .arr 52 7 Q [x])] (.ref k 7 0 (L.length + 1) none) [(k, some (.arr 52 7 (P && Q) (L.take at' ++ x :: L.drop at'))), (i, none)] (k, k + 1) := by
 obtain rfl : c = L.length := by omega
 have hck2 := hck
 have bij : Nat.beq i j = false := beq_ne hij
 have bik : Nat.beq i k = false := beq_ne hik
 have bjk : Nat.beq j k = false := beq_ne hjk
 have bji : Nat.beq j i = false := beq_ne (Ne.symm hij)
 have bki : Nat.beq k i = false := beq_ne (Ne.symm hik)
 have bkj : Nat.beq k j = false := beq_ne (Ne.symm hjk)
 have hw : wr .i64 ((L.length : Int) + ((1 : Nat) : Int)) = ((L.length + 1 : Nat) : Int) := wr_eq _ _ (by show (-9223372036854775808 : Int) ≤ _; omega) (by show _ ≤ (9223372036854775807 : Int); omega)
 have hw2 : wr .i64 (((L.length + 1 : Nat) : Int) - (at' : Int)) = ((L.length + 1 - at' : Nat) : Int) := by
  rw [wr_eq _ _ (by show (-9223372036854775808 : Int) ≤ _; omega) (by show _ ≤ (9223372036854775807 : Int); omega)]
  omega
 have hw3 : wr .i64 ((at' : Int) + ((1 : Nat) : Int)) = ((at' + 1 : Nat) : Int) := wr_eq _ _ (by show (-9223372036854775808 : Int) ≤ _; omega) (by show _ ≤ (9223372036854775807 : Int); omega)
 have ha : at' + (L.length + 1 - at') = L.length + 1 := by omega
 have pq : (P && Q && P) = (P && Q) := by cases P <;> cases Q <;> rfl
 have hm1 : Nat.min 1 (L.length + 1 - at') = 1 := by show min 1 (L.length + 1 - at') = 1; omega
 have hm2 : Nat.min (L.length - at') (L.length + 1 - (at' + 1)) = L.length - at' := by show min (L.length - at') (L.length + 1 - (at' + 1)) = L.length - at'; omega
 have tk : (L.take at').length = at' := by simp; omega
 have e1 : List.take at' (List.take at' L ++ List.replicate (L.length + 1 - at') (D.agg [D.int .i64 0, D.imm 0 [] 0, D.int .i64 0, D.str [], D.str [], D.int .i64 0, D.bool false])) = List.take at' L := by
  rw [List.take_append_of_le_length (by omega), List.take_of_length_le (by omega)]
 have e2 : List.drop (at' + 1) (List.take at' L ++ List.replicate (L.length + 1 - at') (D.agg [D.int .i64 0, D.imm 0 [] 0, D.int .i64 0, D.str [], D.str [], D.int .i64 0, D.bool false])) = List.replicate (L.length - at') (D.agg [D.int .i64 0, D.imm 0 [] 0, D.int .i64 0, D.str [], D.str [], D.int .i64 0, D.bool false]) := by
  rw [List.drop_append, List.drop_eq_nil_of_le (by omega), tk, List.nil_append, List.drop_replicate]
  congr 1; omega
 have e3 : List.take (at' + 1) (List.take at' L ++ [x] ++ List.replicate (L.length - at') (D.agg [D.int .i64 0, D.imm 0 [] 0, D.int .i64 0, D.str [], D.str [], D.int .i64 0, D.bool false])) = List.take at' L ++ [x] := by
  rw [List.take_append_of_le_length (by simp; omega), List.take_of_length_le (by simp; omega)]
 have e4 : List.drop (at' + 1 + (L.length - at')) (List.take at' L ++ [x] ++ List.replicate (L.length - at') (D.agg [D.int .i64 0, D.imm 0 [] 0, D.int .i64 0, D.str [], D.str [], D.int .i64 0, D.bool false])) = [] := List.drop_eq_nil_of_le (by simp; omega)
 have e5 : List.take (L.length - at') (List.drop at' L) = List.drop at' L := List.take_of_length_le (by simp)
 have l1 : (List.take at' L ++ List.replicate (L.length + 1 - at') (D.agg [D.int .i64 0, D.imm 0 [] 0, D.int .i64 0, D.str [], D.str [], D.int .i64 0, D.bool false])).length = L.length + 1 := by simp; omega
 have l2 : (List.take at' L ++ [x] ++ List.replicate (L.length - at') (D.agg [D.int .i64 0, D.imm 0 [] 0, D.int .i64 0, D.str [], D.str [], D.int .i64 0, D.bool false])).length = L.length + 1 := by simp; omega
 refine callH_intro' Try.tmOk Try.func55 rfl (by decide) (Nat.le_of_ble_eq_true rfl) (by simp) ?_
 intro hwf
 refine .seq ?_
 refine .plain Try.tmOk Try.tmMixed [0, 1, 2] (by decide +kernel) (by intro q hq; simp only [go_sem, appendD, Nat.reduceSub, Int.reduceEq, Nat.reduceLT, Nat.reduceDiv, Nat.reduceAdd, Nat.reduceBEq, Nat.reduceLeDiff, reduceCtorEq, Nat.reduceEqDiff, Nat.reduceMod, hck]; exact hq) (by first | rfl | (simp only [go_sem, Nat.reduceLeDiff]; done) | (simp only [go_sem, Nat.reduceLeDiff]; rfl) | (simp; done) | (simp [oneD] <;> omega) | (simp_all; done) | (simp_all [oneD] <;> omega)) (by first | exact Nat.le_refl _ | exact Nat.le_of_ble_eq_true rfl | (dsimp only; omega) | (simp <;> omega)) ?_
 refine .seq ?_
 refine .plain Try.tmOk Try.tmMixed [0, 1, 2] (by decide +kernel) (by intro q hq; simp only [go_sem, appendD, Nat.reduceSub, Int.reduceEq, Nat.reduceLT, Nat.reduceDiv, Nat.reduceAdd, Nat.reduceBEq, Nat.reduceLeDiff, reduceCtorEq, Nat.reduceEqDiff, Nat.reduceMod, Try.tm_22, Try.tm_3, hck]; exact hq) (by first | rfl | (simp only [go_sem, Nat.reduceLeDiff]; done) | (simp only [go_sem, Nat.reduceLeDiff]; rfl) | (simp; done) | (simp [oneD] <;> omega) | (simp_all; done) | (simp_all [oneD] <;> omega)) (by first | exact Nat.le_refl _ | exact Nat.le_of_ble_eq_true rfl | (dsimp only; omega) | (simp <;> omega)) ?_
 refine .seq ?_
 refine .plain Try.tmOk Try.tmMixed [0, 1, 2] (by decide +kernel) (by intro q hq; simp only [go_sem, appendD, Nat.reduceSub, Int.reduceEq, Nat.reduceLT, Nat.reduceDiv, Nat.reduceAdd, Nat.reduceBEq, Nat.reduceLeDiff, reduceCtorEq, Nat.reduceEqDiff, Nat.reduceMod, Try.tm_22, Try.tm_3, hck]; exact hq) (by first | rfl | (simp only [go_sem, Nat.reduceLeDiff]; done) | (simp only [go_sem, Nat.reduceLeDiff]; rfl) | (simp; done) | (simp [oneD] <;> omega) | (simp_all; done) | (simp_all [oneD] <;> omega)) (by first | exact Nat.le_refl _ | exact Nat.le_of_ble_eq_true rfl | (dsimp only; omega) | (simp <;> omega)) ?_
 refine .seq ?_
 refine .seq ?_
 refine .plain Try.tmOk Try.tmMixed [0, 1, 2, 7] (by decide +kernel) (by intro q hq; simp only [go_sem, appendD, Nat.reduceSub, Int.reduceEq, Nat.reduceLT, Nat.reduceDiv, Nat.reduceAdd, Nat.reduceBEq, Nat.reduceLeDiff, reduceCtorEq, Nat.reduceEqDiff, Nat.reduceMod, Try.tm_22, Try.tm_3, hck]; exact hq) (by first | rfl | (simp only [go_sem, Nat.reduceLeDiff]; done) | (simp only [go_sem, Nat.reduceLeDiff]; rfl) | (simp; done) | (simp [oneD] <;> omega) | (simp_all; done) | (simp_all [oneD] <;> omega)) (by first | exact Nat.le_refl _ | exact Nat.le_of_ble_eq_true rfl | (dsimp only; omega) | (simp <;> omega)) ?_
 refine .cond rfl rfl (fun hc => by simp at hc) (fun hc => ?_)
 refine .skip ?_
 refine .seq ?_
 refine .plain Try.tmOk Try.tmMixed [0, 1, 2, 7] (by decide +kernel) (by intro q hq; simp only [go_sem, appendD, Nat.reduceSub, Int.reduceEq, Nat.reduceLT, Nat.reduceDiv, Nat.reduceAdd, Nat.reduceBEq, Nat.reduceLeDiff, reduceCtorEq, Nat.reduceEqDiff, Nat.reduceMod, Try.tm_22, Try.tm_3, hck]; exact hq) (by first | rfl | (simp only [go_sem, Nat.reduceLeDiff]; done) | (simp only [go_sem, Nat.reduceLeDiff]; rfl) | (simp; done) | (simp [oneD] <;> omega) | (simp_all; done) | (simp_all [oneD] <;> omega)) (by first | exact Nat.le_refl _ | exact Nat.le_of_ble_eq_true rfl | (dsimp only; omega) | (simp <;> omega)) ?_
 refine .seq ?_
 refine .seq ?_
 refine .plain Try.tmOk Try.tmMixed [0, 1, 2, 7, 8] (by decide +kernel) (by intro q hq; simp only [go_sem, appendD, Nat.reduceSub, Int.reduceEq, Nat.reduceLT, Nat.reduceDiv, Nat.reduceAdd, Nat.reduceBEq, Nat.reduceLeDiff, reduceCtorEq, Nat.reduceEqDiff, Nat.reduceMod, Try.tm_22, Try.tm_3, hck]; exact hq) (by first | rfl | (simp only [go_sem, Nat.reduceLeDiff]; done) | (simp only [go_sem, Nat.reduceLeDiff]; rfl) | (simp; done) | (simp [oneD] <;> omega) | (simp_all; done) | (simp_all [oneD] <;> omega)) (by first | exact Nat.le_refl _ | exact Nat.le_of_ble_eq_true rfl | (dsimp only; omega) | (simp <;> omega)) ?_
 refine .cond rfl rfl (fun hc => by simp at hc; omega) (fun hc => ?_)
 refine .skip ?_
 refine .seq ?_
 refine .seq ?_
 refine .plain Try.tmOk Try.tmMixed [0, 1, 2, 7, 8] (by decide +kernel) (by intro q hq; simp only [go_sem, appendD, Nat.reduceSub, Int.reduceEq, Nat.reduceLT, Nat.reduceDiv, Nat.reduceAdd, Nat.reduceBEq, Nat.reduceLeDiff, reduceCtorEq, Nat.reduceEqDiff, Nat.reduceMod, Try.tm_22, Try.tm_3, hck, hw]; exact hq) (by first | rfl | (simp only [go_sem, Nat.reduceLeDiff]; done) | (simp only [go_sem, Nat.reduceLeDiff]; rfl) | (simp; done) | (simp [oneD] <;> omega) | (simp_all; done) | (simp_all [oneD] <;> omega)) (by first | exact Nat.le_refl _ | exact Nat.le_of_ble_eq_true rfl | (dsimp only; omega) | (simp <;> omega)) ?_
 refine .cond rfl rfl (fun hc => ?_) (fun hc => by simp at hc; omega)
 refine .seq ?_
 refine .plain Try.tmOk Try.tmMixed [0, 1, 2, 7, 8] (by decide +kernel) (by intro q hq; simp only [go_sem, appendD, Nat.reduceSub, Int.reduceEq, Nat.reduceLT, Nat.reduceDiv, Nat.reduceAdd, Nat.reduceBEq, Nat.reduceLeDiff, reduceCtorEq, Nat.reduceEqDiff, Nat.reduceMod, Try.tm_22, Try.tm_3, hck, hw, hw2, ha, appendZ, Int.sub_zero, Int.toNat_zero, Int.toNat_sub, bij, bik, bjk, bji, bki, bkj]; exact hq) (by first | rfl | (simp only [go_sem, Nat.reduceLeDiff]; done) | (simp only [go_sem, Nat.reduceLeDiff]; rfl) | (simp; done) | (simp [oneD] <;> omega) | (simp_all; done) | (simp_all [oneD] <;> omega)) (by first | exact Nat.le_refl _ | exact Nat.le_of_ble_eq_true rfl | (dsimp only; omega) | (simp <;> omega)) ?_
 refine .seq ?_
 refine .plain Try.tmOk Try.tmMixed [0, 1, 2, 7, 8, 9] (by decide +kernel) (by intro q hq; simp only [go_sem, appendD, Nat.reduceSub, Int.reduceEq, Nat.reduceLT, Nat.reduceDiv, Nat.reduceAdd, Nat.reduceBEq, Nat.reduceLeDiff, reduceCtorEq, Nat.reduceEqDiff, Nat.reduceMod, Try.tm_22, Try.tm_3, hck, hw, hw2, ha, appendZ, Int.sub_zero, Int.toNat_zero, Int.toNat_sub, bij, bik, bjk, bji, bki, bkj, Int.toNat_sub, hm1, e1, e2, List.take_one, List.take_succ_cons]; exact hq) (by first | rfl | (simp only [go_sem, Nat.reduceLeDiff]; done) | (simp only [go_sem, Nat.reduceLeDiff]; rfl) | (simp; done) | (simp [oneD] <;> omega) | (simp_all; done) | (simp_all [oneD] <;> omega)) (by first | exact Nat.le_refl _ | exact Nat.le_of_ble_eq_true rfl | (dsimp only; omega) | (simp <;> omega)) ?_
 refine .seq ?_
 refine .drawn Try.tmOk Try.tmMixed [0, 1, 2, 7, 8, 9] (by decide +kernel) (by intro q hq; simp only [go_sem, appendD, Nat.reduceSub, Int.reduceEq, Nat.reduceLT, Nat.reduceDiv, Nat.reduceAdd, Nat.reduceBEq, Nat.reduceLeDiff, reduceCtorEq, Nat.reduceEqDiff, Nat.reduceMod, Try.tm_22, Try.tm_3, hck, hw, hw2, hw3, ha, appendZ, capS, bij, bik, bjk, bji, bki, bkj, Int.toNat_sub, hm1, hm2, e3, e4, e5]; exact hq) (schedB_of (by kernel_rfl)) (by first | rfl | (simp only [go_sem, Nat.reduceLeDiff]; done) | (simp only [go_sem, Nat.reduceLeDiff]; rfl) | (simp; done) | (simp [oneD] <;> omega) | (simp_all; done) | (simp_all [oneD] <;> omega)) (by first | exact Nat.le_refl _ | exact Nat.le_of_ble_eq_true rfl | (dsimp only; omega) | (simp <;> omega)) ?_
 refine .seq ?_
 refine .plain Try.tmOk Try.tmMixed [9] (by decide +kernel) (by intro q hq; simp only [go_sem, appendD, Nat.reduceSub, Int.reduceEq, Nat.reduceLT, Nat.reduceDiv, Nat.reduceAdd, Nat.reduceBEq, Nat.reduceLeDiff, reduceCtorEq, Nat.reduceEqDiff, Nat.reduceMod, Try.tm_22, Try.tm_3, hck]; exact hq) (by first | rfl | (simp only [go_sem, Nat.reduceLeDiff]; done) | (simp only [go_sem, Nat.reduceLeDiff]; rfl) | (simp; done) | (simp [oneD] <;> omega) | (simp_all; done) | (simp_all [oneD] <;> omega)) (by first | exact Nat.le_refl _ | exact Nat.le_of_ble_eq_true rfl | (dsimp only; omega) | (simp <;> omega)) ?_
 refine .ret ⟨.inr rfl, retH [j, k] ?_ ?_⟩
 ·simp only [ResIs, resL, resD, resT, go_sem, appendD, Nat.reduceSub, Int.reduceEq, Nat.reduceLT, Nat.reduceDiv, Nat.reduceAdd, Nat.reduceBEq, Nat.reduceLeDiff, reduceCtorEq, Nat.reduceEqDiff, Nat.reduceMod, Try.f55]
 ·simp only [pickL, getL, effL, put, del, Nat.beq_refl, cond_true, cond_false, bij, bik, bjk, bji, bki, bkj, pq, List.append_assoc, List.singleton_append, List.append_nil]
theorem ins55r (i j k : Nat) (hij : i ≠ j) (L : List D) (x : D) (P Q : Bool) (at' c : Nat) (hck : capK c = true) (hat : at' < L.length) (hL : L.length < 1000000) (h1 : L.length + 1 ≤ c) :
  CallH Try.prog 55 [.ref i 7 0 L.length (some c), .int .i64 (at' : Int), .ref j 7 0 1 (some 1)] [(i, .arr 52 7 P L), (j, .arr 52 7 Q [x])] (.ref i 7 0 (L.length + 1) (some c)) [(i, some (.arr 52 7 (P && Q) (L.take at' ++ x :: L.drop at')))] (k, k) := by
 have bij : Nat.beq i j = false := beq_ne hij
 have bji : Nat.beq j i = false := beq_ne (Ne.symm hij)
 have hw : wr .i64 ((L.length : Int) + ((1 : Nat) : Int)) = ((L.length + 1 : Nat) : Int) := wr_eq _ _ (by show (-9223372036854775808 : Int) ≤ _; omega) (by show _ ≤ (9223372036854775807 : Int); omega)
 have hw3 : wr .i64 ((at' : Int) + ((1 : Nat) : Int)) = ((at' + 1 : Nat) : Int) := wr_eq _ _ (by show (-9223372036854775808 : Int) ≤ _; omega) (by show _ ≤ (9223372036854775807 : Int); omega)
 have hm1 : Nat.min 1 (L.length + 1 - at') = 1 := by show min 1 (L.length + 1 - at') = 1; omega
 have hm2 : Nat.min (L.length + 1 - at') (L.length + 1 - (at' + 1)) = L.length - at' := by show min (L.length + 1 - at') (L.length + 1 - (at' + 1)) = L.length - at'; omega
 have hn1 : L.length + 1 - (at' + 1) = (L.length - at' - 1) + 1 := by omega
 have tk : (L.take at').length = at' := by simp; omega
 have tk1 : (L.take (at' + 1)).length = at' + 1 := by simp; omega
 have e5 : List.take (L.length - at') (List.drop at' L) = List.drop at' L := List.take_of_length_le (by simp)
 have e4 : List.drop (at' + 1 + (L.length - at')) L = [] := List.drop_eq_nil_of_le (by omega)
 have e1 : List.take at' (List.take (at' + 1) L ++ List.drop at' L) = List.take at' L := by
  rw [List.take_append_of_le_length (by omega), List.take_take]
  congr 1; omega
 have e2 : List.drop (at' + 1) (List.take (at' + 1) L ++ List.drop at' L) = List.drop at' L := by
  rw [List.drop_append, List.drop_eq_nil_of_le (by omega), tk1, Nat.sub_self, List.drop_zero, List.nil_append]
 refine callH_intro' Try.tmOk Try.func55 rfl (by decide) (Nat.le_of_ble_eq_true rfl) (by simp) ?_
 intro hwf
 refine .seq ?_
 refine .plain Try.tmOk Try.tmMixed [0, 1, 2] (by decide +kernel) (by intro q hq; simp only [go_sem, appendD, Nat.reduceSub, Int.reduceEq, Nat.reduceLT, Nat.reduceDiv, Nat.reduceAdd, Nat.reduceBEq, Nat.reduceLeDiff, reduceCtorEq, Nat.reduceEqDiff, Nat.reduceMod, hck]; exact hq) (by first | rfl | (simp only [go_sem, Nat.reduceLeDiff]; done) | (simp only [go_sem, Nat.reduceLeDiff]; rfl) | (simp; done) | (simp [oneD] <;> omega) | (simp_all; done) | (simp_all [oneD] <;> omega)) (by first | exact Nat.le_refl _ | exact Nat.le_of_ble_eq_true rfl | (dsimp only; omega) | (simp <;> omega)) ?_
 refine .seq ?_
 refine .plain Try.tmOk Try.tmMixed [0, 1, 2] (by decide +kernel) (by intro q hq; simp only [go_sem, appendD, Nat.reduceSub, Int.reduceEq, Nat.reduceLT, Nat.reduceDiv, Nat.reduceAdd, Nat.reduceBEq, Nat.reduceLeDiff, reduceCtorEq, Nat.reduceEqDiff, Nat.reduceMod, Try.tm_22, Try.tm_3, hck]; exact hq) (by first | rfl | (simp only [go_sem, Nat.reduceLeDiff]; done) | (simp only [go_sem, Nat.reduceLeDiff]; rfl) | (simp; done) | (simp [oneD] <;> omega) | (simp_all; done) | (simp_all [oneD] <;> omega)) (by first | exact Nat.le_refl _ | exact Nat.le_of_ble_eq_true rfl | (dsimp only; omega) | (simp <;> omega)) ?_
 refine .seq ?_
 refine .plain Try.tmOk Try.tmMixed [0, 1, 2] (by decide +kernel) (by intro q hq; simp only [go_sem, appendD, Nat.reduceSub, Int.reduceEq, Nat.reduceLT, Nat.reduceDiv, Nat.reduceAdd, Nat.reduceBEq, Nat.reduceLeDiff, reduceCtorEq, Nat.reduceEqDiff, Nat.reduceMod, Try.tm_22, Try.tm_3, hck]; exact hq) (by first | rfl | (simp only [go_sem, Nat.reduceLeDiff]; done) | (simp only [go_sem, Nat.reduceLeDiff]; rfl) | (simp; done) | (simp [oneD] <;> omega) | (simp_all; done) | (simp_all [oneD] <;> omega)) (by first | exact Nat.le_refl _ | exact Nat.le_of_ble_eq_true rfl | (dsimp only; omega) | (simp <;> omega)) ?_
 refine .seq ?_
 refine .seq ?_
 refine .plain Try.tmOk Try.tmMixed [0, 1, 2, 7] (by decide +kernel) (by intro q hq; simp only [go_sem, appendD, Nat.reduceSub, Int.reduceEq, Nat.reduceLT, Nat.reduceDiv, Nat.reduceAdd, Nat.reduceBEq, Nat.reduceLeDiff, reduceCtorEq, Nat.reduceEqDiff, Nat.reduceMod, Try.tm_22, Try.tm_3, hck]; exact hq) (by first | rfl | (simp only [go_sem, Nat.reduceLeDiff]; done) | (simp only [go_sem, Nat.reduceLeDiff]; rfl) | (simp; done) | (simp [oneD] <;> omega) | (simp_all; done) | (simp_all [oneD] <;> omega)) (by first | exact Nat.le_refl _ | exact Nat.le_of_ble_eq_true rfl | (dsimp only; omega) | (simp <;> omega)) ?_
 refine .cond rfl rfl (fun hc => by simp at hc) (fun hc => ?_)
 refine .skip ?_
 refine .seq ?_
 refine .plain Try.tmOk Try.tmMixed [0, 1, 2, 7] (by decide +kernel) (by intro q hq; simp only [go_sem, appendD, Nat.reduceSub, Int.reduceEq, Nat.reduceLT, Nat.reduceDiv, Nat.reduceAdd, Nat.reduceBEq, Nat.reduceLeDiff, reduceCtorEq, Nat.reduceEqDiff, Nat.reduceMod, Try.tm_22, Try.tm_3, hck]; exact hq) (by first | rfl | (simp only [go_sem, Nat.reduceLeDiff]; done) | (simp only [go_sem, Nat.reduceLeDiff]; rfl) | (simp; done) | (simp [oneD] <;> omega) | (simp_all; done) | (simp_all [oneD] <;> omega)) (by first | exact Nat.le_refl _ | exact Nat.le_of_ble_eq_true rfl | (dsimp only; omega) | (simp <;> omega)) ?_
 refine .seq ?_
 refine .seq ?_
 refine .plain Try.tmOk Try.tmMixed [0, 1, 2, 7, 8] (by decide +kernel) (by intro q hq; simp only [go_sem, appendD, Nat.reduceSub, Int.reduceEq, Nat.reduceLT, Nat.reduceDiv, Nat.reduceAdd, Nat.reduceBEq, Nat.reduceLeDiff, reduceCtorEq, Nat.reduceEqDiff, Nat.reduceMod, Try.tm_22, Try.tm_3, hck]; exact hq) (by first | rfl | (simp only [go_sem, Nat.reduceLeDiff]; done) | (simp only [go_sem, Nat.reduceLeDiff]; rfl) | (simp; done) | (simp [oneD] <;> omega) | (simp_all; done) | (simp_all [oneD] <;> omega)) (by first | exact Nat.le_refl _ | exact Nat.le_of_ble_eq_true rfl | (dsimp only; omega) | (simp <;> omega)) ?_
 refine .cond rfl rfl (fun hc => by simp at hc; omega) (fun hc => ?_)
 refine .skip ?_
 refine .seq ?_
 refine .seq ?_
 refine .plain Try.tmOk Try.tmMixed [0, 1, 2, 7, 8] (by decide +kernel) (by intro q hq; simp only [go_sem, appendD, Nat.reduceSub, Int.reduceEq, Nat.reduceLT, Nat.reduceDiv, Nat.reduceAdd, Nat.reduceBEq, Nat.reduceLeDiff, reduceCtorEq, Nat.reduceEqDiff, Nat.reduceMod, Try.tm_22, Try.tm_3, hck, hw]; exact hq) (by first | rfl | (simp only [go_sem, Nat.reduceLeDiff]; done) | (simp only [go_sem, Nat.reduceLeDiff]; rfl) | (simp; done) | (simp [oneD] <;> omega) | (simp_all; done) | (simp_all [oneD] <;> omega)) (by first | exact Nat.le_refl _ | exact Nat.le_of_ble_eq_true rfl | (dsimp only; omega) | (simp <;> omega)) ?_
 refine .cond rfl rfl (fun hc => by simp at hc; omega) (fun hc => ?_)
 refine .skip ?_
 refine .seq ?_
 refine .plain Try.tmOk Try.tmMixed [0, 1, 2, 7, 8] (by decide +kernel) (by intro q hq; simp only [go_sem, appendD, Nat.reduceSub, Int.reduceEq, Nat.reduceLT, Nat.reduceDiv, Nat.reduceAdd, Nat.reduceBEq, Nat.reduceLeDiff, reduceCtorEq, Nat.reduceEqDiff, Nat.reduceMod, Try.tm_22, Try.tm_3, hck, hw, roomV, Option.isSome, Int.sub_zero, Int.toNat_zero, Nat.sub_zero, bij, bji]; exact hq) (by first | rfl | (simp only [go_sem, Nat.reduceLeDiff]; done) | (simp only [go_sem, Nat.reduceLeDiff]; rfl) | (simp; done) | (simp [oneD] <;> omega) | (simp_all; done) | (simp_all [oneD] <;> omega)) (by first | exact Nat.le_refl _ | exact Nat.le_of_ble_eq_true rfl | (dsimp only; omega) | (simp <;> omega)) ?_
 refine .seq ?_
 refine .seq ?_
 refine .reg Try.tmOk Try.tmMixed [0, 1, 2, 7] (by decide +kernel) ?_
 refine .R (dr := false) (.inr fun _ _ _ h => ⟨nofun, h.2⟩) (by intro q hq; simp only [go_sem, appendD, Nat.reduceSub, Int.reduceEq, Nat.reduceLT, Nat.reduceDiv, Nat.reduceAdd, Nat.reduceBEq, Nat.reduceLeDiff, reduceCtorEq, Nat.reduceEqDiff, Nat.reduceMod, Try.tm_22, Try.tm_3, hck, hw3, Int.toNat_sub, bij, bji]; exact hq) (by first | rfl | (simp only [go_sem, Nat.reduceLeDiff]; done) | (simp only [go_sem, Nat.reduceLeDiff]; rfl) | (simp; done) | (simp [oneD] <;> omega) | (simp_all; done) | (simp_all [oneD] <;> omega)) (by first | exact Nat.le_refl _ | exact Nat.le_of_ble_eq_true rfl | (dsimp only; omega) | (simp <;> omega)) ?_
 refine .overs (i := j) (j := i) rfl rfl rfl rfl rfl overs74 ⟨7, 0, 0, some 1, 7 - 1, at' + 1, L.length - at' - 1, some (c - (at' + 1)), 52, 7, Q, [x], 52, 7, P, L, by
  show [D.ref j 7 0 1 (some 1), D.ref i 7 (at' + 1) (L.length + 1 - (at' + 1)) (some (c - (at' + 1)))] = _
  rw [hn1], by simp only [getL, bij, cond_false, Nat.beq_refl, cond_true], by simp only [getL, Nat.beq_refl, cond_true], Ne.symm hij⟩ ?_
 refine .R (dr := false) (.inr fun _ _ _ h => ⟨nofun, h.2⟩) (by intro q hq; simp only [go_sem, appendD, Nat.reduceSub, Int.reduceEq, Nat.reduceLT, Nat.reduceDiv, Nat.reduceAdd, Nat.reduceBEq, Nat.reduceLeDiff, reduceCtorEq, Nat.reduceEqDiff, Nat.reduceMod, Try.tm_22, Try.tm_3, hck]; exact hq) (by first | rfl | (simp only [go_sem, Nat.reduceLeDiff]; done) | (simp only [go_sem, Nat.reduceLeDiff]; rfl) | (simp; done) | (simp [oneD] <;> omega) | (simp_all; done) | (simp_all [oneD] <;> omega)) (by first | exact Nat.le_refl _ | exact Nat.le_of_ble_eq_true rfl | (dsimp only; omega) | (simp <;> omega)) ?_
 refine .nil ⟨nofun, ?_⟩
 refine .cond rfl rfl (fun hc => ?_) (fun hc => by cases hc)
 refine .seq ?_
 refine .drawn Try.tmOk Try.tmMixed [0, 1, 2, 7] (by decide +kernel) (by intro q hq; simp only [go_sem, appendD, Nat.reduceSub, Int.reduceEq, Nat.reduceLT, Nat.reduceDiv, Nat.reduceAdd, Nat.reduceBEq, Nat.reduceLeDiff, reduceCtorEq, Nat.reduceEqDiff, Nat.reduceMod, Try.tm_22, Try.tm_3, hck, hw3, Int.toNat_sub, hm2, e4, e5, bij, bji, Bool.and_self, List.append_nil]; exact hq) (schedB_of (by kernel_rfl)) (by first | rfl | (simp only [go_sem, Nat.reduceLeDiff]; done) | (simp only [go_sem, Nat.reduceLeDiff]; rfl) | (simp; done) | (simp [oneD] <;> omega) | (simp_all; done) | (simp_all [oneD] <;> omega)) (by first | exact Nat.le_refl _ | exact Nat.le_of_ble_eq_true rfl | (dsimp only; omega) | (simp <;> omega)) ?_
 refine .seq ?_
 refine .plain Try.tmOk Try.tmMixed [0, 1, 2] (by decide +kernel) (by intro q hq; simp only [go_sem, appendD, Nat.reduceSub, Int.reduceEq, Nat.reduceLT, Nat.reduceDiv, Nat.reduceAdd, Nat.reduceBEq, Nat.reduceLeDiff, reduceCtorEq, Nat.reduceEqDiff, Nat.reduceMod, Try.tm_22, Try.tm_3, hck, Int.toNat_sub, hm1, e1, e2, bij, bji, List.take_succ_cons]; exact hq) (by first | rfl | (simp only [go_sem, Nat.reduceLeDiff]; done) | (simp only [go_sem, Nat.reduceLeDiff]; rfl) | (simp; done) | (simp [oneD] <;> omega) | (simp_all; done) | (simp_all [oneD] <;> omega)) (by first | exact Nat.le_refl _ | exact Nat.le_of_ble_eq_true rfl | (dsimp only; omega) | (simp <;> omega)) ?_
 refine .seq ?_
 refine .plain Try.tmOk Try.tmMixed [0] (by decide +kernel) (by intro q hq; simp only [go_sem, appendD, Nat.reduceSub, Int.reduceEq, Nat.reduceLT, Nat.reduceDiv, Nat.reduceAdd, Nat.reduceBEq, Nat.reduceLeDiff, reduceCtorEq, Nat.reduceEqDiff, Nat.reduceMod, Try.tm_22, Try.tm_3, hck]; exact hq) (by first | rfl | (simp only [go_sem, Nat.reduceLeDiff]; done) | (simp only [go_sem, Nat.reduceLeDiff]; rfl) | (simp; done) | (simp [oneD] <;> omega) | (simp_all; done) | (simp_all [oneD] <;> omega)) (by first | exact Nat.le_refl _ | exact Nat.le_of_ble_eq_true rfl | (dsimp only; omega) | (simp <;> omega)) ?_
 refine .ret ⟨.inr rfl, retH [i, j] ?_ ?_⟩
 ·simp only [ResIs, resL, resD, resT, go_sem, appendD, Nat.reduceSub, Int.reduceEq, Nat.reduceLT, Nat.reduceDiv, Nat.reduceAdd, Nat.reduceBEq, Nat.reduceLeDiff, reduceCtorEq, Nat.reduceEqDiff, Nat.reduceMod, Try.f55]
 ·simp only [pickL, getL, effL, put, del, Nat.beq_refl, cond_true, cond_false, bij, bji, List.append_assoc, List.singleton_append, List.append_nil]
theorem ins55 (i j k : Nat) (hij : i ≠ j) (hik : i ≠ k) (hjk : j ≠ k) (L : List D) (x : D) (P Q : Bool) (at' : Nat) (hat : at' ≤ L.length) (hL : L.length < 1000000) :
  CallH Try.prog 55 [.ref i 7 0 L.length (some unkC), .int .i64 (at' : Int), .ref j 7 0 1 (some 1)] [(i, .arr 52 7 P L), (j, .arr 52 7 Q [x])] (.ref k 7 0 (L.length + 1) (some unkC)) [(k, some (.arr 52 7 (P && Q) (L.take at' ++ x :: L.drop at'))), (i, none)] (k, k + 1) := by
 by_cases h : at' = L.length
 ·subst h
  have := ins55e i j k hij hik hjk L x P Q hL
  rw [List.take_length, List.drop_length]
  exact this
 ·exact callH_capW (l := L) (p := P) (ins55e i j k hij hik hjk L x P Q hL).1 (by simp only [getL, Nat.beq_refl, cond_true]) hik (by omega)
   (fun c hc _ h2 => ins55r i j k hij L x P Q at' c hc (by omega) hL h2)
   (fun c hc h1 h2 => ins55g i j k hij hik hjk L x P Q at' c hc (by omega) hL h1 h2)
end Go.Proofs
end
section
namespace Go.Proofs
open Go.Tm
theorem insT55n (i j k : Nat) (hij : i ≠ j) (hik : i ≠ k) (hjk : j ≠ k) (l : List TWait) (x : TWait) (at' : Int) (h : 0 ≤ at' ∧ at' ≤ (l.length : Int)) (hl : l.length < 1000000) :
  CallH Try.prog 55 [.ref i 7 0 l.length (some unkC), .int .i64 at', .ref j 7 0 1 (some 1)] [(i, .arr 52 7 true (l.map TWait.n)), (j, .arr 52 7 true [x.n])] (.ref k 7 0 (l.take at'.toNat ++ x :: l.drop at'.toNat).length (some unkC)) [(k, some (.arr 52 7 true ((l.take at'.toNat ++ x :: l.drop at'.toNat).map TWait.n))), (i, none)] (k, k + 1) := by
 have t := ins55 i j k hij hik hjk (l.map TWait.n) x.n true true at'.toNat (by rw [List.length_map]; omega) (by rw [List.length_map]; exact hl)
 rw [Int.toNat_of_nonneg h.1, List.length_map, take_map, drop_map, ← List.map_cons, ← List.map_append] at t
 have e : l.length + 1 = (l.take at'.toNat ++ x :: l.drop at'.toNat).length := by simp; omega
 rw [e] at t
 exact t
end Go.Proofs
end
section
namespace Go.Proofs
open Go.Tm Go.RowKit Go.WideShapes
set_option maxRecDepth 100000
set_option linter.unusedSimpArgs false
set_option linter.unusedVariables false
attribute [local go_sem] argVars runE runK isCallV stepE aop opd opdsL opds opdO ev ofVal keep List.any natbeq Bool.false_or Bool.true_or aggEq cond_true cond_false Bool.cond_false_right Bool.cond_true_left beq_true beq_false imp_self implies_true getR getL put St.app effL del nwB blt_dec Nat.lt_irrefl Nat.lt_add_one ble_dec Nat.le_refl Nat.beq_refl roomNZ capS mkZ_zero mkZL_zero zeroEl D.ids D.idsL bin arith sarith binT dpick Tm.part splice fillD oneD loadD storeD srcD sliceD idxOk decide_true gval dstAt D.cells List.map_cons List.map_nil List.take List.drop List.length_map List.append Int.toNat_natCast and_true true_and decide_false List.length_cons List.length_nil List.append_nil List.nil_append Bool.and_true Bool.true_and Bool.not_false Bool.not_true ne_eq not_false_eq_true BEq.rfl List.getElem?_cons_zero List.getElem?_cons_succ List.getElem?_nil Nat.zero_add List.all_cons List.all_nil List.isEmpty_cons List.isEmpty_nil Option.getD_some Option.getD_none List.any_cons List.any_nil List.drop_succ_cons List.drop_zero unfL unf okM okML low3 List.cons_append true_or or_true Nat.zero_mul Nat.zero_le fpOf opIds
theorem del56r (i k : Nat) (L : List D) (P : Bool) (at' c : Nat) (hck : capK c = true) (hat : at' < L.length) (hL : L.length < 1000000) (h1 : L.length ≤ c) :
  CallH Try.prog 56 [.ref i 7 0 L.length (some c), .int .i64 (at' : Int), .int .i64 ((at' + 1 : Nat) : Int)] [(i, .arr 52 7 P L)] (.ref i 7 0 (L.length - 1) (some c)) [(i, some (.arr 52 7 P (L.take at' ++ L.drop (at' + 1))))] (k, k) := by
 have e5 : List.take (L.length - (at' + 1)) (List.drop (at' + 1) L) = List.drop (at' + 1) L := List.take_of_length_le (by simp)
 have hl : at' + (L.drop (at' + 1)).length = L.length - 1 := by simp; omega
 have hm : Nat.blt at' L.length = true := Nat.ble_eq_true_of_le hat
 have hcL : L.length - 1 ≤ c := by omega
 have hm2 : at' < L.length := hat
 have hne : ¬ ((at' : Int) = ((at' + 1 : Nat) : Int)) := by omega
 have ha : Nat.beq at' (at' + 1) = false := beq_ne (by omega)
 have l1 : (L.take at' ++ L.drop (at' + 1)).length = L.length - 1 := by simp; omega
 have l2 : (L.take at' ++ L.drop (at' + 1) ++ L.drop (L.length - 1)).length = L.length := by simp; omega
 have t1 : List.take (L.length - 1) (L.take at' ++ L.drop (at' + 1) ++ L.drop (L.length - 1)) = L.take at' ++ L.drop (at' + 1) := by
  rw [List.take_append_of_le_length (by omega), List.take_of_length_le (by omega)]
 have t2 : ∀ R S : List D, List.take (L.length - 1) (L.take at' ++ L.drop (at' + 1) ++ R ++ S) = L.take at' ++ L.drop (at' + 1) := fun R S => by
  rw [List.append_assoc _ R S, List.take_append_of_le_length (by omega), List.take_of_length_le (by omega)]
 have q1 : Int.toNat ((L.length : Int) - ((L.length - 1 : Nat) : Int)) = 1 := by omega
 have q2 : Int.toNat ((L.length - 1 : Nat) : Int) = L.length - 1 := by omega
 have q3 : Int.toNat (((L.length : Int)) - ((at' + 1 : Nat) : Int)) = L.length - (at' + 1) := by omega
 refine callH_intro' Try.tmOk Try.func56 rfl (by decide) (Nat.le_of_ble_eq_true rfl) (by simp) ?_
 intro hwf
 refine .seq ?_
 refine .plain Try.tmOk Try.tmMixed [0, 1, 2] (by decide +kernel) (by intro q hq; simp only [go_sem, appendD, Nat.reduceSub, Int.reduceEq, Nat.reduceLT, Nat.reduceDiv, Nat.reduceAdd, Nat.reduceBEq, Nat.reduceLeDiff, reduceCtorEq, Nat.reduceEqDiff, Nat.reduceMod, hck]; exact hq) (by first | rfl | (simp only [go_sem, Nat.reduceLeDiff]; done) | (simp only [go_sem, Nat.reduceLeDiff]; rfl) | (simp; done) | (simp [oneD] <;> omega) | (simp_all; done) | (simp_all [oneD] <;> omega)) (by first | exact Nat.le_refl _ | exact Nat.le_of_ble_eq_true rfl | (dsimp only; omega) | (simp <;> omega)) ?_
 refine .seq ?_
 refine .plain Try.tmOk Try.tmMixed [0, 1, 2] (by decide +kernel) (by intro q hq; simp only [go_sem, appendD, Nat.reduceSub, Int.reduceEq, Nat.reduceLT, Nat.reduceDiv, Nat.reduceAdd, Nat.reduceBEq, Nat.reduceLeDiff, reduceCtorEq, Nat.reduceEqDiff, Nat.reduceMod, Try.tm_22, Try.tm_3, hck, slice3D, opdO]; exact hq) (by first | rfl | (simp only [go_sem, Nat.reduceLeDiff]; done) | (simp only [go_sem, Nat.reduceLeDiff]; rfl) | (simp; done) | (simp [oneD] <;> omega) | (simp_all; done) | (simp_all [oneD] <;> omega)) (by first | exact Nat.le_refl _ | exact Nat.le_of_ble_eq_true rfl | (dsimp only; omega) | (simp <;> omega)) ?_
 refine .seq ?_
 refine .seq ?_
 refine .plain Try.tmOk Try.tmMixed [0, 1, 2] (by decide +kernel) (by intro q hq; simp only [go_sem, appendD, Nat.reduceSub, Int.reduceEq, Nat.reduceLT, Nat.reduceDiv, Nat.reduceAdd, Nat.reduceBEq, Nat.reduceLeDiff, reduceCtorEq, Nat.reduceEqDiff, Nat.reduceMod, Try.tm_22, Try.tm_3, hck]; exact hq) (by first | rfl | (simp only [go_sem, Nat.reduceLeDiff]; done) | (simp only [go_sem, Nat.reduceLeDiff]; rfl) | (simp; done) | (simp [oneD] <;> omega) | (simp_all; done) | (simp_all [oneD] <;> omega)) (by first | exact Nat.le_refl _ | exact Nat.le_of_ble_eq_true rfl | (dsimp only; omega) | (simp <;> omega)) ?_
 refine .cond rfl rfl (fun hc => by simp at hc; omega) (fun hc => ?_)
 refine .skip ?_
 refine .seq ?_
 refine .plain Try.tmOk Try.tmMixed [0, 1, 2] (by decide +kernel) (by intro q hq; simp only [go_sem, appendD, Nat.reduceSub, Int.reduceEq, Nat.reduceLT, Nat.reduceDiv, Nat.reduceAdd, Nat.reduceBEq, Nat.reduceLeDiff, reduceCtorEq, Nat.reduceEqDiff, Nat.reduceMod, Try.tm_22, Try.tm_3, hck]; exact hq) (by first | rfl | (simp only [go_sem, Nat.reduceLeDiff]; done) | (simp only [go_sem, Nat.reduceLeDiff]; rfl) | (simp; done) | (simp [oneD] <;> omega) | (simp_all; done) | (simp_all [oneD] <;> omega)) (by first | exact Nat.le_refl _ | exact Nat.le_of_ble_eq_true rfl | (dsimp only; omega) | (simp <;> omega)) ?_
 refine .seq ?_
 refine .drawn Try.tmOk Try.tmMixed [0, 1, 2, 7] (by decide +kernel) (by intro q hq; simp only [go_sem, appendD, Nat.reduceSub, Int.reduceEq, Nat.reduceLT, Nat.reduceDiv, Nat.reduceAdd, Nat.reduceBEq, Nat.reduceLeDiff, reduceCtorEq, Nat.reduceEqDiff, Nat.reduceMod, Try.tm_22, Try.tm_3, hck, hm2, hcL, e5, q3, hl, Bool.and_self, Int.sub_zero, Int.toNat_zero, Nat.sub_zero, appendIn]; exact hq) (schedB_of (by kernel_rfl)) (by first | rfl | (simp only [go_sem, Nat.reduceLeDiff]; done) | (simp only [go_sem, Nat.reduceLeDiff]; rfl) | (simp; done) | (simp [oneD] <;> omega) | (simp_all; done) | (simp_all [oneD] <;> omega)) (by first | exact Nat.le_refl _ | exact Nat.le_of_ble_eq_true rfl | (dsimp only; omega) | (simp <;> omega)) ?_
 refine .seq ?_
 refine .plain Try.tmOk Try.tmMixed [0, 7] (by decide +kernel) (by intro q hq; simp only [go_sem, appendD, Nat.reduceSub, Int.reduceEq, Nat.reduceLT, Nat.reduceDiv, Nat.reduceAdd, Nat.reduceBEq, Nat.reduceLeDiff, reduceCtorEq, Nat.reduceEqDiff, Nat.reduceMod, Try.tm_22, Try.tm_3, hck, roomV, Option.isSome, q1, q2, t1, l2, Nat.zero_add]; exact hq) (by first | rfl | (simp only [go_sem, Nat.reduceLeDiff]; done) | (simp only [go_sem, Nat.reduceLeDiff]; rfl) | (simp; done) | (simp [oneD] <;> omega) | (simp_all; done) | (simp_all [oneD] <;> omega)) (by first | exact Nat.le_refl _ | exact Nat.le_of_ble_eq_true rfl | (dsimp only; omega) | (simp <;> omega)) ?_
 refine .goes (.pre i (L.length - 1) _ (by simp only [getL, Nat.beq_refl, cond_true]; rfl) .refl) ?_
 simp only [put, Nat.beq_refl, cond_true, t2]
 refine .seq ?_
 refine .plain Try.tmOk Try.tmMixed [0] (by decide +kernel) (by intro q hq; simp only [go_sem, appendD, Nat.reduceSub, Int.reduceEq, Nat.reduceLT, Nat.reduceDiv, Nat.reduceAdd, Nat.reduceBEq, Nat.reduceLeDiff, reduceCtorEq, Nat.reduceEqDiff, Nat.reduceMod, Try.tm_22, Try.tm_3, hck]; exact hq) (by first | rfl | (simp only [go_sem, Nat.reduceLeDiff]; done) | (simp only [go_sem, Nat.reduceLeDiff]; rfl) | (simp; done) | (simp [oneD] <;> omega) | (simp_all; done) | (simp_all [oneD] <;> omega)) (by first | exact Nat.le_refl _ | exact Nat.le_of_ble_eq_true rfl | (dsimp only; omega) | (simp <;> omega)) ?_
 refine .ret ⟨.inr rfl, retH [i] ?_ ?_⟩
 ·simp only [ResIs, resL, resD, resT, go_sem, appendD, Nat.reduceSub, Int.reduceEq, Nat.reduceLT, Nat.reduceDiv, Nat.reduceAdd, Nat.reduceBEq, Nat.reduceLeDiff, reduceCtorEq, Nat.reduceEqDiff, Nat.reduceMod, Try.f56]
 ·simp only [pickL, getL, effL, put, del, Nat.beq_refl, cond_true, cond_false, List.append_assoc, List.singleton_append, List.append_nil]
theorem del56 (i k : Nat) (hik : i ≠ k) (L : List D) (P : Bool) (at' : Nat) (hat : at' < L.length) (hL : L.length < 1000000) :
  CallH Try.prog 56 [.ref i 7 0 L.length (some unkC), .int .i64 (at' : Int), .int .i64 ((at' + 1 : Nat) : Int)] [(i, .arr 52 7 P L)] (.ref k 7 0 (L.length - 1) (some unkC)) [(k, some (.arr 52 7 P (L.take at' ++ L.drop (at' + 1)))), (i, none)] (k, k + 1) := by
 exact callH_capW (l := L) (p := P) ⟨Try.f56, Try.func56, by decide, rfl⟩ (by simp only [getL, Nat.beq_refl, cond_true]) hik (.inr (by omega))
   (fun c hc h1 _ => del56r i k L P at' c hc hat hL h1)
   (fun c hc h1 h2 => by omega)
end Go.Proofs
end
section
namespace Go.Proofs
open Go.Tm
theorem delT56n (i k : Nat) (hik : i ≠ k) (l : List TWait) (at' : Int) (h : 0 ≤ at' ∧ at' < (l.length : Int)) (hl : l.length < 1000000) :
  CallH Try.prog 56 [.ref i 7 0 l.length (some unkC), .int .i64 at', .int .i64 (wr .i64 (at' + 1))] [(i, .arr 52 7 true (l.map TWait.n))] (.ref k 7 0 (l.eraseIdx at'.toNat).length (some unkC)) [(k, some (.arr 52 7 true ((l.eraseIdx at'.toNat).map TWait.n))), (i, none)] (k, k + 1) := by
 have t := del56 i k hik (l.map TWait.n) true at'.toNat (by rw [List.length_map]; omega) (by rw [List.length_map]; exact hl)
 have hw : wr .i64 (at' + 1) = ((at'.toNat + 1 : Nat) : Int) := by
  rw [wr_eq _ _ (by show (-9223372036854775808 : Int) ≤ _; omega) (by show _ ≤ (9223372036854775807 : Int); omega)]
  omega
 rw [Int.toNat_of_nonneg h.1, List.length_map, take_map, drop_map, ← List.map_append, ← List.eraseIdx_eq_take_drop_succ, ← hw] at t
 have e : l.length - 1 = (l.eraseIdx at'.toNat).length := by rw [List.length_eraseIdx_of_lt (by omega)]
 rw [e] at t
 exact t
end Go.Proofs
end
section
namespace Go.Proofs
open Go.Tm
set_option linter.unusedVariables false
def m_stamp_Check (a0 : TStamp) : Option Int :=
 if (((a0.Time < 0) ∨ (a0.Time > 1073741824)) ∨ (a0.Id < 0)) ∨ (a0.Id ≥ 6291456) then
 some 8
 else
 some 0
def m_command_in (a0 : Int) (a1 : Int) (a2 : Int) : Option Bool :=
 some ((decide (a0 ≥ a1)) && (decide (a0 ≤ a2)))
def m_command_id (a0 : Int) : Option Bool :=
 Option.bind (m_command_in a0 0 6291455) fun v1 =>
 some v1
def m_command_CheckMessage_loop1 (a0 : TMessage) : List Int → Nat → Bool → Option (Bool)
 | [], n1, b2 =>
  some b2
 | y1 :: rest1, n1, b2 =>
  Option.bind (if b2 = true then m_command_in (y1) 0 3 else some default) fun v1 =>
  m_command_CheckMessage_loop1 a0 rest1 (n1 + 1) ((b2 && v1) && (((n1 : Int) == 0) || (decide (y1 > (a0.Groups.getD (n1 - 1) default)))))
def m_command_CheckMessage (a0 : TMessage) : Option Int :=
 Option.bind (α := Bool) (m_command_CheckMessage_loop1 a0 a0.Groups 0 ((decide ((a0.Groups.length : Int) ≥ 1)) && (decide ((a0.Groups.length : Int) ≤ 4)))) fun b1 =>
 Option.bind (if ¬ (¬ (b1 = true)) then m_command_id a0.Id else some default) fun v2 =>
 Option.bind (if ¬ ((¬ (b1 = true)) ∨ (¬ (v2 = true))) then m_command_in a0.Topic 0 3 else some default) fun v3 =>
 if ((((¬ (b1 = true)) ∨ (¬ (v2 = true))) ∨ (¬ (v3 = true))) ∨ ((a0.Key.length : Int) > 16)) ∨ ((a0.Body.length : Int) > 64) then
 some 120
 else
 some 0
def m_command_SameMessage (a0 : TMessage) (a1 : TMessage) : Option Bool :=
 Option.bind (if a0.Id = a1.Id then m_slices_Equal_int_int a0.Groups a1.Groups else some default) fun v1 =>
 some (((((a0.Id == a1.Id) && v1) && (a0.Topic == a1.Topic)) && (a0.Key == a1.Key)) && (a0.Body == a1.Body))
def m_command_Same (a0 : TCommand) (a1 : TCommand) : Option Bool :=
 Option.bind (if a0.Kind = a1.Kind then m_command_SameMessage a0.Message a1.Message else some default) fun v1 =>
 Option.bind (if (((a0.Kind = a1.Kind) ∧ (v1 = true)) ∧ (a0.Id = a1.Id)) ∧ (a0.Time = a1.Time) then m_slices_Equal_int_int a0.Members a1.Members else some default) fun v2 =>
 some ((((((((a0.Kind == a1.Kind) && v1) && (a0.Id == a1.Id)) && (a0.Time == a1.Time)) && v2) && (a0.Topic == a1.Topic)) && (a0.Who == a1.Who)) && (a0.N == a1.N))
def m_skeen_of (a0 : TWait) : Option TStamp :=
 some (⟨a0.Time, a0.Message.Id⟩ : TStamp)
def m_cmp_isNaN_int (a0 : Int) : Option Bool :=
 some (a0 != a0)
def m_cmp_Compare_int (a0 : Int) (a1 : Int) : Option Int :=
 Option.bind (m_cmp_isNaN_int a0) fun v1 =>
 Option.bind (m_cmp_isNaN_int a1) fun v2 =>
 if v1 = true then
 if v2 = true then
 some 0
 else
 some (-1)
 else
 if v2 = true then
 some 1
 else
 if a0 < a1 then
 some (-1)
 else
 if a0 > a1 then
 some 1
 else
 some 0
def m_cmp_Or_int_loop1 : List Int → Option (Int ⊕ Unit)
 | [] =>
  some (.inr ())
 | y1 :: rest1 =>
  if ¬ (y1 = 0) then
  some (.inl y1)
  else
  m_cmp_Or_int_loop1 rest1 
def m_cmp_Or_int (a0 : List Int) : Option Int :=
 Option.bind (α := Int ⊕ Unit) (m_cmp_Or_int_loop1 a0 ) fun z => match z with
 | (.inl r) => some r
 | (.inr _) =>
 some 0
def m_slices_Equal_Stamp_Stamp_loop1 (a1 : List TStamp) : List TStamp → Nat → Option (Bool ⊕ Unit)
 | [], n1 =>
  some (.inr ())
 | y1 :: rest1, n1 =>
  if n1 < a1.length then
  if ¬ ((y1.Time = (a1.getD n1 default).Time) ∧ (y1.Id = (a1.getD n1 default).Id)) then
  some (.inl false)
  else
  m_slices_Equal_Stamp_Stamp_loop1 a1 rest1 (n1 + 1) 
  else none
def m_slices_Equal_Stamp_Stamp (a0 : List TStamp) (a1 : List TStamp) : Option Bool :=
 if ¬ ((a0.length : Int) = (a1.length : Int)) then
 some false
 else
 Option.bind (α := Bool ⊕ Unit) (m_slices_Equal_Stamp_Stamp_loop1 a1 a0 0 ) fun z => match z with
 | (.inl r) => some r
 | (.inr _) =>
 some true
def m_slices_EqualFunc_Wait_Wait_Wait_Wait_loop1 (a1 : List TWait) (a2 : TWait → TWait → Option Bool) : List TWait → Nat → Option (Bool ⊕ Unit)
 | [], n1 =>
  some (.inr ())
 | y1 :: rest1, n1 =>
  if n1 < a1.length then
  Option.bind (a2 (y1) (a1.getD n1 default)) fun v1 =>
  if ¬ (v1 = true) then
  some (.inl false)
  else
  m_slices_EqualFunc_Wait_Wait_Wait_Wait_loop1 a1 a2 rest1 (n1 + 1) 
  else none
def m_slices_EqualFunc_Wait_Wait_Wait_Wait (a0 : List TWait) (a1 : List TWait) (a2 : TWait → TWait → Option Bool) : Option Bool :=
 if ¬ ((a0.length : Int) = (a1.length : Int)) then
 some false
 else
 Option.bind (α := Bool ⊕ Unit) (m_slices_EqualFunc_Wait_Wait_Wait_Wait_loop1 a1 a2 a0 0 ) fun z => match z with
 | (.inl r) => some r
 | (.inr _) =>
 some true
def m_slices_MinFunc_Wait_Wait_loop1 (a0 : List TWait) (a1 : TWait → TWait → Option Int) : Nat → Int → (List Int) → Int → (List UInt8) → (List UInt8) → Int → Bool → Int → Option (Int × (List Int) × Int × (List UInt8) × (List UInt8) × Int × Bool)
 | 0, _, _, _, _, _, _, _, _ => none
 | fu1 + 1, n4, l2, n5, s3, s4, n6, b2, n7 =>
  if n7 < (a0.length : Int) then
  Option.bind (α := Int × (List Int) × Int × (List UInt8) × (List UInt8) × Int × Bool) (if (0 ≤ n7 ∧ n7 < (a0.length : Int)) then
  Option.bind (a1 (a0.getD n7.toNat default) (⟨(⟨n4, l2, n5, s3, s4⟩ : TMessage), n6, b2⟩ : TWait)) fun v1 =>
  if v1 < 0 then
  if (0 ≤ n7 ∧ n7 < (a0.length : Int)) then
  some ((a0.getD n7.toNat default).Message.Id, (a0.getD n7.toNat default).Message.Groups, (a0.getD n7.toNat default).Message.Topic, (a0.getD n7.toNat default).Message.Key, (a0.getD n7.toNat default).Message.Body, (a0.getD n7.toNat default).Time, (a0.getD n7.toNat default).Final)
  else none
  else
  some (n4, l2, n5, s3, s4, n6, b2)
  else none) fun (n8, l3, n9, s5, s6, n10, b3) =>
  m_slices_MinFunc_Wait_Wait_loop1 a0 a1 fu1 n8 l3 n9 s5 s6 n10 b3 (wr .i64 (n7 + 1))
  else
  some (n4, l2, n5, s3, s4, n6, b2)
def m_slices_MinFunc_Wait_Wait (a0 : List TWait) (a1 : TWait → TWait → Option Int) : Option TWait :=
 if (a0.length : Int) < 1 then
 none
 else
 if 0 < a0.length then
 Option.bind (α := Int × (List Int) × Int × (List UInt8) × (List UInt8) × Int × Bool) (m_slices_MinFunc_Wait_Wait_loop1 a0 a1 (a0.length + 1) ((a0.getD 0 default).Message.Id) ((a0.getD 0 default).Message.Groups) ((a0.getD 0 default).Message.Topic) ((a0.getD 0 default).Message.Key) ((a0.getD 0 default).Message.Body) ((a0.getD 0 default).Time) ((a0.getD 0 default).Final) 1) fun (n1, l1, n2, s1, s2, n3, b1) =>
 some (⟨(⟨n1, l1, n2, s1, s2⟩ : TMessage), n3, b1⟩ : TWait)
 else none
def m_slices_MinFunc_Wait_Wait_w_loop1 (a0 : List TWait) (a1 : TWait → TWait → Option Int) : Nat → Int → (List Int) → Int → (List UInt8) → (List UInt8) → Int → Bool → Int → Option (Int × (List Int) × Int × (List UInt8) × (List UInt8) × Int × Bool)
 | 0, _, _, _, _, _, _, _, _ => none
 | fu1 + 1, n4, l2, n5, s3, s4, n6, b2, n7 =>
  if n7 < (a0.length : Int) then
  Option.bind (α := Int × (List Int) × Int × (List UInt8) × (List UInt8) × Int × Bool) (if (0 ≤ n7 ∧ n7 < (a0.length : Int)) then
  Option.bind (a1 (a0.getD n7.toNat default) (⟨(⟨n4, l2, n5, s3, s4⟩ : TMessage), n6, b2⟩ : TWait)) fun v1 =>
  if v1 < 0 then
  if (0 ≤ n7 ∧ n7 < (a0.length : Int)) then
  some ((a0.getD n7.toNat default).Message.Id, (a0.getD n7.toNat default).Message.Groups, (a0.getD n7.toNat default).Message.Topic, (a0.getD n7.toNat default).Message.Key, (a0.getD n7.toNat default).Message.Body, (a0.getD n7.toNat default).Time, (a0.getD n7.toNat default).Final)
  else none
  else
  some (n4, l2, n5, s3, s4, n6, b2)
  else none) fun (n8, l3, n9, s5, s6, n10, b3) =>
  m_slices_MinFunc_Wait_Wait_w_loop1 a0 a1 fu1 n8 l3 n9 s5 s6 n10 b3 (wr .i64 (n7 + 1))
  else
  some (n4, l2, n5, s3, s4, n6, b2)
def m_slices_MinFunc_Wait_Wait_w (a0 : List TWait) (a1 : TWait → TWait → Option Int) : Option TWait :=
 if (a0.length : Int) < 1 then
 none
 else
 if 0 < a0.length then
 Option.bind (α := Int × (List Int) × Int × (List UInt8) × (List UInt8) × Int × Bool) (m_slices_MinFunc_Wait_Wait_w_loop1 a0 a1 (a0.length + 1) ((a0.getD 0 default).Message.Id) ((a0.getD 0 default).Message.Groups) ((a0.getD 0 default).Message.Topic) ((a0.getD 0 default).Message.Key) ((a0.getD 0 default).Message.Body) ((a0.getD 0 default).Time) ((a0.getD 0 default).Final) 1) fun (n1, l1, n2, s1, s2, n3, b1) =>
 some (⟨(⟨n1, l1, n2, s1, s2⟩ : TMessage), n3, b1⟩ : TWait)
 else none
def m_skeen_clock_find_1 (a0 : TWait) (a1 : Int) : Option Int :=
 some (wr .i64 (a0.Message.Id - a1))
def m_slices_BinarySearchFunc_Wait_Wait_int_loop1 (a0 : List TWait) (a1 : Int) (a2 : TWait → Int → Option Int) : Nat → Int → Int → Option (Int)
 | 0, _, _ => none
 | fu1 + 1, n2, n3 =>
  if n2 < n3 then
  if (0 ≤ (wr .i64 (shw false .u64 (wr .u64 (wr .i64 (n2 + n3))) 1)) ∧ (wr .i64 (shw false .u64 (wr .u64 (wr .i64 (n2 + n3))) 1)) < (a0.length : Int)) then
  Option.bind (a2 (a0.getD (wr .i64 (shw false .u64 (wr .u64 (wr .i64 (n2 + n3))) 1)).toNat default) a1) fun v1 =>
  if v1 < 0 then
  m_slices_BinarySearchFunc_Wait_Wait_int_loop1 a0 a1 a2 fu1 (wr .i64 ((wr .i64 (shw false .u64 (wr .u64 (wr .i64 (n2 + n3))) 1)) + 1)) n3
  else
  m_slices_BinarySearchFunc_Wait_Wait_int_loop1 a0 a1 a2 fu1 n2 (wr .i64 (shw false .u64 (wr .u64 (wr .i64 (n2 + n3))) 1))
  else none
  else
  some n2
def m_slices_BinarySearchFunc_Wait_Wait_int (a0 : List TWait) (a1 : Int) (a2 : TWait → Int → Option Int) : Option (Int × Bool) :=
 Option.bind (α := Int) (m_slices_BinarySearchFunc_Wait_Wait_int_loop1 a0 a1 a2 (a0.length + 1) 0 (a0.length : Int)) fun n1 =>
 if (n1 < (a0.length : Int)) → (0 ≤ n1 ∧ n1 < (a0.length : Int)) then
 Option.bind (if n1 < (a0.length : Int) then a2 (a0.getD n1.toNat default) a1 else some default) fun v2 =>
 some (n1, ((decide (n1 < (a0.length : Int))) && (v2 == 0)))
 else none
def m_skeen_clock_find (a0 : Tskeen_clock) (a1 : Int) : Option (Int × Bool) :=
 Option.bind (m_slices_BinarySearchFunc_Wait_Wait_int a0.Skeen.Waits a1 m_skeen_clock_find_1) fun v1 =>
 some (v1.1, v1.2)
def m_slices_IndexFunc_Stamp_Stamp_loop1 (a1 : TStamp → Option Bool) : List TStamp → Nat → Option (Int ⊕ Unit)
 | [], n1 =>
  some (.inr ())
 | y1 :: rest1, n1 =>
  Option.bind (a1 (y1)) fun v1 =>
  if v1 = true then
  some (.inl (n1 : Int))
  else
  m_slices_IndexFunc_Stamp_Stamp_loop1 a1 rest1 (n1 + 1) 
def m_slices_IndexFunc_Stamp_Stamp (a0 : List TStamp) (a1 : TStamp → Option Bool) : Option Int :=
 Option.bind (α := Int ⊕ Unit) (m_slices_IndexFunc_Stamp_Stamp_loop1 a1 a0 0 ) fun z => match z with
 | (.inl r) => some r
 | (.inr _) =>
 some (-1)
def m_slices_ContainsFunc_Stamp_Stamp (a0 : List TStamp) (a1 : TStamp → Option Bool) : Option Bool :=
 Option.bind (m_slices_IndexFunc_Stamp_Stamp a0 a1) fun v1 =>
 some (decide (v1 ≥ 0))
def m_skeen_clock_done_1 (a0 : TStamp) (c0 : Int) : Option Bool :=
 some (a0.Id == c0)
def m_skeen_clock_done (a0 : Tskeen_clock) (a1 : Int) : Option Bool :=
 Option.bind (m_slices_ContainsFunc_Stamp_Stamp a0.Skeen.Done (fun x0 => m_skeen_clock_done_1 x0 a1)) fun v1 =>
 some v1
def m_slices_Clone_Stamp_Stamp (a0 : List TStamp) : Option ((List TStamp)) :=
 if a0.length * 16 ≤ 140737488355328 then
 some a0
 else none
def m_slices_Clone_Wait_Wait (a0 : List TWait) : Option ((List TWait)) :=
 if a0.length * 88 ≤ 140737488355328 then
 some a0
 else none
def m_skeen_clock_final (a0 : Tskeen_clock) (a1 : Int) (a2 : Int) : Option Tskeen_clock :=
 Option.bind (m_skeen_clock_find a0 a1) fun v1 =>
 if (¬ (¬ (v1.2 = true))) → (0 ≤ v1.1 ∧ v1.1 < (a0.Skeen.Waits.length : Int)) then
 if (¬ ((¬ (v1.2 = true)) ∨ ((a0.Skeen.Waits.getD v1.1.toNat default).Final = true))) → (0 ≤ v1.1 ∧ v1.1 < (a0.Skeen.Waits.length : Int)) then
 if ((¬ (v1.2 = true)) ∨ ((a0.Skeen.Waits.getD v1.1.toNat default).Final = true)) ∨ (a2 < (a0.Skeen.Waits.getD v1.1.toNat default).Time) then
 some a0
 else
 if (0 ≤ v1.1 ∧ v1.1 < (a0.Skeen.Waits.length : Int)) then
 if (0 ≤ v1.1 ∧ v1.1 < ((a0.Skeen.Waits.set v1.1.toNat (⟨(a0.Skeen.Waits.getD v1.1.toNat default).Message, a2, (a0.Skeen.Waits.getD v1.1.toNat default).Final⟩ : TWait)).length : Int)) then
 some (⟨(⟨(max a0.Skeen.Clock a2), ((a0.Skeen.Waits.set v1.1.toNat (⟨(a0.Skeen.Waits.getD v1.1.toNat default).Message, a2, (a0.Skeen.Waits.getD v1.1.toNat default).Final⟩ : TWait)).set v1.1.toNat (⟨((a0.Skeen.Waits.set v1.1.toNat (⟨(a0.Skeen.Waits.getD v1.1.toNat default).Message, a2, (a0.Skeen.Waits.getD v1.1.toNat default).Final⟩ : TWait)).getD v1.1.toNat default).Message, ((a0.Skeen.Waits.set v1.1.toNat (⟨(a0.Skeen.Waits.getD v1.1.toNat default).Message, a2, (a0.Skeen.Waits.getD v1.1.toNat default).Final⟩ : TWait)).getD v1.1.toNat default).Time, true⟩ : TWait)), a0.Skeen.Done⟩ : TSkeen)⟩ : Tskeen_clock)
 else none
 else none
 else none
 else none
def m_skeen_clock_assign (a0 : Tskeen_clock) (a1 : Int) (a2 : TMessage) : Option (Int × Tskeen_clock) :=
 Option.bind (m_skeen_clock_find a0 a2.Id) fun v1 =>
 Option.bind (if ¬ (v1.2 = true) then m_skeen_clock_done a0 a2.Id else some default) fun v2 =>
 Option.bind (if ¬ ((v1.2 = true) ∨ (v2 = true)) then m_slices_Contains_int_int a2.Groups a1 else some default) fun v3 =>
 if ((v1.2 = true) ∨ (v2 = true)) ∨ (¬ (v3 = true)) then
 some (0, a0)
 else
 if (a0.Skeen.Clock = 1073741824) ∨ ((a0.Skeen.Waits.length : Int) = 200) then
 some (9, a0)
 else
 Option.bind (m_slices_Clone_int_int a2.Groups) fun v4 =>
 if 0 ≤ v1.1 ∧ v1.1 ≤ (a0.Skeen.Waits.length : Int) then
 if a0.Skeen.Waits.length < 1000000 then
 some (0, (⟨(⟨(wr .i64 (a0.Skeen.Clock + 1)), ((a0.Skeen.Waits.take v1.1.toNat) ++ ((⟨(⟨a2.Id, v4, a2.Topic, a2.Key, a2.Body⟩ : TMessage), (wr .i64 (a0.Skeen.Clock + 1)), false⟩ : TWait) :: (a0.Skeen.Waits.drop v1.1.toNat))), a0.Skeen.Done⟩ : TSkeen)⟩ : Tskeen_clock))
 else none
 else none
def m_skeen_Twin_loop1 (v1 : (List TWait)) : Nat → (List TWait) → Int → Option ((List TWait))
 | 0, _, _ => none
 | fu1 + 1, l2, n1 =>
  if n1 < (v1.length : Int) then
  if (0 ≤ n1 ∧ n1 < (l2.length : Int)) then
  Option.bind (m_slices_Clone_int_int ((l2.getD n1.toNat default).Message.Groups)) fun v3 =>
  if l2.length < 1000000 then
  m_skeen_Twin_loop1 v1 fu1 (l2.set n1.toNat (⟨(⟨(l2.getD n1.toNat default).Message.Id, v3, (l2.getD n1.toNat default).Message.Topic, (l2.getD n1.toNat default).Message.Key, (l2.getD n1.toNat default).Message.Body⟩ : TMessage), (l2.getD n1.toNat default).Time, (l2.getD n1.toNat default).Final⟩ : TWait)) (wr .i64 (n1 + 1))
  else none
  else none
  else
  if l2.length ≤ n1.toNat then
  some l2
  else none
def m_skeen_Twin (a0 : TSkeen) : Option TSkeen :=
 Option.bind (m_slices_Clone_Wait_Wait a0.Waits) fun v1 =>
 Option.bind (m_slices_Clone_Stamp_Stamp a0.Done) fun v2 =>
 Option.bind (α := (List TWait)) (m_skeen_Twin_loop1 v1 (a0.Waits.length + 1) v1 0) fun l1 =>
 some (⟨a0.Clock, l1, v2⟩ : TSkeen)
def m_skeen_New : Option TSkeen :=
 some (⟨0, [], []⟩ : TSkeen)
def m_skeen_Same_1 (a0 : TWait) (a1 : TWait) : Option Bool :=
 Option.bind (m_command_SameMessage a0.Message a1.Message) fun v1 =>
 some ((v1 && (a0.Time == a1.Time)) && (a0.Final == a1.Final))
def m_skeen_Same (a0 : TSkeen) (a1 : TSkeen) : Option Bool :=
 Option.bind (if a0.Clock = a1.Clock then m_slices_Equal_Stamp_Stamp a0.Done a1.Done else some default) fun v1 =>
 Option.bind (if (a0.Clock = a1.Clock) ∧ (v1 = true) then m_slices_EqualFunc_Wait_Wait_Wait_Wait a0.Waits a1.Waits m_skeen_Same_1 else some default) fun v2 =>
 some (((a0.Clock == a1.Clock) && v1) && v2)
def m_towncrierref14_Less (a0 : TStamp) (a1 : TStamp) : Option Bool :=
 some ((decide (a0.Time < a1.Time)) || ((a0.Time == a1.Time) && (decide (a0.Id < a1.Id))))
def m_towncrierref14_May (a0 : TStamp) : Option Bool :=
 some ((((decide (a0.Time ≥ 0)) && (decide (a0.Time ≤ 1073741824))) && (decide (a0.Id ≥ 0))) && (decide (a0.Id < 6291456)))
def m_towncrierref12_In (a0 : Int) (a1 : Int) (a2 : Int) : Option Bool :=
 some ((decide (a0 ≥ a1)) && (decide (a0 < a2)))
def m_towncrierref12_Id (a0 : Int) : Option Bool :=
 Option.bind (m_towncrierref12_In a0 0 6291456) fun v1 =>
 some v1
def m_towncrierref12_MayMessage_loop1 (a0 : TMessage) : List Int → Nat → Option (Bool ⊕ Unit)
 | [], n1 =>
  some (.inr ())
 | y1 :: rest1, n1 =>
  Option.bind (m_towncrierref12_In (y1) 0 4) fun v1 =>
  if (¬ (v1 = true)) ∨ (((n1 : Int) > 0) ∧ (y1 ≤ (a0.Groups.getD (n1 - 1) default))) then
  some (.inl false)
  else
  m_towncrierref12_MayMessage_loop1 a0 rest1 (n1 + 1) 
def m_towncrierref12_MayMessage (a0 : TMessage) : Option Bool :=
 Option.bind (α := Bool ⊕ Unit) (m_towncrierref12_MayMessage_loop1 a0 a0.Groups 0 ) fun z => match z with
 | (.inl r) => some r
 | (.inr _) =>
 Option.bind (if (a0.Groups.length : Int) > 0 then m_towncrierref12_Id a0.Id else some default) fun v2 =>
 Option.bind (if ((a0.Groups.length : Int) > 0) ∧ (v2 = true) then m_towncrierref12_In a0.Topic 0 4 else some default) fun v3 =>
 some (((((decide ((a0.Groups.length : Int) > 0)) && v2) && v3) && (decide ((a0.Key.length : Int) ≤ 16))) && (decide ((a0.Body.length : Int) ≤ 64)))
def m_towncrierref12_SameMessage (a0 : TMessage) (a1 : TMessage) : Option Bool :=
 Option.bind (if a0.Id = a1.Id then m_towncrierref01_SameInts a0.Groups a1.Groups else some default) fun v1 =>
 some (((((a0.Id == a1.Id) && v1) && (a0.Topic == a1.Topic)) && (a0.Key == a1.Key)) && (a0.Body == a1.Body))
def m_towncrierref12_Same (a0 : TCommand) (a1 : TCommand) : Option Bool :=
 Option.bind (if a0.Kind = a1.Kind then m_towncrierref12_SameMessage a0.Message a1.Message else some default) fun v1 =>
 Option.bind (if (((a0.Kind = a1.Kind) ∧ (v1 = true)) ∧ (a0.Id = a1.Id)) ∧ (a0.Time = a1.Time) then m_towncrierref01_SameInts a0.Members a1.Members else some default) fun v2 =>
 some ((((((((a0.Kind == a1.Kind) && v1) && (a0.Id == a1.Id)) && (a0.Time == a1.Time)) && v2) && (a0.Topic == a1.Topic)) && (a0.Who == a1.Who)) && (a0.N == a1.N))
def m_towncrierref12_Twin (a0 : TCommand) : Option TCommand :=
 if a0.Message.Groups.length * 8 ≤ 140737488355328 then
 if a0.Members.length * 8 ≤ 140737488355328 then
 some a0
 else none
 else none
def m_towncrierref15_Stamp (a0 : TWait) : Option TStamp :=
 some (⟨a0.Time, a0.Message.Id⟩ : TStamp)
def m_towncrierref15_SameStamps_loop1 (a1 : List TStamp) : List TStamp → Nat → Option (Bool ⊕ Unit)
 | [], n1 =>
  some (.inr ())
 | y1 :: rest1, n1 =>
  if n1 < a1.length then
  if ¬ ((y1.Time = (a1.getD n1 default).Time) ∧ (y1.Id = (a1.getD n1 default).Id)) then
  some (.inl false)
  else
  m_towncrierref15_SameStamps_loop1 a1 rest1 (n1 + 1) 
  else none
def m_towncrierref15_SameStamps (a0 : List TStamp) (a1 : List TStamp) : Option Bool :=
 if ¬ ((a0.length : Int) = (a1.length : Int)) then
 some false
 else
 Option.bind (α := Bool ⊕ Unit) (m_towncrierref15_SameStamps_loop1 a1 a0 0 ) fun z => match z with
 | (.inl r) => some r
 | (.inr _) =>
 some true
def m_towncrierref15_SameMessages_loop1 (a1 : List TMessage) : List TMessage → Nat → Option (Bool ⊕ Unit)
 | [], n1 =>
  some (.inr ())
 | y1 :: rest1, n1 =>
  if n1 < a1.length then
  Option.bind (m_towncrierref12_SameMessage (y1) (a1.getD n1 default)) fun v1 =>
  if ¬ (v1 = true) then
  some (.inl false)
  else
  m_towncrierref15_SameMessages_loop1 a1 rest1 (n1 + 1) 
  else none
def m_towncrierref15_SameMessages (a0 : List TMessage) (a1 : List TMessage) : Option Bool :=
 if ¬ ((a0.length : Int) = (a1.length : Int)) then
 some false
 else
 Option.bind (α := Bool ⊕ Unit) (m_towncrierref15_SameMessages_loop1 a1 a0 0 ) fun z => match z with
 | (.inl r) => some r
 | (.inr _) =>
 some true
def m_towncrierref15_TwinMessage (a0 : TMessage) : Option TMessage :=
 if a0.Groups.length * 8 ≤ 140737488355328 then
 some a0
 else none
def m_towncrierref15_Twin_loop1 : List TWait → (List TWait) → Option ((List TWait))
 | [], l2 =>
  some l2
 | y1 :: rest1, l2 =>
  Option.bind (m_towncrierref15_TwinMessage (y1.Message)) fun v1 =>
  if l2.length + [(⟨v1, y1.Time, y1.Final⟩ : TWait)].length < 1000000 then
  m_towncrierref15_Twin_loop1 rest1 (l2 ++ [(⟨v1, y1.Time, y1.Final⟩ : TWait)])
  else none
theorem m_towncrierref15_Twin_loop1_n (l2 : List TWait) : m_towncrierref15_Twin_loop1 [] l2 =
  (some l2 : Option ((List TWait))) := rfl
theorem m_towncrierref15_Twin_loop1_c (y1 : TWait) (rest1 : List TWait) (l2 : List TWait) : m_towncrierref15_Twin_loop1 (y1 :: rest1) l2 =
  (Option.bind (m_towncrierref15_TwinMessage (y1.Message)) fun v1 =>
  if l2.length + [(⟨v1, y1.Time, y1.Final⟩ : TWait)].length < 1000000 then
  m_towncrierref15_Twin_loop1 rest1 (l2 ++ [(⟨v1, y1.Time, y1.Final⟩ : TWait)])
  else none : Option ((List TWait))) := rfl
def m_towncrierref15_Twin (a0 : TSkeen) : Option TSkeen :=
 if a0.Done.length * 16 ≤ 140737488355328 then
 Option.bind (α := (List TWait)) (m_towncrierref15_Twin_loop1 a0.Waits []) fun l1 =>
 some (⟨a0.Clock, l1, a0.Done⟩ : TSkeen)
 else none
def m_towncrierref15_Same_loop1 (a1 : TSkeen) : List TWait → Nat → Option (Bool ⊕ Unit)
 | [], n1 =>
  some (.inr ())
 | y1 :: rest1, n1 =>
  if n1 < a1.Waits.length then
  Option.bind (m_towncrierref12_SameMessage (y1.Message) ((a1.Waits.getD n1 default).Message)) fun v2 =>
  if ((¬ (v2 = true)) ∨ (¬ (y1.Time = (a1.Waits.getD n1 default).Time))) ∨ ((!(y1.Final == (a1.Waits.getD n1 default).Final)) = true) then
  some (.inl false)
  else
  m_towncrierref15_Same_loop1 a1 rest1 (n1 + 1) 
  else none
def m_towncrierref15_Same (a0 : TSkeen) (a1 : TSkeen) : Option Bool :=
 Option.bind (if ¬ ((¬ (a0.Clock = a1.Clock)) ∨ (¬ ((a0.Waits.length : Int) = (a1.Waits.length : Int)))) then m_towncrierref15_SameStamps a0.Done a1.Done else some default) fun v1 =>
 if ((¬ (a0.Clock = a1.Clock)) ∨ (¬ ((a0.Waits.length : Int) = (a1.Waits.length : Int)))) ∨ (¬ (v1 = true)) then
 some false
 else
 Option.bind (α := Bool ⊕ Unit) (m_towncrierref15_Same_loop1 a1 a0.Waits 0 ) fun z => match z with
 | (.inl r) => some r
 | (.inr _) =>
 some true
def m_towncrierref15_waits_loop1 (a1 : Int) : List TWait → Nat → Option (Int ⊕ Unit)
 | [], n1 =>
  some (.inr ())
 | y1 :: rest1, n1 =>
  if y1.Message.Id = a1 then
  some (.inl (n1 : Int))
  else
  m_towncrierref15_waits_loop1 a1 rest1 (n1 + 1) 
def m_towncrierref15_waits (a0 : TSkeen) (a1 : Int) : Option Int :=
 Option.bind (α := Int ⊕ Unit) (m_towncrierref15_waits_loop1 a1 a0.Waits 0 ) fun z => match z with
 | (.inl r) => some r
 | (.inr _) =>
 some (-1)
def m_towncrierref15_done_loop1 (a1 : Int) : List TStamp → Option (Bool ⊕ Unit)
 | [] =>
  some (.inr ())
 | y1 :: rest1 =>
  if y1.Id = a1 then
  some (.inl true)
  else
  m_towncrierref15_done_loop1 a1 rest1 
def m_towncrierref15_done (a0 : TSkeen) (a1 : Int) : Option Bool :=
 Option.bind (α := Bool ⊕ Unit) (m_towncrierref15_done_loop1 a1 a0.Done ) fun z => match z with
 | (.inl r) => some r
 | (.inr _) =>
 some false
def m_towncrierref15_least_loop1 (a0 : List TWait) : Nat → Int → Int → Option (Int)
 | 0, _, _ => none
 | fu1 + 1, n2, n3 =>
  if n3 < (a0.length : Int) then
  Option.bind (α := Int) (if (0 ≤ n3 ∧ n3 < (a0.length : Int)) then
  Option.bind (m_towncrierref15_Stamp (a0.getD n3.toNat default)) fun v1 =>
  if (0 ≤ n2 ∧ n2 < (a0.length : Int)) then
  Option.bind (m_towncrierref15_Stamp (a0.getD n2.toNat default)) fun v2 =>
  Option.bind (m_towncrierref14_Less v1 v2) fun v3 =>
  if v3 = true then
  some n3
  else
  some n2
  else none
  else none) fun n4 =>
  m_towncrierref15_least_loop1 a0 fu1 n4 (wr .i64 (n3 + 1))
  else
  some n2
def m_towncrierref15_least (a0 : List TWait) : Option Int :=
 Option.bind (α := Int) (m_towncrierref15_least_loop1 a0 (a0.length + 1) 0 1) fun n1 =>
 some n1
def m_towncrierref15_May_loop2 (a0 : TSkeen) (n1 : Int) : Nat → Int → Option (Bool ⊕ Unit)
 | 0, _ => none
 | fu2 + 1, n2 =>
  if n2 < n1 then
  if (0 ≤ n2 ∧ n2 < (a0.Done.length : Int)) then
  if (a0.Done.getD n2.toNat default).Id = (a0.Done.getD n1.toNat default).Id then
  some (.inl false)
  else
  m_towncrierref15_May_loop2 a0 n1 fu2 (wr .i64 (n2 + 1))
  else none
  else
  some (.inr ())
def m_towncrierref15_May_loop1 (a0 : TSkeen) : Nat → Int → Option (Bool ⊕ Unit)
 | 0, _ => none
 | fu1 + 1, n1 =>
  if n1 < (a0.Done.length : Int) then
  Option.bind (α := Bool ⊕ Unit) (if (0 ≤ n1 ∧ n1 < (a0.Done.length : Int)) then
  Option.bind (m_towncrierref14_May (a0.Done.getD n1.toNat default)) fun v1 =>
  if ((¬ (((¬ (v1 = true)) ∨ ((a0.Done.getD n1.toNat default).Time < 1)) ∨ ((a0.Done.getD n1.toNat default).Time > a0.Clock))) ∧ (n1 > 0)) → (0 ≤ (wr .i64 (n1 - 1)) ∧ (wr .i64 (n1 - 1)) < (a0.Done.length : Int)) then
  Option.bind (if (¬ (((¬ (v1 = true)) ∨ ((a0.Done.getD n1.toNat default).Time < 1)) ∨ ((a0.Done.getD n1.toNat default).Time > a0.Clock))) ∧ (n1 > 0) then m_towncrierref14_Less (a0.Done.getD (wr .i64 (n1 - 1)).toNat default) (a0.Done.getD n1.toNat default) else some default) fun v2 =>
  if (((¬ (v1 = true)) ∨ ((a0.Done.getD n1.toNat default).Time < 1)) ∨ ((a0.Done.getD n1.toNat default).Time > a0.Clock)) ∨ ((n1 > 0) ∧ (¬ (v2 = true))) then
  some (.inl false)
  else
  m_towncrierref15_May_loop2 a0 n1 (a0.Done.length + 1) 0
  else none
  else none) fun z => match z with
  | (.inl r) => some (.inl r)
  | (.inr _) =>
  m_towncrierref15_May_loop1 a0 fu1 (wr .i64 (n1 + 1))
  else
  some (.inr ())
def m_towncrierref15_May_loop3 (a0 : TSkeen) : List TWait → Nat → Option (Bool ⊕ Unit)
 | [], n3 =>
  some (.inr ())
 | y1 :: rest1, n3 =>
  Option.bind (m_towncrierref12_MayMessage (y1.Message)) fun v3 =>
  Option.bind (if ¬ ((((¬ (v3 = true)) ∨ (y1.Time < 1)) ∨ (y1.Time > a0.Clock)) ∨ (((n3 : Int) > 0) ∧ (y1.Message.Id ≤ (a0.Waits.getD (n3 - 1) default).Message.Id))) then m_towncrierref15_done a0 (y1.Message.Id) else some default) fun v4 =>
  if ((((¬ (v3 = true)) ∨ (y1.Time < 1)) ∨ (y1.Time > a0.Clock)) ∨ (((n3 : Int) > 0) ∧ (y1.Message.Id ≤ (a0.Waits.getD (n3 - 1) default).Message.Id))) ∨ (v4 = true) then
  some (.inl false)
  else
  if ((a0.Done.length : Int) > 0) → (0 ≤ (wr .i64 ((a0.Done.length : Int) - 1)) ∧ (wr .i64 ((a0.Done.length : Int) - 1)) < (a0.Done.length : Int)) then
  Option.bind (if (a0.Done.length : Int) > 0 then m_towncrierref15_Stamp (y1) else some default) fun v5 =>
  Option.bind (if (a0.Done.length : Int) > 0 then m_towncrierref14_Less (a0.Done.getD (wr .i64 ((a0.Done.length : Int) - 1)).toNat default) v5 else some default) fun v6 =>
  if ((a0.Done.length : Int) > 0) ∧ (¬ (v6 = true)) then
  some (.inl false)
  else
  m_towncrierref15_May_loop3 a0 rest1 (n3 + 1) 
  else none
def m_towncrierref15_May (a0 : TSkeen) : Option Bool :=
 if (((a0.Clock < 0) ∨ (a0.Clock > 1073741824)) ∨ ((a0.Waits.length : Int) > 200)) ∨ ((a0.Done.length : Int) > 200) then
 some false
 else
 Option.bind (α := Bool ⊕ Unit) (m_towncrierref15_May_loop1 a0 (a0.Done.length + 1) 0) fun z => match z with
 | (.inl r) => some r
 | (.inr _) =>
 Option.bind (α := Bool ⊕ Unit) (m_towncrierref15_May_loop3 a0 a0.Waits 0 ) fun z => match z with
 | (.inl r) => some r
 | (.inr _) =>
 Option.bind (if ¬ ((a0.Waits.length : Int) = 0) then m_towncrierref15_least a0.Waits else some default) fun v7 =>
 if (¬ ((a0.Waits.length : Int) = 0)) → (0 ≤ v7 ∧ v7 < (a0.Waits.length : Int)) then
 some (((a0.Waits.length : Int) == 0) || (!(a0.Waits.getD v7.toNat default).Final))
 else none
def m_towncrierref15_Local (a0 : TSkeen) (a1 : Int) : Option (Int × Bool × Int) :=
 Option.bind (m_towncrierref15_May a0) fun v1 =>
 if ¬ (v1 = true) then
 some (0, false, 8)
 else
 Option.bind (m_towncrierref15_waits a0 a1) fun v2 =>
 if v2 < 0 then
 some (0, false, 6)
 else
 if (0 ≤ v2 ∧ v2 < (a0.Waits.length : Int)) then
 some ((a0.Waits.getD v2.toNat default).Time, (a0.Waits.getD v2.toNat default).Final, 0)
 else none
def m_towncrierref15_Great_loop1 : List TWait → Nat → Int → Option (Int)
 | [], n3, n2 =>
  some n2
 | y1 :: rest1, n3, n2 =>
  if ((n3 : Int) < 400) then
  m_towncrierref15_Great_loop1 rest1 (n3 + 1) (wr .i64 ((wr .i64 ((wr .i64 (n2 + (min ((y1.Message.Groups).length : Int) 10000))) + (min ((y1.Message.Key).length : Int) 10000))) + (min ((y1.Message.Body).length : Int) 10000)))
  else
  some n2
theorem m_towncrierref15_Great_loop1_n (n3 : Nat) (n2 : Int) : m_towncrierref15_Great_loop1 [] n3 n2 =
  (some n2 : Option (Int)) := rfl
theorem m_towncrierref15_Great_loop1_c (y1 : TWait) (rest1 : List TWait) (n3 : Nat) (n2 : Int) : m_towncrierref15_Great_loop1 (y1 :: rest1) n3 n2 =
  (if ((n3 : Int) < 400) then
  m_towncrierref15_Great_loop1 rest1 (n3 + 1) (wr .i64 ((wr .i64 ((wr .i64 (n2 + (min ((y1.Message.Groups).length : Int) 10000))) + (min ((y1.Message.Key).length : Int) 10000))) + (min ((y1.Message.Body).length : Int) 10000)))
  else
  some n2 : Option (Int)) := rfl
def m_towncrierref15_Great (a0 : TSkeen) : Option Bool :=
 Option.bind (α := Int) (m_towncrierref15_Great_loop1 a0.Waits 0 0) fun n1 =>
 some (((decide ((a0.Waits.length : Int) > 300)) || (decide ((a0.Done.length : Int) > 300))) || (decide (n1 > 50000)))
def m_stamp_Less (a0 : TStamp) (a1 : TStamp) : Option Bool :=
 Option.bind (m_cmp_Compare_int a0.Time a1.Time) fun v1 =>
 Option.bind (m_cmp_Compare_int a0.Id a1.Id) fun v2 =>
 Option.bind (m_cmp_Or_int [v1, v2]) fun v3 =>
 some (decide (v3 < 0))
def m_command_plain (a0 : TCommand) : Option (TCommand × Bool) :=
 Option.bind (m_command_id a0.Id) fun v1 =>
 Option.bind (if v1 = true then m_command_in a0.Topic 0 3 else some default) fun v2 =>
 Option.bind (if (v1 = true) ∧ (v2 = true) then m_command_in a0.N 0 1073741824 else some default) fun v3 =>
 Option.bind (α := Bool ⊕ ((TCommand × Bool) ⊕ (Int × Bool))) (if a0.Kind = 0 then
 some (.inr (.inl ((⟨a0.Kind, (⟨0, [], 0, [], []⟩ : TMessage), 0, 0, [], 0, 0, 0⟩ : TCommand), true)))
 else
 if a0.Kind = 1 then
 Option.bind (m_command_CheckMessage a0.Message) fun v4 =>
 some (.inr (.inl ((⟨a0.Kind, a0.Message, 0, 0, [], 0, 0, 0⟩ : TCommand), (v4 == 0))))
 else
 if a0.Kind = 2 then
 Option.bind (m_command_id a0.Id) fun v5 =>
 Option.bind (if v5 = true then m_command_in a0.Time 1 1073741824 else some default) fun v6 =>
 some (.inr (.inl ((⟨a0.Kind, (⟨0, [], 0, [], []⟩ : TMessage), a0.Id, a0.Time, [], 0, 0, 0⟩ : TCommand), (v5 && v6))))
 else
 if a0.Kind = 3 then
 Option.bind (m_quorum_Check a0.Members) fun v7 =>
 some (.inr (.inl ((⟨a0.Kind, (⟨0, [], 0, [], []⟩ : TMessage), 0, 0, a0.Members, 0, 0, 0⟩ : TCommand), (v7 == 0))))
 else
 if a0.Kind = 4 then
 Option.bind (if ((v1 = true) ∧ (v2 = true)) ∧ (v3 = true) then m_command_in a0.Who 0 7 else some default) fun v8 =>
 some (.inr (.inr (a0.Who, (((v1 && v2) && v3) && v8))))
 else
 Option.bind (α := Bool) (if a0.Kind = 5 then
 some (a0.Kind == 5)
 else
 some (a0.Kind == 6)) fun b3 =>
 if b3 = true then
 some (.inr (.inr (0, ((v1 && v2) && v3))))
 else
 some (.inl b3)) fun z => match z with
 | (.inl b2) => some ((⟨a0.Kind, (⟨0, [], 0, [], []⟩ : TMessage), 0, 0, [], 0, 0, 0⟩ : TCommand), false)
 | (.inr (.inl r)) => some r
 | (.inr (.inr (n1, b1))) =>
 some ((⟨a0.Kind, (⟨0, [], 0, [], []⟩ : TMessage), a0.Id, 0, [], a0.Topic, n1, a0.N⟩ : TCommand), b1)
def m_command_Check (a0 : TCommand) : Option Int :=
 Option.bind (m_command_plain a0) fun v1 =>
 Option.bind (if ¬ (¬ (v1.2 = true)) then m_command_Same v1.1 a0 else some default) fun v2 =>
 if (¬ (v1.2 = true)) ∨ (¬ (v2 = true)) then
 some 120
 else
 some 0
def m_skeen_order (a0 : TWait) (a1 : TWait) : Option Int :=
 Option.bind (m_skeen_of a0) fun v1 =>
 Option.bind (m_skeen_of a1) fun v2 =>
 Option.bind (m_stamp_Less v1 v2) fun v3 =>
 if v3 = true then
 some (-1)
 else
 Option.bind (m_skeen_of a1) fun v4 =>
 Option.bind (m_skeen_of a0) fun v5 =>
 Option.bind (m_stamp_Less v4 v5) fun v6 =>
 if v6 = true then
 some 1
 else
 some 0
def m_skeen_clock_deliver_loop1 (a0 : Tskeen_clock) : Nat → (List TWait) → (List TStamp) → (List TMessage) → Option ((List TWait) × (List TStamp) × (List TMessage))
 | 0, _, _, _ => none
 | fu1 + 1, l4, l5, l6 =>
  if (l4.length : Int) > 0 then
  Option.bind (m_slices_MinFunc_Wait_Wait_w l4 m_skeen_order) fun v1 =>
  if ¬ (v1.Final = true) then
  some (l4, l5, l6)
  else
  Option.bind (m_skeen_clock_find (⟨(⟨a0.Skeen.Clock, l4, l5⟩ : TSkeen)⟩ : Tskeen_clock) v1.Message.Id) fun v2 =>
  if 0 ≤ v2.1 ∧ v2.1 < (l4.length : Int) then
  if l4.length < 1000000 then
  Option.bind (m_skeen_of v1) fun v3 =>
  if l5.length + [v3].length < 1000000 then
  if l6.length + [v1.Message].length < 1000000 then
  m_skeen_clock_deliver_loop1 a0 fu1 (l4.eraseIdx v2.1.toNat) (l5 ++ [v3]) (l6 ++ [v1.Message])
  else none
  else none
  else none
  else none
  else
  some (l4, l5, l6)
def m_skeen_clock_deliver (a0 : Tskeen_clock) : Option ((List TMessage) × Tskeen_clock) :=
 Option.bind (α := (List TWait) × (List TStamp) × (List TMessage)) (m_skeen_clock_deliver_loop1 a0 (a0.Skeen.Waits.length + 1) a0.Skeen.Waits a0.Skeen.Done []) fun (l1, l2, l3) =>
 some (l3, (⟨(⟨a0.Skeen.Clock, l1, l2⟩ : TSkeen)⟩ : Tskeen_clock))
def m_skeen_Check_loop1 (a0 : TSkeen) : List TStamp → Nat → (List (Int × Int)) → Int → Int → Option (Int ⊕ ((List (Int × Int)) × Int × Int))
 | [], n5, m2, n3, n4 =>
  some (.inr (m2, n3, n4))
 | y1 :: rest1, n5, m2, n3, n4 =>
  Option.bind (m_stamp_Check (y1)) fun v1 =>
  Option.bind (if (¬ (((¬ (v1 = 0)) ∨ (y1.Time < 1)) ∨ (y1.Time > a0.Clock))) ∧ ((n5 : Int) > 0) then m_stamp_Less (⟨n3, n4⟩ : TStamp) (y1) else some default) fun v2 =>
  if ((((¬ (v1 = 0)) ∨ (y1.Time < 1)) ∨ (y1.Time > a0.Clock)) ∨ (((n5 : Int) > 0) ∧ (¬ (v2 = true)))) ∨ (((mget (y1.Id) m2).getD 0) > 0) then
  some (.inl 8)
  else
  m_skeen_Check_loop1 a0 rest1 (n5 + 1) (mput (y1.Id) 1 m2) (y1.Time) (y1.Id)
def m_skeen_Check_loop2 (a0 : TSkeen) (m1 : List (Int × Int)) (n1 : Int) (n2 : Int) : List TWait → Nat → Option (Int ⊕ Unit)
 | [], n6 =>
  some (.inr ())
 | y2 :: rest2, n6 =>
  Option.bind (m_command_CheckMessage (y2.Message)) fun v3 =>
  Option.bind (if (¬ (((((¬ (v3 = 0)) ∨ (y2.Time < 1)) ∨ (y2.Time > a0.Clock)) ∨ (((n6 : Int) > 0) ∧ (y2.Message.Id ≤ (a0.Waits.getD (n6 - 1) default).Message.Id))) ∨ (((mget (y2.Message.Id) m1).getD 0) > 0))) ∧ ((a0.Done.length : Int) > 0) then m_skeen_of (y2) else some default) fun v4 =>
  Option.bind (if (¬ (((((¬ (v3 = 0)) ∨ (y2.Time < 1)) ∨ (y2.Time > a0.Clock)) ∨ (((n6 : Int) > 0) ∧ (y2.Message.Id ≤ (a0.Waits.getD (n6 - 1) default).Message.Id))) ∨ (((mget (y2.Message.Id) m1).getD 0) > 0))) ∧ ((a0.Done.length : Int) > 0) then m_stamp_Less (⟨n1, n2⟩ : TStamp) v4 else some default) fun v5 =>
  if (((((¬ (v3 = 0)) ∨ (y2.Time < 1)) ∨ (y2.Time > a0.Clock)) ∨ (((n6 : Int) > 0) ∧ (y2.Message.Id ≤ (a0.Waits.getD (n6 - 1) default).Message.Id))) ∨ (((mget (y2.Message.Id) m1).getD 0) > 0)) ∨ (((a0.Done.length : Int) > 0) ∧ (¬ (v5 = true))) then
  some (.inl 8)
  else
  m_skeen_Check_loop2 a0 m1 n1 n2 rest2 (n6 + 1) 
def m_skeen_Check (a0 : TSkeen) : Option Int :=
 if (((a0.Clock < 0) ∨ (a0.Clock > 1073741824)) ∨ ((a0.Waits.length : Int) > 200)) ∨ ((a0.Done.length : Int) > 200) then
 some 8
 else
 Option.bind (α := Int ⊕ ((List (Int × Int)) × Int × Int)) (m_skeen_Check_loop1 a0 a0.Done 0 [] 0 0) fun z => match z with
 | (.inl r) => some r
 | (.inr (m1, n1, n2)) =>
 Option.bind (α := Int ⊕ Unit) (m_skeen_Check_loop2 a0 m1 n1 n2 a0.Waits 0 ) fun z => match z with
 | (.inl r) => some r
 | (.inr _) =>
 Option.bind (if (a0.Waits.length : Int) > 0 then m_slices_MinFunc_Wait_Wait a0.Waits m_skeen_order else some default) fun v6 =>
 if ((a0.Waits.length : Int) > 0) ∧ (v6.Final = true) then
 some 8
 else
 some 0
def m_skeen_Apply (a0 : TSkeen) (a1 : Int) (a2 : TCommand) : Option (TSkeen × (List TMessage) × Int) :=
 Option.bind (m_skeen_Check a0) fun v1 =>
 if ¬ (v1 = 0) then
 some ((⟨0, [], []⟩ : TSkeen), [], v1)
 else
 if (a1 < 0) ∨ (a1 ≥ 4) then
 some ((⟨0, [], []⟩ : TSkeen), [], 2)
 else
 Option.bind (m_command_Check a2) fun v2 =>
 if ¬ (v2 = 0) then
 some ((⟨0, [], []⟩ : TSkeen), [], v2)
 else
 Option.bind (m_skeen_Twin a0) fun v3 =>
 Option.bind (α := (TSkeen × (List TMessage) × Int) ⊕ (Int × (List TWait) × (List TStamp))) (if a2.Kind = 1 then
 Option.bind (m_skeen_clock_assign (⟨v3⟩ : Tskeen_clock) a1 a2.Message) fun v4 =>
 if ¬ (v4.1 = 0) then
 some (.inl ((⟨0, [], []⟩ : TSkeen), [], v4.1))
 else
 some (.inr (v4.2.Skeen.Clock, v4.2.Skeen.Waits, v4.2.Skeen.Done))
 else
 if a2.Kind = 2 then
 Option.bind (m_skeen_clock_final (⟨v3⟩ : Tskeen_clock) a2.Id a2.Time) fun v5 =>
 some (.inr (v5.Skeen.Clock, v5.Skeen.Waits, v5.Skeen.Done))
 else
 some (.inr (v3.Clock, v3.Waits, v3.Done))) fun z => match z with
 | (.inl r) => some r
 | (.inr (n1, l1, l2)) =>
 Option.bind (m_skeen_clock_deliver (⟨(⟨n1, l1, l2⟩ : TSkeen)⟩ : Tskeen_clock)) fun v6 =>
 if (v6.2.Skeen.Done.length : Int) > 200 then
 some ((⟨0, [], []⟩ : TSkeen), [], 9)
 else
 some (v6.2.Skeen, v6.1, 0)
def m_skeen_Local (a0 : TSkeen) (a1 : Int) : Option (Int × Bool × Int) :=
 Option.bind (m_skeen_Check a0) fun v1 =>
 if ¬ (v1 = 0) then
 some (0, false, v1)
 else
 Option.bind (m_skeen_clock_find (⟨a0⟩ : Tskeen_clock) a1) fun v2 =>
 if ¬ (v2.2 = true) then
 some (0, false, 6)
 else
 if (0 ≤ v2.1 ∧ v2.1 < (a0.Waits.length : Int)) then
 some ((a0.Waits.getD v2.1.toNat default).Time, (a0.Waits.getD v2.1.toNat default).Final, 0)
 else none
def m_towncrierref12_May (a0 : TCommand) : Option Bool :=
 Option.bind (m_towncrierref12_SameMessage a0.Message (⟨0, [], 0, [], []⟩ : TMessage)) fun v1 =>
 if a0.Kind = 0 then
 Option.bind (m_towncrierref12_Same a0 (⟨0, (⟨0, [], 0, [], []⟩ : TMessage), 0, 0, [], 0, 0, 0⟩ : TCommand)) fun v2 =>
 some v2
 else
 if a0.Kind = 1 then
 Option.bind (m_towncrierref12_MayMessage a0.Message) fun v3 =>
 some ((((((v3 && (a0.Id == 0)) && (a0.Time == 0)) && ((a0.Members.length : Int) == 0)) && (a0.Topic == 0)) && (a0.Who == 0)) && (a0.N == 0))
 else
 if a0.Kind = 2 then
 Option.bind (if ¬ (¬ (v1 = true)) then m_towncrierref12_Id a0.Id else some default) fun v4 =>
 Option.bind (if (¬ (¬ (v1 = true))) ∧ (v4 = true) then m_towncrierref12_In a0.Time 1 1073741825 else some default) fun v5 =>
 some (((((((!(!v1)) && v4) && v5) && ((a0.Members.length : Int) == 0)) && (a0.Topic == 0)) && (a0.Who == 0)) && (a0.N == 0))
 else
 if a0.Kind = 3 then
 Option.bind (if ((¬ (¬ (v1 = true))) ∧ (a0.Id = 0)) ∧ (a0.Time = 0) then m_towncrierref06_Check a0.Members else some default) fun v6 =>
 some (((((((!(!v1)) && (a0.Id == 0)) && (a0.Time == 0)) && (v6 == 0)) && (a0.Topic == 0)) && (a0.Who == 0)) && (a0.N == 0))
 else
 Option.bind (α := Bool) (if a0.Kind = 4 then
 some (a0.Kind == 4)
 else
 if a0.Kind = 5 then
 some (a0.Kind == 5)
 else
 some (a0.Kind == 6)) fun b1 =>
 if b1 = true then
 Option.bind (if ¬ (¬ (v1 = true)) then m_towncrierref12_Id a0.Id else some default) fun v7 =>
 Option.bind (if (((¬ (¬ (v1 = true))) ∧ (v7 = true)) ∧ (a0.Time = 0)) ∧ ((a0.Members.length : Int) = 0) then m_towncrierref12_In a0.Topic 0 4 else some default) fun v8 =>
 Option.bind (if ((((¬ (¬ (v1 = true))) ∧ (v7 = true)) ∧ (a0.Time = 0)) ∧ ((a0.Members.length : Int) = 0)) ∧ (v8 = true) then m_towncrierref12_In a0.N 0 1073741825 else some default) fun v9 =>
 Option.bind (if (((((((¬ (¬ (v1 = true))) ∧ (v7 = true)) ∧ (a0.Time = 0)) ∧ ((a0.Members.length : Int) = 0)) ∧ (v8 = true)) ∧ (v9 = true)) ∧ (¬ (a0.Who = 0))) ∧ (a0.Kind = 4) then m_towncrierref12_In a0.Who 0 8 else some default) fun v10 =>
 some (((((((!(!v1)) && v7) && (a0.Time == 0)) && ((a0.Members.length : Int) == 0)) && v8) && v9) && ((a0.Who == 0) || ((a0.Kind == 4) && v10)))
 else
 some false
end Go.Proofs
end
