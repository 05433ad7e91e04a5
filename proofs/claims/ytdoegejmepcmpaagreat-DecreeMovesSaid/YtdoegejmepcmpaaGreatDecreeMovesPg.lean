/- Texts of the proof. -/
import Derived.Test.YtdoegejmepcmpaaGreatDecreeMovesPf
section
namespace Go.Proofs
open Go.Tm Go.RowKit Go.WideShapes
set_option maxRecDepth 100000
set_option linter.unusedSimpArgs false
set_option linter.unusedVariables false
attribute [local go_sem] zh1 runE runK zk6 zre aop opd zns opds opdO ev zsk keep List.any zjx Bool.false_or Bool.true_or zg9 cond_true cond_false Bool.cond_false_right Bool.cond_true_left beq_true beq_false imp_self implies_true getR getL put St.app effL del nwB zt3 Nat.lt_irrefl Nat.lt_add_one zt4 Nat.le_refl Nat.beq_refl zib zhu capS zpm znt zem D.ids D.idsL bin zvt zp3 binT zud Tm.part zmr zqs oneD zqk znh srcD zg6 zop decide_true gval zrh D.cells List.map_cons List.map_nil List.take List.drop List.length_map List.append Int.toNat_natCast and_true true_and decide_false List.length_cons List.length_nil List.append_nil List.nil_append Bool.and_true Bool.true_and Bool.not_false Bool.not_true ne_eq not_false_eq_true BEq.rfl List.getElem?_cons_zero List.getElem?_cons_succ List.getElem?_nil Nat.zero_add List.all_cons List.all_nil List.isEmpty_cons List.isEmpty_nil Option.getD_some Option.getD_none List.any_cons List.any_nil List.drop_succ_cons List.drop_zero unfL unf okM okML low3 List.cons_append true_or or_true Nat.zero_mul Nat.zero_le fpOf zn4
theorem ya2a : ya00 Tryz.prog 99 := zw9 (r := 4) Tryz.func99 (by kernel_rfl) (by kernel_rfl) (by kernel_rfl) (by kernel_rfl) (Tryz.tmOk.1 47 (by decide)) rfl
theorem ya1j (i j k : Nat) (hij : i ≠ j) (hik : i ≠ k) (hjk : j ≠ k) (L : List D) (x : D) (P Q : Bool) (hL : L.length < 1000000) :
  zd1 Tryz.prog 92 [.ref i 3 0 L.length (some uC), .int .i64 (L.length : Int), .ref j 3 0 1 (some 1)] [(i, .arr 83 3 P L), (j, .arr 83 3 Q [x])] (.ref k 3 0 (L.length + 1) (some uC)) [(k, some (.arr 83 3 (P && Q) (L ++ [x]))), (i, none)] (k, k + 1) := by
 have bij : Nat.beq i j = false := zc4 hij
 have bik : Nat.beq i k = false := zc4 hik
 have bjk : Nat.beq j k = false := zc4 hjk
 have bji : Nat.beq j i = false := zc4 (Ne.symm hij)
 have bki : Nat.beq k i = false := zc4 (Ne.symm hik)
 have bkj : Nat.beq k j = false := zc4 (Ne.symm hjk)
 have n10 : ¬ ((1 : Int) = 0) := by omega
 have hx : (1 : Nat) <= 1 := Nat.le_refl _
 refine zab Tryz.tmOk Tryz.func92 rfl (by decide) (lb rfl) (by simp) ?_
 intro hwf
 refine .seq ?_
 refine .pp zS [0, 1, 2] (by intro q hq; simp only [go_sem, za8, Nat.reduceSub, Int.reduceEq, Nat.reduceLT, Nat.reduceDiv, Nat.reduceAdd, Nat.reduceBEq, Nat.reduceLeDiff, reduceCtorEq, Nat.reduceEqDiff, Nat.reduceMod, capK, bij, bik, bjk, bji, bki, bkj]; exact hq) ?_
 refine .seq ?_
 refine .pp zS [0, 1, 2] (by intro q hq; simp only [go_sem, za8, Nat.reduceSub, Int.reduceEq, Nat.reduceLT, Nat.reduceDiv, Nat.reduceAdd, Nat.reduceBEq, Nat.reduceLeDiff, reduceCtorEq, Nat.reduceEqDiff, Nat.reduceMod, capK, Tryz.tm_47, Tryz.tm_3, bij, bik, bjk, bji, bki, bkj]; exact hq) ?_
 refine .seq ?_
 refine .pp zS [0, 1, 2] (by intro q hq; simp only [go_sem, za8, Nat.reduceSub, Int.reduceEq, Nat.reduceLT, Nat.reduceDiv, Nat.reduceAdd, Nat.reduceBEq, Nat.reduceLeDiff, reduceCtorEq, Nat.reduceEqDiff, Nat.reduceMod, capK, Tryz.tm_47, Tryz.tm_3, bij, bik, bjk, bji, bki, bkj]; exact hq) ?_
 refine .seq (.seq ?_)
 refine .pp zS [0, 1, 2, 7] (by intro q hq; simp only [go_sem, za8, Nat.reduceSub, Int.reduceEq, Nat.reduceLT, Nat.reduceDiv, Nat.reduceAdd, Nat.reduceBEq, Nat.reduceLeDiff, reduceCtorEq, Nat.reduceEqDiff, Nat.reduceMod, capK, Tryz.tm_47, Tryz.tm_3]; exact hq) ?_
 refine .cond rfl rfl (fun hc => by simp at hc) (fun hc => ?_)
 refine .skip (.seq ?_)
 refine .pp zS [0, 1, 2, 7] (by intro q hq; simp only [go_sem, za8, Nat.reduceSub, Int.reduceEq, Nat.reduceLT, Nat.reduceDiv, Nat.reduceAdd, Nat.reduceBEq, Nat.reduceLeDiff, reduceCtorEq, Nat.reduceEqDiff, Nat.reduceMod, capK, Tryz.tm_47, Tryz.tm_3]; exact hq) ?_
 refine .seq (.seq ?_)
 refine .pp zS [0, 1, 2, 7, 8] (by intro q hq; simp only [go_sem, za8, Nat.reduceSub, Int.reduceEq, Nat.reduceLT, Nat.reduceDiv, Nat.reduceAdd, Nat.reduceBEq, Nat.reduceLeDiff, reduceCtorEq, Nat.reduceEqDiff, Nat.reduceMod, capK, Tryz.tm_47, Tryz.tm_3]; exact hq) ?_
 refine .cond rfl rfl (fun hc => ?_) (fun hc => by simp at hc)
 refine .seq ?_
 refine .pp zS [0, 2] (by intro q hq; simp only [go_sem, za8, Nat.reduceSub, Int.reduceEq, Nat.reduceLT, Nat.reduceDiv, Nat.reduceAdd, Nat.reduceBEq, Nat.reduceLeDiff, reduceCtorEq, Nat.reduceEqDiff, Nat.reduceMod, capK, Tryz.tm_47, Tryz.tm_3, bij, bik, bjk, bji, bki, bkj]; exact hq) ?_
 refine .ret ⟨.inr rfl, retH [j, k] ?_ ?_⟩
 simp only [zmq, resL, resD, resT, go_sem, za8, Nat.reduceSub, Int.reduceEq, Nat.reduceLT, Nat.reduceDiv, Nat.reduceAdd, Nat.reduceBEq, Nat.reduceLeDiff, reduceCtorEq, Nat.reduceEqDiff, Nat.reduceMod, Tryz.f92]
 simp only [zer, getL, effL, put, del, Nat.beq_refl, cond_true, cond_false, bij, bik, bjk, bji, bki, bkj, List.take_length]
theorem ya4z (i j k : Nat) (hij : i ≠ j) (hik : i ≠ k) (hjk : j ≠ k) (L : List D) (x : D) (P Q : Bool) (at' c : Nat) (hck : capK c = true) (hat : at' < L.length) (hL : L.length < 1000000) (h1 : L.length <= c) (h2 : c < L.length + 1) :
  zd1 Tryz.prog 92 [.ref i 3 0 L.length (some c), .int .i64 (at' : Int), .ref j 3 0 1 (some 1)] [(i, .arr 83 3 P L), (j, .arr 83 3 Q [x])] (.ref k 3 0 (L.length + 1) none) [(k, some (.arr 83 3 (P && Q) (L.take at' ++ x :: L.drop at'))), (i, none)] (k, k + 1) := by
 obtain rfl : c = L.length := by omega
 have hck2 := hck
 have bij : Nat.beq i j = false := zc4 hij
 have bik : Nat.beq i k = false := zc4 hik
 have bjk : Nat.beq j k = false := zc4 hjk
 have bji : Nat.beq j i = false := zc4 (Ne.symm hij)
 have bki : Nat.beq k i = false := zc4 (Ne.symm hik)
 have bkj : Nat.beq k j = false := zc4 (Ne.symm hjk)
 have hw : wr .i64 ((L.length : Int) + ((1 : Nat) : Int)) = ((L.length + 1 : Nat) : Int) := zis _ _ (by show (-9223372036854775808 : Int) <= _; omega) (by show _ <= (9223372036854775807 : Int); omega)
 have hw2 : wr .i64 (((L.length + 1 : Nat) : Int) - (at' : Int)) = ((L.length + 1 - at' : Nat) : Int) := by
  rw [zis _ _ (by show (-9223372036854775808 : Int) <= _; omega) (by show _ <= (9223372036854775807 : Int); omega)]
  omega
 have hw3 : wr .i64 ((at' : Int) + ((1 : Nat) : Int)) = ((at' + 1 : Nat) : Int) := zis _ _ (by show (-9223372036854775808 : Int) <= _; omega) (by show _ <= (9223372036854775807 : Int); omega)
 have ha : at' + (L.length + 1 - at') = L.length + 1 := by omega
 have pq : (P && Q && P) = (P && Q) := by cases P <;> cases Q <;> rfl
 have hm1 : Nat.min 1 (L.length + 1 - at') = 1 := by show min 1 (L.length + 1 - at') = 1; omega
 have hm2 : Nat.min (L.length - at') (L.length + 1 - (at' + 1)) = L.length - at' := by show min (L.length - at') (L.length + 1 - (at' + 1)) = L.length - at'; omega
 have tk : (L.take at').length = at' := by simp; omega
 have e1 : List.take at' (List.take at' L ++ List.replicate (L.length + 1 - at') (D.agg [D.int .i64 0, D.int .i64 0, D.str []])) = List.take at' L := by
  rw [List.take_append_of_le_length (by omega), List.take_of_length_le (by omega)]
 have e2 : List.drop (at' + 1) (List.take at' L ++ List.replicate (L.length + 1 - at') (D.agg [D.int .i64 0, D.int .i64 0, D.str []])) = List.replicate (L.length - at') (D.agg [D.int .i64 0, D.int .i64 0, D.str []]) := by
  rw [List.drop_append, List.drop_eq_nil_of_le (by omega), tk, List.nil_append, List.drop_replicate]
  congr 1; omega
 have e3 : List.take (at' + 1) (List.take at' L ++ [x] ++ List.replicate (L.length - at') (D.agg [D.int .i64 0, D.int .i64 0, D.str []])) = List.take at' L ++ [x] := by
  rw [List.take_append_of_le_length (by simp; omega), List.take_of_length_le (by simp; omega)]
 have e4 : List.drop (at' + 1 + (L.length - at')) (List.take at' L ++ [x] ++ List.replicate (L.length - at') (D.agg [D.int .i64 0, D.int .i64 0, D.str []])) = [] := List.drop_eq_nil_of_le (by simp; omega)
 have e5 : List.take (L.length - at') (List.drop at' L) = List.drop at' L := List.take_of_length_le (by simp)
 have l1 : (List.take at' L ++ List.replicate (L.length + 1 - at') (D.agg [D.int .i64 0, D.int .i64 0, D.str []])).length = L.length + 1 := by simp; omega
 have l2 : (List.take at' L ++ [x] ++ List.replicate (L.length - at') (D.agg [D.int .i64 0, D.int .i64 0, D.str []])).length = L.length + 1 := by simp; omega
 refine zab Tryz.tmOk Tryz.func92 rfl (by decide) (lb rfl) (by simp) ?_
 intro hwf
 refine .seq ?_
 refine .pp zS [0, 1, 2] (by intro q hq; simp only [go_sem, za8, Nat.reduceSub, Int.reduceEq, Nat.reduceLT, Nat.reduceDiv, Nat.reduceAdd, Nat.reduceBEq, Nat.reduceLeDiff, reduceCtorEq, Nat.reduceEqDiff, Nat.reduceMod, hck]; exact hq) ?_
 refine .seq ?_
 refine .pp zS [0, 1, 2] (by intro q hq; simp only [go_sem, za8, Nat.reduceSub, Int.reduceEq, Nat.reduceLT, Nat.reduceDiv, Nat.reduceAdd, Nat.reduceBEq, Nat.reduceLeDiff, reduceCtorEq, Nat.reduceEqDiff, Nat.reduceMod, Tryz.tm_47, Tryz.tm_3, hck]; exact hq) ?_
 refine .seq ?_
 refine .pp zS [0, 1, 2] (by intro q hq; simp only [go_sem, za8, Nat.reduceSub, Int.reduceEq, Nat.reduceLT, Nat.reduceDiv, Nat.reduceAdd, Nat.reduceBEq, Nat.reduceLeDiff, reduceCtorEq, Nat.reduceEqDiff, Nat.reduceMod, Tryz.tm_47, Tryz.tm_3, hck]; exact hq) ?_
 refine .seq (.seq ?_)
 refine .pp zS [0, 1, 2, 7] (by intro q hq; simp only [go_sem, za8, Nat.reduceSub, Int.reduceEq, Nat.reduceLT, Nat.reduceDiv, Nat.reduceAdd, Nat.reduceBEq, Nat.reduceLeDiff, reduceCtorEq, Nat.reduceEqDiff, Nat.reduceMod, Tryz.tm_47, Tryz.tm_3, hck]; exact hq) ?_
 refine .cond rfl rfl (fun hc => by simp at hc) (fun hc => ?_)
 refine .skip (.seq ?_)
 refine .pp zS [0, 1, 2, 7] (by intro q hq; simp only [go_sem, za8, Nat.reduceSub, Int.reduceEq, Nat.reduceLT, Nat.reduceDiv, Nat.reduceAdd, Nat.reduceBEq, Nat.reduceLeDiff, reduceCtorEq, Nat.reduceEqDiff, Nat.reduceMod, Tryz.tm_47, Tryz.tm_3, hck]; exact hq) ?_
 refine .seq (.seq ?_)
 refine .pp zS [0, 1, 2, 7, 8] (by intro q hq; simp only [go_sem, za8, Nat.reduceSub, Int.reduceEq, Nat.reduceLT, Nat.reduceDiv, Nat.reduceAdd, Nat.reduceBEq, Nat.reduceLeDiff, reduceCtorEq, Nat.reduceEqDiff, Nat.reduceMod, Tryz.tm_47, Tryz.tm_3, hck]; exact hq) ?_
 refine .cond rfl rfl (fun hc => by simp at hc; omega) (fun hc => ?_)
 refine .skip (.seq (.seq ?_))
 refine .pp zS [0, 1, 2, 7, 8] (by intro q hq; simp only [go_sem, za8, Nat.reduceSub, Int.reduceEq, Nat.reduceLT, Nat.reduceDiv, Nat.reduceAdd, Nat.reduceBEq, Nat.reduceLeDiff, reduceCtorEq, Nat.reduceEqDiff, Nat.reduceMod, Tryz.tm_47, Tryz.tm_3, hck, hw]; exact hq) ?_
 refine .cond rfl rfl (fun hc => ?_) (fun hc => by simp at hc; omega)
 refine .seq ?_
 refine .pp zS [0, 1, 2, 7, 8] (by intro q hq; simp only [go_sem, za8, Nat.reduceSub, Int.reduceEq, Nat.reduceLT, Nat.reduceDiv, Nat.reduceAdd, Nat.reduceBEq, Nat.reduceLeDiff, reduceCtorEq, Nat.reduceEqDiff, Nat.reduceMod, Tryz.tm_47, Tryz.tm_3, hck, hw, hw2, ha, zjm, Int.sub_zero, Int.toNat_zero, Int.toNat_sub, bij, bik, bjk, bji, bki, bkj]; exact hq) ?_
 refine .seq ?_
 refine .pp zS [0, 1, 2, 7, 8, 9] (by intro q hq; simp only [go_sem, za8, Nat.reduceSub, Int.reduceEq, Nat.reduceLT, Nat.reduceDiv, Nat.reduceAdd, Nat.reduceBEq, Nat.reduceLeDiff, reduceCtorEq, Nat.reduceEqDiff, Nat.reduceMod, Tryz.tm_47, Tryz.tm_3, hck, hw, hw2, ha, zjm, Int.sub_zero, Int.toNat_zero, Int.toNat_sub, bij, bik, bjk, bji, bki, bkj, Int.toNat_sub, hm1, e1, e2, List.take_one, List.take_succ_cons]; exact hq) ?_
 refine .seq ?_
 refine .drawn Tryz.tmOk Tryz.tmMixed [0, 1, 2, 7, 8, 9] (by decide +kernel) (by intro q hq; simp only [go_sem, za8, Nat.reduceSub, Int.reduceEq, Nat.reduceLT, Nat.reduceDiv, Nat.reduceAdd, Nat.reduceBEq, Nat.reduceLeDiff, reduceCtorEq, Nat.reduceEqDiff, Nat.reduceMod, Tryz.tm_47, Tryz.tm_3, hck, hw, hw2, hw3, ha, zjm, capS, bij, bik, bjk, bji, bki, bkj, Int.toNat_sub, hm1, hm2, e3, e4, e5]; exact hq) (zhl (by kernel_rfl)) (by first | rfl | (simp only [go_sem, Nat.reduceLeDiff]; done) | (simp only [go_sem, Nat.reduceLeDiff]; rfl) | (simp; done) | (simp [oneD] <;> omega) | (simp_all; done) | (simp_all [oneD] <;> omega)) (by first | exact Nat.le_refl _ | exact lb rfl | (dsimp only; omega) | (simp <;> omega)) ?_
 refine .seq ?_
 refine .pp zS [9] (by intro q hq; simp only [go_sem, za8, Nat.reduceSub, Int.reduceEq, Nat.reduceLT, Nat.reduceDiv, Nat.reduceAdd, Nat.reduceBEq, Nat.reduceLeDiff, reduceCtorEq, Nat.reduceEqDiff, Nat.reduceMod, Tryz.tm_47, Tryz.tm_3, hck]; exact hq) ?_
 refine .ret ⟨.inr rfl, retH [j, k] ?_ ?_⟩
 simp only [zmq, resL, resD, resT, go_sem, za8, Nat.reduceSub, Int.reduceEq, Nat.reduceLT, Nat.reduceDiv, Nat.reduceAdd, Nat.reduceBEq, Nat.reduceLeDiff, reduceCtorEq, Nat.reduceEqDiff, Nat.reduceMod, Tryz.f92]
 simp only [zer, getL, effL, put, del, Nat.beq_refl, cond_true, cond_false, bij, bik, bjk, bji, bki, bkj, pq, List.append_assoc, List.singleton_append, List.append_nil]
theorem ya4y (i j k : Nat) (hij : i ≠ j) (L : List D) (x : D) (P Q : Bool) (at' c : Nat) (hck : capK c = true) (hat : at' < L.length) (hL : L.length < 1000000) (h1 : L.length + 1 <= c) :
  zd1 Tryz.prog 92 [.ref i 3 0 L.length (some c), .int .i64 (at' : Int), .ref j 3 0 1 (some 1)] [(i, .arr 83 3 P L), (j, .arr 83 3 Q [x])] (.ref i 3 0 (L.length + 1) (some c)) [(i, some (.arr 83 3 (P && Q) (L.take at' ++ x :: L.drop at')))] (k, k) := by
 have bij : Nat.beq i j = false := zc4 hij
 have bji : Nat.beq j i = false := zc4 (Ne.symm hij)
 have hw : wr .i64 ((L.length : Int) + ((1 : Nat) : Int)) = ((L.length + 1 : Nat) : Int) := zis _ _ (by show (-9223372036854775808 : Int) <= _; omega) (by show _ <= (9223372036854775807 : Int); omega)
 have hw3 : wr .i64 ((at' : Int) + ((1 : Nat) : Int)) = ((at' + 1 : Nat) : Int) := zis _ _ (by show (-9223372036854775808 : Int) <= _; omega) (by show _ <= (9223372036854775807 : Int); omega)
 have hm1 : Nat.min 1 (L.length + 1 - at') = 1 := by show min 1 (L.length + 1 - at') = 1; omega
 have hm2 : Nat.min (L.length + 1 - at') (L.length + 1 - (at' + 1)) = L.length - at' := by show min (L.length + 1 - at') (L.length + 1 - (at' + 1)) = L.length - at'; omega
 have hn1 : L.length + 1 - (at' + 1) = (L.length - at' - 1) + 1 := by omega
 have tk : (L.take at').length = at' := by simp; omega
 have tk1 : (L.take (at' + 1)).length = at' + 1 := by simp; omega
 have e5 : List.take (L.length - at') (List.drop at' L) = List.drop at' L := List.take_of_length_le (by simp)
 have e4 : List.drop (at' + 1 + (L.length - at')) L = [] := List.drop_eq_nil_of_le (by omega)
 have e1 : List.take at' (List.take (at' + 1) L ++ List.drop at' L) = List.take at' L := by
  rw [List.take_append_of_le_length (by omega), List.take_take]
  congr 1; omega
 have e2 : List.drop (at' + 1) (List.take (at' + 1) L ++ List.drop at' L) = List.drop at' L := by
  rw [List.drop_append, List.drop_eq_nil_of_le (by omega), tk1, Nat.sub_self, List.drop_zero, List.nil_append]
 refine zab Tryz.tmOk Tryz.func92 rfl (by decide) (lb rfl) (by simp) ?_
 intro hwf
 refine .seq ?_
 refine .pp zS [0, 1, 2] (by intro q hq; simp only [go_sem, za8, Nat.reduceSub, Int.reduceEq, Nat.reduceLT, Nat.reduceDiv, Nat.reduceAdd, Nat.reduceBEq, Nat.reduceLeDiff, reduceCtorEq, Nat.reduceEqDiff, Nat.reduceMod, hck]; exact hq) ?_
 refine .seq ?_
 refine .pp zS [0, 1, 2] (by intro q hq; simp only [go_sem, za8, Nat.reduceSub, Int.reduceEq, Nat.reduceLT, Nat.reduceDiv, Nat.reduceAdd, Nat.reduceBEq, Nat.reduceLeDiff, reduceCtorEq, Nat.reduceEqDiff, Nat.reduceMod, Tryz.tm_47, Tryz.tm_3, hck]; exact hq) ?_
 refine .seq ?_
 refine .pp zS [0, 1, 2] (by intro q hq; simp only [go_sem, za8, Nat.reduceSub, Int.reduceEq, Nat.reduceLT, Nat.reduceDiv, Nat.reduceAdd, Nat.reduceBEq, Nat.reduceLeDiff, reduceCtorEq, Nat.reduceEqDiff, Nat.reduceMod, Tryz.tm_47, Tryz.tm_3, hck]; exact hq) ?_
 refine .seq (.seq ?_)
 refine .pp zS [0, 1, 2, 7] (by intro q hq; simp only [go_sem, za8, Nat.reduceSub, Int.reduceEq, Nat.reduceLT, Nat.reduceDiv, Nat.reduceAdd, Nat.reduceBEq, Nat.reduceLeDiff, reduceCtorEq, Nat.reduceEqDiff, Nat.reduceMod, Tryz.tm_47, Tryz.tm_3, hck]; exact hq) ?_
 refine .cond rfl rfl (fun hc => by simp at hc) (fun hc => ?_)
 refine .skip (.seq ?_)
 refine .pp zS [0, 1, 2, 7] (by intro q hq; simp only [go_sem, za8, Nat.reduceSub, Int.reduceEq, Nat.reduceLT, Nat.reduceDiv, Nat.reduceAdd, Nat.reduceBEq, Nat.reduceLeDiff, reduceCtorEq, Nat.reduceEqDiff, Nat.reduceMod, Tryz.tm_47, Tryz.tm_3, hck]; exact hq) ?_
 refine .seq (.seq ?_)
 refine .pp zS [0, 1, 2, 7, 8] (by intro q hq; simp only [go_sem, za8, Nat.reduceSub, Int.reduceEq, Nat.reduceLT, Nat.reduceDiv, Nat.reduceAdd, Nat.reduceBEq, Nat.reduceLeDiff, reduceCtorEq, Nat.reduceEqDiff, Nat.reduceMod, Tryz.tm_47, Tryz.tm_3, hck]; exact hq) ?_
 refine .cond rfl rfl (fun hc => by simp at hc; omega) (fun hc => ?_)
 refine .skip (.seq (.seq ?_))
 refine .pp zS [0, 1, 2, 7, 8] (by intro q hq; simp only [go_sem, za8, Nat.reduceSub, Int.reduceEq, Nat.reduceLT, Nat.reduceDiv, Nat.reduceAdd, Nat.reduceBEq, Nat.reduceLeDiff, reduceCtorEq, Nat.reduceEqDiff, Nat.reduceMod, Tryz.tm_47, Tryz.tm_3, hck, hw]; exact hq) ?_
 refine .cond rfl rfl (fun hc => by simp at hc; omega) (fun hc => ?_)
 refine .skip (.seq ?_)
 refine .pp zS [0, 1, 2, 7, 8] (by intro q hq; simp only [go_sem, za8, Nat.reduceSub, Int.reduceEq, Nat.reduceLT, Nat.reduceDiv, Nat.reduceAdd, Nat.reduceBEq, Nat.reduceLeDiff, reduceCtorEq, Nat.reduceEqDiff, Nat.reduceMod, Tryz.tm_47, Tryz.tm_3, hck, hw, ztk, Option.isSome, Int.sub_zero, Int.toNat_zero, Nat.sub_zero, bij, bji]; exact hq) ?_
 refine .seq (.seq ?_)
 refine .reg Tryz.tmOk Tryz.tmMixed [0, 1, 2, 7] (by decide +kernel) ?_
 refine .R (dr := false) (.inr fun _ _ _ h => ⟨nofun, h.2⟩) (by intro q hq; simp only [go_sem, za8, Nat.reduceSub, Int.reduceEq, Nat.reduceLT, Nat.reduceDiv, Nat.reduceAdd, Nat.reduceBEq, Nat.reduceLeDiff, reduceCtorEq, Nat.reduceEqDiff, Nat.reduceMod, Tryz.tm_47, Tryz.tm_3, hck, hw3, Int.toNat_sub, bij, bji]; exact hq) (by first | rfl | (simp only [go_sem, Nat.reduceLeDiff]; done) | (simp only [go_sem, Nat.reduceLeDiff]; rfl) | (simp; done) | (simp [oneD] <;> omega) | (simp_all; done) | (simp_all [oneD] <;> omega)) (by first | exact Nat.le_refl _ | exact lb rfl | (dsimp only; omega) | (simp <;> omega)) ?_
 refine .overs (i := j) (j := i) rfl rfl rfl rfl rfl ya2a ⟨3, 0, 0, some 1, 3 - 1, at' + 1, L.length - at' - 1, some (c - (at' + 1)), 83, 3, Q, [x], 83, 3, P, L, by
  show [D.ref j 3 0 1 (some 1), D.ref i 3 (at' + 1) (L.length + 1 - (at' + 1)) (some (c - (at' + 1)))] = _
  rw [hn1], by simp only [getL, bij, cond_false, Nat.beq_refl, cond_true], by simp only [getL, Nat.beq_refl, cond_true], Ne.symm hij⟩ ?_
 refine .R (dr := false) (.inr fun _ _ _ h => ⟨nofun, h.2⟩) (by intro q hq; simp only [go_sem, za8, Nat.reduceSub, Int.reduceEq, Nat.reduceLT, Nat.reduceDiv, Nat.reduceAdd, Nat.reduceBEq, Nat.reduceLeDiff, reduceCtorEq, Nat.reduceEqDiff, Nat.reduceMod, Tryz.tm_47, Tryz.tm_3, hck]; exact hq) (by first | rfl | (simp only [go_sem, Nat.reduceLeDiff]; done) | (simp only [go_sem, Nat.reduceLeDiff]; rfl) | (simp; done) | (simp [oneD] <;> omega) | (simp_all; done) | (simp_all [oneD] <;> omega)) (by first | exact Nat.le_refl _ | exact lb rfl | (dsimp only; omega) | (simp <;> omega)) ?_
 refine .nn ?_
 refine .cond rfl rfl (fun hc => ?_) (fun hc => by cases hc)
 refine .seq ?_
 refine .drawn Tryz.tmOk Tryz.tmMixed [0, 1, 2, 7] (by decide +kernel) (by intro q hq; simp only [go_sem, za8, Nat.reduceSub, Int.reduceEq, Nat.reduceLT, Nat.reduceDiv, Nat.reduceAdd, Nat.reduceBEq, Nat.reduceLeDiff, reduceCtorEq, Nat.reduceEqDiff, Nat.reduceMod, Tryz.tm_47, Tryz.tm_3, hck, hw3, Int.toNat_sub, hm2, e4, e5, bij, bji, Bool.and_self, List.append_nil]; exact hq) (zhl (by kernel_rfl)) (by first | rfl | (simp only [go_sem, Nat.reduceLeDiff]; done) | (simp only [go_sem, Nat.reduceLeDiff]; rfl) | (simp; done) | (simp [oneD] <;> omega) | (simp_all; done) | (simp_all [oneD] <;> omega)) (by first | exact Nat.le_refl _ | exact lb rfl | (dsimp only; omega) | (simp <;> omega)) ?_
 refine .seq ?_
 refine .pp zS [0, 1, 2] (by intro q hq; simp only [go_sem, za8, Nat.reduceSub, Int.reduceEq, Nat.reduceLT, Nat.reduceDiv, Nat.reduceAdd, Nat.reduceBEq, Nat.reduceLeDiff, reduceCtorEq, Nat.reduceEqDiff, Nat.reduceMod, Tryz.tm_47, Tryz.tm_3, hck, Int.toNat_sub, hm1, e1, e2, bij, bji, List.take_succ_cons]; exact hq) ?_
 refine .seq ?_
 refine .pp zS [0] (by intro q hq; simp only [go_sem, za8, Nat.reduceSub, Int.reduceEq, Nat.reduceLT, Nat.reduceDiv, Nat.reduceAdd, Nat.reduceBEq, Nat.reduceLeDiff, reduceCtorEq, Nat.reduceEqDiff, Nat.reduceMod, Tryz.tm_47, Tryz.tm_3, hck]; exact hq) ?_
 refine .ret ⟨.inr rfl, retH [i, j] ?_ ?_⟩
 simp only [zmq, resL, resD, resT, go_sem, za8, Nat.reduceSub, Int.reduceEq, Nat.reduceLT, Nat.reduceDiv, Nat.reduceAdd, Nat.reduceBEq, Nat.reduceLeDiff, reduceCtorEq, Nat.reduceEqDiff, Nat.reduceMod, Tryz.f92]
 simp only [zer, getL, effL, put, del, Nat.beq_refl, cond_true, cond_false, bij, bji, List.append_assoc, List.singleton_append, List.append_nil]
theorem ya5x (i j k : Nat) (hij : i ≠ j) (hik : i ≠ k) (hjk : j ≠ k) (L : List D) (x : D) (P Q : Bool) (at' : Nat) (hat : at' <= L.length) (hL : L.length < 1000000) :
  zd1 Tryz.prog 92 [.ref i 3 0 L.length (some uC), .int .i64 (at' : Int), .ref j 3 0 1 (some 1)] [(i, .arr 83 3 P L), (j, .arr 83 3 Q [x])] (.ref k 3 0 (L.length + 1) (some uC)) [(k, some (.arr 83 3 (P && Q) (L.take at' ++ x :: L.drop at'))), (i, none)] (k, k + 1) := by
 by_cases h : at' = L.length
 subst h
 have := ya1j i j k hij hik hjk L x P Q hL
 rw [List.take_length, List.drop_length]
 exact this
 exact zoz (l := L) (p := P) (ya1j i j k hij hik hjk L x P Q hL).1 (by simp only [getL, Nat.beq_refl, cond_true]) hik (by omega)
  (fun c hc _ h2 => ya4y i j k hij L x P Q at' c hc (by omega) hL h2)
  (fun c hc h1 h2 => ya4z i j k hij hik hjk L x P Q at' c hc (by omega) hL h1 h2)
end Go.Proofs
end
section
namespace Go.Proofs
open Go.Tm Go.RowKit Go.WideShapes
set_option maxRecDepth 100000
set_option linter.unusedSimpArgs false
set_option linter.unusedVariables false
attribute [local go_sem] zh1 runE runK zk6 zre aop opd zns opds opdO ev zsk keep List.any zjx Bool.false_or Bool.true_or zg9 cond_true cond_false Bool.cond_false_right Bool.cond_true_left beq_true beq_false imp_self implies_true getR getL put St.app effL del nwB zt3 Nat.lt_irrefl Nat.lt_add_one zt4 Nat.le_refl Nat.beq_refl zib zhu capS zpm znt zem D.ids D.idsL bin zvt zp3 binT zud Tm.part zmr zqs oneD zqk znh srcD zg6 zop decide_true gval zrh D.cells List.map_cons List.map_nil List.take List.drop List.length_map List.append Int.toNat_natCast and_true true_and decide_false List.length_cons List.length_nil List.append_nil List.nil_append Bool.and_true Bool.true_and Bool.not_false Bool.not_true ne_eq not_false_eq_true BEq.rfl List.getElem?_cons_zero List.getElem?_cons_succ List.getElem?_nil Nat.zero_add List.all_cons List.all_nil List.isEmpty_cons List.isEmpty_nil Option.getD_some Option.getD_none List.any_cons List.any_nil List.drop_succ_cons List.drop_zero unfL unf okM okML low3 List.cons_append true_or or_true Nat.zero_mul Nat.zero_le fpOf zn4
theorem ya0k : ya00 Tryz.prog 103 := zw9 (r := 4) Tryz.func103 (by kernel_rfl) (by kernel_rfl) (by kernel_rfl) (by kernel_rfl) (Tryz.tmOk.1 22 (by decide)) rfl
theorem ya1i (i j k : Nat) (hij : i ≠ j) (hik : i ≠ k) (hjk : j ≠ k) (L : List D) (x : D) (P Q : Bool) (hL : L.length < 1000000) :
  zd1 Tryz.prog 95 [.ref i 1 0 L.length (some uC), .int .i64 (L.length : Int), .ref j 1 0 1 (some 1)] [(i, .arr 3 1 P L), (j, .arr 3 1 Q [x])] (.ref k 1 0 (L.length + 1) (some uC)) [(k, some (.arr 3 1 (P && Q) (L ++ [x]))), (i, none)] (k, k + 1) := by
 have bij : Nat.beq i j = false := zc4 hij
 have bik : Nat.beq i k = false := zc4 hik
 have bjk : Nat.beq j k = false := zc4 hjk
 have bji : Nat.beq j i = false := zc4 (Ne.symm hij)
 have bki : Nat.beq k i = false := zc4 (Ne.symm hik)
 have bkj : Nat.beq k j = false := zc4 (Ne.symm hjk)
 have n10 : ¬ ((1 : Int) = 0) := by omega
 have hx : (1 : Nat) <= 1 := Nat.le_refl _
 refine zab Tryz.tmOk Tryz.func95 rfl (by decide) (lb rfl) (by simp) ?_
 intro hwf
 refine .seq ?_
 refine .pp zS [0, 1, 2] (by intro q hq; simp only [go_sem, za8, Nat.reduceSub, Int.reduceEq, Nat.reduceLT, Nat.reduceDiv, Nat.reduceAdd, Nat.reduceBEq, Nat.reduceLeDiff, reduceCtorEq, Nat.reduceEqDiff, Nat.reduceMod, capK, bij, bik, bjk, bji, bki, bkj]; exact hq) ?_
 refine .seq ?_
 refine .pp zS [0, 1, 2] (by intro q hq; simp only [go_sem, za8, Nat.reduceSub, Int.reduceEq, Nat.reduceLT, Nat.reduceDiv, Nat.reduceAdd, Nat.reduceBEq, Nat.reduceLeDiff, reduceCtorEq, Nat.reduceEqDiff, Nat.reduceMod, capK, Tryz.tm_22, Tryz.tm_3, bij, bik, bjk, bji, bki, bkj]; exact hq) ?_
 refine .seq ?_
 refine .pp zS [0, 1, 2] (by intro q hq; simp only [go_sem, za8, Nat.reduceSub, Int.reduceEq, Nat.reduceLT, Nat.reduceDiv, Nat.reduceAdd, Nat.reduceBEq, Nat.reduceLeDiff, reduceCtorEq, Nat.reduceEqDiff, Nat.reduceMod, capK, Tryz.tm_22, Tryz.tm_3, bij, bik, bjk, bji, bki, bkj]; exact hq) ?_
 refine .seq (.seq ?_)
 refine .pp zS [0, 1, 2, 7] (by intro q hq; simp only [go_sem, za8, Nat.reduceSub, Int.reduceEq, Nat.reduceLT, Nat.reduceDiv, Nat.reduceAdd, Nat.reduceBEq, Nat.reduceLeDiff, reduceCtorEq, Nat.reduceEqDiff, Nat.reduceMod, capK, Tryz.tm_22, Tryz.tm_3]; exact hq) ?_
 refine .cond rfl rfl (fun hc => by simp at hc) (fun hc => ?_)
 refine .skip (.seq ?_)
 refine .pp zS [0, 1, 2, 7] (by intro q hq; simp only [go_sem, za8, Nat.reduceSub, Int.reduceEq, Nat.reduceLT, Nat.reduceDiv, Nat.reduceAdd, Nat.reduceBEq, Nat.reduceLeDiff, reduceCtorEq, Nat.reduceEqDiff, Nat.reduceMod, capK, Tryz.tm_22, Tryz.tm_3]; exact hq) ?_
 refine .seq (.seq ?_)
 refine .pp zS [0, 1, 2, 7, 8] (by intro q hq; simp only [go_sem, za8, Nat.reduceSub, Int.reduceEq, Nat.reduceLT, Nat.reduceDiv, Nat.reduceAdd, Nat.reduceBEq, Nat.reduceLeDiff, reduceCtorEq, Nat.reduceEqDiff, Nat.reduceMod, capK, Tryz.tm_22, Tryz.tm_3]; exact hq) ?_
 refine .cond rfl rfl (fun hc => ?_) (fun hc => by simp at hc)
 refine .seq ?_
 refine .pp zS [0, 2] (by intro q hq; simp only [go_sem, za8, Nat.reduceSub, Int.reduceEq, Nat.reduceLT, Nat.reduceDiv, Nat.reduceAdd, Nat.reduceBEq, Nat.reduceLeDiff, reduceCtorEq, Nat.reduceEqDiff, Nat.reduceMod, capK, Tryz.tm_22, Tryz.tm_3, bij, bik, bjk, bji, bki, bkj]; exact hq) ?_
 refine .ret ⟨.inr rfl, retH [j, k] ?_ ?_⟩
 simp only [zmq, resL, resD, resT, go_sem, za8, Nat.reduceSub, Int.reduceEq, Nat.reduceLT, Nat.reduceDiv, Nat.reduceAdd, Nat.reduceBEq, Nat.reduceLeDiff, reduceCtorEq, Nat.reduceEqDiff, Nat.reduceMod, Tryz.f95]
 simp only [zer, getL, effL, put, del, Nat.beq_refl, cond_true, cond_false, bij, bik, bjk, bji, bki, bkj, List.take_length]
theorem ya4x (i j k : Nat) (hij : i ≠ j) (hik : i ≠ k) (hjk : j ≠ k) (L : List D) (x : D) (P Q : Bool) (at' c : Nat) (hck : capK c = true) (hat : at' < L.length) (hL : L.length < 1000000) (h1 : L.length <= c) (h2 : c < L.length + 1) :
  zd1 Tryz.prog 95 [.ref i 1 0 L.length (some c), .int .i64 (at' : Int), .ref j 1 0 1 (some 1)] [(i, .arr 3 1 P L), (j, .arr 3 1 Q [x])] (.ref k 1 0 (L.length + 1) none) [(k, some (.arr 3 1 (P && Q) (L.take at' ++ x :: L.drop at'))), (i, none)] (k, k + 1) := by
 obtain rfl : c = L.length := by omega
 have hck2 := hck
 have bij : Nat.beq i j = false := zc4 hij
 have bik : Nat.beq i k = false := zc4 hik
 have bjk : Nat.beq j k = false := zc4 hjk
 have bji : Nat.beq j i = false := zc4 (Ne.symm hij)
 have bki : Nat.beq k i = false := zc4 (Ne.symm hik)
 have bkj : Nat.beq k j = false := zc4 (Ne.symm hjk)
 have hw : wr .i64 ((L.length : Int) + ((1 : Nat) : Int)) = ((L.length + 1 : Nat) : Int) := zis _ _ (by show (-9223372036854775808 : Int) <= _; omega) (by show _ <= (9223372036854775807 : Int); omega)
 have hw2 : wr .i64 (((L.length + 1 : Nat) : Int) - (at' : Int)) = ((L.length + 1 - at' : Nat) : Int) := by
  rw [zis _ _ (by show (-9223372036854775808 : Int) <= _; omega) (by show _ <= (9223372036854775807 : Int); omega)]
  omega
 have hw3 : wr .i64 ((at' : Int) + ((1 : Nat) : Int)) = ((at' + 1 : Nat) : Int) := zis _ _ (by show (-9223372036854775808 : Int) <= _; omega) (by show _ <= (9223372036854775807 : Int); omega)
 have ha : at' + (L.length + 1 - at') = L.length + 1 := by omega
 have pq : (P && Q && P) = (P && Q) := by cases P <;> cases Q <;> rfl
 have hm1 : Nat.min 1 (L.length + 1 - at') = 1 := by show min 1 (L.length + 1 - at') = 1; omega
 have hm2 : Nat.min (L.length - at') (L.length + 1 - (at' + 1)) = L.length - at' := by show min (L.length - at') (L.length + 1 - (at' + 1)) = L.length - at'; omega
 have tk : (L.take at').length = at' := by simp; omega
 have e1 : List.take at' (List.take at' L ++ List.replicate (L.length + 1 - at') (D.int .i64 0)) = List.take at' L := by
  rw [List.take_append_of_le_length (by omega), List.take_of_length_le (by omega)]
 have e2 : List.drop (at' + 1) (List.take at' L ++ List.replicate (L.length + 1 - at') (D.int .i64 0)) = List.replicate (L.length - at') (D.int .i64 0) := by
  rw [List.drop_append, List.drop_eq_nil_of_le (by omega), tk, List.nil_append, List.drop_replicate]
  congr 1; omega
 have e3 : List.take (at' + 1) (List.take at' L ++ [x] ++ List.replicate (L.length - at') (D.int .i64 0)) = List.take at' L ++ [x] := by
  rw [List.take_append_of_le_length (by simp; omega), List.take_of_length_le (by simp; omega)]
 have e4 : List.drop (at' + 1 + (L.length - at')) (List.take at' L ++ [x] ++ List.replicate (L.length - at') (D.int .i64 0)) = [] := List.drop_eq_nil_of_le (by simp; omega)
 have e5 : List.take (L.length - at') (List.drop at' L) = List.drop at' L := List.take_of_length_le (by simp)
 have l1 : (List.take at' L ++ List.replicate (L.length + 1 - at') (D.int .i64 0)).length = L.length + 1 := by simp; omega
 have l2 : (List.take at' L ++ [x] ++ List.replicate (L.length - at') (D.int .i64 0)).length = L.length + 1 := by simp; omega
 refine zab Tryz.tmOk Tryz.func95 rfl (by decide) (lb rfl) (by simp) ?_
 intro hwf
 refine .seq ?_
 refine .pp zS [0, 1, 2] (by intro q hq; simp only [go_sem, za8, Nat.reduceSub, Int.reduceEq, Nat.reduceLT, Nat.reduceDiv, Nat.reduceAdd, Nat.reduceBEq, Nat.reduceLeDiff, reduceCtorEq, Nat.reduceEqDiff, Nat.reduceMod, hck]; exact hq) ?_
 refine .seq ?_
 refine .pp zS [0, 1, 2] (by intro q hq; simp only [go_sem, za8, Nat.reduceSub, Int.reduceEq, Nat.reduceLT, Nat.reduceDiv, Nat.reduceAdd, Nat.reduceBEq, Nat.reduceLeDiff, reduceCtorEq, Nat.reduceEqDiff, Nat.reduceMod, Tryz.tm_22, Tryz.tm_3, hck]; exact hq) ?_
 refine .seq ?_
 refine .pp zS [0, 1, 2] (by intro q hq; simp only [go_sem, za8, Nat.reduceSub, Int.reduceEq, Nat.reduceLT, Nat.reduceDiv, Nat.reduceAdd, Nat.reduceBEq, Nat.reduceLeDiff, reduceCtorEq, Nat.reduceEqDiff, Nat.reduceMod, Tryz.tm_22, Tryz.tm_3, hck]; exact hq) ?_
 refine .seq (.seq ?_)
 refine .pp zS [0, 1, 2, 7] (by intro q hq; simp only [go_sem, za8, Nat.reduceSub, Int.reduceEq, Nat.reduceLT, Nat.reduceDiv, Nat.reduceAdd, Nat.reduceBEq, Nat.reduceLeDiff, reduceCtorEq, Nat.reduceEqDiff, Nat.reduceMod, Tryz.tm_22, Tryz.tm_3, hck]; exact hq) ?_
 refine .cond rfl rfl (fun hc => by simp at hc) (fun hc => ?_)
 refine .skip (.seq ?_)
 refine .pp zS [0, 1, 2, 7] (by intro q hq; simp only [go_sem, za8, Nat.reduceSub, Int.reduceEq, Nat.reduceLT, Nat.reduceDiv, Nat.reduceAdd, Nat.reduceBEq, Nat.reduceLeDiff, reduceCtorEq, Nat.reduceEqDiff, Nat.reduceMod, Tryz.tm_22, Tryz.tm_3, hck]; exact hq) ?_
 refine .seq (.seq ?_)
 refine .pp zS [0, 1, 2, 7, 8] (by intro q hq; simp only [go_sem, za8, Nat.reduceSub, Int.reduceEq, Nat.reduceLT, Nat.reduceDiv, Nat.reduceAdd, Nat.reduceBEq, Nat.reduceLeDiff, reduceCtorEq, Nat.reduceEqDiff, Nat.reduceMod, Tryz.tm_22, Tryz.tm_3, hck]; exact hq) ?_
 refine .cond rfl rfl (fun hc => by simp at hc; omega) (fun hc => ?_)
 refine .skip (.seq (.seq ?_))
 refine .pp zS [0, 1, 2, 7, 8] (by intro q hq; simp only [go_sem, za8, Nat.reduceSub, Int.reduceEq, Nat.reduceLT, Nat.reduceDiv, Nat.reduceAdd, Nat.reduceBEq, Nat.reduceLeDiff, reduceCtorEq, Nat.reduceEqDiff, Nat.reduceMod, Tryz.tm_22, Tryz.tm_3, hck, hw]; exact hq) ?_
 refine .cond rfl rfl (fun hc => ?_) (fun hc => by simp at hc; omega)
 refine .seq ?_
 refine .pp zS [0, 1, 2, 7, 8] (by intro q hq; simp only [go_sem, za8, Nat.reduceSub, Int.reduceEq, Nat.reduceLT, Nat.reduceDiv, Nat.reduceAdd, Nat.reduceBEq, Nat.reduceLeDiff, reduceCtorEq, Nat.reduceEqDiff, Nat.reduceMod, Tryz.tm_22, Tryz.tm_3, hck, hw, hw2, ha, zjm, Int.sub_zero, Int.toNat_zero, Int.toNat_sub, bij, bik, bjk, bji, bki, bkj]; exact hq) ?_
 refine .seq ?_
 refine .pp zS [0, 1, 2, 7, 8, 9] (by intro q hq; simp only [go_sem, za8, Nat.reduceSub, Int.reduceEq, Nat.reduceLT, Nat.reduceDiv, Nat.reduceAdd, Nat.reduceBEq, Nat.reduceLeDiff, reduceCtorEq, Nat.reduceEqDiff, Nat.reduceMod, Tryz.tm_22, Tryz.tm_3, hck, hw, hw2, ha, zjm, Int.sub_zero, Int.toNat_zero, Int.toNat_sub, bij, bik, bjk, bji, bki, bkj, Int.toNat_sub, hm1, e1, e2, List.take_one, List.take_succ_cons]; exact hq) ?_
 refine .seq ?_
 refine .drawn Tryz.tmOk Tryz.tmMixed [0, 1, 2, 7, 8, 9] (by decide +kernel) (by intro q hq; simp only [go_sem, za8, Nat.reduceSub, Int.reduceEq, Nat.reduceLT, Nat.reduceDiv, Nat.reduceAdd, Nat.reduceBEq, Nat.reduceLeDiff, reduceCtorEq, Nat.reduceEqDiff, Nat.reduceMod, Tryz.tm_22, Tryz.tm_3, hck, hw, hw2, hw3, ha, zjm, capS, bij, bik, bjk, bji, bki, bkj, Int.toNat_sub, hm1, hm2, e3, e4, e5]; exact hq) (zhl (by kernel_rfl)) (by first | rfl | (simp only [go_sem, Nat.reduceLeDiff]; done) | (simp only [go_sem, Nat.reduceLeDiff]; rfl) | (simp; done) | (simp [oneD] <;> omega) | (simp_all; done) | (simp_all [oneD] <;> omega)) (by first | exact Nat.le_refl _ | exact lb rfl | (dsimp only; omega) | (simp <;> omega)) ?_
 refine .seq ?_
 refine .pp zS [9] (by intro q hq; simp only [go_sem, za8, Nat.reduceSub, Int.reduceEq, Nat.reduceLT, Nat.reduceDiv, Nat.reduceAdd, Nat.reduceBEq, Nat.reduceLeDiff, reduceCtorEq, Nat.reduceEqDiff, Nat.reduceMod, Tryz.tm_22, Tryz.tm_3, hck]; exact hq) ?_
 refine .ret ⟨.inr rfl, retH [j, k] ?_ ?_⟩
 simp only [zmq, resL, resD, resT, go_sem, za8, Nat.reduceSub, Int.reduceEq, Nat.reduceLT, Nat.reduceDiv, Nat.reduceAdd, Nat.reduceBEq, Nat.reduceLeDiff, reduceCtorEq, Nat.reduceEqDiff, Nat.reduceMod, Tryz.f95]
 simp only [zer, getL, effL, put, del, Nat.beq_refl, cond_true, cond_false, bij, bik, bjk, bji, bki, bkj, pq, List.append_assoc, List.singleton_append, List.append_nil]
theorem ya4w (i j k : Nat) (hij : i ≠ j) (L : List D) (x : D) (P Q : Bool) (at' c : Nat) (hck : capK c = true) (hat : at' < L.length) (hL : L.length < 1000000) (h1 : L.length + 1 <= c) :
  zd1 Tryz.prog 95 [.ref i 1 0 L.length (some c), .int .i64 (at' : Int), .ref j 1 0 1 (some 1)] [(i, .arr 3 1 P L), (j, .arr 3 1 Q [x])] (.ref i 1 0 (L.length + 1) (some c)) [(i, some (.arr 3 1 (P && Q) (L.take at' ++ x :: L.drop at')))] (k, k) := by
 have bij : Nat.beq i j = false := zc4 hij
 have bji : Nat.beq j i = false := zc4 (Ne.symm hij)
 have hw : wr .i64 ((L.length : Int) + ((1 : Nat) : Int)) = ((L.length + 1 : Nat) : Int) := zis _ _ (by show (-9223372036854775808 : Int) <= _; omega) (by show _ <= (9223372036854775807 : Int); omega)
 have hw3 : wr .i64 ((at' : Int) + ((1 : Nat) : Int)) = ((at' + 1 : Nat) : Int) := zis _ _ (by show (-9223372036854775808 : Int) <= _; omega) (by show _ <= (9223372036854775807 : Int); omega)
 have hm1 : Nat.min 1 (L.length + 1 - at') = 1 := by show min 1 (L.length + 1 - at') = 1; omega
 have hm2 : Nat.min (L.length + 1 - at') (L.length + 1 - (at' + 1)) = L.length - at' := by show min (L.length + 1 - at') (L.length + 1 - (at' + 1)) = L.length - at'; omega
 have hn1 : L.length + 1 - (at' + 1) = (L.length - at' - 1) + 1 := by omega
 have tk : (L.take at').length = at' := by simp; omega
 have tk1 : (L.take (at' + 1)).length = at' + 1 := by simp; omega
 have e5 : List.take (L.length - at') (List.drop at' L) = List.drop at' L := List.take_of_length_le (by simp)
 have e4 : List.drop (at' + 1 + (L.length - at')) L = [] := List.drop_eq_nil_of_le (by omega)
 have e1 : List.take at' (List.take (at' + 1) L ++ List.drop at' L) = List.take at' L := by
  rw [List.take_append_of_le_length (by omega), List.take_take]
  congr 1; omega
 have e2 : List.drop (at' + 1) (List.take (at' + 1) L ++ List.drop at' L) = List.drop at' L := by
  rw [List.drop_append, List.drop_eq_nil_of_le (by omega), tk1, Nat.sub_self, List.drop_zero, List.nil_append]
 refine zab Tryz.tmOk Tryz.func95 rfl (by decide) (lb rfl) (by simp) ?_
 intro hwf
 refine .seq ?_
 refine .pp zS [0, 1, 2] (by intro q hq; simp only [go_sem, za8, Nat.reduceSub, Int.reduceEq, Nat.reduceLT, Nat.reduceDiv, Nat.reduceAdd, Nat.reduceBEq, Nat.reduceLeDiff, reduceCtorEq, Nat.reduceEqDiff, Nat.reduceMod, hck]; exact hq) ?_
 refine .seq ?_
 refine .pp zS [0, 1, 2] (by intro q hq; simp only [go_sem, za8, Nat.reduceSub, Int.reduceEq, Nat.reduceLT, Nat.reduceDiv, Nat.reduceAdd, Nat.reduceBEq, Nat.reduceLeDiff, reduceCtorEq, Nat.reduceEqDiff, Nat.reduceMod, Tryz.tm_22, Tryz.tm_3, hck]; exact hq) ?_
 refine .seq ?_
 refine .pp zS [0, 1, 2] (by intro q hq; simp only [go_sem, za8, Nat.reduceSub, Int.reduceEq, Nat.reduceLT, Nat.reduceDiv, Nat.reduceAdd, Nat.reduceBEq, Nat.reduceLeDiff, reduceCtorEq, Nat.reduceEqDiff, Nat.reduceMod, Tryz.tm_22, Tryz.tm_3, hck]; exact hq) ?_
 refine .seq (.seq ?_)
 refine .pp zS [0, 1, 2, 7] (by intro q hq; simp only [go_sem, za8, Nat.reduceSub, Int.reduceEq, Nat.reduceLT, Nat.reduceDiv, Nat.reduceAdd, Nat.reduceBEq, Nat.reduceLeDiff, reduceCtorEq, Nat.reduceEqDiff, Nat.reduceMod, Tryz.tm_22, Tryz.tm_3, hck]; exact hq) ?_
 refine .cond rfl rfl (fun hc => by simp at hc) (fun hc => ?_)
 refine .skip (.seq ?_)
 refine .pp zS [0, 1, 2, 7] (by intro q hq; simp only [go_sem, za8, Nat.reduceSub, Int.reduceEq, Nat.reduceLT, Nat.reduceDiv, Nat.reduceAdd, Nat.reduceBEq, Nat.reduceLeDiff, reduceCtorEq, Nat.reduceEqDiff, Nat.reduceMod, Tryz.tm_22, Tryz.tm_3, hck]; exact hq) ?_
 refine .seq (.seq ?_)
 refine .pp zS [0, 1, 2, 7, 8] (by intro q hq; simp only [go_sem, za8, Nat.reduceSub, Int.reduceEq, Nat.reduceLT, Nat.reduceDiv, Nat.reduceAdd, Nat.reduceBEq, Nat.reduceLeDiff, reduceCtorEq, Nat.reduceEqDiff, Nat.reduceMod, Tryz.tm_22, Tryz.tm_3, hck]; exact hq) ?_
 refine .cond rfl rfl (fun hc => by simp at hc; omega) (fun hc => ?_)
 refine .skip (.seq (.seq ?_))
 refine .pp zS [0, 1, 2, 7, 8] (by intro q hq; simp only [go_sem, za8, Nat.reduceSub, Int.reduceEq, Nat.reduceLT, Nat.reduceDiv, Nat.reduceAdd, Nat.reduceBEq, Nat.reduceLeDiff, reduceCtorEq, Nat.reduceEqDiff, Nat.reduceMod, Tryz.tm_22, Tryz.tm_3, hck, hw]; exact hq) ?_
 refine .cond rfl rfl (fun hc => by simp at hc; omega) (fun hc => ?_)
 refine .skip (.seq ?_)
 refine .pp zS [0, 1, 2, 7, 8] (by intro q hq; simp only [go_sem, za8, Nat.reduceSub, Int.reduceEq, Nat.reduceLT, Nat.reduceDiv, Nat.reduceAdd, Nat.reduceBEq, Nat.reduceLeDiff, reduceCtorEq, Nat.reduceEqDiff, Nat.reduceMod, Tryz.tm_22, Tryz.tm_3, hck, hw, ztk, Option.isSome, Int.sub_zero, Int.toNat_zero, Nat.sub_zero, bij, bji]; exact hq) ?_
 refine .seq (.seq ?_)
 refine .reg Tryz.tmOk Tryz.tmMixed [0, 1, 2, 7] (by decide +kernel) ?_
 refine .R (dr := false) (.inr fun _ _ _ h => ⟨nofun, h.2⟩) (by intro q hq; simp only [go_sem, za8, Nat.reduceSub, Int.reduceEq, Nat.reduceLT, Nat.reduceDiv, Nat.reduceAdd, Nat.reduceBEq, Nat.reduceLeDiff, reduceCtorEq, Nat.reduceEqDiff, Nat.reduceMod, Tryz.tm_22, Tryz.tm_3, hck, hw3, Int.toNat_sub, bij, bji]; exact hq) (by first | rfl | (simp only [go_sem, Nat.reduceLeDiff]; done) | (simp only [go_sem, Nat.reduceLeDiff]; rfl) | (simp; done) | (simp [oneD] <;> omega) | (simp_all; done) | (simp_all [oneD] <;> omega)) (by first | exact Nat.le_refl _ | exact lb rfl | (dsimp only; omega) | (simp <;> omega)) ?_
 refine .overs (i := j) (j := i) rfl rfl rfl rfl rfl ya0k ⟨1, 0, 0, some 1, 1 - 1, at' + 1, L.length - at' - 1, some (c - (at' + 1)), 3, 1, Q, [x], 3, 1, P, L, by
  show [D.ref j 1 0 1 (some 1), D.ref i 1 (at' + 1) (L.length + 1 - (at' + 1)) (some (c - (at' + 1)))] = _
  rw [hn1], by simp only [getL, bij, cond_false, Nat.beq_refl, cond_true], by simp only [getL, Nat.beq_refl, cond_true], Ne.symm hij⟩ ?_
 refine .R (dr := false) (.inr fun _ _ _ h => ⟨nofun, h.2⟩) (by intro q hq; simp only [go_sem, za8, Nat.reduceSub, Int.reduceEq, Nat.reduceLT, Nat.reduceDiv, Nat.reduceAdd, Nat.reduceBEq, Nat.reduceLeDiff, reduceCtorEq, Nat.reduceEqDiff, Nat.reduceMod, Tryz.tm_22, Tryz.tm_3, hck]; exact hq) (by first | rfl | (simp only [go_sem, Nat.reduceLeDiff]; done) | (simp only [go_sem, Nat.reduceLeDiff]; rfl) | (simp; done) | (simp [oneD] <;> omega) | (simp_all; done) | (simp_all [oneD] <;> omega)) (by first | exact Nat.le_refl _ | exact lb rfl | (dsimp only; omega) | (simp <;> omega)) ?_
 refine .nn ?_
 refine .cond rfl rfl (fun hc => ?_) (fun hc => by cases hc)
 refine .seq ?_
 refine .drawn Tryz.tmOk Tryz.tmMixed [0, 1, 2, 7] (by decide +kernel) (by intro q hq; simp only [go_sem, za8, Nat.reduceSub, Int.reduceEq, Nat.reduceLT, Nat.reduceDiv, Nat.reduceAdd, Nat.reduceBEq, Nat.reduceLeDiff, reduceCtorEq, Nat.reduceEqDiff, Nat.reduceMod, Tryz.tm_22, Tryz.tm_3, hck, hw3, Int.toNat_sub, hm2, e4, e5, bij, bji, Bool.and_self, List.append_nil]; exact hq) (zhl (by kernel_rfl)) (by first | rfl | (simp only [go_sem, Nat.reduceLeDiff]; done) | (simp only [go_sem, Nat.reduceLeDiff]; rfl) | (simp; done) | (simp [oneD] <;> omega) | (simp_all; done) | (simp_all [oneD] <;> omega)) (by first | exact Nat.le_refl _ | exact lb rfl | (dsimp only; omega) | (simp <;> omega)) ?_
 refine .seq ?_
 refine .pp zS [0, 1, 2] (by intro q hq; simp only [go_sem, za8, Nat.reduceSub, Int.reduceEq, Nat.reduceLT, Nat.reduceDiv, Nat.reduceAdd, Nat.reduceBEq, Nat.reduceLeDiff, reduceCtorEq, Nat.reduceEqDiff, Nat.reduceMod, Tryz.tm_22, Tryz.tm_3, hck, Int.toNat_sub, hm1, e1, e2, bij, bji, List.take_succ_cons]; exact hq) ?_
 refine .seq ?_
 refine .pp zS [0] (by intro q hq; simp only [go_sem, za8, Nat.reduceSub, Int.reduceEq, Nat.reduceLT, Nat.reduceDiv, Nat.reduceAdd, Nat.reduceBEq, Nat.reduceLeDiff, reduceCtorEq, Nat.reduceEqDiff, Nat.reduceMod, Tryz.tm_22, Tryz.tm_3, hck]; exact hq) ?_
 refine .ret ⟨.inr rfl, retH [i, j] ?_ ?_⟩
 simp only [zmq, resL, resD, resT, go_sem, za8, Nat.reduceSub, Int.reduceEq, Nat.reduceLT, Nat.reduceDiv, Nat.reduceAdd, Nat.reduceBEq, Nat.reduceLeDiff, reduceCtorEq, Nat.reduceEqDiff, Nat.reduceMod, Tryz.f95]
 simp only [zer, getL, effL, put, del, Nat.beq_refl, cond_true, cond_false, bij, bji, List.append_assoc, List.singleton_append, List.append_nil]
theorem ya5w (i j k : Nat) (hij : i ≠ j) (hik : i ≠ k) (hjk : j ≠ k) (L : List D) (x : D) (P Q : Bool) (at' : Nat) (hat : at' <= L.length) (hL : L.length < 1000000) :
  zd1 Tryz.prog 95 [.ref i 1 0 L.length (some uC), .int .i64 (at' : Int), .ref j 1 0 1 (some 1)] [(i, .arr 3 1 P L), (j, .arr 3 1 Q [x])] (.ref k 1 0 (L.length + 1) (some uC)) [(k, some (.arr 3 1 (P && Q) (L.take at' ++ x :: L.drop at'))), (i, none)] (k, k + 1) := by
 by_cases h : at' = L.length
 subst h
 have := ya1i i j k hij hik hjk L x P Q hL
 rw [List.take_length, List.drop_length]
 exact this
 exact zoz (l := L) (p := P) (ya1i i j k hij hik hjk L x P Q hL).1 (by simp only [getL, Nat.beq_refl, cond_true]) hik (by omega)
  (fun c hc _ h2 => ya4w i j k hij L x P Q at' c hc (by omega) hL h2)
  (fun c hc h1 h2 => ya4x i j k hij hik hjk L x P Q at' c hc (by omega) hL h1 h2)
end Go.Proofs
end
section
namespace Go.Proofs
open Go.Tm Go.RowKit Go.WideShapes
set_option maxRecDepth 100000
set_option linter.unusedSimpArgs false
set_option linter.unusedVariables false
attribute [local go_sem] zh1 runE runK zk6 zre aop opd zns opds opdO ev zsk keep List.any zjx Bool.false_or Bool.true_or zg9 cond_true cond_false Bool.cond_false_right Bool.cond_true_left beq_true beq_false imp_self implies_true getR getL put St.app effL del nwB zt3 Nat.lt_irrefl Nat.lt_add_one zt4 Nat.le_refl Nat.beq_refl zib capS zpm znt zem D.ids D.idsL bin zvt zp3 binT zud Tm.part zmr zqs oneD zqk znh srcD zg6 zop decide_true gval zrh D.cells List.map_cons List.map_nil List.take List.drop List.length_map List.append Int.toNat_natCast and_true true_and decide_false List.length_cons List.length_nil List.append_nil List.nil_append Bool.and_true Bool.true_and Bool.not_false Bool.not_true ne_eq not_false_eq_true BEq.rfl List.getElem?_cons_zero List.getElem?_cons_succ List.getElem?_nil Nat.zero_add List.all_cons List.all_nil List.isEmpty_cons List.isEmpty_nil Option.getD_some Option.getD_none List.any_cons List.any_nil List.drop_succ_cons List.drop_zero unfL unf okM okML low3 List.cons_append true_or or_true Nat.zero_mul Nat.zero_le fpOf zn4
theorem ya54 (i k : Nat) (L : List D) (P : Bool) (at' c : Nat) (hck : capK c = true) (hat : at' < L.length) (hL : L.length < 1000000) (h1 : L.length <= c) :
  zd1 Tryz.prog 18 [.ref i 10 0 L.length (some c), .int .i64 (at' : Int), .int .i64 ((at' + 1 : Nat) : Int)] [(i, .arr 43 10 P L)] (.ref i 10 0 (L.length - 1) (some c)) [(i, some (.arr 43 10 P (L.take at' ++ L.drop (at' + 1))))] (k, k) := by
 have e5 : List.take (L.length - (at' + 1)) (List.drop (at' + 1) L) = List.drop (at' + 1) L := List.take_of_length_le (by simp)
 have hl : at' + (L.drop (at' + 1)).length = L.length - 1 := by simp; omega
 have hm : Nat.blt at' L.length = true := Nat.ble_eq_true_of_le hat
 have hcL : L.length - 1 <= c := by omega
 have hm2 : at' < L.length := hat
 have hne : ¬ ((at' : Int) = ((at' + 1 : Nat) : Int)) := by omega
 have ha : Nat.beq at' (at' + 1) = false := zc4 (by omega)
 have l1 : (L.take at' ++ L.drop (at' + 1)).length = L.length - 1 := by simp; omega
 have l2 : (L.take at' ++ L.drop (at' + 1) ++ L.drop (L.length - 1)).length = L.length := by simp; omega
 have t1 : List.take (L.length - 1) (L.take at' ++ L.drop (at' + 1) ++ L.drop (L.length - 1)) = L.take at' ++ L.drop (at' + 1) := by
  rw [List.take_append_of_le_length (by omega), List.take_of_length_le (by omega)]
 have t2 : ∀ R S : List D, List.take (L.length - 1) (L.take at' ++ L.drop (at' + 1) ++ R ++ S) = L.take at' ++ L.drop (at' + 1) := fun R S => by
  rw [List.append_assoc _ R S, List.take_append_of_le_length (by omega), List.take_of_length_le (by omega)]
 have q1 : Int.toNat ((L.length : Int) - ((L.length - 1 : Nat) : Int)) = 1 := by omega
 have q2 : Int.toNat ((L.length - 1 : Nat) : Int) = L.length - 1 := by omega
 have q3 : Int.toNat (((L.length : Int)) - ((at' + 1 : Nat) : Int)) = L.length - (at' + 1) := by omega
 refine zab Tryz.tmOk Tryz.func18 rfl (by decide) (lb rfl) (by simp) ?_
 intro hwf
 refine .seq ?_
 refine .pp zS [0, 1, 2] (by intro q hq; simp only [go_sem, za8, Nat.reduceSub, Int.reduceEq, Nat.reduceLT, Nat.reduceDiv, Nat.reduceAdd, Nat.reduceBEq, Nat.reduceLeDiff, reduceCtorEq, Nat.reduceEqDiff, Nat.reduceMod, hck]; exact hq) ?_
 refine .seq ?_
 refine .pp zS [0, 1, 2] (by intro q hq; simp only [go_sem, za8, Nat.reduceSub, Int.reduceEq, Nat.reduceLT, Nat.reduceDiv, Nat.reduceAdd, Nat.reduceBEq, Nat.reduceLeDiff, reduceCtorEq, Nat.reduceEqDiff, Nat.reduceMod, Tryz.tm_25, Tryz.tm_3, hck, zik, opdO]; exact hq) ?_
 refine .seq (.seq ?_)
 refine .pp zS [0, 1, 2] (by intro q hq; simp only [go_sem, za8, Nat.reduceSub, Int.reduceEq, Nat.reduceLT, Nat.reduceDiv, Nat.reduceAdd, Nat.reduceBEq, Nat.reduceLeDiff, reduceCtorEq, Nat.reduceEqDiff, Nat.reduceMod, Tryz.tm_25, Tryz.tm_3, hck]; exact hq) ?_
 refine .cond rfl rfl (fun hc => by simp at hc; omega) (fun hc => ?_)
 refine .skip (.seq ?_)
 refine .pp zS [0, 1, 2] (by intro q hq; simp only [go_sem, za8, Nat.reduceSub, Int.reduceEq, Nat.reduceLT, Nat.reduceDiv, Nat.reduceAdd, Nat.reduceBEq, Nat.reduceLeDiff, reduceCtorEq, Nat.reduceEqDiff, Nat.reduceMod, Tryz.tm_25, Tryz.tm_3, hck]; exact hq) ?_
 refine .seq ?_
 refine .drawn Tryz.tmOk Tryz.tmMixed [0, 1, 2, 7] (by decide +kernel) (by intro q hq; simp only [go_sem, za8, Nat.reduceSub, Int.reduceEq, Nat.reduceLT, Nat.reduceDiv, Nat.reduceAdd, Nat.reduceBEq, Nat.reduceLeDiff, reduceCtorEq, Nat.reduceEqDiff, Nat.reduceMod, Tryz.tm_25, Tryz.tm_3, hck, hm2, hcL, e5, q3, hl, Bool.and_self, Int.sub_zero, Int.toNat_zero, Nat.sub_zero, zhu]; exact hq) (zhl (by kernel_rfl)) (by first | rfl | (simp only [go_sem, Nat.reduceLeDiff]; done) | (simp only [go_sem, Nat.reduceLeDiff]; rfl) | (simp; done) | (simp [oneD] <;> omega) | (simp_all; done) | (simp_all [oneD] <;> omega)) (by first | exact Nat.le_refl _ | exact lb rfl | (dsimp only; omega) | (simp <;> omega)) ?_
 refine .seq ?_
 refine .pp zS [0, 7] (by intro q hq; simp only [go_sem, za8, Nat.reduceSub, Int.reduceEq, Nat.reduceLT, Nat.reduceDiv, Nat.reduceAdd, Nat.reduceBEq, Nat.reduceLeDiff, reduceCtorEq, Nat.reduceEqDiff, Nat.reduceMod, Tryz.tm_25, Tryz.tm_3, hck, ztk, Option.isSome, q1, q2, t1, l2, Nat.zero_add]; exact hq) ?_
 refine .goes (.pre i (L.length - 1) _ (by simp only [getL, Nat.beq_refl, cond_true]; rfl) .refl) ?_
 simp only [put, Nat.beq_refl, cond_true, t2]
 refine .seq ?_
 refine .pp zS [0] (by intro q hq; simp only [go_sem, za8, Nat.reduceSub, Int.reduceEq, Nat.reduceLT, Nat.reduceDiv, Nat.reduceAdd, Nat.reduceBEq, Nat.reduceLeDiff, reduceCtorEq, Nat.reduceEqDiff, Nat.reduceMod, Tryz.tm_25, Tryz.tm_3, hck]; exact hq) ?_
 refine .ret ⟨.inr rfl, retH [i] ?_ ?_⟩
 simp only [zmq, resL, resD, resT, go_sem, za8, Nat.reduceSub, Int.reduceEq, Nat.reduceLT, Nat.reduceDiv, Nat.reduceAdd, Nat.reduceBEq, Nat.reduceLeDiff, reduceCtorEq, Nat.reduceEqDiff, Nat.reduceMod, Tryz.f18]
 simp only [zer, getL, effL, put, del, Nat.beq_refl, cond_true, cond_false, List.append_assoc, List.singleton_append, List.append_nil]
theorem ya5z (i k : Nat) (hik : i ≠ k) (L : List D) (P : Bool) (at' : Nat) (hat : at' < L.length) (hL : L.length < 1000000) :
  zd1 Tryz.prog 18 [.ref i 10 0 L.length (some uC), .int .i64 (at' : Int), .int .i64 ((at' + 1 : Nat) : Int)] [(i, .arr 43 10 P L)] (.ref k 10 0 (L.length - 1) (some uC)) [(k, some (.arr 43 10 P (L.take at' ++ L.drop (at' + 1)))), (i, none)] (k, k + 1) := by
 exact zoz (l := L) (p := P) ⟨Tryz.f18, Tryz.func18, by decide, rfl⟩ (by simp only [getL, Nat.beq_refl, cond_true]) hik (.inr (by omega))
   (fun c hc h1 _ => ya54 i k L P at' c hc hat hL h1)
   (fun c hc h1 h2 => by omega)
end Go.Proofs
end
section
namespace Go.Proofs
open Go.Tm
structure TPromise where
 Node : Int
 Ballot : Int
 Value : List UInt8
 deriving Inhabited, DecidableEq
structure TAttempt where
 Phase : Int
 Ballot : Int
 Members : List Int
 Wish : List UInt8
 Value : List UInt8
 Promises : List TPromise
 Accepted : List Int
 deriving Inhabited, DecidableEq
def TPromise.d (x : TPromise) : D := .agg [.int .i64 x.Node, .int .i64 x.Ballot, .str x.Value]
theorem zi4 : Pl TPromise.d := ⟨fun _ => rfl, fun _ => rfl, fun q h _ => by first | rfl | simp [TPromise.d, okM, okML, h]⟩
theorem zty (l : List TPromise) : mkML 1 (l.map TPromise.d) = l.map TPromise.d := zjy 1 (fun _ => rfl) l
theorem zdk : Pl0 TPromise.d := ⟨zi4, fun _ _ => rfl⟩
def TAttempt.d (x : TAttempt) : D := .agg [.int .u8 x.Phase, .int .i64 x.Ballot, .imm 1 (x.Members.map (D.int .i64)) 4, .str x.Wish, .str x.Value, .imm 3 (x.Promises.map TPromise.d) 4, .imm 1 (x.Accepted.map (D.int .i64)) 4]
def TAttempt.n (x : TAttempt) : D := .agg [.int .u8 x.Phase, .int .i64 x.Ballot, .imm 1 (x.Members.map (D.int .i64)) 13, .str x.Wish, .str x.Value, .imm 3 (x.Promises.map TPromise.d) 13, .imm 1 (x.Accepted.map (D.int .i64)) 13]
theorem zjw : PlN TAttempt.n TAttempt.d := ⟨fun _ => rfl, fun _ => rfl, fun _ => by first | rfl | simp [TAttempt.n, okM, okML, low3], fun _ => by first | rfl | simp [TAttempt.n, okM, okML, new1]⟩
structure TVote where
 Promised : Int
 Ballot : Int
 Value : List UInt8
 deriving Inhabited, DecidableEq
structure TMail where
 From : Int
 To : Int
 Kind : Int
 Group : Int
 Slot : Int
 Ballot : Int
 Prior : Int
 Value : List UInt8
 Id : Int
 Time : Int
 deriving Inhabited, DecidableEq
structure TChoice where
 Node : Int
 Value : List UInt8
 deriving Inhabited, DecidableEq
structure TWorld where
 Members : List Int
 Votes : List TVote
 Tries : List TAttempt
 Mail : List TMail
 Chosen : List TChoice
 deriving Inhabited, DecidableEq
structure Tdecree_world where
 World : TWorld
 deriving Inhabited, DecidableEq
structure TMove where
 Kind : Int
 Node : Int
 At : Int
 Value : List UInt8
 deriving Inhabited, DecidableEq
def TVote.d (x : TVote) : D := .agg [.int .i64 x.Promised, .int .i64 x.Ballot, .str x.Value]
theorem ya0i : Pl TVote.d := ⟨fun _ => rfl, fun _ => rfl, fun q h _ => by first | rfl | simp [TVote.d, okM, okML, h]⟩
theorem zz8 (l : List TVote) : mkML 1 (l.map TVote.d) = l.map TVote.d := zjy 1 (fun _ => rfl) l
theorem zly : Pl0 TVote.d := ⟨ya0i, fun _ _ => rfl⟩
def TMail.d (x : TMail) : D := .agg [.int .i64 x.From, .int .i64 x.To, .int .u8 x.Kind, .int .i64 x.Group, .int .i64 x.Slot, .int .i64 x.Ballot, .int .i64 x.Prior, .str x.Value, .int .i64 x.Id, .int .i64 x.Time]
theorem ya0j : Pl TMail.d := ⟨fun _ => rfl, fun _ => rfl, fun q h _ => by first | rfl | simp [TMail.d, okM, okML, h]⟩
theorem zza (l : List TMail) : mkML 1 (l.map TMail.d) = l.map TMail.d := zjy 1 (fun _ => rfl) l
theorem zlz : Pl0 TMail.d := ⟨ya0j, fun _ _ => rfl⟩
def TChoice.d (x : TChoice) : D := .agg [.int .i64 x.Node, .str x.Value]
theorem zxg : Pl TChoice.d := ⟨fun _ => rfl, fun _ => rfl, fun q h _ => by first | rfl | simp [TChoice.d, okM, okML, h]⟩
theorem zv8 (l : List TChoice) : mkML 1 (l.map TChoice.d) = l.map TChoice.d := zjy 1 (fun _ => rfl) l
theorem zjf : Pl0 TChoice.d := ⟨zxg, fun _ _ => rfl⟩
def TWorld.d (x : TWorld) : D := .agg [.imm 1 (x.Members.map (D.int .i64)) 4, .imm 3 (x.Votes.map TVote.d) 4, .imm 7 (x.Tries.map TAttempt.d) 4, .imm 10 (x.Mail.map TMail.d) 4, .imm 2 (x.Chosen.map TChoice.d) 4]
def TWorld.n (x : TWorld) : D := .agg [.imm 1 (x.Members.map (D.int .i64)) 13, .imm 3 (x.Votes.map TVote.d) 13, .imm 7 (x.Tries.map TAttempt.d) 13, .imm 10 (x.Mail.map TMail.d) 13, .imm 2 (x.Chosen.map TChoice.d) 13]
def Tdecree_world.d (x : Tdecree_world) : D := .agg [.imm 1 (x.World.Members.map (D.int .i64)) 4, .imm 3 (x.World.Votes.map TVote.d) 4, .imm 7 (x.World.Tries.map TAttempt.d) 4, .imm 10 (x.World.Mail.map TMail.d) 4, .imm 2 (x.World.Chosen.map TChoice.d) 4]
def Tdecree_world.n (x : Tdecree_world) : D := .agg [.imm 1 (x.World.Members.map (D.int .i64)) 13, .imm 3 (x.World.Votes.map TVote.d) 13, .imm 7 (x.World.Tries.map TAttempt.d) 13, .imm 10 (x.World.Mail.map TMail.d) 13, .imm 2 (x.World.Chosen.map TChoice.d) 13]
def TMove.d (x : TMove) : D := .agg [.int .u8 x.Kind, .int .i64 x.Node, .int .i64 x.At, .str x.Value]
theorem zz9 (l : List TMove) : mkML 1 (l.map TMove.d) = l.map TMove.d := zjy 1 (fun _ => rfl) l
end Go.Proofs
end
section
namespace Go.Proofs
open Go.Tm Go.RowKit Go.WideShapes
attribute [go_sem] zh1 runE runK zk6 zre aop opd zns opds opdO ev zsk keep List.any zjx Bool.false_or Bool.true_or zg9 cond_true cond_false Bool.cond_false_right Bool.cond_true_left beq_true beq_false imp_self implies_true getR getL put St.app effL del nwB zt3 Nat.lt_irrefl Nat.lt_add_one zt4 Nat.le_refl Nat.beq_refl zib zhu capS capK zpm znt zem D.ids D.idsL bin zvt zp3 binT zud Tm.part zmr zqs oneD zqk znh srcD zg6 zop decide_true gval zrh D.cells List.map_cons List.map_nil List.take List.drop List.length_map List.append Int.toNat_natCast and_true true_and decide_false List.length_cons List.length_nil List.append_nil List.nil_append Bool.and_true Bool.true_and Bool.not_false Bool.not_true ne_eq not_false_eq_true BEq.rfl List.getElem?_cons_zero List.getElem?_cons_succ List.getElem?_nil Nat.zero_add List.all_cons List.all_nil List.isEmpty_cons List.isEmpty_nil Option.getD_some Option.getD_none List.any_cons List.any_nil List.drop_succ_cons List.drop_zero unfL unf okM okML low3 List.cons_append true_or or_true Nat.zero_mul Nat.zero_le zzm zzl ya0w ya0v zzi Option.isSome_map keyD List.length_replicate List.map_replicate zx3 List.length_set zxu ya4q ya4n zz6 ya0n mkM mkML ya2i ya2h ya0o zk0 zit zia List.take_length Int.toNat_zero zx2 fpOf zll zn4 mvV mvH mvF zer D.ren D.renL Blk.ren List.map_append List.length_append Bool.not_not Bool.or_not_self Bool.not_or_self Bool.or_true
attribute [go_sem] Tryz.tm_3 Tryz.tm_4 Tryz.tm_5 Tryz.tm_9 Tryz.tm_22 Tryz.tm_23 Tryz.tm_24 Tryz.tm_25 Tryz.tm_26 Tryz.tm_28 Tryz.tm_30 Tryz.tm_43 Tryz.tm_45 Tryz.tm_47 Tryz.tm_49 Tryz.tm_51 Tryz.tm_55 Tryz.tm_83 Tryz.tm_128 Tryz.tm_135 TPromise.d TAttempt.d TAttempt.n zty TVote.d TMail.d TChoice.d TWorld.d TWorld.n Tdecree_world.d Tdecree_world.n TMove.d zz8 zza zv8 zz9 Tryz.f70 Tryz.f69 Tryz.f76 Tryz.f64 Tryz.f73 Tryz.f101 Tryz.f29 Tryz.f93 Tryz.f80 Tryz.f31 Tryz.f34 Tryz.f62 Tryz.f96 Tryz.f86 Tryz.f89 Tryz.f37 Tryz.f83 Tryz.f75 Tryz.f71 Tryz.f72 Tryz.f74 Tryz.f63 Tryz.f67 Tryz.f35 Tryz.f77 Tryz.f87 Tryz.f65 Tryz.f90 Tryz.f102 Tryz.f94 Tryz.f106 Tryz.f97 Tryz.f98 Tryz.f88 Tryz.f68 Tryz.f43 Tryz.f30 Tryz.f15 Tryz.f39 Tryz.f66 Tryz.f33 Tryz.f14 Tryz.f23 Tryz.f61 Tryz.f28 Tryz.f48 Tryz.f85 Tryz.f59 Tryz.f91 Tryz.f79 Tryz.f81 Tryz.f32 Tryz.f78 Tryz.f47 Tryz.f52 Tryz.f46 Tryz.f16 Tryz.f36 Tryz.f10 Tryz.f24 Tryz.f25 Tryz.f26 Tryz.f27 Tryz.f8 Tryz.f49 Tryz.f51 Tryz.f50 Tryz.f17 Tryz.f19 Tryz.f6 Tryz.f4 Tryz.f38 Tryz.f20 Tryz.f84 Tryz.f53 Tryz.f55 Tryz.f40 Tryz.f11 Tryz.f5 Tryz.f9 Tryz.f56 Tryz.f60 Tryz.f82 Tryz.f54 Tryz.f58 Tryz.f57 Tryz.f21 Tryz.f22 Tryz.f7 Tryz.f41 Tryz.f44 Tryz.f45 Tryz.f42 Tryz.f12 Tryz.f3
end Go.Proofs
end
section
namespace Go.Proofs
open Go.Tm
set_option linter.unusedVariables false
def zg5 (a0 : Int) : Option Bool :=
 some ((decide (a0 >= 0)) && (decide (a0 < 6)))
def zd5 : List TPromise -> (List UInt8) -> Int -> Option ((List UInt8))
 | [], s2, n1 =>
  some s2
 | y1 :: rest1, s2, n1 =>
  Option.bind (α := (List UInt8) × Int) (if y1.Ballot > n1 then
  some (y1.Value, y1.Ballot)
  else
  some (s2, n1)) fun (s3, n3) =>
  zd5 rest1 s3 n3
def zfm (l : List TPromise) (wish : List UInt8) : Option ((List UInt8)) :=
 Option.bind (α := (List UInt8)) (zd5 l wish 0) fun s1 =>
 some s1
def zbo : List TPromise -> Int -> (List UInt8) -> Option ((List UInt8))
 | [], n1, s2 =>
  some s2
 | y1 :: rest1, n1, s2 =>
  Option.bind (α := Int × (List UInt8)) (if y1.Ballot > n1 then
  some (y1.Ballot, y1.Value)
  else
  some (n1, s2)) fun (n3, s3) =>
  zbo rest1 n3 s3
def zdl (l : List TPromise) (wish : List UInt8) : Option ((List UInt8)) :=
 Option.bind (α := (List UInt8)) (zbo l 0 wish) fun s1 =>
 some s1
def zbu : List TPromise -> (List Int) -> Option ((List Int))
 | [], l2 =>
  some l2
 | y1 :: rest1, l2 =>
  if l2.length + [y1.Node].length < 1000000 then
  zbu rest1 (l2 ++ [y1.Node])
  else none
theorem zl8 (l2 : List Int) : zbu [] l2 =
  (some l2 : Option ((List Int))) := rfl
theorem zl9 (y1 : TPromise) (rest1 : List TPromise) (l2 : List Int) : zbu (y1 :: rest1) l2 =
  (if l2.length + [y1.Node].length < 1000000 then
  zbu rest1 (l2 ++ [y1.Node])
  else none : Option ((List Int))) := rfl
def zdd (l : List TPromise) : Option ((List Int)) :=
 Option.bind (α := (List Int)) (zbu l []) fun l1 =>
 some l1
def zao : List TPromise -> (List Int) -> Option ((List Int))
 | [], l2 =>
  some l2
 | y1 :: rest1, l2 =>
  if l2.length + [y1.Node].length < 1000000 then
  zao rest1 (l2 ++ [y1.Node])
  else none
theorem zig (l2 : List Int) : zao [] l2 =
  (some l2 : Option ((List Int))) := rfl
theorem zih (y1 : TPromise) (rest1 : List TPromise) (l2 : List Int) : zao (y1 :: rest1) l2 =
  (if l2.length + [y1.Node].length < 1000000 then
  zao rest1 (l2 ++ [y1.Node])
  else none : Option ((List Int))) := rfl
def zbq (l : List TPromise) : Option ((List Int)) :=
 Option.bind (α := (List Int)) (zao l []) fun l1 =>
 some l1
def zaz (v : Int) : List Int -> Nat -> Option (Int ⊕ Unit)
 | [], n1 =>
  some (.inr ())
 | y1 :: rest1, n1 =>
  if v = y1 then
  some (.inl (n1 : Int))
  else
  zaz v rest1 (n1 + 1) 
def zfb (s : List Int) (v : Int) : Option Int :=
 Option.bind (α := Int ⊕ Unit) (zaz v s 0 ) fun z => match z with
 | (.inl r) => some r
 | (.inr _) =>
 some (-1)
def zaf (b : List Int) : List Int -> Nat -> Option (Bool ⊕ Unit)
 | [], n1 =>
  some (.inr ())
 | y1 :: rest1, n1 =>
  if n1 < b.length then
  if ¬ (y1 = (b.getD n1 default)) then
  some (.inl false)
  else
  zaf b rest1 (n1 + 1) 
  else none
def zaq (a : List Int) (b : List Int) : Option Bool :=
 if ¬ ((a.length : Int) = (b.length : Int)) then
 some false
 else
 Option.bind (α := Bool ⊕ Unit) (zaf b a 0 ) fun z => match z with
 | (.inl r) => some r
 | (.inr _) =>
 some true
def zed (a0 : List Int) (a1 : Int) : Option Bool :=
 Option.bind (zfb a0 a1) fun v1 =>
 some (decide (v1 >= 0))
def zfg (a0 : List Int) (a1 : Int) : Option Bool :=
 Option.bind (zed a0 a1) fun v1 =>
 some v1
def zcj : List Int -> Int -> Option (Int ⊕ Int)
 | [], n2 =>
  some (.inr n2)
 | y1 :: rest1, n2 =>
  if (y1 <= n2) \/ (y1 >= 6) then
  some (.inl 60)
  else
  zcj rest1 (y1)
def zcv (a0 : List Int) : Option Int :=
 if (a0.length : Int) > 6 then
 some 4
 else
 Option.bind (α := Int ⊕ Int) (zcj a0 (-1)) fun z => match z with
 | (.inl r) => some r
 | (.inr n1) =>
 if n1 < 0 then
 some 60
 else
 some 0
def zh8 (a0 : Int) : Option (Int × Int × Int) :=
 Option.bind (if ¬ (((wr .i64 (a0.tdiv 8)) < 1) \/ ((wr .i64 (a0.tdiv 8)) > 1048576)) then zg5 (a0.tmod 8) else some default) fun v1 =>
 if (((wr .i64 (a0.tdiv 8)) < 1) \/ ((wr .i64 (a0.tdiv 8)) > 1048576)) \/ (¬ (v1 = true)) then
 some (0, 0, 50)
 else
 some ((wr .i64 (a0.tdiv 8)), (a0.tmod 8), 0)
def zcw (a0 : Int) : Option Int :=
 Option.bind (zh8 a0) fun v1 =>
 if ¬ (v1.2.2 = 0) then
 some v1.2.2
 else
 some 0
def ziu (a0 : List Int) : Option (Int × Int) :=
 Option.bind (zcv a0) fun v1 =>
 if ¬ (v1 = 0) then
 some (0, v1)
 else
 some ((wr .i64 ((wr .i64 ((a0.length : Int).tdiv 2)) + 1)), 0)
def zbs (a1 : Int) : List Int -> Option (Bool ⊕ Unit)
 | [] =>
  some (.inr ())
 | y1 :: rest1 =>
  if y1 = a1 then
  some (.inl true)
  else
  zbs a1 rest1 
def zbb (a0 : List Int) (a1 : Int) : Option Bool :=
 Option.bind (α := Bool ⊕ Unit) (zbs a1 a0 ) fun z => match z with
 | (.inl r) => some r
 | (.inr _) =>
 some false
def zb6 (a1 : List Int) : List Int -> Option (Bool ⊕ Unit)
 | [] =>
  some (.inr ())
 | y1 :: rest1 =>
  Option.bind (zbb a1 (y1)) fun v1 =>
  if ¬ (v1 = true) then
  some (.inl false)
  else
  zb6 a1 rest1 
def zdu (a0 : List Int) (a1 : List Int) : Option Bool :=
 Option.bind (α := Bool ⊕ Unit) (zb6 a1 a0 ) fun z => match z with
 | (.inl r) => some r
 | (.inr _) =>
 some true
def zba (a0 : List Int) : List Int -> Nat -> Option (Bool ⊕ Unit)
 | [], n1 =>
  some (.inr ())
 | y1 :: rest1, n1 =>
  if ((y1 < 0) \/ (y1 >= 6)) \/ (((n1 : Int) > 0) /\ (y1 <= (a0.getD (n1 - 1) default))) then
  some (.inl false)
  else
  zba a0 rest1 (n1 + 1) 
def zci (a0 : List Int) : Option Bool :=
 Option.bind (α := Bool ⊕ Unit) (zba a0 a0 0 ) fun z => match z with
 | (.inl r) => some r
 | (.inr _) =>
 some ((decide ((a0.length : Int) >= 1)) && (decide ((a0.length : Int) <= 6)))
def ze8 (a0 : List Int) : Option Int :=
 if (a0.length : Int) > 6 then
 some 4
 else
 Option.bind (zci a0) fun v1 =>
 if ¬ (v1 = true) then
 some 60
 else
 some 0
def zav (a1 : List Int) : List Int -> Int -> Option (Int)
 | [], n2 =>
  some n2
 | y1 :: rest1, n2 =>
  Option.bind (α := Int) (Option.bind (zbb a1 (y1)) fun v1 =>
  if v1 = true then
  some (wr .i64 (n2 + 1))
  else
  some n2) fun n4 =>
  zav a1 rest1 n4
def zbt (a0 : List Int) (a1 : List Int) : Option Bool :=
 Option.bind (α := Int) (zav a1 a0 0) fun n1 =>
 some (decide (n1 >= (wr .i64 ((wr .i64 ((a0.length : Int).tdiv 2)) + 1))))
def zbc (a0 : Int) : Option Bool :=
 some (((decide (a0 >= 8)) && (decide (a0 <= 8388613))) && (decide ((a0.tmod 8) < 6)))
def zau (a0 : List Int) : List Int -> Nat -> Option (Bool ⊕ Unit)
 | [], n1 =>
  some (.inr ())
 | y1 :: rest1, n1 =>
  if ((n1 : Int) > 0) /\ (y1 <= (a0.getD (n1 - 1) default)) then
  some (.inl false)
  else
  zau a0 rest1 (n1 + 1) 
def zcy (a0 : List Int) (a1 : List Int) : Option Bool :=
 Option.bind (α := Bool ⊕ Unit) (zau a0 a0 0 ) fun z => match z with
 | (.inl r) => some r
 | (.inr _) =>
 Option.bind (zdu a0 a1) fun v1 =>
 some v1
def zc0 (a0 : TPromise) (a1 : Int) : Option Bool :=
 if a0.Ballot = 0 then
 some (a0.Value == [])
 else
 Option.bind (zbc a0.Ballot) fun v1 =>
 some ((v1 && (decide (a0.Ballot < a1))) && (decide ((a0.Value.length : Int) <= 1024)))
def zby (a0 : List Int) (a1 : List Int) : List Int -> Nat -> Option (Bool ⊕ Unit)
 | [], n1 =>
  some (.inr ())
 | y1 :: rest1, n1 =>
  Option.bind (if ¬ (((n1 : Int) > 0) /\ (y1 <= (a0.getD (n1 - 1) default))) then zfg a1 (y1) else some default) fun v1 =>
  if (((n1 : Int) > 0) /\ (y1 <= (a0.getD (n1 - 1) default))) \/ (¬ (v1 = true)) then
  some (.inl false)
  else
  zby a0 a1 rest1 (n1 + 1) 
def ze2 (a0 : List Int) (a1 : List Int) : Option Bool :=
 Option.bind (α := Bool ⊕ Unit) (zby a0 a1 a0 0 ) fun z => match z with
 | (.inl r) => some r
 | (.inr _) =>
 some true
def zgs (a0 : TPromise) (a1 : Int) : Option Bool :=
 if a0.Ballot = 0 then
 some (a0.Value == [])
 else
 Option.bind (zcw a0.Ballot) fun v1 =>
 some (((v1 == 0) && (decide (a0.Ballot < a1))) && (decide ((a0.Value.length : Int) <= 1024)))
end Go.Proofs
end
