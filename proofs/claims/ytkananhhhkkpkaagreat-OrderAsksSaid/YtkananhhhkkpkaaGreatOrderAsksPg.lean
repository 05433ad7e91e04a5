/- Texts of the proof. -/
import Derived.Test.YtkananhhhkkpkaaGreatOrderAsksPf
section
namespace Go.Proofs
open Go.Tm Go.RowKit Go.WideShapes
set_option maxRecDepth 100000
set_option linter.unusedSimpArgs false
set_option linter.unusedVariables false
attribute [local go_sem] zjd runE runK zm0 zta aop opd zp7 opds opdO ev zuj keep List.any zf1 Bool.false_or Bool.true_or zh5 cond_true cond_false Bool.cond_false_right Bool.cond_true_left beq_true beq_false imp_self implies_true getR getL put St.app effL del nwB zw9 Nat.lt_irrefl Nat.lt_add_one zwa Nat.le_refl Nat.beq_refl zm8 ziw capS ztm zr7 zf7 D.ids D.idsL bin zyf zqm binT zw5 Tm.part znx zse oneD zsc zpr srcD zi3 zq1 decide_true gval ztx D.cells List.map_cons List.map_nil List.take List.drop List.length_map List.append Int.toNat_natCast and_true true_and decide_false List.length_cons List.length_nil List.append_nil List.nil_append Bool.and_true Bool.true_and Bool.not_false Bool.not_true ne_eq not_false_eq_true BEq.rfl List.getElem?_cons_zero List.getElem?_cons_succ List.getElem?_nil Nat.zero_add List.all_cons List.all_nil List.isEmpty_cons List.isEmpty_nil Option.getD_some Option.getD_none List.any_cons List.any_nil List.drop_succ_cons List.drop_zero unfL unf okM okML low3 List.cons_append true_or or_true Nat.zero_mul Nat.zero_le fpOf zo9
theorem ya0t : ya1s Tryz.prog 111 := ya0s (r := 4) Tryz.func111 (by kernel_rfl) (by kernel_rfl) (by kernel_rfl) (by kernel_rfl) (Tryz.tmOk.1 25 (by decide)) rfl
theorem ya29 (i j k : Nat) (hij : i ≠ j) (hik : i ≠ k) (hjk : j ≠ k) (L : List D) (x : D) (P Q : Bool) (hL : L.length < 1000000) :
  zcv Tryz.prog 88 [.ref i 7 0 L.length (some uC), .int .i64 (L.length : Int), .ref j 7 0 1 (some 1)] [(i, .arr 78 7 P L), (j, .arr 78 7 Q [x])] (.ref k 7 0 (L.length + 1) (some uC)) [(k, some (.arr 78 7 (P && Q) (L ++ [x]))), (i, none)] (k, k + 1) := by
 have bij : Nat.beq i j = false := zeb hij
 have bik : Nat.beq i k = false := zeb hik
 have bjk : Nat.beq j k = false := zeb hjk
 have bji : Nat.beq j i = false := zeb (Ne.symm hij)
 have bki : Nat.beq k i = false := zeb (Ne.symm hik)
 have bkj : Nat.beq k j = false := zeb (Ne.symm hjk)
 have n10 : ¬ ((1 : Int) = 0) := by omega
 have hx : (1 : Nat) <= 1 := Nat.le_refl _
 refine za5 Tryz.tmOk Tryz.func88 rfl (by decide) (lb rfl) (by simp) ?_
 intro hwf
 refine .seq ?_
 refine .pp zS [0, 1, 2] (by intro q hq; simp only [go_sem, zb0, Nat.reduceSub, Int.reduceEq, Nat.reduceLT, Nat.reduceDiv, Nat.reduceAdd, Nat.reduceBEq, Nat.reduceLeDiff, reduceCtorEq, Nat.reduceEqDiff, Nat.reduceMod, capK, bij, bik, bjk, bji, bki, bkj]; exact hq) ?_
 refine .seq ?_
 refine .pp zS [0, 1, 2] (by intro q hq; simp only [go_sem, zb0, Nat.reduceSub, Int.reduceEq, Nat.reduceLT, Nat.reduceDiv, Nat.reduceAdd, Nat.reduceBEq, Nat.reduceLeDiff, reduceCtorEq, Nat.reduceEqDiff, Nat.reduceMod, capK, Tryz.tm_25, Tryz.tm_3, bij, bik, bjk, bji, bki, bkj]; exact hq) ?_
 refine .seq ?_
 refine .pp zS [0, 1, 2] (by intro q hq; simp only [go_sem, zb0, Nat.reduceSub, Int.reduceEq, Nat.reduceLT, Nat.reduceDiv, Nat.reduceAdd, Nat.reduceBEq, Nat.reduceLeDiff, reduceCtorEq, Nat.reduceEqDiff, Nat.reduceMod, capK, Tryz.tm_25, Tryz.tm_3, bij, bik, bjk, bji, bki, bkj]; exact hq) ?_
 refine .seq (.seq ?_)
 refine .pp zS [0, 1, 2, 7] (by intro q hq; simp only [go_sem, zb0, Nat.reduceSub, Int.reduceEq, Nat.reduceLT, Nat.reduceDiv, Nat.reduceAdd, Nat.reduceBEq, Nat.reduceLeDiff, reduceCtorEq, Nat.reduceEqDiff, Nat.reduceMod, capK, Tryz.tm_25, Tryz.tm_3]; exact hq) ?_
 refine .cond rfl rfl (fun hc => by simp at hc) (fun hc => ?_)
 refine .skip ?_
 refine .seq ?_
 refine .pp zS [0, 1, 2, 7] (by intro q hq; simp only [go_sem, zb0, Nat.reduceSub, Int.reduceEq, Nat.reduceLT, Nat.reduceDiv, Nat.reduceAdd, Nat.reduceBEq, Nat.reduceLeDiff, reduceCtorEq, Nat.reduceEqDiff, Nat.reduceMod, capK, Tryz.tm_25, Tryz.tm_3]; exact hq) ?_
 refine .seq (.seq ?_)
 refine .pp zS [0, 1, 2, 7, 8] (by intro q hq; simp only [go_sem, zb0, Nat.reduceSub, Int.reduceEq, Nat.reduceLT, Nat.reduceDiv, Nat.reduceAdd, Nat.reduceBEq, Nat.reduceLeDiff, reduceCtorEq, Nat.reduceEqDiff, Nat.reduceMod, capK, Tryz.tm_25, Tryz.tm_3]; exact hq) ?_
 refine .cond rfl rfl (fun hc => ?_) (fun hc => by simp at hc)
 refine .seq ?_
 refine .pp zS [0, 2] (by intro q hq; simp only [go_sem, zb0, Nat.reduceSub, Int.reduceEq, Nat.reduceLT, Nat.reduceDiv, Nat.reduceAdd, Nat.reduceBEq, Nat.reduceLeDiff, reduceCtorEq, Nat.reduceEqDiff, Nat.reduceMod, capK, Tryz.tm_25, Tryz.tm_3, bij, bik, bjk, bji, bki, bkj]; exact hq) ?_
 refine .ret ⟨.inr rfl, retH [j, k] ?_ ?_⟩
 simp only [zpn, resL, resD, resT, go_sem, zb0, Nat.reduceSub, Int.reduceEq, Nat.reduceLT, Nat.reduceDiv, Nat.reduceAdd, Nat.reduceBEq, Nat.reduceLeDiff, reduceCtorEq, Nat.reduceEqDiff, Nat.reduceMod, Tryz.f88]
 simp only [zd1, getL, effL, put, del, Nat.beq_refl, cond_true, cond_false, bij, bik, bjk, bji, bki, bkj, List.take_length]
theorem ya7k (i j k : Nat) (hij : i ≠ j) (hik : i ≠ k) (hjk : j ≠ k) (L : List D) (x : D) (P Q : Bool) (at' c : Nat) (hck : capK c = true) (hat : at' < L.length) (hL : L.length < 1000000) (h1 : L.length <= c) (h2 : c < L.length + 1) :
  zcv Tryz.prog 88 [.ref i 7 0 L.length (some c), .int .i64 (at' : Int), .ref j 7 0 1 (some 1)] [(i, .arr 78 7 P L), (j, .arr 78 7 Q [x])] (.ref k 7 0 (L.length + 1) none) [(k, some (.arr 78 7 (P && Q) (L.take at' ++ x :: L.drop at'))), (i, none)] (k, k + 1) := by
 obtain rfl : c = L.length := by omega
 have hck2 := hck
 have bij : Nat.beq i j = false := zeb hij
 have bik : Nat.beq i k = false := zeb hik
 have bjk : Nat.beq j k = false := zeb hjk
 have bji : Nat.beq j i = false := zeb (Ne.symm hij)
 have bki : Nat.beq k i = false := zeb (Ne.symm hik)
 have bkj : Nat.beq k j = false := zeb (Ne.symm hjk)
 have hw : wr .i64 ((L.length : Int) + ((1 : Nat) : Int)) = ((L.length + 1 : Nat) : Int) := zju _ _ (by show (-9223372036854775808 : Int) <= _; omega) (by show _ <= (9223372036854775807 : Int); omega)
 have hw2 : wr .i64 (((L.length + 1 : Nat) : Int) - (at' : Int)) = ((L.length + 1 - at' : Nat) : Int) := by
  rw [zju _ _ (by show (-9223372036854775808 : Int) <= _; omega) (by show _ <= (9223372036854775807 : Int); omega)]
  omega
 have hw3 : wr .i64 ((at' : Int) + ((1 : Nat) : Int)) = ((at' + 1 : Nat) : Int) := zju _ _ (by show (-9223372036854775808 : Int) <= _; omega) (by show _ <= (9223372036854775807 : Int); omega)
 have ha : at' + (L.length + 1 - at') = L.length + 1 := by omega
 have pq : (P && Q && P) = (P && Q) := by cases P <;> cases Q <;> rfl
 have hm1 : Nat.min 1 (L.length + 1 - at') = 1 := by show min 1 (L.length + 1 - at') = 1; omega
 have hm2 : Nat.min (L.length - at') (L.length + 1 - (at' + 1)) = L.length - at' := by show min (L.length - at') (L.length + 1 - (at' + 1)) = L.length - at'; omega
 have tk : (L.take at').length = at' := by simp; omega
 have e1 : List.take at' (List.take at' L ++ List.replicate (L.length + 1 - at') (D.agg [D.int .i64 0, D.imm 0 [] 0, D.int .i64 0, D.str [], D.str [], D.int .i64 0, D.bool false])) = List.take at' L := by
  rw [List.take_append_of_le_length (by omega), List.take_of_length_le (by omega)]
 have e2 : List.drop (at' + 1) (List.take at' L ++ List.replicate (L.length + 1 - at') (D.agg [D.int .i64 0, D.imm 0 [] 0, D.int .i64 0, D.str [], D.str [], D.int .i64 0, D.bool false])) = List.replicate (L.length - at') (D.agg [D.int .i64 0, D.imm 0 [] 0, D.int .i64 0, D.str [], D.str [], D.int .i64 0, D.bool false]) := by
  rw [List.drop_append, List.drop_eq_nil_of_le (by omega), tk, List.nil_append, List.drop_replicate]
  congr 1; omega
 have e3 : List.take (at' + 1) (List.take at' L ++ [x] ++ List.replicate (L.length - at') (D.agg [D.int .i64 0, D.imm 0 [] 0, D.int .i64 0, D.str [], D.str [], D.int .i64 0, D.bool false])) = List.take at' L ++ [x] := by
  rw [List.take_append_of_le_length (by simp; omega), List.take_of_length_le (by simp; omega)]
 have e4 : List.drop (at' + 1 + (L.length - at')) (List.take at' L ++ [x] ++ List.replicate (L.length - at') (D.agg [D.int .i64 0, D.imm 0 [] 0, D.int .i64 0, D.str [], D.str [], D.int .i64 0, D.bool false])) = [] := List.drop_eq_nil_of_le (by simp; omega)
 have e5 : List.take (L.length - at') (List.drop at' L) = List.drop at' L := List.take_of_length_le (by simp)
 have l1 : (List.take at' L ++ List.replicate (L.length + 1 - at') (D.agg [D.int .i64 0, D.imm 0 [] 0, D.int .i64 0, D.str [], D.str [], D.int .i64 0, D.bool false])).length = L.length + 1 := by simp; omega
 have l2 : (List.take at' L ++ [x] ++ List.replicate (L.length - at') (D.agg [D.int .i64 0, D.imm 0 [] 0, D.int .i64 0, D.str [], D.str [], D.int .i64 0, D.bool false])).length = L.length + 1 := by simp; omega
 refine za5 Tryz.tmOk Tryz.func88 rfl (by decide) (lb rfl) (by simp) ?_
 intro hwf
 refine .seq ?_
 refine .pp zS [0, 1, 2] (by intro q hq; simp only [go_sem, zb0, Nat.reduceSub, Int.reduceEq, Nat.reduceLT, Nat.reduceDiv, Nat.reduceAdd, Nat.reduceBEq, Nat.reduceLeDiff, reduceCtorEq, Nat.reduceEqDiff, Nat.reduceMod, hck]; exact hq) ?_
 refine .seq ?_
 refine .pp zS [0, 1, 2] (by intro q hq; simp only [go_sem, zb0, Nat.reduceSub, Int.reduceEq, Nat.reduceLT, Nat.reduceDiv, Nat.reduceAdd, Nat.reduceBEq, Nat.reduceLeDiff, reduceCtorEq, Nat.reduceEqDiff, Nat.reduceMod, Tryz.tm_25, Tryz.tm_3, hck]; exact hq) ?_
 refine .seq ?_
 refine .pp zS [0, 1, 2] (by intro q hq; simp only [go_sem, zb0, Nat.reduceSub, Int.reduceEq, Nat.reduceLT, Nat.reduceDiv, Nat.reduceAdd, Nat.reduceBEq, Nat.reduceLeDiff, reduceCtorEq, Nat.reduceEqDiff, Nat.reduceMod, Tryz.tm_25, Tryz.tm_3, hck]; exact hq) ?_
 refine .seq (.seq ?_)
 refine .pp zS [0, 1, 2, 7] (by intro q hq; simp only [go_sem, zb0, Nat.reduceSub, Int.reduceEq, Nat.reduceLT, Nat.reduceDiv, Nat.reduceAdd, Nat.reduceBEq, Nat.reduceLeDiff, reduceCtorEq, Nat.reduceEqDiff, Nat.reduceMod, Tryz.tm_25, Tryz.tm_3, hck]; exact hq) ?_
 refine .cond rfl rfl (fun hc => by simp at hc) (fun hc => ?_)
 refine .skip ?_
 refine .seq ?_
 refine .pp zS [0, 1, 2, 7] (by intro q hq; simp only [go_sem, zb0, Nat.reduceSub, Int.reduceEq, Nat.reduceLT, Nat.reduceDiv, Nat.reduceAdd, Nat.reduceBEq, Nat.reduceLeDiff, reduceCtorEq, Nat.reduceEqDiff, Nat.reduceMod, Tryz.tm_25, Tryz.tm_3, hck]; exact hq) ?_
 refine .seq (.seq ?_)
 refine .pp zS [0, 1, 2, 7, 8] (by intro q hq; simp only [go_sem, zb0, Nat.reduceSub, Int.reduceEq, Nat.reduceLT, Nat.reduceDiv, Nat.reduceAdd, Nat.reduceBEq, Nat.reduceLeDiff, reduceCtorEq, Nat.reduceEqDiff, Nat.reduceMod, Tryz.tm_25, Tryz.tm_3, hck]; exact hq) ?_
 refine .cond rfl rfl (fun hc => by simp at hc; omega) (fun hc => ?_)
 refine .skip ?_
 refine .seq (.seq ?_)
 refine .pp zS [0, 1, 2, 7, 8] (by intro q hq; simp only [go_sem, zb0, Nat.reduceSub, Int.reduceEq, Nat.reduceLT, Nat.reduceDiv, Nat.reduceAdd, Nat.reduceBEq, Nat.reduceLeDiff, reduceCtorEq, Nat.reduceEqDiff, Nat.reduceMod, Tryz.tm_25, Tryz.tm_3, hck, hw]; exact hq) ?_
 refine .cond rfl rfl (fun hc => ?_) (fun hc => by simp at hc; omega)
 refine .seq ?_
 refine .pp zS [0, 1, 2, 7, 8] (by intro q hq; simp only [go_sem, zb0, Nat.reduceSub, Int.reduceEq, Nat.reduceLT, Nat.reduceDiv, Nat.reduceAdd, Nat.reduceBEq, Nat.reduceLeDiff, reduceCtorEq, Nat.reduceEqDiff, Nat.reduceMod, Tryz.tm_25, Tryz.tm_3, hck, hw, hw2, ha, zmw, Int.sub_zero, Int.toNat_zero, Int.toNat_sub, bij, bik, bjk, bji, bki, bkj]; exact hq) ?_
 refine .seq ?_
 refine .pp zS [0, 1, 2, 7, 8, 9] (by intro q hq; simp only [go_sem, zb0, Nat.reduceSub, Int.reduceEq, Nat.reduceLT, Nat.reduceDiv, Nat.reduceAdd, Nat.reduceBEq, Nat.reduceLeDiff, reduceCtorEq, Nat.reduceEqDiff, Nat.reduceMod, Tryz.tm_25, Tryz.tm_3, hck, hw, hw2, ha, zmw, Int.sub_zero, Int.toNat_zero, Int.toNat_sub, bij, bik, bjk, bji, bki, bkj, Int.toNat_sub, hm1, e1, e2, List.take_one, List.take_succ_cons]; exact hq) ?_
 refine .seq ?_
 refine .drawn Tryz.tmOk Tryz.tmMixed [0, 1, 2, 7, 8, 9] (by decide +kernel) (by intro q hq; simp only [go_sem, zb0, Nat.reduceSub, Int.reduceEq, Nat.reduceLT, Nat.reduceDiv, Nat.reduceAdd, Nat.reduceBEq, Nat.reduceLeDiff, reduceCtorEq, Nat.reduceEqDiff, Nat.reduceMod, Tryz.tm_25, Tryz.tm_3, hck, hw, hw2, hw3, ha, zmw, capS, bij, bik, bjk, bji, bki, bkj, Int.toNat_sub, hm1, hm2, e3, e4, e5]; exact hq) (zjw (by kernel_rfl)) (by first | rfl | (simp only [go_sem, Nat.reduceLeDiff]; done) | (simp only [go_sem, Nat.reduceLeDiff]; rfl) | (simp; done) | (simp [oneD] <;> omega) | (simp_all; done) | (simp_all [oneD] <;> omega)) (by first | exact Nat.le_refl _ | exact lb rfl | (dsimp only; omega) | (simp <;> omega)) ?_
 refine .seq ?_
 refine .pp zS [9] (by intro q hq; simp only [go_sem, zb0, Nat.reduceSub, Int.reduceEq, Nat.reduceLT, Nat.reduceDiv, Nat.reduceAdd, Nat.reduceBEq, Nat.reduceLeDiff, reduceCtorEq, Nat.reduceEqDiff, Nat.reduceMod, Tryz.tm_25, Tryz.tm_3, hck]; exact hq) ?_
 refine .ret ⟨.inr rfl, retH [j, k] ?_ ?_⟩
 simp only [zpn, resL, resD, resT, go_sem, zb0, Nat.reduceSub, Int.reduceEq, Nat.reduceLT, Nat.reduceDiv, Nat.reduceAdd, Nat.reduceBEq, Nat.reduceLeDiff, reduceCtorEq, Nat.reduceEqDiff, Nat.reduceMod, Tryz.f88]
 simp only [zd1, getL, effL, put, del, Nat.beq_refl, cond_true, cond_false, bij, bik, bjk, bji, bki, bkj, pq, List.append_assoc, List.singleton_append, List.append_nil]
theorem ya7j (i j k : Nat) (hij : i ≠ j) (L : List D) (x : D) (P Q : Bool) (at' c : Nat) (hck : capK c = true) (hat : at' < L.length) (hL : L.length < 1000000) (h1 : L.length + 1 <= c) :
  zcv Tryz.prog 88 [.ref i 7 0 L.length (some c), .int .i64 (at' : Int), .ref j 7 0 1 (some 1)] [(i, .arr 78 7 P L), (j, .arr 78 7 Q [x])] (.ref i 7 0 (L.length + 1) (some c)) [(i, some (.arr 78 7 (P && Q) (L.take at' ++ x :: L.drop at')))] (k, k) := by
 have bij : Nat.beq i j = false := zeb hij
 have bji : Nat.beq j i = false := zeb (Ne.symm hij)
 have hw : wr .i64 ((L.length : Int) + ((1 : Nat) : Int)) = ((L.length + 1 : Nat) : Int) := zju _ _ (by show (-9223372036854775808 : Int) <= _; omega) (by show _ <= (9223372036854775807 : Int); omega)
 have hw3 : wr .i64 ((at' : Int) + ((1 : Nat) : Int)) = ((at' + 1 : Nat) : Int) := zju _ _ (by show (-9223372036854775808 : Int) <= _; omega) (by show _ <= (9223372036854775807 : Int); omega)
 have hm1 : Nat.min 1 (L.length + 1 - at') = 1 := by show min 1 (L.length + 1 - at') = 1; omega
 have hm2 : Nat.min (L.length + 1 - at') (L.length + 1 - (at' + 1)) = L.length - at' := by show min (L.length + 1 - at') (L.length + 1 - (at' + 1)) = L.length - at'; omega
 have hn1 : L.length + 1 - (at' + 1) = (L.length - at' - 1) + 1 := by omega
 have tk : (L.take at').length = at' := by simp; omega
 have tk1 : (L.take (at' + 1)).length = at' + 1 := by simp; omega
 have e5 : List.take (L.length - at') (List.drop at' L) = List.drop at' L := List.take_of_length_le (by simp)
 have e4 : List.drop (at' + 1 + (L.length - at')) L = [] := List.drop_eq_nil_of_le (by omega)
 have e1 : List.take at' (List.take (at' + 1) L ++ List.drop at' L) = List.take at' L := by
  rw [List.take_append_of_le_length (by omega), List.take_take]
  congr 1; omega
 have e2 : List.drop (at' + 1) (List.take (at' + 1) L ++ List.drop at' L) = List.drop at' L := by
  rw [List.drop_append, List.drop_eq_nil_of_le (by omega), tk1, Nat.sub_self, List.drop_zero, List.nil_append]
 refine za5 Tryz.tmOk Tryz.func88 rfl (by decide) (lb rfl) (by simp) ?_
 intro hwf
 refine .seq ?_
 refine .pp zS [0, 1, 2] (by intro q hq; simp only [go_sem, zb0, Nat.reduceSub, Int.reduceEq, Nat.reduceLT, Nat.reduceDiv, Nat.reduceAdd, Nat.reduceBEq, Nat.reduceLeDiff, reduceCtorEq, Nat.reduceEqDiff, Nat.reduceMod, hck]; exact hq) ?_
 refine .seq ?_
 refine .pp zS [0, 1, 2] (by intro q hq; simp only [go_sem, zb0, Nat.reduceSub, Int.reduceEq, Nat.reduceLT, Nat.reduceDiv, Nat.reduceAdd, Nat.reduceBEq, Nat.reduceLeDiff, reduceCtorEq, Nat.reduceEqDiff, Nat.reduceMod, Tryz.tm_25, Tryz.tm_3, hck]; exact hq) ?_
 refine .seq ?_
 refine .pp zS [0, 1, 2] (by intro q hq; simp only [go_sem, zb0, Nat.reduceSub, Int.reduceEq, Nat.reduceLT, Nat.reduceDiv, Nat.reduceAdd, Nat.reduceBEq, Nat.reduceLeDiff, reduceCtorEq, Nat.reduceEqDiff, Nat.reduceMod, Tryz.tm_25, Tryz.tm_3, hck]; exact hq) ?_
 refine .seq (.seq ?_)
 refine .pp zS [0, 1, 2, 7] (by intro q hq; simp only [go_sem, zb0, Nat.reduceSub, Int.reduceEq, Nat.reduceLT, Nat.reduceDiv, Nat.reduceAdd, Nat.reduceBEq, Nat.reduceLeDiff, reduceCtorEq, Nat.reduceEqDiff, Nat.reduceMod, Tryz.tm_25, Tryz.tm_3, hck]; exact hq) ?_
 refine .cond rfl rfl (fun hc => by simp at hc) (fun hc => ?_)
 refine .skip ?_
 refine .seq ?_
 refine .pp zS [0, 1, 2, 7] (by intro q hq; simp only [go_sem, zb0, Nat.reduceSub, Int.reduceEq, Nat.reduceLT, Nat.reduceDiv, Nat.reduceAdd, Nat.reduceBEq, Nat.reduceLeDiff, reduceCtorEq, Nat.reduceEqDiff, Nat.reduceMod, Tryz.tm_25, Tryz.tm_3, hck]; exact hq) ?_
 refine .seq (.seq ?_)
 refine .pp zS [0, 1, 2, 7, 8] (by intro q hq; simp only [go_sem, zb0, Nat.reduceSub, Int.reduceEq, Nat.reduceLT, Nat.reduceDiv, Nat.reduceAdd, Nat.reduceBEq, Nat.reduceLeDiff, reduceCtorEq, Nat.reduceEqDiff, Nat.reduceMod, Tryz.tm_25, Tryz.tm_3, hck]; exact hq) ?_
 refine .cond rfl rfl (fun hc => by simp at hc; omega) (fun hc => ?_)
 refine .skip ?_
 refine .seq (.seq ?_)
 refine .pp zS [0, 1, 2, 7, 8] (by intro q hq; simp only [go_sem, zb0, Nat.reduceSub, Int.reduceEq, Nat.reduceLT, Nat.reduceDiv, Nat.reduceAdd, Nat.reduceBEq, Nat.reduceLeDiff, reduceCtorEq, Nat.reduceEqDiff, Nat.reduceMod, Tryz.tm_25, Tryz.tm_3, hck, hw]; exact hq) ?_
 refine .cond rfl rfl (fun hc => by simp at hc; omega) (fun hc => ?_)
 refine .skip ?_
 refine .seq ?_
 refine .pp zS [0, 1, 2, 7, 8] (by intro q hq; simp only [go_sem, zb0, Nat.reduceSub, Int.reduceEq, Nat.reduceLT, Nat.reduceDiv, Nat.reduceAdd, Nat.reduceBEq, Nat.reduceLeDiff, reduceCtorEq, Nat.reduceEqDiff, Nat.reduceMod, Tryz.tm_25, Tryz.tm_3, hck, hw, zvf, Option.isSome, Int.sub_zero, Int.toNat_zero, Nat.sub_zero, bij, bji]; exact hq) ?_
 refine .seq (.seq ?_)
 refine .reg Tryz.tmOk Tryz.tmMixed [0, 1, 2, 7] (by decide +kernel) ?_
 refine .R (dr := false) (.inr fun _ _ _ h => ⟨nofun, h.2⟩) (by intro q hq; simp only [go_sem, zb0, Nat.reduceSub, Int.reduceEq, Nat.reduceLT, Nat.reduceDiv, Nat.reduceAdd, Nat.reduceBEq, Nat.reduceLeDiff, reduceCtorEq, Nat.reduceEqDiff, Nat.reduceMod, Tryz.tm_25, Tryz.tm_3, hck, hw3, Int.toNat_sub, bij, bji]; exact hq) (by first | rfl | (simp only [go_sem, Nat.reduceLeDiff]; done) | (simp only [go_sem, Nat.reduceLeDiff]; rfl) | (simp; done) | (simp [oneD] <;> omega) | (simp_all; done) | (simp_all [oneD] <;> omega)) (by first | exact Nat.le_refl _ | exact lb rfl | (dsimp only; omega) | (simp <;> omega)) ?_
 refine .overs (i := j) (j := i) rfl rfl rfl rfl rfl ya0t ⟨7, 0, 0, some 1, 7 - 1, at' + 1, L.length - at' - 1, some (c - (at' + 1)), 78, 7, Q, [x], 78, 7, P, L, by
  show [D.ref j 7 0 1 (some 1), D.ref i 7 (at' + 1) (L.length + 1 - (at' + 1)) (some (c - (at' + 1)))] = _
  rw [hn1], by simp only [getL, bij, cond_false, Nat.beq_refl, cond_true], by simp only [getL, Nat.beq_refl, cond_true], Ne.symm hij⟩ ?_
 refine .R (dr := false) (.inr fun _ _ _ h => ⟨nofun, h.2⟩) (by intro q hq; simp only [go_sem, zb0, Nat.reduceSub, Int.reduceEq, Nat.reduceLT, Nat.reduceDiv, Nat.reduceAdd, Nat.reduceBEq, Nat.reduceLeDiff, reduceCtorEq, Nat.reduceEqDiff, Nat.reduceMod, Tryz.tm_25, Tryz.tm_3, hck]; exact hq) (by first | rfl | (simp only [go_sem, Nat.reduceLeDiff]; done) | (simp only [go_sem, Nat.reduceLeDiff]; rfl) | (simp; done) | (simp [oneD] <;> omega) | (simp_all; done) | (simp_all [oneD] <;> omega)) (by first | exact Nat.le_refl _ | exact lb rfl | (dsimp only; omega) | (simp <;> omega)) ?_
 refine .nil ⟨nofun, ?_⟩
 refine .cond rfl rfl (fun hc => ?_) (fun hc => by cases hc)
 refine .seq ?_
 refine .drawn Tryz.tmOk Tryz.tmMixed [0, 1, 2, 7] (by decide +kernel) (by intro q hq; simp only [go_sem, zb0, Nat.reduceSub, Int.reduceEq, Nat.reduceLT, Nat.reduceDiv, Nat.reduceAdd, Nat.reduceBEq, Nat.reduceLeDiff, reduceCtorEq, Nat.reduceEqDiff, Nat.reduceMod, Tryz.tm_25, Tryz.tm_3, hck, hw3, Int.toNat_sub, hm2, e4, e5, bij, bji, Bool.and_self, List.append_nil]; exact hq) (zjw (by kernel_rfl)) (by first | rfl | (simp only [go_sem, Nat.reduceLeDiff]; done) | (simp only [go_sem, Nat.reduceLeDiff]; rfl) | (simp; done) | (simp [oneD] <;> omega) | (simp_all; done) | (simp_all [oneD] <;> omega)) (by first | exact Nat.le_refl _ | exact lb rfl | (dsimp only; omega) | (simp <;> omega)) ?_
 refine .seq ?_
 refine .pp zS [0, 1, 2] (by intro q hq; simp only [go_sem, zb0, Nat.reduceSub, Int.reduceEq, Nat.reduceLT, Nat.reduceDiv, Nat.reduceAdd, Nat.reduceBEq, Nat.reduceLeDiff, reduceCtorEq, Nat.reduceEqDiff, Nat.reduceMod, Tryz.tm_25, Tryz.tm_3, hck, Int.toNat_sub, hm1, e1, e2, bij, bji, List.take_succ_cons]; exact hq) ?_
 refine .seq ?_
 refine .pp zS [0] (by intro q hq; simp only [go_sem, zb0, Nat.reduceSub, Int.reduceEq, Nat.reduceLT, Nat.reduceDiv, Nat.reduceAdd, Nat.reduceBEq, Nat.reduceLeDiff, reduceCtorEq, Nat.reduceEqDiff, Nat.reduceMod, Tryz.tm_25, Tryz.tm_3, hck]; exact hq) ?_
 refine .ret ⟨.inr rfl, retH [i, j] ?_ ?_⟩
 simp only [zpn, resL, resD, resT, go_sem, zb0, Nat.reduceSub, Int.reduceEq, Nat.reduceLT, Nat.reduceDiv, Nat.reduceAdd, Nat.reduceBEq, Nat.reduceLeDiff, reduceCtorEq, Nat.reduceEqDiff, Nat.reduceMod, Tryz.f88]
 simp only [zd1, getL, effL, put, del, Nat.beq_refl, cond_true, cond_false, bij, bji, List.append_assoc, List.singleton_append, List.append_nil]
theorem ya8e (i j k : Nat) (hij : i ≠ j) (hik : i ≠ k) (hjk : j ≠ k) (L : List D) (x : D) (P Q : Bool) (at' : Nat) (hat : at' <= L.length) (hL : L.length < 1000000) :
  zcv Tryz.prog 88 [.ref i 7 0 L.length (some uC), .int .i64 (at' : Int), .ref j 7 0 1 (some 1)] [(i, .arr 78 7 P L), (j, .arr 78 7 Q [x])] (.ref k 7 0 (L.length + 1) (some uC)) [(k, some (.arr 78 7 (P && Q) (L.take at' ++ x :: L.drop at'))), (i, none)] (k, k + 1) := by
 by_cases h : at' = L.length
 subst h
 have := ya29 i j k hij hik hjk L x P Q hL
 rw [List.take_length, List.drop_length]
 exact this
 exact zt0 (l := L) (p := P) (ya29 i j k hij hik hjk L x P Q hL).1 (by simp only [getL, Nat.beq_refl, cond_true]) hik (by omega)
  (fun c hc _ h2 => ya7j i j k hij L x P Q at' c hc (by omega) hL h2)
  (fun c hc h1 h2 => ya7k i j k hij hik hjk L x P Q at' c hc (by omega) hL h1 h2)
end Go.Proofs
end
section
namespace Go.Proofs
open Go.Tm Go.RowKit Go.WideShapes
set_option maxRecDepth 100000
set_option linter.unusedSimpArgs false
set_option linter.unusedVariables false
attribute [local go_sem] zjd runE runK zm0 zta aop opd zp7 opds opdO ev zuj keep List.any zf1 Bool.false_or Bool.true_or zh5 cond_true cond_false Bool.cond_false_right Bool.cond_true_left beq_true beq_false imp_self implies_true getR getL put St.app effL del nwB zw9 Nat.lt_irrefl Nat.lt_add_one zwa Nat.le_refl Nat.beq_refl zm8 capS ztm zr7 zf7 D.ids D.idsL bin zyf zqm binT zw5 Tm.part znx zse oneD zsc zpr srcD zi3 zq1 decide_true gval ztx D.cells List.map_cons List.map_nil List.take List.drop List.length_map List.append Int.toNat_natCast and_true true_and decide_false List.length_cons List.length_nil List.append_nil List.nil_append Bool.and_true Bool.true_and Bool.not_false Bool.not_true ne_eq not_false_eq_true BEq.rfl List.getElem?_cons_zero List.getElem?_cons_succ List.getElem?_nil Nat.zero_add List.all_cons List.all_nil List.isEmpty_cons List.isEmpty_nil Option.getD_some Option.getD_none List.any_cons List.any_nil List.drop_succ_cons List.drop_zero unfL unf okM okML low3 List.cons_append true_or or_true Nat.zero_mul Nat.zero_le fpOf zo9
theorem ya7u (i k : Nat) (L : List D) (P : Bool) (at' c : Nat) (hck : capK c = true) (hat : at' < L.length) (hL : L.length < 1000000) (h1 : L.length <= c) :
  zcv Tryz.prog 89 [.ref i 7 0 L.length (some c), .int .i64 (at' : Int), .int .i64 ((at' + 1 : Nat) : Int)] [(i, .arr 78 7 P L)] (.ref i 7 0 (L.length - 1) (some c)) [(i, some (.arr 78 7 P (L.take at' ++ L.drop (at' + 1))))] (k, k) := by
 have e5 : List.take (L.length - (at' + 1)) (List.drop (at' + 1) L) = List.drop (at' + 1) L := List.take_of_length_le (by simp)
 have hl : at' + (L.drop (at' + 1)).length = L.length - 1 := by simp; omega
 have hm : Nat.blt at' L.length = true := Nat.ble_eq_true_of_le hat
 have hcL : L.length - 1 <= c := by omega
 have hm2 : at' < L.length := hat
 have hne : ¬ ((at' : Int) = ((at' + 1 : Nat) : Int)) := by omega
 have ha : Nat.beq at' (at' + 1) = false := zeb (by omega)
 have l1 : (L.take at' ++ L.drop (at' + 1)).length = L.length - 1 := by simp; omega
 have l2 : (L.take at' ++ L.drop (at' + 1) ++ L.drop (L.length - 1)).length = L.length := by simp; omega
 have t1 : List.take (L.length - 1) (L.take at' ++ L.drop (at' + 1) ++ L.drop (L.length - 1)) = L.take at' ++ L.drop (at' + 1) := by
  rw [List.take_append_of_le_length (by omega), List.take_of_length_le (by omega)]
 have t2 : ∀ R S : List D, List.take (L.length - 1) (L.take at' ++ L.drop (at' + 1) ++ R ++ S) = L.take at' ++ L.drop (at' + 1) := fun R S => by
  rw [List.append_assoc _ R S, List.take_append_of_le_length (by omega), List.take_of_length_le (by omega)]
 have q1 : Int.toNat ((L.length : Int) - ((L.length - 1 : Nat) : Int)) = 1 := by omega
 have q2 : Int.toNat ((L.length - 1 : Nat) : Int) = L.length - 1 := by omega
 have q3 : Int.toNat (((L.length : Int)) - ((at' + 1 : Nat) : Int)) = L.length - (at' + 1) := by omega
 refine za5 Tryz.tmOk Tryz.func89 rfl (by decide) (lb rfl) (by simp) ?_
 intro hwf
 refine .seq ?_
 refine .pp zS [0, 1, 2] (by intro q hq; simp only [go_sem, zb0, Nat.reduceSub, Int.reduceEq, Nat.reduceLT, Nat.reduceDiv, Nat.reduceAdd, Nat.reduceBEq, Nat.reduceLeDiff, reduceCtorEq, Nat.reduceEqDiff, Nat.reduceMod, hck]; exact hq) ?_
 refine .seq ?_
 refine .pp zS [0, 1, 2] (by intro q hq; simp only [go_sem, zb0, Nat.reduceSub, Int.reduceEq, Nat.reduceLT, Nat.reduceDiv, Nat.reduceAdd, Nat.reduceBEq, Nat.reduceLeDiff, reduceCtorEq, Nat.reduceEqDiff, Nat.reduceMod, Tryz.tm_25, Tryz.tm_3, hck, zmj, opdO]; exact hq) ?_
 refine .seq (.seq ?_)
 refine .pp zS [0, 1, 2] (by intro q hq; simp only [go_sem, zb0, Nat.reduceSub, Int.reduceEq, Nat.reduceLT, Nat.reduceDiv, Nat.reduceAdd, Nat.reduceBEq, Nat.reduceLeDiff, reduceCtorEq, Nat.reduceEqDiff, Nat.reduceMod, Tryz.tm_25, Tryz.tm_3, hck]; exact hq) ?_
 refine .cond rfl rfl (fun hc => by simp at hc; omega) (fun hc => ?_)
 refine .skip ?_
 refine .seq ?_
 refine .pp zS [0, 1, 2] (by intro q hq; simp only [go_sem, zb0, Nat.reduceSub, Int.reduceEq, Nat.reduceLT, Nat.reduceDiv, Nat.reduceAdd, Nat.reduceBEq, Nat.reduceLeDiff, reduceCtorEq, Nat.reduceEqDiff, Nat.reduceMod, Tryz.tm_25, Tryz.tm_3, hck]; exact hq) ?_
 refine .seq ?_
 refine .drawn Tryz.tmOk Tryz.tmMixed [0, 1, 2, 7] (by decide +kernel) (by intro q hq; simp only [go_sem, zb0, Nat.reduceSub, Int.reduceEq, Nat.reduceLT, Nat.reduceDiv, Nat.reduceAdd, Nat.reduceBEq, Nat.reduceLeDiff, reduceCtorEq, Nat.reduceEqDiff, Nat.reduceMod, Tryz.tm_25, Tryz.tm_3, hck, hm2, hcL, e5, q3, hl, Bool.and_self, Int.sub_zero, Int.toNat_zero, Nat.sub_zero, ziw]; exact hq) (zjw (by kernel_rfl)) (by first | rfl | (simp only [go_sem, Nat.reduceLeDiff]; done) | (simp only [go_sem, Nat.reduceLeDiff]; rfl) | (simp; done) | (simp [oneD] <;> omega) | (simp_all; done) | (simp_all [oneD] <;> omega)) (by first | exact Nat.le_refl _ | exact lb rfl | (dsimp only; omega) | (simp <;> omega)) ?_
 refine .seq ?_
 refine .pp zS [0, 7] (by intro q hq; simp only [go_sem, zb0, Nat.reduceSub, Int.reduceEq, Nat.reduceLT, Nat.reduceDiv, Nat.reduceAdd, Nat.reduceBEq, Nat.reduceLeDiff, reduceCtorEq, Nat.reduceEqDiff, Nat.reduceMod, Tryz.tm_25, Tryz.tm_3, hck, zvf, Option.isSome, q1, q2, t1, l2, Nat.zero_add]; exact hq) ?_
 refine .goes (.pre i (L.length - 1) _ (by simp only [getL, Nat.beq_refl, cond_true]; rfl) .refl) ?_
 simp only [put, Nat.beq_refl, cond_true, t2]
 refine .seq ?_
 refine .pp zS [0] (by intro q hq; simp only [go_sem, zb0, Nat.reduceSub, Int.reduceEq, Nat.reduceLT, Nat.reduceDiv, Nat.reduceAdd, Nat.reduceBEq, Nat.reduceLeDiff, reduceCtorEq, Nat.reduceEqDiff, Nat.reduceMod, Tryz.tm_25, Tryz.tm_3, hck]; exact hq) ?_
 refine .ret ⟨.inr rfl, retH [i] ?_ ?_⟩
 simp only [zpn, resL, resD, resT, go_sem, zb0, Nat.reduceSub, Int.reduceEq, Nat.reduceLT, Nat.reduceDiv, Nat.reduceAdd, Nat.reduceBEq, Nat.reduceLeDiff, reduceCtorEq, Nat.reduceEqDiff, Nat.reduceMod, Tryz.f89]
 simp only [zd1, getL, effL, put, del, Nat.beq_refl, cond_true, cond_false, List.append_assoc, List.singleton_append, List.append_nil]
theorem ya8g (i k : Nat) (hik : i ≠ k) (L : List D) (P : Bool) (at' : Nat) (hat : at' < L.length) (hL : L.length < 1000000) :
  zcv Tryz.prog 89 [.ref i 7 0 L.length (some uC), .int .i64 (at' : Int), .int .i64 ((at' + 1 : Nat) : Int)] [(i, .arr 78 7 P L)] (.ref k 7 0 (L.length - 1) (some uC)) [(k, some (.arr 78 7 P (L.take at' ++ L.drop (at' + 1)))), (i, none)] (k, k + 1) := by
 exact zt0 (l := L) (p := P) ⟨Tryz.f89, Tryz.func89, by decide, rfl⟩ (by simp only [getL, Nat.beq_refl, cond_true]) hik (.inr (by omega))
   (fun c hc h1 _ => ya7u i k L P at' c hc hat hL h1)
   (fun c hc h1 h2 => by omega)
end Go.Proofs
end
section
namespace Go.Proofs
open Go.Tm
structure TMessage where
 Id : Int
 Groups : List Int
 Topic : Int
 Key : List UInt8
 Body : List UInt8
 deriving Inhabited, DecidableEq
structure TWait where
 Message : TMessage
 Time : Int
 Final : Bool
 deriving Inhabited, DecidableEq
structure TStamp where
 Time : Int
 Id : Int
 deriving Inhabited, DecidableEq
structure TSkeen where
 Clock : Int
 Waits : List TWait
 Done : List TStamp
 deriving Inhabited, DecidableEq
structure TCommand where
 Kind : Int
 Message : TMessage
 Id : Int
 Time : Int
 Members : List Int
 Topic : Int
 Who : Int
 N : Int
 deriving Inhabited, DecidableEq
structure Tskeen_clock where
 Skeen : TSkeen
 deriving Inhabited, DecidableEq
def TMessage.d (x : TMessage) : D := .agg [.int .i64 x.Id, .imm 1 (x.Groups.map (D.int .i64)) 4, .int .i64 x.Topic, .str x.Key, .str x.Body]
def TMessage.n (x : TMessage) : D := .agg [.int .i64 x.Id, .imm 1 (x.Groups.map (D.int .i64)) 12, .int .i64 x.Topic, .str x.Key, .str x.Body]
theorem zpv : PlN TMessage.n TMessage.d := ⟨fun _ => rfl, fun _ => rfl, fun _ => by first | rfl | simp [TMessage.n, okM, okML, low3], fun _ => by first | rfl | simp [TMessage.n, okM, okML, new1]⟩
theorem zum (l : List TMessage) : mkML 1 (l.map TMessage.d) = l.map TMessage.n := zg8 1 (fun _ => rfl) l
def TWait.d (x : TWait) : D := .agg [.int .i64 x.Message.Id, .imm 1 (x.Message.Groups.map (D.int .i64)) 4, .int .i64 x.Message.Topic, .str x.Message.Key, .str x.Message.Body, .int .i64 x.Time, .bool x.Final]
def TWait.n (x : TWait) : D := .agg [.int .i64 x.Message.Id, .imm 1 (x.Message.Groups.map (D.int .i64)) 12, .int .i64 x.Message.Topic, .str x.Message.Key, .str x.Message.Body, .int .i64 x.Time, .bool x.Final]
theorem zft : PlN TWait.n TWait.d := ⟨fun _ => rfl, fun _ => rfl, fun _ => by first | rfl | simp [TWait.n, okM, okML, low3], fun _ => by first | rfl | simp [TWait.n, okM, okML, new1]⟩
theorem zzc (l : List TWait) : mkML 1 (l.map TWait.d) = l.map TWait.n := zg8 1 (fun _ => rfl) l
def TStamp.d (x : TStamp) : D := .agg [.int .i64 x.Time, .int .i64 x.Id]
theorem ziy : Pl TStamp.d := ⟨fun _ => rfl, fun _ => rfl, fun q h _ => by first | rfl | simp [TStamp.d, okM, okML, h]⟩
theorem zy1 (l : List TStamp) : mkML 1 (l.map TStamp.d) = l.map TStamp.d := zg8 1 (fun _ => rfl) l
theorem zhf : Pl0 TStamp.d := ⟨ziy, fun _ _ => rfl⟩
def TSkeen.d (x : TSkeen) : D := .agg [.int .i64 x.Clock, .imm 7 (x.Waits.map TWait.d) 4, .imm 2 (x.Done.map TStamp.d) 4]
def TSkeen.n (x : TSkeen) : D := .agg [.int .i64 x.Clock, .imm 7 (x.Waits.map TWait.d) 12, .imm 2 (x.Done.map TStamp.d) 12]
theorem zy2 (l : List TSkeen) : mkML 1 (l.map TSkeen.d) = l.map TSkeen.n := zg8 1 (fun _ => rfl) l
def TCommand.d (x : TCommand) : D := .agg [.int .u8 x.Kind, .int .i64 x.Message.Id, .imm 1 (x.Message.Groups.map (D.int .i64)) 4, .int .i64 x.Message.Topic, .str x.Message.Key, .str x.Message.Body, .int .i64 x.Id, .int .i64 x.Time, .imm 1 (x.Members.map (D.int .i64)) 4, .int .i64 x.Topic, .int .i64 x.Who, .int .i64 x.N]
def TCommand.n (x : TCommand) : D := .agg [.int .u8 x.Kind, .int .i64 x.Message.Id, .imm 1 (x.Message.Groups.map (D.int .i64)) 12, .int .i64 x.Message.Topic, .str x.Message.Key, .str x.Message.Body, .int .i64 x.Id, .int .i64 x.Time, .imm 1 (x.Members.map (D.int .i64)) 12, .int .i64 x.Topic, .int .i64 x.Who, .int .i64 x.N]
theorem zpw : PlN TCommand.n TCommand.d := ⟨fun _ => rfl, fun _ => rfl, fun _ => by first | rfl | simp [TCommand.n, okM, okML, low3], fun _ => by first | rfl | simp [TCommand.n, okM, okML, new1]⟩
theorem zun (l : List TCommand) : mkML 1 (l.map TCommand.d) = l.map TCommand.n := zg8 1 (fun _ => rfl) l
def Tskeen_clock.d (x : Tskeen_clock) : D := .agg [.int .i64 x.Skeen.Clock, .imm 7 (x.Skeen.Waits.map TWait.d) 4, .imm 2 (x.Skeen.Done.map TStamp.d) 4]
def Tskeen_clock.n (x : Tskeen_clock) : D := .agg [.int .i64 x.Skeen.Clock, .imm 7 (x.Skeen.Waits.map TWait.d) 12, .imm 2 (x.Skeen.Done.map TStamp.d) 12]
theorem zpz (l : List Tskeen_clock) : mkML 1 (l.map Tskeen_clock.d) = l.map Tskeen_clock.n := zg8 1 (fun _ => rfl) l
end Go.Proofs
end
section
namespace Go.Proofs
open Go.Tm
structure Torder_step where
 fC : TCommand
 fBefore : TSkeen
 fAfter : TSkeen
 fOut : List TMessage
 deriving Inhabited, DecidableEq
structure Torder_given where
 fTime : Int
 fM : TMessage
 deriving Inhabited, DecidableEq
structure Tcommand_reader where
 fB : List Int
 fOk : Bool
 deriving Inhabited, DecidableEq
def Torder_step.d (x : Torder_step) : D := .agg [.int .u8 x.fC.Kind, .int .i64 x.fC.Message.Id, .imm 1 (x.fC.Message.Groups.map (D.int .i64)) 4, .int .i64 x.fC.Message.Topic, .str x.fC.Message.Key, .str x.fC.Message.Body, .int .i64 x.fC.Id, .int .i64 x.fC.Time, .imm 1 (x.fC.Members.map (D.int .i64)) 4, .int .i64 x.fC.Topic, .int .i64 x.fC.Who, .int .i64 x.fC.N, .int .i64 x.fBefore.Clock, .imm 7 (x.fBefore.Waits.map TWait.d) 4, .imm 2 (x.fBefore.Done.map TStamp.d) 4, .int .i64 x.fAfter.Clock, .imm 7 (x.fAfter.Waits.map TWait.d) 4, .imm 2 (x.fAfter.Done.map TStamp.d) 4, .imm 5 (x.fOut.map TMessage.d) 4]
def Torder_step.n (x : Torder_step) : D := .agg [.int .u8 x.fC.Kind, .int .i64 x.fC.Message.Id, .imm 1 (x.fC.Message.Groups.map (D.int .i64)) 12, .int .i64 x.fC.Message.Topic, .str x.fC.Message.Key, .str x.fC.Message.Body, .int .i64 x.fC.Id, .int .i64 x.fC.Time, .imm 1 (x.fC.Members.map (D.int .i64)) 12, .int .i64 x.fC.Topic, .int .i64 x.fC.Who, .int .i64 x.fC.N, .int .i64 x.fBefore.Clock, .imm 7 (x.fBefore.Waits.map TWait.d) 12, .imm 2 (x.fBefore.Done.map TStamp.d) 12, .int .i64 x.fAfter.Clock, .imm 7 (x.fAfter.Waits.map TWait.d) 12, .imm 2 (x.fAfter.Done.map TStamp.d) 12, .imm 5 (x.fOut.map TMessage.d) 12]
theorem zra (l : List Torder_step) : mkML 1 (l.map Torder_step.d) = l.map Torder_step.n := zg8 1 (fun _ => rfl) l
def Torder_given.d (x : Torder_given) : D := .agg [.int .i64 x.fTime, .int .i64 x.fM.Id, .imm 1 (x.fM.Groups.map (D.int .i64)) 4, .int .i64 x.fM.Topic, .str x.fM.Key, .str x.fM.Body]
def Torder_given.n (x : Torder_given) : D := .agg [.int .i64 x.fTime, .int .i64 x.fM.Id, .imm 1 (x.fM.Groups.map (D.int .i64)) 12, .int .i64 x.fM.Topic, .str x.fM.Key, .str x.fM.Body]
theorem zm9 : PlN Torder_given.n Torder_given.d := ⟨fun _ => rfl, fun _ => rfl, fun _ => by first | rfl | simp [Torder_given.n, okM, okML, low3], fun _ => by first | rfl | simp [Torder_given.n, okM, okML, new1]⟩
theorem zq0 (l : List Torder_given) : mkML 1 (l.map Torder_given.d) = l.map Torder_given.n := zg8 1 (fun _ => rfl) l
def Tcommand_reader.d (x : Tcommand_reader) : D := .agg [.imm 1 (x.fB.map (D.int .u8)) 4, .bool x.fOk]
def Tcommand_reader.n (x : Tcommand_reader) : D := .agg [.imm 1 (x.fB.map (D.int .u8)) 12, .bool x.fOk]
theorem znn (l : List Tcommand_reader) : mkML 1 (l.map Tcommand_reader.d) = l.map Tcommand_reader.n := zg8 1 (fun _ => rfl) l
def zdn (l : List (List UInt8)) : D := .imm 1 (l.map D.str) 4
def nL_str (l : List (List UInt8)) : D := .imm 1 (l.map D.str) 12
theorem zy0 (l : List (List (List UInt8))) : mkML 1 (l.map zdn) = l.map nL_str := zg8 1 (fun _ => rfl) l
def dL_Torder_givend (l : List Torder_given) : D := .imm 6 (l.map Torder_given.d) 4
def nL_Torder_givend (l : List Torder_given) : D := .imm 6 (l.map Torder_given.d) 12
theorem zn8 : PlN nL_Torder_givend dL_Torder_givend := ⟨fun _ => rfl, fun _ => rfl, fun _ => rfl, fun _ => rfl⟩
theorem zna (l : List (List Torder_given)) : mkML 1 (l.map dL_Torder_givend) = l.map nL_Torder_givend := zg8 1 (fun _ => rfl) l
end Go.Proofs
end
section
namespace Go.Proofs
open Go.Tm
structure Ttowncrierref16_Step where
 C : TCommand
 Before : TSkeen
 After : TSkeen
 Out : List TMessage
 deriving Inhabited, DecidableEq
structure Ttowncrierref16_Given where
 Time : Int
 Message : TMessage
 deriving Inhabited, DecidableEq
def Ttowncrierref16_Step.d (x : Ttowncrierref16_Step) : D := .agg [.int .u8 x.C.Kind, .int .i64 x.C.Message.Id, .imm 1 (x.C.Message.Groups.map (D.int .i64)) 4, .int .i64 x.C.Message.Topic, .str x.C.Message.Key, .str x.C.Message.Body, .int .i64 x.C.Id, .int .i64 x.C.Time, .imm 1 (x.C.Members.map (D.int .i64)) 4, .int .i64 x.C.Topic, .int .i64 x.C.Who, .int .i64 x.C.N, .int .i64 x.Before.Clock, .imm 7 (x.Before.Waits.map TWait.d) 4, .imm 2 (x.Before.Done.map TStamp.d) 4, .int .i64 x.After.Clock, .imm 7 (x.After.Waits.map TWait.d) 4, .imm 2 (x.After.Done.map TStamp.d) 4, .imm 5 (x.Out.map TMessage.d) 4]
def Ttowncrierref16_Step.n (x : Ttowncrierref16_Step) : D := .agg [.int .u8 x.C.Kind, .int .i64 x.C.Message.Id, .imm 1 (x.C.Message.Groups.map (D.int .i64)) 12, .int .i64 x.C.Message.Topic, .str x.C.Message.Key, .str x.C.Message.Body, .int .i64 x.C.Id, .int .i64 x.C.Time, .imm 1 (x.C.Members.map (D.int .i64)) 12, .int .i64 x.C.Topic, .int .i64 x.C.Who, .int .i64 x.C.N, .int .i64 x.Before.Clock, .imm 7 (x.Before.Waits.map TWait.d) 12, .imm 2 (x.Before.Done.map TStamp.d) 12, .int .i64 x.After.Clock, .imm 7 (x.After.Waits.map TWait.d) 12, .imm 2 (x.After.Done.map TStamp.d) 12, .imm 5 (x.Out.map TMessage.d) 12]
theorem zl7 : PlN Ttowncrierref16_Step.n Ttowncrierref16_Step.d := ⟨fun _ => rfl, fun _ => rfl, fun _ => by first | rfl | simp [Ttowncrierref16_Step.n, okM, okML, low3], fun _ => by first | rfl | simp [Ttowncrierref16_Step.n, okM, okML, new1]⟩
theorem zla (l : List Ttowncrierref16_Step) : mkML 1 (l.map Ttowncrierref16_Step.d) = l.map Ttowncrierref16_Step.n := zg8 1 (fun _ => rfl) l
def Ttowncrierref16_Given.d (x : Ttowncrierref16_Given) : D := .agg [.int .i64 x.Time, .int .i64 x.Message.Id, .imm 1 (x.Message.Groups.map (D.int .i64)) 4, .int .i64 x.Message.Topic, .str x.Message.Key, .str x.Message.Body]
def Ttowncrierref16_Given.n (x : Ttowncrierref16_Given) : D := .agg [.int .i64 x.Time, .int .i64 x.Message.Id, .imm 1 (x.Message.Groups.map (D.int .i64)) 12, .int .i64 x.Message.Topic, .str x.Message.Key, .str x.Message.Body]
theorem zkr : PlN Ttowncrierref16_Given.n Ttowncrierref16_Given.d := ⟨fun _ => rfl, fun _ => rfl, fun _ => by first | rfl | simp [Ttowncrierref16_Given.n, okM, okML, low3], fun _ => by first | rfl | simp [Ttowncrierref16_Given.n, okM, okML, new1]⟩
theorem zku (l : List Ttowncrierref16_Given) : mkML 1 (l.map Ttowncrierref16_Given.d) = l.map Ttowncrierref16_Given.n := zg8 1 (fun _ => rfl) l
end Go.Proofs
end
section
namespace Go.Proofs
open Go.Tm Go.RowKit Go.WideShapes
attribute [go_sem] zjd runE runK zm0 zta aop opd zp7 opds opdO ev zuj keep List.any zf1 Bool.false_or Bool.true_or zh5 cond_true cond_false Bool.cond_false_right Bool.cond_true_left beq_true beq_false imp_self implies_true getR getL put St.app effL del nwB zw9 Nat.lt_irrefl Nat.lt_add_one zwa Nat.le_refl Nat.beq_refl zm8 ziw capS capK ztm zr7 zf7 D.ids D.idsL bin zyf zqm binT zw5 Tm.part znx zse oneD zsc zpr srcD zi3 zq1 decide_true gval ztx D.cells List.map_cons List.map_nil List.take List.drop List.length_map List.append Int.toNat_natCast and_true true_and decide_false List.length_cons List.length_nil List.append_nil List.nil_append Bool.and_true Bool.true_and Bool.not_false Bool.not_true ne_eq not_false_eq_true BEq.rfl List.getElem?_cons_zero List.getElem?_cons_succ List.getElem?_nil Nat.zero_add List.all_cons List.all_nil List.isEmpty_cons List.isEmpty_nil Option.getD_some Option.getD_none List.any_cons List.any_nil List.drop_succ_cons List.drop_zero unfL unf okM okML low3 List.cons_append true_or or_true Nat.zero_mul Nat.zero_le zzw zzv ya1e ya1d zzr Option.isSome_map keyD List.length_replicate List.map_replicate zxo List.length_set zyd ya7d ya7a ya38 ya0z mkM mkML ya3a ya39 ya10 zty zq6 zu8 List.take_length Int.toNat_zero zxl fpOf zma zo9 mvV mvH mvF zd1 D.ren D.renL Blk.ren List.map_append List.length_append Bool.not_not Bool.or_not_self Bool.not_or_self Bool.or_true
attribute [go_sem] Tryz.tm_3 Tryz.tm_4 Tryz.tm_5 Tryz.tm_9 Tryz.tm_22 Tryz.tm_24 Tryz.tm_25 Tryz.tm_26 Tryz.tm_28 Tryz.tm_29 Tryz.tm_44 Tryz.tm_46 Tryz.tm_59 Tryz.tm_61 Tryz.tm_66 Tryz.tm_70 Tryz.tm_72 Tryz.tm_73 Tryz.tm_76 Tryz.tm_78 Tryz.tm_80 Tryz.tm_81 Tryz.tm_93 Tryz.tm_95 Tryz.tm_102 Tryz.tm_105 Tryz.tm_111 Tryz.tm_124 Tryz.tm_138 Tryz.tm_140 Tryz.tm_188 TMessage.d TMessage.n TWait.d TWait.n TStamp.d TSkeen.d TSkeen.n TCommand.d TCommand.n Tskeen_clock.d Tskeen_clock.n zum zzc zy1 zy2 zun zpz Torder_step.d Torder_step.n Torder_given.d Torder_given.n Tcommand_reader.d Tcommand_reader.n zdn nL_str dL_Torder_givend nL_Torder_givend zra zq0 znn zy0 zna Ttowncrierref16_Step.d Ttowncrierref16_Step.n Ttowncrierref16_Given.d Ttowncrierref16_Given.n zla zku Tryz.f110 Tryz.f49 Tryz.f87 Tryz.f105 Tryz.f94 Tryz.f129 Tryz.f117 Tryz.f75 Tryz.f70 Tryz.f78 Tryz.f130 Tryz.f50 Tryz.f51 Tryz.f28 Tryz.f54 Tryz.f84 Tryz.f80 Tryz.f123 Tryz.f104 Tryz.f103 Tryz.f40 Tryz.f58 Tryz.f81 Tryz.f107 Tryz.f106 Tryz.f85 Tryz.f124 Tryz.f108 Tryz.f109 Tryz.f86 Tryz.f69 Tryz.f68 Tryz.f66 Tryz.f65 Tryz.f45 Tryz.f43 Tryz.f59 Tryz.f35 Tryz.f118 Tryz.f55 Tryz.f56 Tryz.f31 Tryz.f26 Tryz.f116 Tryz.f98 Tryz.f12 Tryz.f11 Tryz.f96 Tryz.f74 Tryz.f10 Tryz.f92 Tryz.f93 Tryz.f97 Tryz.f95 Tryz.f99 Tryz.f79 Tryz.f83 Tryz.f64 Tryz.f82 Tryz.f67 Tryz.f63 Tryz.f44 Tryz.f91 Tryz.f119 Tryz.f122 Tryz.f121 Tryz.f120 Tryz.f100 Tryz.f102 Tryz.f101 Tryz.f77 Tryz.f62 Tryz.f42 Tryz.f21 Tryz.f20 Tryz.f6 Tryz.f48 Tryz.f24 Tryz.f8 Tryz.f5 Tryz.f132 Tryz.f126 Tryz.f128 Tryz.f127 Tryz.f13 Tryz.f113 Tryz.f114 Tryz.f115 Tryz.f90 Tryz.f71 Tryz.f46 Tryz.f72 Tryz.f73 Tryz.f47 Tryz.f23 Tryz.f22 Tryz.f7 Tryz.f25 Tryz.f9 Tryz.f3 Tryz.f52 Tryz.f36 Tryz.f27 Tryz.f53 Tryz.f29 Tryz.f57 Tryz.f33 Tryz.f14 Tryz.f37 Tryz.f34 Tryz.f16 Tryz.f39 Tryz.f18 Tryz.f32 Tryz.f30 Tryz.f15 Tryz.f61 Tryz.f60 Tryz.f38 Tryz.f17 Tryz.f41 Tryz.f19 Tryz.f4
end Go.Proofs
end
section
namespace Go.Tm
open Go.RowKit Go.WideShapes
end Go.Tm
end
section
namespace Go.Tm
open Go.RowKit Go.WideShapes
section
variable {fr : Nat} {w : World} {g : Gh} {hp : Nat -> Option Blk}
end
end Go.Tm
end
section
namespace Go.Tm
open Go.RowKit Go.WideShapes
end Go.Tm
end
section
namespace Go.Tm
open Go.RowKit Go.WideShapes
theorem zzp {w : World} {g : Gh} {hp hp' : Nat -> Option Blk} {Z : Nat -> Prop} (hs : ∀ id, hp' id ≠ none -> hp id ≠ none) : ((cx w g hp).at Z).Le ((cx w g hp').at Z) :=
 Cx.Le.inner (C := cx w g hp) (C' := cx w g hp') (fun _ _ => rfl) fun _ h1 h2 _ => ⟨fun ⟨id, o, k1, k2⟩ => h1 ⟨id, o, hs id k1, k2⟩, h2, rfl⟩
theorem tn1 : Int.toNat 1 = 1 := rfl
theorem tn2 : Int.toNat 2 = 2 := rfl
theorem tn3 : Int.toNat 3 = 3 := rfl
mutual
theorem zzo {w : World} {g : Gh} {hp hp' : Nat -> Option Blk} {Z1 : Nat -> Prop} (hs : ∀ id, hp' id ≠ none -> hp id ≠ none) (hd : ∀ id blk, hp id = some blk -> holds (cx w g hp) id blk) (hinj : ∀ id id' b o o', hp id ≠ none -> hp id' ≠ none -> g.σ id = some (b, o) -> g.σ id' = some (b, o') -> id = id') (hz : g.zn 1 = some Z1) (ho : ∀ b, ownB g hp b -> Z1 b) : ∀ (d : D) (v : Value), (∀ id ∈ d.ids, hp' id = none) -> rep (cx w g hp) d v -> (frz hp d).2 = true -> rep (cx w g hp') (frz hp d).1 v
 | .ref id s off len oc, v, hid, h, hp2 => by
  simp only [frz] at hp2 ⊢
  split at hp2
  rename_i e s' p items hb
  simp only [Bool.and_eq_true, List.isEmpty_iff] at hp2 ⊢
  obtain ⟨⟨⟨⟨h1, hl⟩, rfl⟩, hk⟩, hi⟩ := hp2
  obtain rfl := nb h1
  have hl := lb hl
  simp only [rep] at h
  obtain ⟨_, ad, cap, rfl, h1, h2, h3, _, h4⟩ := h
  have hlen : (unfL ((items.drop off).take len)).length = len := by rw [zjv]; simp; omega
  simp only [rep]
  refine ⟨ad, cap, by rw [hlen], by omega, h2, by simp, by simp, by simp, h3, fun _ => rfl, ?_⟩
  by_cases hz0 : len = 0
  left; subst hz0; simp [unfL]
  right
  rcases h4 with h4 | ⟨b, T, nn, hσ, rfl, hsh, hn⟩
  omega
  rcases hd id _ hb with ⟨rfl, _⟩ | ⟨b', cs, hσ', hblk, hsz, hel⟩
  simp at hl; omega
  have e := hσ'.symm.trans hσ
  simp only [Option.some.injEq, Prod.mk.injEq] at e
  obtain ⟨rfl, _⟩ := e
  intro Z' hZ'
  have hZ' : Z1 = Z' := by
   have : g.zn 1 = some Z' := by simpa [Cx.zone, cx] using hZ'
   rw [hz] at this
   exact sj this
  subst hZ'
  refine ⟨_, rfl, rfl, ?_, ho _ ⟨id, 0, by rw [hb]; simp, hσ⟩, (Array.getElem?_eq_some_iff.1 hblk).1, ?_⟩
  rintro ⟨id2, o2, k1, k2⟩
  have := hinj id id2 b' 0 o2 (by rw [hb]; simp) (hs id2 k1) hσ k2
  subst this
  exact k1 (hid id (by simp [D.ids]))
  have he := zgz _ len _ _ _ (zi6 _ off _ _ _ hel)
  have he2 := zn5 (C := { cx w g hp with rf := !true }) (q := new1) (Zt := Z1) (fun m hm => ⟨Z1, by
   obtain rfl : m = 1 := nb hm
   simpa [Cx.zone, cx] using hz, fun b _ hb _ => hb⟩) _ _ _ _ hk hi he
  rw [Nat.zero_add] at he2
  exact zgp (C := (cx w g hp).at Z1) (zzp hs) _ _ _ _ rfl he2
  cases hp2
 | .imm s l c, v, _, h, hp2 => by
  simp only [frz] at hp2 ⊢
  refine zha (C := cx w g hp) (C' := cx w g hp') ⟨fun m _ Z' hZ' => ⟨Z', hZ', fun b k1 k2 k3 => ⟨?_, k2, .refl k3⟩⟩, fun _ _ => rfl, fun x => x, fun x => x, fun _ _ _ => rfl⟩ _ _ h
  rintro ⟨id, o, k3, k4⟩
  exact k1 ⟨id, o, hs id k3, k4⟩
 | .agg l, v, hid, h, hp2 => by
  simp only [frz] at hp2 ⊢
  simp only [rep] at h ⊢
  obtain ⟨cs, rfl, h⟩ := h
  exact ⟨cs, rfl, ztr hs hd hinj hz ho l cs hid h hp2⟩
 | .tuple l, v, hid, h, hp2 => by
  simp only [frz] at hp2 ⊢
  simp only [rep] at h ⊢
  obtain ⟨cs, rfl, h⟩ := h
  exact ⟨cs, rfl, ztr hs hd hinj hz ho l cs hid h hp2⟩
 | .iface t d, v, hid, h, hp2 => by
  simp only [frz] at hp2 ⊢
  simp only [rep] at h ⊢
  obtain ⟨x, rfl, h⟩ := h
  exact ⟨x, rfl, zzo hs hd hinj hz ho d x hid h hp2⟩
 | .bool b, v, _, h, _ => by simpa only [frz, rep] using h
 | .int k n, v, _, h, _ => by simpa only [frz, rep] using h
 | .str l, v, _, h, _ => by simpa only [frz, rep] using h
 | .nilptr, v, _, h, _ => by simpa only [frz, rep] using h
 | .nilfn, v, _, h, _ => by simpa only [frz, rep] using h
 | .nilIface, v, _, h, _ => by simpa only [frz, rep] using h
 | .nilmap, v, _, h, _ => by simpa only [frz, rep] using h
 | .ptr _ _, _, _, _, hp2 | .eptr _ _ _ _, _, _, _, hp2 | .iptr _ _, _, _, _, hp2 | .fn _ _, _, _, _, hp2 | .mref _, _, _, _, hp2 | .when _ _, _, _, _, hp2 | .undef, _, _, _, hp2 => by simp [frz] at hp2
theorem ztr {w : World} {g : Gh} {hp hp' : Nat -> Option Blk} {Z1 : Nat -> Prop} (hs : ∀ id, hp' id ≠ none -> hp id ≠ none) (hd : ∀ id blk, hp id = some blk -> holds (cx w g hp) id blk) (hinj : ∀ id id' b o o', hp id ≠ none -> hp id' ≠ none -> g.σ id = some (b, o) -> g.σ id' = some (b, o') -> id = id') (hz : g.zn 1 = some Z1) (ho : ∀ b, ownB g hp b -> Z1 b) : ∀ (l : List D) (vs : List Value), (∀ id ∈ D.idsL l, hp' id = none) -> reps (cx w g hp) l vs -> (frzs hp l).2 = true -> reps (cx w g hp') (frzs hp l).1 vs
 | [], vs, _, h, _ => by simp only [reps, frzs] at h ⊢; exact h
 | d :: ds, vs, hid, h, hp2 => by
  simp only [frzs, Bool.and_eq_true] at hp2 ⊢
  simp only [reps] at h ⊢
  obtain ⟨v, vs', rfl, h1, h2⟩ := h
  exact ⟨v, vs', rfl, zzo hs hd hinj hz ho d v (fun id k => hid id (by simp [D.idsL, k])) h1 hp2.1, ztr hs hd hinj hz ho ds vs' (fun id k => hid id (by simp [D.idsL, k])) h2 hp2.2⟩
end
theorem Goes.give {lim n0 : Nat} {st s : St} (t : Nat) (d d' : D) (H : List Nat) (hd : getR st.vars t = d) (hf : frz (getL st.heap) d = (d', true)) (hi : ∀ id ∈ d.ids, getL (zd1 H st.heap) id = none) (h : Goes lim n0 ⟨put st.vars t d', zd1 H st.heap, st.nx⟩ s) : Goes lim n0 st s := by
 intro E n F a w g hE hF hR
 obtain ⟨F', hF', hR'⟩ := hR.sub hF (st' := ⟨st.vars, zd1 H st.heap, st.nx⟩) ⟨fun _ _ h => h, fun t d h => zaj H _ t d h, Nat.le_refl _⟩
 obtain ⟨h1, h2, h3⟩ := hF
 obtain ⟨k1, k2, k3⟩ := hF'
 have hsub : ∀ id, F'.hp id ≠ none -> F.hp id ≠ none := by
  intro id hid
  rw [k2] at hid
  obtain ⟨b, hb⟩ := Option.ne_none_iff_exists'.1 hid
  rw [h2, zaj H _ id b hb]; simp
 refine h E n ⟨getR (put st.vars t d'), F'.hp, F'.nu⟩ a w g hE ⟨rfl, k2, k3⟩ ⟨hR'.sz, hR'.df, fun u => ?_, hR'.mem, hR'.base, hR'.keep, hR'.gz, hR'.gs, hR'.nu⟩
 have hg : getR (put st.vars t d') u = if t = u then d' else getR st.vars u := by
  unfold getR
  rw [zit]
  by_cases hh : t = u <;> simp [hh]
 show rep (cx w g F'.hp) (getR (put st.vars t d') u) _
 rw [hg]
 by_cases htu : t = u
 subst htu
 rw [if_pos rfl]
 have hu := hR.rd t
 rw [h1, hd] at hu
 obtain ⟨Z1, z1, _⟩ := hR.mem.zs.z1
 have hfr : frz F.hp d = (d', true) := by rw [h2]; exact hf
 have := zzo (hp' := F'.hp) hsub hR.mem.hd hR.mem.inj z1 (fun b hb => by
  obtain ⟨_, _, Z, e1, e2⟩ := hR.mem.zs.zo b hb
  rw [z1] at e1
  cases e1
  exact e2) d _ (fun id k => by rw [k2]; exact hi id k) hu (by rw [hfr])
 rw [hfr] at this
 exact this
 rw [if_neg htu]
 have hu := hR'.rd u
 rw [k1] at hu
 exact hu
theorem Goes.giveb {lim n0 : Nat} {st s : St} (id : Nat) (cells cells' : List D) (H : List Nat) (hd : getL st.heap id = some (.box cells)) (hk : getL (zd1 H st.heap) id = some (.box cells)) (hf : frzs (getL st.heap) cells = (cells', true)) (hi : ∀ i ∈ D.idsL cells, getL (zd1 H st.heap) i = none) (h : Goes lim n0 ⟨st.vars, put (zd1 H st.heap) id (.box cells'), st.nx⟩ s) : Goes lim n0 st s := by
 intro E n F a w g hE hF hR
 obtain ⟨F', hF', hR'⟩ := hR.sub hF (st' := ⟨st.vars, zd1 H st.heap, st.nx⟩) ⟨fun _ _ h => h, fun t d h => zaj H _ t d h, Nat.le_refl _⟩
 obtain ⟨h1, h2, h3⟩ := hF
 obtain ⟨k1, k2, k3⟩ := hF'
 have hsub : ∀ i, F'.hp i ≠ none -> F.hp i ≠ none := by
  intro i hid
  rw [k2] at hid
  obtain ⟨b, hb⟩ := Option.ne_none_iff_exists'.1 hid
  rw [h2, zaj H _ i b hb]; simp
 have hid : F'.hp id = some (.box cells) := by rw [k2]; exact hk
 have hp : ∀ i, getL (put (zd1 H st.heap) id (.box cells')) i = if id = i then some (.box cells') else F'.hp i := by
  intro i; rw [zit, k2]
 have hne : ∀ i, getL (put (zd1 H st.heap) id (.box cells')) i ≠ none ↔ F'.hp i ≠ none := by
  intro i
  rw [hp]
  by_cases e : id = i
  subst e; simp [hid]
  rw [if_neg e]
 have hown : ownB g (getL (put (zd1 H st.heap) id (.box cells'))) = ownB g F'.hp := by
  funext b
  apply propext
  constructor
  rintro ⟨i, o, e1, e2⟩; exact ⟨i, o, (hne i).1 e1, e2⟩
  rintro ⟨i, o, e1, e2⟩; exact ⟨i, o, (hne i).2 e1, e2⟩
 have hcx : cx w g (getL (put (zd1 H st.heap) id (.box cells'))) = cx w g F'.hp := by simp only [cx, hown]
 refine h E n ⟨F'.rd, getL (put (zd1 H st.heap) id (.box cells')), F'.nu⟩ a w g hE ⟨k1, rfl, k3⟩ ⟨hR'.sz, hR'.df, fun t => by rw [hcx]; exact hR'.rd t, ⟨fun i blk2 hb => ?_, fun i i' b o o' e1 e2 => hR'.mem.inj i i' b o o' ((hne i).1 e1) ((hne i').1 e2), fun i hi => ?_, ?_, hR'.mem.fl⟩, fun i b o e1 => hR'.base i b o ((hne i).1 e1), hR'.keep, hR'.gz, hR'.gs, hR'.nu⟩
 have hb : getL (put (zd1 H st.heap) id (.box cells')) i = some blk2 := hb
 rw [hcx]
 rw [hp] at hb
 by_cases e : id = i
 subst e
 rw [if_pos rfl] at hb
 cases hb
 obtain ⟨b, cs, T, e1, e2, e3, e4⟩ := hR.mem.hd id (.box cells) (by rw [h2]; exact hd)
 obtain ⟨Z1, z1, _⟩ := hR.mem.zs.z1
 have hfr : frzs F.hp cells = (cells', true) := by rw [h2]; exact hf
 have := ztr (hp' := F'.hp) hsub hR.mem.hd hR.mem.inj z1 (fun b hb => by
  obtain ⟨_, _, Z, e1, e2⟩ := hR.mem.zs.zo b hb
  rw [z1] at e1
  cases e1
  exact e2) cells _ (fun i k => by rw [k2]; exact hi i k) e3 (by rw [hfr])
 rw [hfr] at this
 exact ⟨b, cs, T, e1, e2, this, e4⟩
 rw [if_neg e] at hb
 exact hR'.mem.hd i blk2 hb
 obtain ⟨e1, e2⟩ := hR'.mem.nw i hi
 refine ⟨e1, ?_⟩
 rcases Classical.em (getL (put (zd1 H st.heap) id (.box cells')) i = none) with e | e
 exact e
 exact absurd e2 ((hne i).1 e)
 rw [hown]; exact hR'.mem.zs
end Go.Tm
end
section
namespace Go.Proofs
open Go.Tm
set_option linter.unusedVariables false
def zbl (v : Int) : List Int -> Nat -> Option (Int ⊕ Unit)
 | [], n1 =>
  some (.inr ())
 | y1 :: rest1, n1 =>
  if v = y1 then
  some (.inl (n1 : Int))
  else
  zbl v rest1 (n1 + 1) 
def zfo (s : List Int) (v : Int) : Option Int :=
 Option.bind (α := Int ⊕ Unit) (zbl v s 0 ) fun z => match z with
 | (.inl r) => some r
 | (.inr _) =>
 some (-1)
def zaz (b : List Int) : List Int -> Nat -> Option (Bool ⊕ Unit)
 | [], n1 =>
  some (.inr ())
 | y1 :: rest1, n1 =>
  if n1 < b.length then
  if ¬ (y1 = (b.getD n1 default)) then
  some (.inl false)
  else
  zaz b rest1 (n1 + 1) 
  else none
def zd6 (a : List Int) (b : List Int) : Option Bool :=
 if ¬ ((a.length : Int) = (b.length : Int)) then
 some false
 else
 Option.bind (α := Bool ⊕ Unit) (zaz b a 0 ) fun z => match z with
 | (.inl r) => some r
 | (.inr _) =>
 some true
def zdz (a0 : List Int) (a1 : Int) : Option Bool :=
 Option.bind (zfo a0 a1) fun v1 =>
 some (decide (v1 >= 0))
def zd9 : List Int -> Int -> Option (Int ⊕ Int)
 | [], n2 =>
  some (.inr n2)
 | y1 :: rest1, n2 =>
  if (y1 <= n2) \/ (y1 >= 6) then
  some (.inl 60)
  else
  zd9 rest1 (y1)
def zhp (a0 : List Int) : Option Int :=
 if (a0.length : Int) > 6 then
 some 4
 else
 Option.bind (α := Int ⊕ Int) (zd9 a0 (-1)) fun z => match z with
 | (.inl r) => some r
 | (.inr n1) =>
 if n1 < 0 then
 some 60
 else
 some 0
def zck (a1 : Int) : List Int -> Option (Bool ⊕ Unit)
 | [] =>
  some (.inr ())
 | y1 :: rest1 =>
  if y1 = a1 then
  some (.inl true)
  else
  zck a1 rest1 
def zej (a0 : List Int) (a1 : Int) : Option Bool :=
 Option.bind (α := Bool ⊕ Unit) (zck a1 a0 ) fun z => match z with
 | (.inl r) => some r
 | (.inr _) =>
 some false
def zc2 (a0 : List Int) : List Int -> Nat -> Option (Bool ⊕ Unit)
 | [], n1 =>
  some (.inr ())
 | y1 :: rest1, n1 =>
  if ((y1 < 0) \/ (y1 >= 6)) \/ (((n1 : Int) > 0) /\ (y1 <= (a0.getD (n1 - 1) default))) then
  some (.inl false)
  else
  zc2 a0 rest1 (n1 + 1) 
def zfb (a0 : List Int) : Option Bool :=
 Option.bind (α := Bool ⊕ Unit) (zc2 a0 a0 0 ) fun z => match z with
 | (.inl r) => some r
 | (.inr _) =>
 some ((decide ((a0.length : Int) >= 1)) && (decide ((a0.length : Int) <= 6)))
def zer (a0 : List Int) : Option Int :=
 if (a0.length : Int) > 6 then
 some 4
 else
 Option.bind (zfb a0) fun v1 =>
 if ¬ (v1 = true) then
 some 60
 else
 some 0
end Go.Proofs
end
section
namespace Go.Proofs
open Go.Tm Go.RowKit Go.WideShapes
set_option maxRecDepth 100000
set_option maxHeartbeats 4000000
set_option linter.unusedSimpArgs false
set_option linter.unusedVariables false
@[go_sem] def ya6n : St := ⟨[], [], 0⟩
@[go_sem] def ya6m (s : List Int) (v : Int) (n1 : Nat) : St := ⟨[(0, .imm 1 (s.map (D.int .i64)) 4), (1, .int .i64 v), (7, .int .i64 (s.length : Int)), (8, .int .i64 (n1 : Int))], [], 0⟩
theorem zkh (s : List Int) (v : Int) (r : Int) (h : zfo s v = some r) : zbn Tryz.prog 110 [.imm 1 (s.map (D.int .i64)) 4, .int .i64 v] (.int .i64 r) := by
 refine za2 Tryz.tmOk 2 Tryz.func110 rfl (by decide) rfl rfl (lb rfl) ?_
 intro hwf
 unfold zfo at h
 refine .seq (.pl zS [0, 1] ?_)
 obtain ⟨x1, hx1, h⟩ := bind_some h
 refine .seqM 0 (fun (j : Unit) => ya6n) (fun j => x1 = (.inr j)) (lb rfl) ?_ ?_
 refine .seq (.pl zS [0, 1] ?_)
 refine .block ?_
 refine .loopG 0 (fun (j : Nat) => ya6m s v j) (fun j => j <= s.length /\ zbl v (s.drop j) j  = some x1) (fun j => s.length - j) (0) (lb rfl) ?_ ⟨Nat.zero_le _, hx1⟩ ?_
 exact .m [0, 1, 7, 8] [] []
 rintro n1 ⟨hi1, hx1⟩
 simp only [ya6m]
 refine .wf 7 (.int .i64 (s.length : Int)) rfl ?_
 intro hln1
 replace hln1 : (s.length : Int) <= 9223372036854775807 := by simp only [wf, wfL, IntKind.max, IntKind.min, IntKind.signed, IntKind.bits, List.length_map] at hln1; first | exact hln1.2 | exact hln1.1 | (simp at hln1; omega)
 refine .seq (.pl zS [0, 1, 7, 8] ?_)
 refine .seq ?_
 refine .cond rfl rfl (fun hc1 => ?_) (fun hc1 => ?_)
 have h1 : n1 < s.length := by simpa using hc1
 have hwn1 : wr .i64 ((n1 : Int) + 1) = ((n1 + 1 : Nat) : Int) := zch h1 hln1
 have hpn1 : wr .i64 ((n1 : Int) - 1) = (n1 : Int) - 1 := zci h1 hln1
 rw [List.drop_eq_getElem_cons h1, zbl] at hx1
 refine .skip ?_
 refine .seq (.block (.seq ?_))
 refine .plx zS hwn1 [0, 1, 7, 8] ?_
 refine .seq ?_
 have e1 := zay (D.int .i64) s n1 h1
 refine .plx zS (ai e1 hwn1) [0, 1, 5, 7, 8] ?_
 refine .cond rfl rfl (fun hc2 => ?_) (fun hc2 => ?_)
 replace hx1 := za0 hx1 hc2
 refine .seq (.plx zS hwn1 [5] ?_)
 have hq := sj hx1
 subst x1
 try dsimp only at h
 have hq := sj h
 subst r
 exact .ret ⟨.inr rfl, rsi⟩
 replace hx1 := za3 hx1 hc2
 refine .skip ?_
 refine .plx zS hwn1 [0, 1, 7, 8] ?_
 refine ⟨n1 + 1, ?_, ⟨by omega, hx1⟩, by dsimp only; omega⟩
 exact .m [0, 1, 7, 8] [] []
 have h2 : n1 = s.length := by have h2b := of_decide_eq_false hc1; omega
 rw [List.drop_of_length_le (by omega), zbl] at hx1
 refine .exit ?_
 refine ⟨_, ?_, (sj hx1).symm⟩
 exact .m [] [] []
 rintro ⟨⟩ hj1
 subst x1
 try dsimp only at h
 simp only [ya6n]
 refine .seq (.pl zS [] ?_)
 have hq := sj h
 subst r
 exact .ret ⟨.inr rfl, rsi⟩
@[go_sem] def ya6b : St := ⟨[], [], 0⟩
@[go_sem] def ya6a (a : List Int) (b : List Int) (n1 : Nat) : St := ⟨[(0, .imm 1 (a.map (D.int .i64)) 4), (1, .imm 1 (b.map (D.int .i64)) 4), (5, .int .i64 (n1 : Int))], [], 0⟩
theorem zgw (a : List Int) (b : List Int) (r : Bool) (h : zd6 a b = some r) : zbn Tryz.prog 49 [.imm 1 (a.map (D.int .i64)) 4, .imm 1 (b.map (D.int .i64)) 4] (.bool r) := by
 refine za2 Tryz.tmOk 2 Tryz.func49 rfl (by decide) rfl rfl (lb rfl) ?_
 intro hwf
 unfold zd6 at h
 refine .seq (.pl zS [0, 1] ?_)
 refine .seq (.seq (.pl zS [0, 1] ?_))
 refine .cond rfl rfl (fun hc1 => ?_) (fun hc1 => ?_)
 replace h := za0 h hc1
 refine .seq (.pl zS [] ?_)
 have hq := sj h
 subst r
 exact .ret ⟨.inr rfl, rsi⟩
 replace h := za3 h hc1
 refine .skip ?_
 obtain ⟨x1, hx1, h⟩ := bind_some h
 refine .seqM 0 (fun (j : Unit) => ya6b) (fun j => x1 = (.inr j)) (lb rfl) ?_ ?_
 refine .seq (.pl zS [0, 1] ?_)
 refine .block ?_
 refine .loopG 0 (fun (j : Nat) => ya6a a b j) (fun j => j <= a.length /\ zaz b (a.drop j) j  = some x1) (fun j => a.length - j) (0) (lb rfl) ?_ ⟨Nat.zero_le _, hx1⟩ ?_
 exact .m [0, 1, 5] [] []
 rintro n1 ⟨hi1, hx1⟩
 simp only [ya6a]
 refine .wf 0 (.imm 1 (a.map (D.int .i64)) 4) rfl ?_
 intro hln1
 replace hln1 : (a.length : Int) <= 9223372036854775807 := by simp only [wf, wfL, IntKind.max, IntKind.min, IntKind.signed, IntKind.bits, List.length_map] at hln1; first | exact hln1.2 | exact hln1.1 | (simp at hln1; omega)
 refine .seq (.seq (.pl zS [0, 1, 5] ?_))
 refine .cond rfl rfl (fun hc2 => ?_) (fun hc2 => ?_)
 have h1 : n1 < a.length := by simpa using hc2
 have hwn1 : wr .i64 ((n1 : Int) + 1) = ((n1 + 1 : Nat) : Int) := zch h1 hln1
 have hpn1 : wr .i64 ((n1 : Int) - 1) = (n1 : Int) - 1 := zci h1 hln1
 rw [List.drop_eq_getElem_cons h1, zaz] at hx1
 refine .skip ?_
 refine .seq (.block (.seq ?_))
 obtain ⟨k1, hx1⟩ := zae hx1
 have e1 := zay (D.int .i64) a n1 h1
 have e2 := zdl (D.int .i64) b n1
 replace e2 := e2 k1
 refine .rg zS [0, 1, 5] ?_
 refine .rdx 6 (ai e1 (ai e2 hwn1)) ?_
 refine .rdx 3 (ai e1 (ai e2 hwn1)) ?_
 refine .nd ?_
 refine .cond rfl rfl (fun hc3 => ?_) (fun hc3 => ?_)
 replace hx1 := za0 hx1 hc3
 refine .seq (.plx zS hwn1 [] ?_)
 have hq := sj hx1
 subst x1
 try dsimp only at h
 have hq := sj h
 subst r
 exact .ret ⟨.inr rfl, rsi⟩
 replace hx1 := za3 hx1 hc3
 refine .skip ?_
 refine .plx zS hwn1 [0, 1, 5] ?_
 refine ⟨n1 + 1, ?_, ⟨by omega, hx1⟩, by dsimp only; omega⟩
 exact .m [0, 1, 5] [] []
 have h2 : n1 = a.length := by have h2b := of_decide_eq_false hc2; omega
 rw [List.drop_of_length_le (by omega), zaz] at hx1
 refine .exit ?_
 refine ⟨_, ?_, (sj hx1).symm⟩
 exact .m [] [] []
 rintro ⟨⟩ hj1
 subst x1
 try dsimp only at h
 simp only [ya6b]
 refine .seq (.pl zS [] ?_)
 have hq := sj h
 subst r
 exact .ret ⟨.inr rfl, rsi⟩
theorem zja (a0 : List Int) (a1 : Int) (r : Bool) (h : zdz a0 a1 = some r) : zbn Tryz.prog 87 [.imm 1 (a0.map (D.int .i64)) 4, .int .i64 a1] (.bool r) := by
 refine za2 Tryz.tmOk 2 Tryz.func87 rfl (by decide) rfl rfl (lb rfl) ?_
 intro hwf
 unfold zdz at h
 refine .seq (.pl zS [0, 1] ?_)
 refine .seq ?_
 obtain ⟨v1, hv1, h⟩ := bind_some h
 refine .rg zS [0, 1] ?_
 refine .rn 2 ?_
 refine .call (r := .int .i64 v1) rfl rfl rfl rfl rfl rfl (zkh a0 a1 v1 hv1) ?_
 refine .rn 2 ?_
 refine .nil ⟨nofun, ?_⟩
 have hq := sj h
 subst r
 exact .ret ⟨.inr rfl, rsi⟩
@[go_sem] def st78 (n1 : Int) : St := ⟨[(3, .int .i64 n1)], [], 0⟩
@[go_sem] def st79 (a0 : List Int) (n3 : Nat) (n2 : Int) : St := ⟨[(3, .int .i64 n2), (9, .imm 1 (a0.map (D.int .i64)) 4), (10, .int .i64 (a0.length : Int)), (11, .int .i64 (n3 : Int))], [], 0⟩
theorem zop (a0 : List Int) (r : Int) (h : zhp a0 = some r) : zbn Tryz.prog 105 [.imm 1 (a0.map (D.int .i64)) 4] (.int .i64 r) := by
 refine za2 Tryz.tmOk 2 Tryz.func105 rfl (by decide) rfl rfl (lb rfl) ?_
 intro hwf
 unfold zhp at h
 refine .seq (.pl zS [0] ?_)
 refine .seq (.seq (.pl zS [0] ?_))
 refine .cond rfl rfl (fun hc1 => ?_) (fun hc1 => ?_)
 replace h := za0 h hc1
 refine .seq (.pl zS [] ?_)
 have hq := sj h
 subst r
 exact .ret ⟨.inr rfl, rsi⟩
 replace h := za3 h hc1
 refine .skip ?_
 refine .seq (.pl zS [0] ?_)
 obtain ⟨x1, hx1, h⟩ := bind_some h
 refine .seqM 0 (fun (j : Int) => st78 j) (fun j => x1 = (.inr j)) (lb rfl) ?_ ?_
 refine .seq (.pl zS [0, 3] ?_)
 refine .block ?_
 refine .loopG 0 (fun (j : Nat × Int) => st79 a0 j.1 j.2) (fun j => j.1 <= a0.length /\ zd9 (a0.drop j.1) j.2 = some x1) (fun j => a0.length - j.1) (0, (-1)) (lb rfl) ?_ ⟨Nat.zero_le _, hx1⟩ ?_
 exact .m [3, 9, 10, 11] [] []
 rintro ⟨n3, n2⟩ ⟨hi1, hx1⟩
 simp only [st79]
 simp only at hi1 hx1
 refine .wf 10 (.int .i64 (a0.length : Int)) rfl ?_
 intro hln3
 replace hln3 : (a0.length : Int) <= 9223372036854775807 := by simp only [wf, wfL, IntKind.max, IntKind.min, IntKind.signed, IntKind.bits, List.length_map] at hln3; first | exact hln3.2 | exact hln3.1 | (simp at hln3; omega)
 refine .seq (.pl zS [3, 9, 10, 11] ?_)
 refine .seq ?_
 refine .cond rfl rfl (fun hc2 => ?_) (fun hc2 => ?_)
 have h1 : n3 < a0.length := by simpa using hc2
 have hwn3 : wr .i64 ((n3 : Int) + 1) = ((n3 + 1 : Nat) : Int) := zch h1 hln3
 have hpn3 : wr .i64 ((n3 : Int) - 1) = (n3 : Int) - 1 := zci h1 hln3
 rw [List.drop_eq_getElem_cons h1, zd9] at hx1
 refine .skip ?_
 refine .seq (.block (.seq ?_))
 have e1 := zay (D.int .i64) a0 n3 h1
 refine .plx zS (ai e1 hwn3) [3, 9, 10, 11] ?_
 refine .seq (.seq (.plx zS hwn3 [3, 5, 9, 10, 11] ?_))
 refine .cond rfl rfl (fun hc3 => ?_) (fun hc3 => ?_)
 replace hx1 := za0 hx1 hc3
 refine .seq (.plx zS hwn3 [] ?_)
 have hq := sj hx1
 subst x1
 try dsimp only at h
 have hq := sj h
 subst r
 exact .ret ⟨.inr rfl, rsi⟩
 replace hx1 := za3 hx1 hc3
 refine .skip ?_
 refine .plx zS hwn3 [5, 9, 10, 11] ?_
 refine .plx zS hwn3 [3, 9, 10, 11] ?_
 refine ⟨(n3 + 1, _), ?_, ⟨by omega, hx1⟩, by dsimp only; omega⟩
 exact .m [3, 9, 10, 11] [] []
 have h2 : n3 = a0.length := by have h2b := of_decide_eq_false hc2; omega
 rw [List.drop_of_length_le (by omega), zd9] at hx1
 refine .exit ?_
 refine ⟨_, ?_, (sj hx1).symm⟩
 exact .m [3] [] []
 rintro n1 hj1
 subst x1
 try dsimp only at h
 simp only [st78]
 refine .seq (.seq (.pl zS [3] ?_))
 refine .cond rfl rfl (fun hc4 => ?_) (fun hc4 => ?_)
 replace h := za0 h hc4
 refine .seq (.pl zS [] ?_)
 have hq := sj h
 subst r
 exact .ret ⟨.inr rfl, rsi⟩
 replace h := za3 h hc4
 refine .skip ?_
 refine .seq (.pl zS [] ?_)
 have hq := sj h
 subst r
 exact .ret ⟨.inr rfl, rsi⟩
@[go_sem] def ya69 : St := ⟨[], [], 0⟩
@[go_sem] def ya68 (a0 : List Int) (a1 : Int) (n1 : Nat) : St := ⟨[(0, .imm 1 (a0.map (D.int .i64)) 4), (1, .int .i64 a1), (5, .int .i64 (n1 : Int))], [], 0⟩
theorem zli (a0 : List Int) (a1 : Int) (r : Bool) (h : zej a0 a1 = some r) : zbn Tryz.prog 94 [.imm 1 (a0.map (D.int .i64)) 4, .int .i64 a1] (.bool r) := by
 refine za2 Tryz.tmOk 2 Tryz.func94 rfl (by decide) rfl rfl (lb rfl) ?_
 intro hwf
 unfold zej at h
 refine .seq (.pl zS [0, 1] ?_)
 obtain ⟨x1, hx1, h⟩ := bind_some h
 refine .seqM 0 (fun (j : Unit) => ya69) (fun j => x1 = (.inr j)) (lb rfl) ?_ ?_
 refine .seq (.pl zS [0, 1] ?_)
 refine .block ?_
 refine .loopG 0 (fun (j : Nat) => ya68 a0 a1 j) (fun j => j <= a0.length /\ zck a1 (a0.drop j)  = some x1) (fun j => a0.length - j) (0) (lb rfl) ?_ ⟨Nat.zero_le _, hx1⟩ ?_
 exact .m [0, 1, 5] [] []
 rintro n1 ⟨hi1, hx1⟩
 simp only [ya68]
 refine .wf 0 (.imm 1 (a0.map (D.int .i64)) 4) rfl ?_
 intro hln1
 replace hln1 : (a0.length : Int) <= 9223372036854775807 := by simp only [wf, wfL, IntKind.max, IntKind.min, IntKind.signed, IntKind.bits, List.length_map] at hln1; first | exact hln1.2 | exact hln1.1 | (simp at hln1; omega)
 refine .seq (.seq (.pl zS [0, 1, 5] ?_))
 refine .cond rfl rfl (fun hc1 => ?_) (fun hc1 => ?_)
 have h1 : n1 < a0.length := by simpa using hc1
 have hwn1 : wr .i64 ((n1 : Int) + 1) = ((n1 + 1 : Nat) : Int) := zch h1 hln1
 have hpn1 : wr .i64 ((n1 : Int) - 1) = (n1 : Int) - 1 := zci h1 hln1
 rw [List.drop_eq_getElem_cons h1, zck] at hx1
 refine .skip ?_
 refine .seq (.block (.seq ?_))
 have e1 := zay (D.int .i64) a0 n1 h1
 refine .plx zS (ai e1 hwn1) [0, 1, 5] ?_
 refine .cond rfl rfl (fun hc2 => ?_) (fun hc2 => ?_)
 replace hx1 := za0 hx1 hc2
 refine .seq (.plx zS hwn1 [] ?_)
 have hq := sj hx1
 subst x1
 try dsimp only at h
 have hq := sj h
 subst r
 exact .ret ⟨.inr rfl, rsi⟩
 replace hx1 := za3 hx1 hc2
 refine .skip ?_
 refine .plx zS hwn1 [0, 1, 5] ?_
 refine ⟨n1 + 1, ?_, ⟨by omega, hx1⟩, by dsimp only; omega⟩
 exact .m [0, 1, 5] [] []
 have h2 : n1 = a0.length := by have h2b := of_decide_eq_false hc1; omega
 rw [List.drop_of_length_le (by omega), zck] at hx1
 refine .exit ?_
 refine ⟨_, ?_, (sj hx1).symm⟩
 exact .m [] [] []
 rintro ⟨⟩ hj1
 subst x1
 try dsimp only at h
 simp only [ya69]
 refine .seq (.pl zS [] ?_)
 have hq := sj h
 subst r
 exact .ret ⟨.inr rfl, rsi⟩
@[go_sem] def ya67 (a0 : List Int) : St := ⟨[(0, .imm 1 (a0.map (D.int .i64)) 4)], [], 0⟩
@[go_sem] def ya66 (a0 : List Int) (n1 : Nat) : St := ⟨[(0, .imm 1 (a0.map (D.int .i64)) 4), (3, .int .i64 (n1 : Int))], [], 0⟩
theorem zlh (a0 : List Int) (r : Bool) (h : zfb a0 = some r) : zbn Tryz.prog 129 [.imm 1 (a0.map (D.int .i64)) 4] (.bool r) := by
 refine za2 Tryz.tmOk 2 Tryz.func129 rfl (by decide) rfl rfl (lb rfl) ?_
 intro hwf
 unfold zfb at h
 refine .seq (.pl zS [0] ?_)
 obtain ⟨x1, hx1, h⟩ := bind_some h
 refine .seqM 0 (fun (j : Unit) => ya67 a0) (fun j => x1 = (.inr j)) (lb rfl) ?_ ?_
 refine .seq (.pl zS [0] ?_)
 refine .block ?_
 refine .loopG 0 (fun (j : Nat) => ya66 a0 j) (fun j => j <= a0.length /\ zc2 a0 (a0.drop j) j  = some x1) (fun j => a0.length - j) (0) (lb rfl) ?_ ⟨Nat.zero_le _, hx1⟩ ?_
 exact .m [0, 3] [] []
 rintro n1 ⟨hi1, hx1⟩
 simp only [ya66]
 refine .wf 0 (.imm 1 (a0.map (D.int .i64)) 4) rfl ?_
 intro hln1
 replace hln1 : (a0.length : Int) <= 9223372036854775807 := by simp only [wf, wfL, IntKind.max, IntKind.min, IntKind.signed, IntKind.bits, List.length_map] at hln1; first | exact hln1.2 | exact hln1.1 | (simp at hln1; omega)
 refine .seq (.seq (.pl zS [0, 3] ?_))
 refine .cond rfl rfl (fun hc1 => ?_) (fun hc1 => ?_)
 have h1 : n1 < a0.length := by simpa using hc1
 have hwn1 : wr .i64 ((n1 : Int) + 1) = ((n1 + 1 : Nat) : Int) := zch h1 hln1
 have hpn1 : wr .i64 ((n1 : Int) - 1) = (n1 : Int) - 1 := zci h1 hln1
 rw [List.drop_eq_getElem_cons h1, zc2] at hx1
 refine .skip ?_
 refine .seq (.block (.seq ?_))
 have e1 := zay (D.int .i64) a0 n1 h1
 have e2 := zay (D.int .i64) a0 n1 h1
 have e3 := zay (D.int .i64) a0 n1 h1
 have e4 := zdl (D.int .i64) a0 (n1 - 1) (by omega)
 refine .rg zS [0, 3] ?_
 refine .rdx 6 (ai e1 (ai e2 (ai e3 (ai e4 (ai hpn1 hwn1))))) ?_
 refine .rdx 6 (ai e1 (ai e2 (ai e3 (ai e4 (ai hpn1 hwn1))))) ?_
 refine .rdx 6 (ai e1 (ai e2 (ai e3 (ai e4 (ai hpn1 hwn1))))) ?_
 refine .rdx 6 (ai e1 (ai e2 (ai e3 (ai e4 (ai hpn1 hwn1))))) ?_
 refine .rdx 4 (ai e1 (ai e2 (ai e3 (ai e4 (ai hpn1 hwn1))))) ?_
 refine .nd ?_
 refine .cond rfl rfl (fun hc2 => ?_) (fun hc2 => ?_)
 replace hx1 := za0 hx1 hc2
 refine .seq (.plx zS hwn1 [] ?_)
 have hq := sj hx1
 subst x1
 try dsimp only at h
 have hq := sj h
 subst r
 exact .ret ⟨.inr rfl, rsi⟩
 replace hx1 := za3 hx1 hc2
 refine .skip ?_
 refine .plx zS hwn1 [0, 3] ?_
 refine ⟨n1 + 1, ?_, ⟨by omega, hx1⟩, by dsimp only; omega⟩
 exact .m [0, 3] [] []
 have h2 : n1 = a0.length := by have h2b := of_decide_eq_false hc1; omega
 rw [List.drop_of_length_le (by omega), zc2] at hx1
 refine .exit ?_
 refine ⟨_, ?_, (sj hx1).symm⟩
 exact .m [0] [] []
 rintro ⟨⟩ hj1
 subst x1
 try dsimp only at h
 simp only [ya67]
 refine .seq ?_
 refine .rg zS [0] ?_
 refine .rn 6 ?_
 refine .rn 3 ?_
 refine .nil ⟨nofun, ?_⟩
 have hq := sj h
 subst r
 exact .ret ⟨.inr rfl, rsi⟩
theorem zkg (a0 : List Int) (r : Int) (h : zer a0 = some r) : zbn Tryz.prog 117 [.imm 1 (a0.map (D.int .i64)) 4] (.int .i64 r) := by
 refine za2 Tryz.tmOk 2 Tryz.func117 rfl (by decide) rfl rfl (lb rfl) ?_
 intro hwf
 unfold zer at h
 refine .seq (.pl zS [0] ?_)
 refine .seq (.seq (.pl zS [0] ?_))
 refine .cond rfl rfl (fun hc1 => ?_) (fun hc1 => ?_)
 replace h := za0 h hc1
 refine .seq (.pl zS [] ?_)
 have hq := sj h
 subst r
 exact .ret ⟨.inr rfl, rsi⟩
 replace h := za3 h hc1
 refine .skip ?_
 refine .seq (.seq ?_)
 obtain ⟨v1, hv1, h⟩ := bind_some h
 refine .rg zS [0] ?_
 refine .rn 1 ?_
 refine .call (r := .bool v1) rfl rfl rfl rfl rfl rfl (zlh a0 v1 hv1) ?_
 refine .rn 1 ?_
 refine .nil ⟨nofun, ?_⟩
 refine .cond rfl rfl (fun hc2 => ?_) (fun hc2 => ?_)
 replace h := za0 h hc2
 refine .seq (.pl zS [] ?_)
 have hq := sj h
 subst r
 exact .ret ⟨.inr rfl, rsi⟩
 replace h := za3 h hc2
 refine .skip ?_
 refine .seq (.pl zS [] ?_)
 have hq := sj h
 subst r
 exact .ret ⟨.inr rfl, rsi⟩
end Go.Proofs
end
section
namespace Go.Proofs
open Go.Tm
set_option linter.unusedVariables false
def zbm (a1 : List Int) : List Int -> Nat -> Option (Bool ⊕ Unit)
 | [], n1 =>
  some (.inr ())
 | y1 :: rest1, n1 =>
  if n1 < a1.length then
  if ¬ (y1 = (a1.getD n1 default)) then
  some (.inl false)
  else
  zbm a1 rest1 (n1 + 1) 
  else none
def zdy (a0 : List Int) (a1 : List Int) : Option Bool :=
 if ¬ ((a0.length : Int) = (a1.length : Int)) then
 some false
 else
 Option.bind (α := Bool ⊕ Unit) (zbm a1 a0 0 ) fun z => match z with
 | (.inl r) => some r
 | (.inr _) =>
 some true
end Go.Proofs
end
section
namespace Go.Proofs
open Go.Tm Go.RowKit Go.WideShapes
set_option maxRecDepth 100000
set_option maxHeartbeats 4000000
set_option linter.unusedSimpArgs false
set_option linter.unusedVariables false
@[go_sem] def st99 : St := ⟨[], [], 0⟩
@[go_sem] def ya6u (a0 : List Int) (a1 : List Int) (n1 : Nat) : St := ⟨[(0, .imm 1 (a0.map (D.int .i64)) 4), (1, .imm 1 (a1.map (D.int .i64)) 4), (12, .int .i64 (a0.length : Int)), (13, .int .i64 (n1 : Int))], [], 0⟩
theorem zhk (a0 : List Int) (a1 : List Int) (r : Bool) (h : zdy a0 a1 = some r) : zbn Tryz.prog 75 [.imm 1 (a0.map (D.int .i64)) 4, .imm 1 (a1.map (D.int .i64)) 4] (.bool r) := by
 refine za2 Tryz.tmOk 2 Tryz.func75 rfl (by decide) rfl rfl (lb rfl) ?_
 intro hwf
 unfold zdy at h
 refine .seq (.pl zS [0, 1] ?_)
 refine .seq (.seq (.pl zS [0, 1] ?_))
 refine .cond rfl rfl (fun hc1 => ?_) (fun hc1 => ?_)
 replace h := za0 h hc1
 refine .seq (.pl zS [] ?_)
 have hq := sj h
 subst r
 exact .ret ⟨.inr rfl, rsi⟩
 replace h := za3 h hc1
 refine .skip ?_
 obtain ⟨x1, hx1, h⟩ := bind_some h
 refine .seqM 0 (fun (j : Unit) => st99) (fun j => x1 = (.inr j)) (lb rfl) ?_ ?_
 refine .seq (.pl zS [0, 1] ?_)
 refine .block ?_
 refine .loopG 0 (fun (j : Nat) => ya6u a0 a1 j) (fun j => j <= a0.length /\ zbm a1 (a0.drop j) j  = some x1) (fun j => a0.length - j) (0) (lb rfl) ?_ ⟨Nat.zero_le _, hx1⟩ ?_
 exact .m [0, 1, 12, 13] [] []
 rintro n1 ⟨hi1, hx1⟩
 simp only [ya6u]
 refine .wf 12 (.int .i64 (a0.length : Int)) rfl ?_
 intro hln1
 replace hln1 : (a0.length : Int) <= 9223372036854775807 := by simp only [wf, wfL, IntKind.max, IntKind.min, IntKind.signed, IntKind.bits, List.length_map] at hln1; first | exact hln1.2 | exact hln1.1 | (simp at hln1; omega)
 refine .seq (.pl zS [0, 1, 12, 13] ?_)
 refine .seq ?_
 refine .cond rfl rfl (fun hc2 => ?_) (fun hc2 => ?_)
 have h1 : n1 < a0.length := by simpa using hc2
 have hwn1 : wr .i64 ((n1 : Int) + 1) = ((n1 + 1 : Nat) : Int) := zch h1 hln1
 have hpn1 : wr .i64 ((n1 : Int) - 1) = (n1 : Int) - 1 := zci h1 hln1
 rw [List.drop_eq_getElem_cons h1, zbm] at hx1
 refine .skip ?_
 refine .seq (.block (.seq ?_))
 refine .plx zS hwn1 [0, 1, 12, 13] ?_
 refine .seq ?_
 obtain ⟨k1, hx1⟩ := zae hx1
 have e1 := zay (D.int .i64) a0 n1 h1
 have e2 := zdl (D.int .i64) a1 n1
 replace e2 := e2 k1
 refine .rg zS [0, 1, 5, 12, 13] ?_
 refine .rdx 6 (ai e1 (ai e2 hwn1)) ?_
 refine .rdx 3 (ai e1 (ai e2 hwn1)) ?_
 refine .nd ?_
 refine .cond rfl rfl (fun hc3 => ?_) (fun hc3 => ?_)
 replace hx1 := za0 hx1 hc3
 refine .seq (.plx zS hwn1 [] ?_)
 have hq := sj hx1
 subst x1
 try dsimp only at h
 have hq := sj h
 subst r
 exact .ret ⟨.inr rfl, rsi⟩
 replace hx1 := za3 hx1 hc3
 refine .skip ?_
 refine .plx zS hwn1 [0, 1, 12, 13] ?_
 refine ⟨n1 + 1, ?_, ⟨by omega, hx1⟩, by dsimp only; omega⟩
 exact .m [0, 1, 12, 13] [] []
 have h2 : n1 = a0.length := by have h2b := of_decide_eq_false hc2; omega
 rw [List.drop_of_length_le (by omega), zbm] at hx1
 refine .exit ?_
 refine ⟨_, ?_, (sj hx1).symm⟩
 exact .m [] [] []
 rintro ⟨⟩ hj1
 subst x1
 try dsimp only at h
 simp only [st99]
 refine .seq (.pl zS [] ?_)
 have hq := sj h
 subst r
 exact .ret ⟨.inr rfl, rsi⟩
end Go.Proofs
end
section
namespace Go.Proofs
open Go.Tm
set_option linter.unusedVariables false
def zdd (a0 : List Int) : Option ((List Int)) :=
 if a0.length * 8 <= 140737488355328 then
 some a0
 else none
end Go.Proofs
end
section
namespace Go.Proofs
open Go.Tm Go.RowKit Go.WideShapes
set_option maxRecDepth 100000
set_option maxHeartbeats 4000000
set_option linter.unusedSimpArgs false
set_option linter.unusedVariables false
@[go_sem] def st24 (r : (List Int)) : St := ⟨[(2, .ref 0 1 0 r.length (some uC))], [(0, .arr 3 1 true (r.map (D.int .i64)))], 1⟩
theorem zkm (a0 : List Int) (r : (List Int)) (h : zdd a0 = some r) : zcv Tryz.prog 70 [.imm 1 (a0.map (D.int .i64)) 4] [] (.ref 0 1 0 r.length (some uC)) [(0, some (.arr 3 1 true (r.map (D.int .i64))))] (0, 3) := by
 refine za5 Tryz.tmOk Tryz.func70 rfl (by decide) (lb rfl) (by simp) ?_
 intro hwf
 unfold zdd at h
 refine .ends 0 (Nat.le_refl _) ?_
 refine .nil4 0 1 (a0.map (D.int .i64)) rfl ?_ (fun hl => ?_)
 refine .seq (.pl zS [0] ?_)
 refine .seq (.seq (.pl zS [0] ?_))
 refine .cond rfl rfl (fun hc => by cases hc) (fun hc => ?_)
 refine .skip ?_
 obtain ⟨k1, h⟩ := zae h
 refine .seqM 0 (fun (_ : Unit) => ⟨[(2, .ref 0 1 0 a0.length (some uC))], [(0, .arr 3 1 true (a0.map (D.int .i64)))], 1⟩) (fun _ => True) (lb rfl) ?_ (fun _ _ => ?_)
 rcases zlb a0 with hE1 | ⟨y, ys, hE1⟩
 have hM1 : a0.map (D.int .i64) = [] := by rw [hE1]; simp
 refine .px zS (apn hM1) [0] ?_
 refine ⟨(), ?_, trivial⟩
 refine Goes.new0 1 3 (lb rfl) ?_
 refine Goes.wk 2 _ (.ref 0 1 0 0 (some uC)) rfl (.own0 0 _ _ _ (by decide)) ?_
 exact .mx hE1 [2] [0] []
 have hM1 : a0.map (D.int .i64) ≠ [] := by rw [hE1]; simp
 refine .px zS (apc hM1) [0] ?_
 refine ⟨(), ?_, trivial⟩
 refine Goes.wk 2 _ (.ref 0 1 0 a0.length (some uC)) rfl (.unk _ _ _ _ _) ?_
 exact .mx hE1 [2] [0] []
 have hq := sj h
 subst r
 refine .ret ⟨st24 a0, ?_, .inr rfl, retH [0] ?_ ?_⟩
 exact .m [2] [0] []
 exact rsi0
 rfl
 have hE0 : a0 = [] := by simpa using hl
 obtain ⟨k1, h⟩ := zae h
 refine .seq (.pl zS [0] ?_)
 refine .seq (.seq (.pl zS [0] ?_))
 refine .cond rfl rfl (fun hc => ?_) (fun hc => by cases hc)
 refine .seq (.pl zS [] ?_)
 have hq := sj h
 subst r
 refine .ret ⟨st24 a0, ?_, .inr rfl, retH [0] ?_ ?_⟩
 refine Goes.new0 1 3 (lb rfl) ?_
 refine Goes.wk 2 _ (.ref 0 1 0 0 (some uC)) rfl (.own0 0 _ _ _ (by decide)) ?_
 exact .mx hE0 [2] [0] []
 exact rsi0
 rfl
theorem zhl (a0 : List Int) (r : (List Int)) (h : zdd a0 = some r) : zbn Tryz.prog 70 [.imm 1 (a0.map (D.int .i64)) 4] (.imm 1 (r.map (D.int .i64)) 12) :=
 zg0 (ziv zks rfl rfl) (zkm a0 r h)
end Go.Proofs
end
section
namespace Go.Proofs
open Go.Tm
theorem ya3b (i j k : Nat) (hij : i ≠ j) (hik : i ≠ k) (hjk : j ≠ k) (l : List TWait) (x : TWait) (at' : Int) (h : 0 <= at' /\ at' <= (l.length : Int)) (hl : l.length < 1000000) :
  zcv Tryz.prog 88 [.ref i 7 0 l.length (some uC), .int .i64 at', .ref j 7 0 1 (some 1)] [(i, .arr 78 7 true (l.map TWait.n)), (j, .arr 78 7 true [x.n])] (.ref k 7 0 (l.take at'.toNat ++ x :: l.drop at'.toNat).length (some uC)) [(k, some (.arr 78 7 true ((l.take at'.toNat ++ x :: l.drop at'.toNat).map TWait.n))), (i, none)] (k, k + 1) := by
 have t := ya8e i j k hij hik hjk (l.map TWait.n) x.n true true at'.toNat (by rw [List.length_map]; omega) (by rw [List.length_map]; exact hl)
 rw [Int.toNat_of_nonneg h.1, List.length_map, zq6, zty, <- List.map_cons, <- List.map_append] at t
 have e : l.length + 1 = (l.take at'.toNat ++ x :: l.drop at'.toNat).length := by simp; omega
 rw [e] at t
 exact t
end Go.Proofs
end
section
namespace Go.Proofs
open Go.Tm
theorem ya3r (i k : Nat) (hik : i ≠ k) (l : List TWait) (at' : Int) (h : 0 <= at' /\ at' < (l.length : Int)) (hl : l.length < 1000000) :
  zcv Tryz.prog 89 [.ref i 7 0 l.length (some uC), .int .i64 at', .int .i64 (wr .i64 (at' + 1))] [(i, .arr 78 7 true (l.map TWait.n))] (.ref k 7 0 (l.eraseIdx at'.toNat).length (some uC)) [(k, some (.arr 78 7 true ((l.eraseIdx at'.toNat).map TWait.n))), (i, none)] (k, k + 1) := by
 have t := ya8g i k hik (l.map TWait.n) true at'.toNat (by rw [List.length_map]; omega) (by rw [List.length_map]; exact hl)
 have hw : wr .i64 (at' + 1) = ((at'.toNat + 1 : Nat) : Int) := by
  rw [zju _ _ (by show (-9223372036854775808 : Int) <= _; omega) (by show _ <= (9223372036854775807 : Int); omega)]
  omega
 rw [Int.toNat_of_nonneg h.1, List.length_map, zq6, zty, <- List.map_append, <- List.eraseIdx_eq_take_drop_succ, <- hw] at t
 have e : l.length - 1 = (l.eraseIdx at'.toNat).length := by rw [List.length_eraseIdx_of_lt (by omega)]
 rw [e] at t
 exact t
end Go.Proofs
end
section
namespace Go.Proofs
open Go.Tm
set_option linter.unusedVariables false
def zib (a0 : TStamp) : Option Int :=
 if (((a0.Time < 0) \/ (a0.Time > 1073741824)) \/ (a0.Id < 0)) \/ (a0.Id >= 6291456) then
 some 8
 else
 some 0
def zlw (a0 : Int) : Option Bool :=
 some ((decide (a0 >= 0)) && (decide (a0 <= 1099511627776)))
def zdu (a0 : Int) (a1 : Int) (a2 : Int) : Option Bool :=
 some ((decide (a0 >= a1)) && (decide (a0 <= a2)))
def zhc (a0 : Int) : Option Bool :=
 Option.bind (zdu a0 0 6291455) fun v1 =>
 some v1
def zaf (a0 : TMessage) : List Int -> Nat -> Bool -> Option (Bool)
 | [], n1, b2 =>
  some b2
 | y1 :: rest1, n1, b2 =>
  Option.bind (if b2 = true then zdu (y1) 0 3 else some default) fun v1 =>
  zaf a0 rest1 (n1 + 1) ((b2 && v1) && (((n1 : Int) == 0) || (decide (y1 > (a0.Groups.getD (n1 - 1) default)))))
def zat (a0 : TMessage) : Option Int :=
 Option.bind (α := Bool) (zaf a0 a0.Groups 0 ((decide ((a0.Groups.length : Int) >= 1)) && (decide ((a0.Groups.length : Int) <= 4)))) fun b1 =>
 Option.bind (if ¬ (¬ (b1 = true)) then zhc a0.Id else some default) fun v2 =>
 Option.bind (if ¬ ((¬ (b1 = true)) \/ (¬ (v2 = true))) then zdu a0.Topic 0 3 else some default) fun v3 =>
 if ((((¬ (b1 = true)) \/ (¬ (v2 = true))) \/ (¬ (v3 = true))) \/ ((a0.Key.length : Int) > 16)) \/ ((a0.Body.length : Int) > 64) then
 some 120
 else
 some 0
def zcz (a0 : TMessage) (a1 : TMessage) : Option Bool :=
 Option.bind (if a0.Id = a1.Id then zdy a0.Groups a1.Groups else some default) fun v1 =>
 some (((((a0.Id == a1.Id) && v1) && (a0.Topic == a1.Topic)) && (a0.Key == a1.Key)) && (a0.Body == a1.Body))
def zhq (a0 : TCommand) (a1 : TCommand) : Option Bool :=
 Option.bind (if a0.Kind = a1.Kind then zcz a0.Message a1.Message else some default) fun v1 =>
 Option.bind (if (((a0.Kind = a1.Kind) /\ (v1 = true)) /\ (a0.Id = a1.Id)) /\ (a0.Time = a1.Time) then zdy a0.Members a1.Members else some default) fun v2 =>
 some ((((((((a0.Kind == a1.Kind) && v1) && (a0.Id == a1.Id)) && (a0.Time == a1.Time)) && v2) && (a0.Topic == a1.Topic)) && (a0.Who == a1.Who)) && (a0.N == a1.N))
def zfr (a0 : TWait) : Option TStamp :=
 some (⟨a0.Time, a0.Message.Id⟩ : TStamp)
def zgc (a0 : Int) : Option Bool :=
 some (a0 != a0)
def zfi (a0 : Int) (a1 : Int) : Option Int :=
 Option.bind (zgc a0) fun v1 =>
 Option.bind (zgc a1) fun v2 =>
 if v1 = true then
 if v2 = true then
 some 0
 else
 some (-1)
 else
 if v2 = true then
 some 1
 else
 if a0 < a1 then
 some (-1)
 else
 if a0 > a1 then
 some 1
 else
 some 0
def zdv : List Int -> Option (Int ⊕ Unit)
 | [] =>
  some (.inr ())
 | y1 :: rest1 =>
  if ¬ (y1 = 0) then
  some (.inl y1)
  else
  zdv rest1 
def zj0 (a0 : List Int) : Option Int :=
 Option.bind (α := Int ⊕ Unit) (zdv a0 ) fun z => match z with
 | (.inl r) => some r
 | (.inr _) =>
 some 0
def zav (a1 : List TStamp) : List TStamp -> Nat -> Option (Bool ⊕ Unit)
 | [], n1 =>
  some (.inr ())
 | y1 :: rest1, n1 =>
  if n1 < a1.length then
  if ¬ ((y1.Time = (a1.getD n1 default).Time) /\ (y1.Id = (a1.getD n1 default).Id)) then
  some (.inl false)
  else
  zav a1 rest1 (n1 + 1) 
  else none
def zd0 (a0 : List TStamp) (a1 : List TStamp) : Option Bool :=
 if ¬ ((a0.length : Int) = (a1.length : Int)) then
 some false
 else
 Option.bind (α := Bool ⊕ Unit) (zav a1 a0 0 ) fun z => match z with
 | (.inl r) => some r
 | (.inr _) =>
 some true
def zaa (a1 : List TWait) (a2 : TWait -> TWait -> Option Bool) : List TWait -> Nat -> Option (Bool ⊕ Unit)
 | [], n1 =>
  some (.inr ())
 | y1 :: rest1, n1 =>
  if n1 < a1.length then
  Option.bind (a2 (y1) (a1.getD n1 default)) fun v1 =>
  if ¬ (v1 = true) then
  some (.inl false)
  else
  zaa a1 a2 rest1 (n1 + 1) 
  else none
def zbu (a0 : List TWait) (a1 : List TWait) (a2 : TWait -> TWait -> Option Bool) : Option Bool :=
 if ¬ ((a0.length : Int) = (a1.length : Int)) then
 some false
 else
 Option.bind (α := Bool ⊕ Unit) (zaa a1 a2 a0 0 ) fun z => match z with
 | (.inl r) => some r
 | (.inr _) =>
 some true
def zan (a0 : List TWait) (a1 : TWait -> TWait -> Option Int) : Nat -> Int -> (List Int) -> Int -> (List UInt8) -> (List UInt8) -> Int -> Bool -> Int -> Option (Int × (List Int) × Int × (List UInt8) × (List UInt8) × Int × Bool)
 | 0, _, _, _, _, _, _, _, _ => none
 | fu1 + 1, n4, l2, n5, s3, s4, n6, b2, n7 =>
  if n7 < (a0.length : Int) then
  Option.bind (α := Int × (List Int) × Int × (List UInt8) × (List UInt8) × Int × Bool) (if (0 <= n7 /\ n7 < (a0.length : Int)) then
  Option.bind (a1 (a0.getD n7.toNat default) (⟨(⟨n4, l2, n5, s3, s4⟩ : TMessage), n6, b2⟩ : TWait)) fun v1 =>
  if v1 < 0 then
  if (0 <= n7 /\ n7 < (a0.length : Int)) then
  some ((a0.getD n7.toNat default).Message.Id, (a0.getD n7.toNat default).Message.Groups, (a0.getD n7.toNat default).Message.Topic, (a0.getD n7.toNat default).Message.Key, (a0.getD n7.toNat default).Message.Body, (a0.getD n7.toNat default).Time, (a0.getD n7.toNat default).Final)
  else none
  else
  some (n4, l2, n5, s3, s4, n6, b2)
  else none) fun (n8, l3, n9, s5, s6, n10, b3) =>
  zan a0 a1 fu1 n8 l3 n9 s5 s6 n10 b3 (wr .i64 (n7 + 1))
  else
  some (n4, l2, n5, s3, s4, n6, b2)
def zcl (a0 : List TWait) (a1 : TWait -> TWait -> Option Int) : Option TWait :=
 if (a0.length : Int) < 1 then
 none
 else
 if 0 < a0.length then
 Option.bind (α := Int × (List Int) × Int × (List UInt8) × (List UInt8) × Int × Bool) (zan a0 a1 (a0.length + 1) ((a0.getD 0 default).Message.Id) ((a0.getD 0 default).Message.Groups) ((a0.getD 0 default).Message.Topic) ((a0.getD 0 default).Message.Key) ((a0.getD 0 default).Message.Body) ((a0.getD 0 default).Time) ((a0.getD 0 default).Final) 1) fun (n1, l1, n2, s1, s2, n3, b1) =>
 some (⟨(⟨n1, l1, n2, s1, s2⟩ : TMessage), n3, b1⟩ : TWait)
 else none
def zb3 (a0 : List TWait) (a1 : TWait -> TWait -> Option Int) : Nat -> Int -> (List Int) -> Int -> (List UInt8) -> (List UInt8) -> Int -> Bool -> Int -> Option (Int × (List Int) × Int × (List UInt8) × (List UInt8) × Int × Bool)
 | 0, _, _, _, _, _, _, _, _ => none
 | fu1 + 1, n4, l2, n5, s3, s4, n6, b2, n7 =>
  if n7 < (a0.length : Int) then
  Option.bind (α := Int × (List Int) × Int × (List UInt8) × (List UInt8) × Int × Bool) (if (0 <= n7 /\ n7 < (a0.length : Int)) then
  Option.bind (a1 (a0.getD n7.toNat default) (⟨(⟨n4, l2, n5, s3, s4⟩ : TMessage), n6, b2⟩ : TWait)) fun v1 =>
  if v1 < 0 then
  if (0 <= n7 /\ n7 < (a0.length : Int)) then
  some ((a0.getD n7.toNat default).Message.Id, (a0.getD n7.toNat default).Message.Groups, (a0.getD n7.toNat default).Message.Topic, (a0.getD n7.toNat default).Message.Key, (a0.getD n7.toNat default).Message.Body, (a0.getD n7.toNat default).Time, (a0.getD n7.toNat default).Final)
  else none
  else
  some (n4, l2, n5, s3, s4, n6, b2)
  else none) fun (n8, l3, n9, s5, s6, n10, b3) =>
  zb3 a0 a1 fu1 n8 l3 n9 s5 s6 n10 b3 (wr .i64 (n7 + 1))
  else
  some (n4, l2, n5, s3, s4, n6, b2)
def zdf (a0 : List TWait) (a1 : TWait -> TWait -> Option Int) : Option TWait :=
 if (a0.length : Int) < 1 then
 none
 else
 if 0 < a0.length then
 Option.bind (α := Int × (List Int) × Int × (List UInt8) × (List UInt8) × Int × Bool) (zb3 a0 a1 (a0.length + 1) ((a0.getD 0 default).Message.Id) ((a0.getD 0 default).Message.Groups) ((a0.getD 0 default).Message.Topic) ((a0.getD 0 default).Message.Key) ((a0.getD 0 default).Message.Body) ((a0.getD 0 default).Time) ((a0.getD 0 default).Final) 1) fun (n1, l1, n2, s1, s2, n3, b1) =>
 some (⟨(⟨n1, l1, n2, s1, s2⟩ : TMessage), n3, b1⟩ : TWait)
 else none
def zdp (a0 : TWait) (a1 : Int) : Option Int :=
 some (wr .i64 (a0.Message.Id - a1))
def za9 (a0 : List TWait) (a1 : Int) (a2 : TWait -> Int -> Option Int) : Nat -> Int -> Int -> Option (Int)
 | 0, _, _ => none
 | fu1 + 1, n2, n3 =>
  if n2 < n3 then
  if (0 <= (wr .i64 (shw false .u64 (wr .u64 (wr .i64 (n2 + n3))) 1)) /\ (wr .i64 (shw false .u64 (wr .u64 (wr .i64 (n2 + n3))) 1)) < (a0.length : Int)) then
  Option.bind (a2 (a0.getD (wr .i64 (shw false .u64 (wr .u64 (wr .i64 (n2 + n3))) 1)).toNat default) a1) fun v1 =>
  if v1 < 0 then
  za9 a0 a1 a2 fu1 (wr .i64 ((wr .i64 (shw false .u64 (wr .u64 (wr .i64 (n2 + n3))) 1)) + 1)) n3
  else
  za9 a0 a1 a2 fu1 n2 (wr .i64 (shw false .u64 (wr .u64 (wr .i64 (n2 + n3))) 1))
  else none
  else
  some n2
def zcm (a0 : List TWait) (a1 : Int) (a2 : TWait -> Int -> Option Int) : Option (Int × Bool) :=
 Option.bind (α := Int) (za9 a0 a1 a2 (a0.length + 1) 0 (a0.length : Int)) fun n1 =>
 if (n1 < (a0.length : Int)) -> (0 <= n1 /\ n1 < (a0.length : Int)) then
 Option.bind (if n1 < (a0.length : Int) then a2 (a0.getD n1.toNat default) a1 else some default) fun v2 =>
 some (n1, ((decide (n1 < (a0.length : Int))) && (v2 == 0)))
 else none
def zef (a0 : Tskeen_clock) (a1 : Int) : Option (Int × Bool) :=
 Option.bind (zcm a0.Skeen.Waits a1 zdp) fun v1 =>
 some (v1.1, v1.2)
def zam (a1 : TStamp -> Option Bool) : List TStamp -> Nat -> Option (Int ⊕ Unit)
 | [], n1 =>
  some (.inr ())
 | y1 :: rest1, n1 =>
  Option.bind (a1 (y1)) fun v1 =>
  if v1 = true then
  some (.inl (n1 : Int))
  else
  zam a1 rest1 (n1 + 1) 
def zds (a0 : List TStamp) (a1 : TStamp -> Option Bool) : Option Int :=
 Option.bind (α := Int ⊕ Unit) (zam a1 a0 0 ) fun z => match z with
 | (.inl r) => some r
 | (.inr _) =>
 some (-1)
def zdg (a0 : List TStamp) (a1 : TStamp -> Option Bool) : Option Bool :=
 Option.bind (zds a0 a1) fun v1 =>
 some (decide (v1 >= 0))
def zfc (a0 : TStamp) (c0 : Int) : Option Bool :=
 some (a0.Id == c0)
def zfx (a0 : Tskeen_clock) (a1 : Int) : Option Bool :=
 Option.bind (zdg a0.Skeen.Done (fun x0 => zfc x0 a1)) fun v1 =>
 some v1
def zel (a0 : List TStamp) : Option ((List TStamp)) :=
 if a0.length * 16 <= 140737488355328 then
 some a0
 else none
def zf2 (a0 : List TWait) : Option ((List TWait)) :=
 if a0.length * 88 <= 140737488355328 then
 some a0
 else none
def zce (a0 : Tskeen_clock) (a1 : Int) (a2 : Int) : Option Tskeen_clock :=
 Option.bind (zef a0 a1) fun v1 =>
 if (¬ (¬ (v1.2 = true))) -> (0 <= v1.1 /\ v1.1 < (a0.Skeen.Waits.length : Int)) then
 if (¬ ((¬ (v1.2 = true)) \/ ((a0.Skeen.Waits.getD v1.1.toNat default).Final = true))) -> (0 <= v1.1 /\ v1.1 < (a0.Skeen.Waits.length : Int)) then
 if ((¬ (v1.2 = true)) \/ ((a0.Skeen.Waits.getD v1.1.toNat default).Final = true)) \/ (a2 < (a0.Skeen.Waits.getD v1.1.toNat default).Time) then
 some a0
 else
 if (0 <= v1.1 /\ v1.1 < (a0.Skeen.Waits.length : Int)) then
 if (0 <= v1.1 /\ v1.1 < ((a0.Skeen.Waits.set v1.1.toNat (⟨(a0.Skeen.Waits.getD v1.1.toNat default).Message, a2, (a0.Skeen.Waits.getD v1.1.toNat default).Final⟩ : TWait)).length : Int)) then
 some (⟨(⟨(max a0.Skeen.Clock a2), ((a0.Skeen.Waits.set v1.1.toNat (⟨(a0.Skeen.Waits.getD v1.1.toNat default).Message, a2, (a0.Skeen.Waits.getD v1.1.toNat default).Final⟩ : TWait)).set v1.1.toNat (⟨((a0.Skeen.Waits.set v1.1.toNat (⟨(a0.Skeen.Waits.getD v1.1.toNat default).Message, a2, (a0.Skeen.Waits.getD v1.1.toNat default).Final⟩ : TWait)).getD v1.1.toNat default).Message, ((a0.Skeen.Waits.set v1.1.toNat (⟨(a0.Skeen.Waits.getD v1.1.toNat default).Message, a2, (a0.Skeen.Waits.getD v1.1.toNat default).Final⟩ : TWait)).getD v1.1.toNat default).Time, true⟩ : TWait)), a0.Skeen.Done⟩ : TSkeen)⟩ : Tskeen_clock)
 else none
 else none
 else none
 else none
def zaq (a0 : Tskeen_clock) (a1 : Int) (a2 : TMessage) : Option (Int × Tskeen_clock) :=
 Option.bind (zef a0 a2.Id) fun v1 =>
 Option.bind (if ¬ (v1.2 = true) then zfx a0 a2.Id else some default) fun v2 =>
 Option.bind (if ¬ ((v1.2 = true) \/ (v2 = true)) then zdz a2.Groups a1 else some default) fun v3 =>
 if ((v1.2 = true) \/ (v2 = true)) \/ (¬ (v3 = true)) then
 some (0, a0)
 else
 if (a0.Skeen.Clock = 1073741824) \/ ((a0.Skeen.Waits.length : Int) = 200) then
 some (9, a0)
 else
 Option.bind (zdd a2.Groups) fun v4 =>
 if 0 <= v1.1 /\ v1.1 <= (a0.Skeen.Waits.length : Int) then
 if a0.Skeen.Waits.length < 1000000 then
 some (0, (⟨(⟨(wr .i64 (a0.Skeen.Clock + 1)), ((a0.Skeen.Waits.take v1.1.toNat) ++ ((⟨(⟨a2.Id, v4, a2.Topic, a2.Key, a2.Body⟩ : TMessage), (wr .i64 (a0.Skeen.Clock + 1)), false⟩ : TWait) :: (a0.Skeen.Waits.drop v1.1.toNat))), a0.Skeen.Done⟩ : TSkeen)⟩ : Tskeen_clock))
 else none
 else none
def zdt (v1 : (List TWait)) : Nat -> (List TWait) -> Int -> Option ((List TWait))
 | 0, _, _ => none
 | fu1 + 1, l2, n1 =>
  if n1 < (v1.length : Int) then
  if (0 <= n1 /\ n1 < (l2.length : Int)) then
  Option.bind (zdd ((l2.getD n1.toNat default).Message.Groups)) fun v3 =>
  if l2.length < 1000000 then
  zdt v1 fu1 (l2.set n1.toNat (⟨(⟨(l2.getD n1.toNat default).Message.Id, v3, (l2.getD n1.toNat default).Message.Topic, (l2.getD n1.toNat default).Message.Key, (l2.getD n1.toNat default).Message.Body⟩ : TMessage), (l2.getD n1.toNat default).Time, (l2.getD n1.toNat default).Final⟩ : TWait)) (wr .i64 (n1 + 1))
  else none
  else none
  else
  if l2.length <= n1.toNat then
  some l2
  else none
def ze8 (a0 : TSkeen) : Option TSkeen :=
 Option.bind (zf2 a0.Waits) fun v1 =>
 Option.bind (zel a0.Done) fun v2 =>
 Option.bind (α := (List TWait)) (zdt v1 (a0.Waits.length + 1) v1 0) fun l1 =>
 some (⟨a0.Clock, l1, v2⟩ : TSkeen)
def zi1 : Option TSkeen :=
 some (⟨0, [], []⟩ : TSkeen)
def zfg (a0 : TWait) (a1 : TWait) : Option Bool :=
 Option.bind (zcz a0.Message a1.Message) fun v1 =>
 some ((v1 && (a0.Time == a1.Time)) && (a0.Final == a1.Final))
def ziz (a0 : TSkeen) (a1 : TSkeen) : Option Bool :=
 Option.bind (if a0.Clock = a1.Clock then zd0 a0.Done a1.Done else some default) fun v1 =>
 Option.bind (if (a0.Clock = a1.Clock) /\ (v1 = true) then zbu a0.Waits a1.Waits zfg else some default) fun v2 =>
 some (((a0.Clock == a1.Clock) && v1) && v2)
def zew (a0 : TStamp) (a1 : TStamp) : Option Bool :=
 some ((decide (a0.Time < a1.Time)) || ((a0.Time == a1.Time) && (decide (a0.Id < a1.Id))))
def zcd (a0 : Int) (a1 : Int) (a2 : Int) : Option Bool :=
 some ((decide (a0 >= a1)) && (decide (a0 < a2)))
def ze3 (a0 : Int) : Option Bool :=
 Option.bind (zcd a0 0 6291456) fun v1 =>
 some v1
def zas (a0 : TMessage) : List Int -> Nat -> Option (Bool ⊕ Unit)
 | [], n1 =>
  some (.inr ())
 | y1 :: rest1, n1 =>
  Option.bind (zcd (y1) 0 4) fun v1 =>
  if (¬ (v1 = true)) \/ (((n1 : Int) > 0) /\ (y1 <= (a0.Groups.getD (n1 - 1) default))) then
  some (.inl false)
  else
  zas a0 rest1 (n1 + 1) 
def zct (a0 : TMessage) : Option Bool :=
 Option.bind (α := Bool ⊕ Unit) (zas a0 a0.Groups 0 ) fun z => match z with
 | (.inl r) => some r
 | (.inr _) =>
 Option.bind (if (a0.Groups.length : Int) > 0 then ze3 a0.Id else some default) fun v2 =>
 Option.bind (if ((a0.Groups.length : Int) > 0) /\ (v2 = true) then zcd a0.Topic 0 4 else some default) fun v3 =>
 some (((((decide ((a0.Groups.length : Int) > 0)) && v2) && v3) && (decide ((a0.Key.length : Int) <= 16))) && (decide ((a0.Body.length : Int) <= 64)))
def zb2 (a0 : TMessage) (a1 : TMessage) : Option Bool :=
 Option.bind (if a0.Id = a1.Id then zd6 a0.Groups a1.Groups else some default) fun v1 =>
 some (((((a0.Id == a1.Id) && v1) && (a0.Topic == a1.Topic)) && (a0.Key == a1.Key)) && (a0.Body == a1.Body))
def zex (a0 : TCommand) (a1 : TCommand) : Option Bool :=
 Option.bind (if a0.Kind = a1.Kind then zb2 a0.Message a1.Message else some default) fun v1 =>
 Option.bind (if (((a0.Kind = a1.Kind) /\ (v1 = true)) /\ (a0.Id = a1.Id)) /\ (a0.Time = a1.Time) then zd6 a0.Members a1.Members else some default) fun v2 =>
 some ((((((((a0.Kind == a1.Kind) && v1) && (a0.Id == a1.Id)) && (a0.Time == a1.Time)) && v2) && (a0.Topic == a1.Topic)) && (a0.Who == a1.Who)) && (a0.N == a1.N))
def zcr (a0 : TWait) : Option TStamp :=
 some (⟨a0.Time, a0.Message.Id⟩ : TStamp)
def zar (a1 : List TStamp) : List TStamp -> Nat -> Option (Bool ⊕ Unit)
 | [], n1 =>
  some (.inr ())
 | y1 :: rest1, n1 =>
  if n1 < a1.length then
  if ¬ ((y1.Time = (a1.getD n1 default).Time) /\ (y1.Id = (a1.getD n1 default).Id)) then
  some (.inl false)
  else
  zar a1 rest1 (n1 + 1) 
  else none
def zcs (a0 : List TStamp) (a1 : List TStamp) : Option Bool :=
 if ¬ ((a0.length : Int) = (a1.length : Int)) then
 some false
 else
 Option.bind (α := Bool ⊕ Unit) (zar a1 a0 0 ) fun z => match z with
 | (.inl r) => some r
 | (.inr _) =>
 some true
def zbj (a0 : TMessage) : Option TMessage :=
 if a0.Groups.length * 8 <= 140737488355328 then
 some a0
 else none
def zcc : List TWait -> (List TWait) -> Option ((List TWait))
 | [], l2 =>
  some l2
 | y1 :: rest1, l2 =>
  Option.bind (zbj (y1.Message)) fun v1 =>
  if l2.length + [(⟨v1, y1.Time, y1.Final⟩ : TWait)].length < 1000000 then
  zcc rest1 (l2 ++ [(⟨v1, y1.Time, y1.Final⟩ : TWait)])
  else none
theorem zgt (l2 : List TWait) : zcc [] l2 =
  (some l2 : Option ((List TWait))) := rfl
theorem zgu (y1 : TWait) (rest1 : List TWait) (l2 : List TWait) : zcc (y1 :: rest1) l2 =
  (Option.bind (zbj (y1.Message)) fun v1 =>
  if l2.length + [(⟨v1, y1.Time, y1.Final⟩ : TWait)].length < 1000000 then
  zcc rest1 (l2 ++ [(⟨v1, y1.Time, y1.Final⟩ : TWait)])
  else none : Option ((List TWait))) := rfl
def zdi (a0 : TSkeen) : Option TSkeen :=
 if a0.Done.length * 16 <= 140737488355328 then
 Option.bind (α := (List TWait)) (zcc a0.Waits []) fun l1 =>
 some (⟨a0.Clock, l1, a0.Done⟩ : TSkeen)
 else none
def zbr (a1 : TSkeen) : List TWait -> Nat -> Option (Bool ⊕ Unit)
 | [], n1 =>
  some (.inr ())
 | y1 :: rest1, n1 =>
  if n1 < a1.Waits.length then
  Option.bind (zb2 (y1.Message) ((a1.Waits.getD n1 default).Message)) fun v2 =>
  if ((¬ (v2 = true)) \/ (¬ (y1.Time = (a1.Waits.getD n1 default).Time))) \/ ((!(y1.Final == (a1.Waits.getD n1 default).Final)) = true) then
  some (.inl false)
  else
  zbr a1 rest1 (n1 + 1) 
  else none
def zev (a0 : TSkeen) (a1 : TSkeen) : Option Bool :=
 Option.bind (if ¬ ((¬ (a0.Clock = a1.Clock)) \/ (¬ ((a0.Waits.length : Int) = (a1.Waits.length : Int)))) then zcs a0.Done a1.Done else some default) fun v1 =>
 if ((¬ (a0.Clock = a1.Clock)) \/ (¬ ((a0.Waits.length : Int) = (a1.Waits.length : Int)))) \/ (¬ (v1 = true)) then
 some false
 else
 Option.bind (α := Bool ⊕ Unit) (zbr a1 a0.Waits 0 ) fun z => match z with
 | (.inl r) => some r
 | (.inr _) =>
 some true
def zbh (a1 : Int) : List TWait -> Nat -> Option (Int ⊕ Unit)
 | [], n1 =>
  some (.inr ())
 | y1 :: rest1, n1 =>
  if y1.Message.Id = a1 then
  some (.inl (n1 : Int))
  else
  zbh a1 rest1 (n1 + 1) 
def zcq (a0 : TSkeen) (a1 : Int) : Option Int :=
 Option.bind (α := Int ⊕ Unit) (zbh a1 a0.Waits 0 ) fun z => match z with
 | (.inl r) => some r
 | (.inr _) =>
 some (-1)
def zcb (a1 : Int) : List TStamp -> Option (Bool ⊕ Unit)
 | [] =>
  some (.inr ())
 | y1 :: rest1 =>
  if y1.Id = a1 then
  some (.inl true)
  else
  zcb a1 rest1 
def ze5 (a0 : TSkeen) (a1 : Int) : Option Bool :=
 Option.bind (α := Bool ⊕ Unit) (zcb a1 a0.Done ) fun z => match z with
 | (.inl r) => some r
 | (.inr _) =>
 some false
def zbi (a0 : List TWait) : Nat -> Int -> Int -> Option (Int)
 | 0, _, _ => none
 | fu1 + 1, n2, n3 =>
  if n3 < (a0.length : Int) then
  Option.bind (α := Int) (if (0 <= n3 /\ n3 < (a0.length : Int)) then
  Option.bind (zcr (a0.getD n3.toNat default)) fun v1 =>
  if (0 <= n2 /\ n2 < (a0.length : Int)) then
  Option.bind (zcr (a0.getD n2.toNat default)) fun v2 =>
  Option.bind (zew v1 v2) fun v3 =>
  if v3 = true then
  some n3
  else
  some n2
  else none
  else none) fun n4 =>
  zbi a0 fu1 n4 (wr .i64 (n3 + 1))
  else
  some n2
def zep (a0 : List TWait) : Option Int :=
 Option.bind (α := Int) (zbi a0 (a0.length + 1) 0 1) fun n1 =>
 some n1
def zgl (a0 : TStamp) (a1 : TStamp) : Option Bool :=
 Option.bind (zfi a0.Time a1.Time) fun v1 =>
 Option.bind (zfi a0.Id a1.Id) fun v2 =>
 Option.bind (zj0 [v1, v2]) fun v3 =>
 some (decide (v3 < 0))
def zey (a0 : TCommand) : Option (TCommand × Bool) :=
 Option.bind (zhc a0.Id) fun v1 =>
 Option.bind (if v1 = true then zdu a0.Topic 0 3 else some default) fun v2 =>
 Option.bind (if (v1 = true) /\ (v2 = true) then zdu a0.N 0 1073741824 else some default) fun v3 =>
 Option.bind (α := Bool ⊕ ((TCommand × Bool) ⊕ (Int × Bool))) (if a0.Kind = 0 then
 some (.inr (.inl ((⟨a0.Kind, (⟨0, [], 0, [], []⟩ : TMessage), 0, 0, [], 0, 0, 0⟩ : TCommand), true)))
 else
 if a0.Kind = 1 then
 Option.bind (zat a0.Message) fun v4 =>
 some (.inr (.inl ((⟨a0.Kind, a0.Message, 0, 0, [], 0, 0, 0⟩ : TCommand), (v4 == 0))))
 else
 if a0.Kind = 2 then
 Option.bind (zhc a0.Id) fun v5 =>
 Option.bind (if v5 = true then zdu a0.Time 1 1073741824 else some default) fun v6 =>
 some (.inr (.inl ((⟨a0.Kind, (⟨0, [], 0, [], []⟩ : TMessage), a0.Id, a0.Time, [], 0, 0, 0⟩ : TCommand), (v5 && v6))))
 else
 if a0.Kind = 3 then
 Option.bind (zhp a0.Members) fun v7 =>
 some (.inr (.inl ((⟨a0.Kind, (⟨0, [], 0, [], []⟩ : TMessage), 0, 0, a0.Members, 0, 0, 0⟩ : TCommand), (v7 == 0))))
 else
 if a0.Kind = 4 then
 Option.bind (if ((v1 = true) /\ (v2 = true)) /\ (v3 = true) then zdu a0.Who 0 7 else some default) fun v8 =>
 some (.inr (.inr (a0.Who, (((v1 && v2) && v3) && v8))))
 else
 Option.bind (α := Bool) (if a0.Kind = 5 then
 some (a0.Kind == 5)
 else
 some (a0.Kind == 6)) fun b3 =>
 if b3 = true then
 some (.inr (.inr (0, ((v1 && v2) && v3))))
 else
 some (.inl b3)) fun z => match z with
 | (.inl b2) => some ((⟨a0.Kind, (⟨0, [], 0, [], []⟩ : TMessage), 0, 0, [], 0, 0, 0⟩ : TCommand), false)
 | (.inr (.inl r)) => some r
 | (.inr (.inr (n1, b1))) =>
 some ((⟨a0.Kind, (⟨0, [], 0, [], []⟩ : TMessage), a0.Id, 0, [], a0.Topic, n1, a0.N⟩ : TCommand), b1)
def zc3 (a0 : TCommand) : Option Int :=
 Option.bind (zey a0) fun v1 =>
 Option.bind (if ¬ (¬ (v1.2 = true)) then zhq v1.1 a0 else some default) fun v2 =>
 if (¬ (v1.2 = true)) \/ (¬ (v2 = true)) then
 some 120
 else
 some 0
def zee (a0 : TWait) (a1 : TWait) : Option Int :=
 Option.bind (zfr a0) fun v1 =>
 Option.bind (zfr a1) fun v2 =>
 Option.bind (zgl v1 v2) fun v3 =>
 if v3 = true then
 some (-1)
 else
 Option.bind (zfr a1) fun v4 =>
 Option.bind (zfr a0) fun v5 =>
 Option.bind (zgl v4 v5) fun v6 =>
 if v6 = true then
 some 1
 else
 some 0
def zad (a0 : Tskeen_clock) : Nat -> (List TWait) -> (List TStamp) -> (List TMessage) -> Option ((List TWait) × (List TStamp) × (List TMessage))
 | 0, _, _, _ => none
 | fu1 + 1, l4, l5, l6 =>
  if (l4.length : Int) > 0 then
  Option.bind (zdf l4 zee) fun v1 =>
  if ¬ (v1.Final = true) then
  some (l4, l5, l6)
  else
  Option.bind (zef (⟨(⟨a0.Skeen.Clock, l4, l5⟩ : TSkeen)⟩ : Tskeen_clock) v1.Message.Id) fun v2 =>
  if 0 <= v2.1 /\ v2.1 < (l4.length : Int) then
  if l4.length < 1000000 then
  Option.bind (zfr v1) fun v3 =>
  if l5.length + [v3].length < 1000000 then
  if l6.length + [v1.Message].length < 1000000 then
  zad a0 fu1 (l4.eraseIdx v2.1.toNat) (l5 ++ [v3]) (l6 ++ [v1.Message])
  else none
  else none
  else none
  else none
  else
  some (l4, l5, l6)
def zc7 (a0 : Tskeen_clock) : Option ((List TMessage) × Tskeen_clock) :=
 Option.bind (α := (List TWait) × (List TStamp) × (List TMessage)) (zad a0 (a0.Skeen.Waits.length + 1) a0.Skeen.Waits a0.Skeen.Done []) fun (l1, l2, l3) =>
 some (l3, (⟨(⟨a0.Skeen.Clock, l1, l2⟩ : TSkeen)⟩ : Tskeen_clock))
def zc0 (a0 : TSkeen) : List TStamp -> Nat -> (List (Int × Int)) -> Int -> Int -> Option (Int ⊕ ((List (Int × Int)) × Int × Int))
 | [], n5, m2, n3, n4 =>
  some (.inr (m2, n3, n4))
 | y1 :: rest1, n5, m2, n3, n4 =>
  Option.bind (zib (y1)) fun v1 =>
  Option.bind (if (¬ (((¬ (v1 = 0)) \/ (y1.Time < 1)) \/ (y1.Time > a0.Clock))) /\ ((n5 : Int) > 0) then zgl (⟨n3, n4⟩ : TStamp) (y1) else some default) fun v2 =>
  if ((((¬ (v1 = 0)) \/ (y1.Time < 1)) \/ (y1.Time > a0.Clock)) \/ (((n5 : Int) > 0) /\ (¬ (v2 = true)))) \/ (((mget (y1.Id) m2).getD 0) > 0) then
  some (.inl 8)
  else
  zc0 a0 rest1 (n5 + 1) (mput (y1.Id) 1 m2) (y1.Time) (y1.Id)
def zbz (a0 : TSkeen) (m1 : List (Int × Int)) (n1 : Int) (n2 : Int) : List TWait -> Nat -> Option (Int ⊕ Unit)
 | [], n6 =>
  some (.inr ())
 | y2 :: rest2, n6 =>
  Option.bind (zat (y2.Message)) fun v3 =>
  Option.bind (if (¬ (((((¬ (v3 = 0)) \/ (y2.Time < 1)) \/ (y2.Time > a0.Clock)) \/ (((n6 : Int) > 0) /\ (y2.Message.Id <= (a0.Waits.getD (n6 - 1) default).Message.Id))) \/ (((mget (y2.Message.Id) m1).getD 0) > 0))) /\ ((a0.Done.length : Int) > 0) then zfr (y2) else some default) fun v4 =>
  Option.bind (if (¬ (((((¬ (v3 = 0)) \/ (y2.Time < 1)) \/ (y2.Time > a0.Clock)) \/ (((n6 : Int) > 0) /\ (y2.Message.Id <= (a0.Waits.getD (n6 - 1) default).Message.Id))) \/ (((mget (y2.Message.Id) m1).getD 0) > 0))) /\ ((a0.Done.length : Int) > 0) then zgl (⟨n1, n2⟩ : TStamp) v4 else some default) fun v5 =>
  if (((((¬ (v3 = 0)) \/ (y2.Time < 1)) \/ (y2.Time > a0.Clock)) \/ (((n6 : Int) > 0) /\ (y2.Message.Id <= (a0.Waits.getD (n6 - 1) default).Message.Id))) \/ (((mget (y2.Message.Id) m1).getD 0) > 0)) \/ (((a0.Done.length : Int) > 0) /\ (¬ (v5 = true))) then
  some (.inl 8)
  else
  zbz a0 m1 n1 n2 rest2 (n6 + 1) 
def zhg (a0 : TSkeen) : Option Int :=
 if (((a0.Clock < 0) \/ (a0.Clock > 1073741824)) \/ ((a0.Waits.length : Int) > 200)) \/ ((a0.Done.length : Int) > 200) then
 some 8
 else
 Option.bind (α := Int ⊕ ((List (Int × Int)) × Int × Int)) (zc0 a0 a0.Done 0 [] 0 0) fun z => match z with
 | (.inl r) => some r
 | (.inr (m1, n1, n2)) =>
 Option.bind (α := Int ⊕ Unit) (zbz a0 m1 n1 n2 a0.Waits 0 ) fun z => match z with
 | (.inl r) => some r
 | (.inr _) =>
 Option.bind (if (a0.Waits.length : Int) > 0 then zcl a0.Waits zee else some default) fun v6 =>
 if ((a0.Waits.length : Int) > 0) /\ (v6.Final = true) then
 some 8
 else
 some 0
def zd3 (a0 : TSkeen) (a1 : Int) (a2 : TCommand) : Option (TSkeen × (List TMessage) × Int) :=
 Option.bind (zhg a0) fun v1 =>
 if ¬ (v1 = 0) then
 some ((⟨0, [], []⟩ : TSkeen), [], v1)
 else
 if (a1 < 0) \/ (a1 >= 4) then
 some ((⟨0, [], []⟩ : TSkeen), [], 2)
 else
 Option.bind (zc3 a2) fun v2 =>
 if ¬ (v2 = 0) then
 some ((⟨0, [], []⟩ : TSkeen), [], v2)
 else
 Option.bind (ze8 a0) fun v3 =>
 Option.bind (α := (TSkeen × (List TMessage) × Int) ⊕ (Int × (List TWait) × (List TStamp))) (if a2.Kind = 1 then
 Option.bind (zaq (⟨v3⟩ : Tskeen_clock) a1 a2.Message) fun v4 =>
 if ¬ (v4.1 = 0) then
 some (.inl ((⟨0, [], []⟩ : TSkeen), [], v4.1))
 else
 some (.inr (v4.2.Skeen.Clock, v4.2.Skeen.Waits, v4.2.Skeen.Done))
 else
 if a2.Kind = 2 then
 Option.bind (zce (⟨v3⟩ : Tskeen_clock) a2.Id a2.Time) fun v5 =>
 some (.inr (v5.Skeen.Clock, v5.Skeen.Waits, v5.Skeen.Done))
 else
 some (.inr (v3.Clock, v3.Waits, v3.Done))) fun z => match z with
 | (.inl r) => some r
 | (.inr (n1, l1, l2)) =>
 Option.bind (zc7 (⟨(⟨n1, l1, l2⟩ : TSkeen)⟩ : Tskeen_clock)) fun v6 =>
 if (v6.2.Skeen.Done.length : Int) > 200 then
 some ((⟨0, [], []⟩ : TSkeen), [], 9)
 else
 some (v6.2.Skeen, v6.1, 0)
def zfa (a0 : TCommand) : Option Bool :=
 Option.bind (zb2 a0.Message (⟨0, [], 0, [], []⟩ : TMessage)) fun v1 =>
 if a0.Kind = 0 then
 Option.bind (zex a0 (⟨0, (⟨0, [], 0, [], []⟩ : TMessage), 0, 0, [], 0, 0, 0⟩ : TCommand)) fun v2 =>
 some v2
 else
 if a0.Kind = 1 then
 Option.bind (zct a0.Message) fun v3 =>
 some ((((((v3 && (a0.Id == 0)) && (a0.Time == 0)) && ((a0.Members.length : Int) == 0)) && (a0.Topic == 0)) && (a0.Who == 0)) && (a0.N == 0))
 else
 if a0.Kind = 2 then
 Option.bind (if ¬ (¬ (v1 = true)) then ze3 a0.Id else some default) fun v4 =>
 Option.bind (if (¬ (¬ (v1 = true))) /\ (v4 = true) then zcd a0.Time 1 1073741825 else some default) fun v5 =>
 some (((((((!(!v1)) && v4) && v5) && ((a0.Members.length : Int) == 0)) && (a0.Topic == 0)) && (a0.Who == 0)) && (a0.N == 0))
 else
 if a0.Kind = 3 then
 Option.bind (if ((¬ (¬ (v1 = true))) /\ (a0.Id = 0)) /\ (a0.Time = 0) then zer a0.Members else some default) fun v6 =>
 some (((((((!(!v1)) && (a0.Id == 0)) && (a0.Time == 0)) && (v6 == 0)) && (a0.Topic == 0)) && (a0.Who == 0)) && (a0.N == 0))
 else
 Option.bind (α := Bool) (if a0.Kind = 4 then
 some (a0.Kind == 4)
 else
 if a0.Kind = 5 then
 some (a0.Kind == 5)
 else
 some (a0.Kind == 6)) fun b1 =>
 if b1 = true then
 Option.bind (if ¬ (¬ (v1 = true)) then ze3 a0.Id else some default) fun v7 =>
 Option.bind (if (((¬ (¬ (v1 = true))) /\ (v7 = true)) /\ (a0.Time = 0)) /\ ((a0.Members.length : Int) = 0) then zcd a0.Topic 0 4 else some default) fun v8 =>
 Option.bind (if ((((¬ (¬ (v1 = true))) /\ (v7 = true)) /\ (a0.Time = 0)) /\ ((a0.Members.length : Int) = 0)) /\ (v8 = true) then zcd a0.N 0 1073741825 else some default) fun v9 =>
 Option.bind (if (((((((¬ (¬ (v1 = true))) /\ (v7 = true)) /\ (a0.Time = 0)) /\ ((a0.Members.length : Int) = 0)) /\ (v8 = true)) /\ (v9 = true)) /\ (¬ (a0.Who = 0))) /\ (a0.Kind = 4) then zcd a0.Who 0 8 else some default) fun v10 =>
 some (((((((!(!v1)) && v7) && (a0.Time == 0)) && ((a0.Members.length : Int) == 0)) && v8) && v9) && ((a0.Who == 0) || ((a0.Kind == 4) && v10)))
 else
 some false
end Go.Proofs
end
