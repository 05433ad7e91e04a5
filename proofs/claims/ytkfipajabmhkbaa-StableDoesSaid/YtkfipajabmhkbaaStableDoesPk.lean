/- Texts of the proof. -/
import Derived.Test.YtkfipajabmhkbaaStableDoesPj
import Derived.Test.YtkfipajabmhkbaaStableDoesPi
import Derived.Test.YtkfipajabmhkbaaStableDoesPf
import Derived.Test.YtkfipajabmhkbaaStableDoesPg
section
namespace Go.Proofs
open Go.Tm Go.RowKit Go.WideShapes
set_option maxRecDepth 100000
set_option maxHeartbeats 4000000
set_option linter.unusedSimpArgs false
set_option linter.unusedVariables false
attribute [local go_sem] argVars runE runK isCallV stepE aop opd opdsL opds opdO ev ofVal keep List.any natbeq Bool.false_or Bool.true_or aggEq cond_true cond_false Bool.cond_false_right Bool.cond_true_left beq_true beq_false imp_self implies_true getR getL put St.app effL del nwB blt_dec Nat.lt_irrefl Nat.lt_add_one ble_dec Nat.le_refl Nat.beq_refl roomNZ appendIn capS capK mkZ_zero mkZL_zero zeroEl D.ids D.idsL bin arith sarith binT dpick Tm.part splice fillD oneD loadD storeD srcD sliceD idxOk decide_true gval dstAt D.cells List.map_cons List.map_nil List.take List.drop List.length_map List.append Int.toNat_natCast and_true true_and decide_false List.length_cons List.length_nil List.append_nil List.nil_append Bool.and_true Bool.true_and Bool.not_false Bool.not_true ne_eq not_false_eq_true BEq.rfl List.getElem?_cons_zero List.getElem?_cons_succ List.getElem?_nil Nat.zero_add List.all_cons List.all_nil List.isEmpty_cons List.isEmpty_nil Option.getD_some Option.getD_none List.any_cons List.any_nil List.drop_succ_cons List.drop_zero unfL unf okM okML low3 List.cons_append true_or or_true Nat.zero_mul Nat.zero_le findD_int findD_str  getD_int getD_str getD_bool Option.isSome_map keyD List.length_replicate List.map_replicate setEl List.length_set bytesD_map map_ub mx_len mkZ_one mkZL_one mkM mkML mk1_int mk1_str mk1_bool drop_map take_map take_map_len List.take_length Int.toNat_zero toNat_pred fpOf metIds opIds mvV mvH mvF pickL D.ren D.renL Blk.ren List.map_append List.length_append Bool.not_not Bool.or_not_self Bool.not_or_self Bool.or_true
attribute [local go_sem] Try.tm_1 Try.tm_2 Try.tm_3 Try.tm_4 Try.tm_5 Try.tm_6 Try.tm_7 Try.tm_8 Try.tm_9 Try.tm_10 Try.tm_11 Try.tm_12 Try.tm_13 Try.tm_14 Try.tm_15 Try.tm_16 Try.tm_17 Try.tm_18 Try.tm_19 Try.tm_20 Try.tm_21 Try.tm_22 Try.tm_23 Try.tm_24 Try.tm_25 Try.tm_26 Try.tm_27 Try.tm_28 Try.tm_29 Try.tm_30 Try.tm_32 Try.tm_33 Try.tm_34 Try.tm_35 Try.tm_36 Try.tm_37 Try.tm_39 Try.tm_40 Try.tm_41 Try.tm_43 Try.tm_45 Try.tm_46 Try.tm_47 Try.tm_48 Try.tm_49 Try.tm_50 Try.tm_51 Try.tm_52 Try.tm_53 Try.tm_55 Try.tm_57 Try.tm_58 Try.tm_60 Try.tm_61 Try.tm_63 Try.tm_64 Try.tm_65 Try.tm_66 Try.tm_67 Try.tm_68 Try.tm_69 Try.tm_70 Try.tm_71 Try.tm_72 Try.tm_73 Try.tm_74 Try.tm_76 Try.tm_77 Try.tm_78 Try.tm_79 Try.tm_80 Try.tm_81 Try.tm_82 Try.tm_83 Try.tm_84 Try.tm_85 Try.tm_86 Try.tm_87 Try.tm_89 Try.tm_91 Try.tm_92 Try.tm_93 Try.tm_94 Try.tm_95 Try.tm_96 Try.tm_98 Try.tm_99 Try.tm_101 Try.tm_103 Try.tm_104 Try.tm_105 Try.tm_106 Try.tm_107 Try.tm_108 Try.tm_109 Try.tm_110 Try.tm_111 Try.tm_112 Try.tm_113 Try.tm_114 Try.tm_115 Try.tm_116 Try.tm_117 Try.tm_118 Try.tm_119 Try.tm_120 Try.tm_121 Try.tm_123 Try.tm_124 Try.tm_125 Try.tm_126 Try.tm_127 Try.tm_128 Try.tm_129 Try.tm_130 Try.tm_132 Try.tm_134 Try.tm_135 Try.tm_136 Try.tm_137 Try.tm_138 Try.tm_139 Try.tm_140 Try.tm_143 Try.tm_144 Try.tm_145 Try.tm_146 Try.tm_147 Try.tm_148 Try.tm_149 Try.tm_150 Try.tm_151 dL_str nL_str TVote.d TSeen.d TStable.d TStable.n TRecord.d mk1_dL_str mk1_TVote mk1_TSeen mk1_TStable mk1_TRecord Ttowncrierref01_Reader.d Ttowncrierref01_Reader.n mk1_Ttowncrierref01_Reader Try.f14 Try.f15
attribute [local go_sem] qrefs outb inb
attribute [local go_sem] nl0 nl1 nl2 nl3 sl0 sl1 sl2 sl3
theorem hrenN (ps : List (Nat × Nat)) (F G n : Nat) (ls : LL) (h : ls.length ≤ n) (hp : ∀ i, i < n → mvF ps (F + i) = G + i) : D.renL (mvF ps) (qrefs 1 F (ls.map List.length)) = qrefs 1 G (ls.map List.length) :=
 qrefs_ren 1 (mvF ps) _ F G fun i hi => hp i (by rw [List.length_map] at hi; omega)
theorem apr : ∀ (hp : Nat → Option Blk) (nid el esz eby id s' off len : Nat) (oc : Option Nat) (xs : List D) (px vx : Bool), appendD hp nid el esz eby (.ref id s' off len oc) xs px vx = (match hp id with
  | some (.arr e s'' p items) => (match oc with
   | none => some ⟨.ref nid esz 0 (len + xs.length) none, vx && Nat.beq e el && Nat.beq s' esz && Nat.beq s'' esz && Nat.beq off 0 && Nat.beq len items.length && decide ((items.length + xs.length) * eby ≤ 140737488355328),
     [(nid, some (.arr el esz (p && px) (items ++ xs))), (id, none)], (nid, nid + 1), []⟩
   | some c => bif !capK c then some ⟨.ref nid esz 0 (len + xs.length) (some c), vx && Nat.beq e el && Nat.beq s' esz && Nat.beq s'' esz && Nat.beq off 0 && Nat.beq len items.length && decide ((items.length + xs.length) * eby ≤ 140737488355328),
     [(nid, some (.arr el esz (p && px) (items ++ xs))), (id, none)], (nid, nid + 1), []⟩
     else bif Nat.blt c (len + xs.length) then
      some ⟨.ref nid esz 0 (len + xs.length) none, vx && Nat.beq e el && Nat.beq s' esz && Nat.beq s'' esz && Nat.ble (off + len) items.length && decide ((len + xs.length) * eby ≤ 140737488355328),
       [(nid, some (.arr el esz (p && px) ((items.drop off).take len ++ xs)))], (nid, nid + 1), []⟩
     else match xs with
      | [] => some ⟨.ref id s' off len oc, vx, [], (0, 0), []⟩
      | _ :: _ => some ⟨.ref nid esz 0 (len + xs.length) oc, vx && Nat.beq e el && Nat.beq s' esz && Nat.beq s'' esz && Nat.beq off 0 && Nat.beq len items.length,
       [(nid, some (.arr el esz (p && px) (items ++ xs))), (id, none)], (nid, nid + 1), []⟩)
  | _ => none) := by intro hp nid el esz eby id s' off len oc xs px vx; rfl
def Try.St_towncrierref11_Twin_1 (a0 : TStable) (l1 : LL) : St := ⟨[(2, .ptr 20001 0), (3, .ptr 20003 0)], [(20001, .box [.imm 0 [] 0, .imm 0 [] 0]), (20002, .arr 67 5 true (a0.Votes.map TSeen.d)), (20003, .box [.ref 20004 1 0 l1.length (some unkC), .ref 20002 5 0 a0.Votes.length (some unkC)]), (20004, outb 20005 l1), (20005, inb l1 0), (20006, inb l1 1), (20007, inb l1 2), (20008, inb l1 3), (20009, inb l1 4), (20010, inb l1 5), (20011, inb l1 6), (20012, inb l1 7), (20013, inb l1 8), (20014, inb l1 9)], 20015⟩
attribute [local go_sem] Try.St_towncrierref11_Twin_1
def Try.St_towncrierref11_Twin_3 (a0 : TStable) (n1 : Nat) (l2 : LL) : St := ⟨[(1, .ptr 20000 0), (2, .ptr 20001 0), (3, .ptr 20003 0), (4, .int .i64 (n1 : Int))], [(20000, .box [.imm 1 (a0.Logs.map dL_str) 4, .imm 5 (a0.Votes.map TSeen.d) 4]), (20001, .box [.imm 0 [] 0, .imm 0 [] 0]), (20002, .arr 67 5 true (a0.Votes.map TSeen.d)), (20003, .box [.ref 20004 1 0 l2.length (some unkC), .ref 20002 5 0 a0.Votes.length (some unkC)]), (20004, outb 20005 l2), (20005, inb l2 0), (20006, inb l2 1), (20007, inb l2 2), (20008, inb l2 3), (20009, inb l2 4), (20010, inb l2 5), (20011, inb l2 6), (20012, inb l2 7), (20013, inb l2 8), (20014, inb l2 9)], 20015⟩
attribute [local go_sem] Try.St_towncrierref11_Twin_3
theorem callH_towncrierref11_TwinQ (a0 : TStable) (r : TStable) (h4 : a0.Logs.length ≤ 10) (h : m_towncrierref11_Twin a0 = some r) : CallH Try.prog 14 [.agg [.imm 1 (a0.Logs.map dL_str) 4, .imm 5 (a0.Votes.map TSeen.d) 4]] [] (.agg [.ref 20001 1 0 r.Logs.length (some unkC), .ref 20002 5 0 r.Votes.length (some unkC)]) [(20001, some (outb 20010 r.Logs)), (20002, some (.arr 67 5 true (r.Votes.map TSeen.d))), (20010, some (inb r.Logs 0)), (20011, some (inb r.Logs 1)), (20012, some (inb r.Logs 2)), (20013, some (inb r.Logs 3)), (20014, some (inb r.Logs 4)), (20015, some (inb r.Logs 5)), (20016, some (inb r.Logs 6)), (20017, some (inb r.Logs 7)), (20018, some (inb r.Logs 8)), (20019, some (inb r.Logs 9))] (20000, 20060) := by
 refine callH_intro' Try.tmOk Try.func14 rfl (by decide) (Nat.le_of_ble_eq_true rfl) (by simp) ?_
 intro hwf
 unfold m_towncrierref11_Twin at h
 refine .ends 20000 (Nat.le_refl _) ?_
 refine .seq ?_
 refine .pl Try.S [0] ?_
 obtain ⟨k1, h⟩ := ite_ck h
 refine .seqM 20002 (fun (_ : Unit) => ⟨[(1, .ptr 20000 0), (2, .ptr 20001 0), (3, .ptr 20003 0)], [(20000, .box [.imm 1 (a0.Logs.map dL_str) 4, .imm 5 (a0.Votes.map TSeen.d) 4]), (20001, .box [.imm 0 [] 0, .imm 0 [] 0]), (20002, .arr 67 5 true (a0.Votes.map TSeen.d)), (20003, .box [.imm 0 [] 0, .ref 20002 5 0 a0.Votes.length (some unkC)])], 20004⟩) (fun _ => True) (Nat.le_of_ble_eq_true rfl) ?_ (fun _ _ => ?_)
 ·skip
  rcases list_cases a0.Votes with hE1 | ⟨y, ys, hE1⟩
  ·skip
   have hM1 : a0.Votes.map TSeen.d = [] := by rw [hE1]; simp
   refine .plain Try.tmOk Try.tmMixed [1, 2] (by decide +kernel) (by intro q hq; simp only [go_sem, Nat.reduceSub, Int.reduceEq, Nat.reduceLT, Nat.reduceDiv, Nat.reduceAdd, Nat.reduceBEq, Nat.reduceLeDiff, reduceCtorEq, Nat.reduceEqDiff, Nat.reduceMod, Nat.reduceMul, Try.tm_23, Try.tm_25, appendD_nil hM1, TSeen.d, TStable.d]; exact hq) (by first | rfl | (simp only [go_sem, Nat.reduceLeDiff]; done) | (simp only [go_sem, Nat.reduceLeDiff]; rfl) | (simp; done) | (simp [oneD] <;> omega) | (simp_all; done) | (simp_all [oneD] <;> omega)) (by first | exact Nat.le_refl _ | exact Nat.le_of_ble_eq_true rfl | (dsimp only; omega) | (simp <;> omega)) ?_
   refine ⟨(), ?_, trivial⟩
   refine Goes.new0 5 67 (Nat.le_of_ble_eq_true rfl) ?_
   refine Goes.boxs 20002 _ [.imm 0 [] 0, .ref 20003 5 0 0 (some unkC)] rfl (.keep (.cons (.own0 20003 _ _ _ (by decide)) (.refl _))) ?_
   exact .mx hE1 [1, 2, 3] [20000, 20001, 20003, 20002] [(20003, 20002), (20002, 20003)]
  ·skip
   have hM1 : a0.Votes.map TSeen.d ≠ [] := by rw [hE1]; simp
   refine .plain Try.tmOk Try.tmMixed [1, 2] (by decide +kernel) (by intro q hq; simp only [go_sem, Nat.reduceSub, Int.reduceEq, Nat.reduceLT, Nat.reduceDiv, Nat.reduceAdd, Nat.reduceBEq, Nat.reduceLeDiff, reduceCtorEq, Nat.reduceEqDiff, Nat.reduceMod, Nat.reduceMul, Try.tm_23, Try.tm_25, appendD_cons hM1, TSeen.d, TStable.d]; exact hq) (by first | rfl | (simp only [go_sem, Nat.reduceLeDiff]; done) | (simp only [go_sem, Nat.reduceLeDiff]; rfl) | (simp; done) | (simp [oneD] <;> omega) | (simp_all; done) | (simp_all [oneD] <;> omega)) (by first | exact Nat.le_refl _ | exact Nat.le_of_ble_eq_true rfl | (dsimp only; omega) | (simp <;> omega)) ?_
   refine ⟨(), ?_, trivial⟩
   refine Goes.boxs 20003 _ [.imm 0 [] 0, .ref 20002 5 0 a0.Votes.length (some unkC)] rfl (.keep (.cons (.unk _ _ _ _ _) (.refl _))) ?_
   exact .mx hE1 [1, 2, 3] [20000, 20001, 20002, 20003] []
 obtain ⟨x1, hx1, h⟩ := bind_some h
 refine .seqM 20004 (fun (j : (List (List (List UInt8)))) => Try.St_towncrierref11_Twin_1 a0 j) (fun j => j.length ≤ a0.Logs.length ∧ x1 = j) (Nat.le_of_ble_eq_true rfl) ?_ ?_
 ·skip
  refine .seq ?_
  refine .pl Try.S [1, 2, 3] ?_
  refine .block ?_
  refine .loopG 20004 (fun (j : Nat × (List (List (List UInt8)))) => Try.St_towncrierref11_Twin_3 a0 j.1 j.2) (fun j => j.1 ≤ a0.Logs.length ∧ j.2.length = j.1 ∧ m_towncrierref11_Twin_loop1 (a0.Logs.drop j.1) j.2 = some x1) (fun j => a0.Logs.length - j.1) (0, []) (Nat.le_of_ble_eq_true rfl) ?_ ⟨Nat.zero_le _, rfl, hx1⟩ ?_
  ·skip
   refine Goes.new0 1 34 (Nat.le_of_ble_eq_true rfl) ?_
   refine Goes.boxs 20003 _ [.ref 20004 1 0 0 (some unkC), .ref 20002 5 0 a0.Votes.length (some unkC)] rfl (.cons (.own0 20004 _ _ _ (by decide)) (.refl _)) ?_
   refine Goes.pf 20004 rfl ?_
   refine Goes.new0 1 9 (Nat.le_of_ble_eq_true rfl) ?_
   refine Goes.new0 1 9 (Nat.le_of_ble_eq_true rfl) ?_
   refine Goes.new0 1 9 (Nat.le_of_ble_eq_true rfl) ?_
   refine Goes.new0 1 9 (Nat.le_of_ble_eq_true rfl) ?_
   refine Goes.new0 1 9 (Nat.le_of_ble_eq_true rfl) ?_
   refine Goes.new0 1 9 (Nat.le_of_ble_eq_true rfl) ?_
   refine Goes.new0 1 9 (Nat.le_of_ble_eq_true rfl) ?_
   refine Goes.new0 1 9 (Nat.le_of_ble_eq_true rfl) ?_
   refine Goes.new0 1 9 (Nat.le_of_ble_eq_true rfl) ?_
   refine Goes.new0 1 9 (Nat.le_of_ble_eq_true rfl) ?_
   exact .sub [1, 2, 3, 4] [20000, 20001, 20002, 20003, 20004, 20005, 20006, 20007, 20008, 20009, 20010, 20011, 20012, 20013, 20014]
  rintro ⟨n1, l2⟩ ⟨hi1, hl2, hx1⟩
  simp only [Try.St_towncrierref11_Twin_3]
  simp only at hi1 hl2 hx1
  refine .wfb 20000 [.imm 1 (a0.Logs.map dL_str) 4, .imm 5 (a0.Votes.map TSeen.d) 4] rfl ?_
  intro hln1
  replace hln1 : (a0.Logs.length : Int) ≤ 9223372036854775807 := by simp only [wf, wfL, IntKind.max, IntKind.min, IntKind.signed, IntKind.bits, List.length_map] at hln1; first | exact hln1.2 | exact hln1.1 | (simp at hln1; omega)
  refine .seq ?_
  refine .seq ?_
  refine .pl Try.S [1, 2, 3, 4] ?_
  refine .cond rfl rfl (fun hc1 => ?_) (fun hc1 => ?_)
  ·skip
   have h1 : n1 < a0.Logs.length := by simpa using hc1
   have hwn1 : wr .i64 ((n1 : Int) + 1) = ((n1 + 1 : Nat) : Int) := wr_succ h1 hln1
   have hpn1 : wr .i64 ((n1 : Int) - 1) = (n1 : Int) - 1 := wr_pred h1 hln1
   rw [List.drop_eq_getElem_cons h1, m_towncrierref11_Twin_loop1_c] at hx1
   refine .skip ?_
   refine .seq ?_
   refine .block ?_
   obtain ⟨k2, hx1⟩ := ite_ck hx1
   obtain ⟨k3, hx1⟩ := ite_ck hx1
   have e1 := nth_map dL_str a0.Logs n1 h1
   rcases l2 with _ | ⟨b0, _ | ⟨b1, _ | ⟨b2, _ | ⟨b3, _ | ⟨b4, _ | ⟨b5, _ | ⟨b6, _ | ⟨b7, _ | ⟨b8, _ | ⟨b9, bs⟩⟩⟩⟩⟩⟩⟩⟩⟩⟩
   ·skip
    rcases list_cases (a0.Logs[n1]) with hE | ⟨y, ys, hE⟩
    ·skip
     have hM : (a0.Logs[n1]).map D.str = [] := by rw [hE]; simp
     refine .dx Try.S (And.intro (And.intro e1 hwn1) (And.intro (apn hM) apr)) [1, 2, 3, 4] ?_
     refine .plx Try.S hwn1 [1, 2, 3, 4] ?_
     refine ⟨(n1 + 1, _), ?_, ⟨by omega, by dsimp only; simp at hl2 ⊢; omega, hx1⟩, by dsimp only; omega⟩
     refine Goes.new0 1 9 (Nat.le_of_ble_eq_true rfl) ?_
     refine Goes.blk 20016 (.arr 34 1 false ([] ++ [.imm 1 [] 0])) (.arr 34 1 false ([] ++ [.ref 20017 1 0 0 (some unkC)])) rfl (fun _ hC h => holds_last [] (fun _ hC _ h => rep_own0 hC _ _ _ _ (by decide) h) hC h) ?_
     exact .mx hE [1, 2, 3, 4] [20000, 20001, 20002, 20003, 20016, 20017, 20006, 20007, 20008, 20009, 20010, 20011, 20012, 20013, 20014] [(20016, 20004), (20017, 20005)]
    ·skip
     have hM : (a0.Logs[n1]).map D.str ≠ [] := by rw [hE]; simp
     refine .dx Try.S (And.intro (And.intro e1 hwn1) (And.intro (apc hM) apr)) [1, 2, 3, 4] ?_
     refine .plx Try.S hwn1 [1, 2, 3, 4] ?_
     refine ⟨(n1 + 1, _), ?_, ⟨by omega, by dsimp only; simp at hl2 ⊢; omega, hx1⟩, by dsimp only; omega⟩
     refine Goes.blk 20017 (.arr 34 1 false ([] ++ [.ref 20015 1 0 (a0.Logs[n1]).length none])) (.arr 34 1 false ([] ++ [.ref 20015 1 0 (a0.Logs[n1]).length (some unkC)])) rfl (fun _ hC h => holds_last [] (fun C _ v h => Wk.unk _ _ _ _ _ C v h) hC h) ?_
     exact .m [1, 2, 3, 4] [20000, 20001, 20002, 20003, 20017, 20015, 20006, 20007, 20008, 20009, 20010, 20011, 20012, 20013, 20014] [(20017, 20004), (20015, 20005)]
   ·skip
    rcases list_cases (a0.Logs[n1]) with hE | ⟨y, ys, hE⟩
    ·skip
     have hM : (a0.Logs[n1]).map D.str = [] := by rw [hE]; simp
     refine .dx Try.S (And.intro (And.intro e1 hwn1) (And.intro (apn hM) apr)) [1, 2, 3, 4] ?_
     refine .plx Try.S hwn1 [1, 2, 3, 4] ?_
     refine ⟨(n1 + 1, _), ?_, ⟨by omega, by dsimp only; simp at hl2 ⊢; omega, hx1⟩, by dsimp only; omega⟩
     refine Goes.new0 1 9 (Nat.le_of_ble_eq_true rfl) ?_
     refine Goes.blk 20016 (.arr 34 1 false ([.ref 20005 1 0 b0.length (some unkC)] ++ [.imm 1 [] 0])) (.arr 34 1 false ([.ref 20005 1 0 b0.length (some unkC)] ++ [.ref 20017 1 0 0 (some unkC)])) rfl (fun _ hC h => holds_last [.ref 20005 1 0 b0.length (some unkC)] (fun _ hC _ h => rep_own0 hC _ _ _ _ (by decide) h) hC h) ?_
     exact .mx hE [1, 2, 3, 4] [20000, 20001, 20002, 20003, 20016, 20005, 20017, 20007, 20008, 20009, 20010, 20011, 20012, 20013, 20014] [(20016, 20004), (20017, 20006)]
    ·skip
     have hM : (a0.Logs[n1]).map D.str ≠ [] := by rw [hE]; simp
     refine .dx Try.S (And.intro (And.intro e1 hwn1) (And.intro (apc hM) apr)) [1, 2, 3, 4] ?_
     refine .plx Try.S hwn1 [1, 2, 3, 4] ?_
     refine ⟨(n1 + 1, _), ?_, ⟨by omega, by dsimp only; simp at hl2 ⊢; omega, hx1⟩, by dsimp only; omega⟩
     refine Goes.blk 20017 (.arr 34 1 false ([.ref 20005 1 0 b0.length (some unkC)] ++ [.ref 20015 1 0 (a0.Logs[n1]).length none])) (.arr 34 1 false ([.ref 20005 1 0 b0.length (some unkC)] ++ [.ref 20015 1 0 (a0.Logs[n1]).length (some unkC)])) rfl (fun _ hC h => holds_last [.ref 20005 1 0 b0.length (some unkC)] (fun C _ v h => Wk.unk _ _ _ _ _ C v h) hC h) ?_
     exact .m [1, 2, 3, 4] [20000, 20001, 20002, 20003, 20017, 20005, 20015, 20007, 20008, 20009, 20010, 20011, 20012, 20013, 20014] [(20017, 20004), (20015, 20006)]
   ·skip
    rcases list_cases (a0.Logs[n1]) with hE | ⟨y, ys, hE⟩
    ·skip
     have hM : (a0.Logs[n1]).map D.str = [] := by rw [hE]; simp
     refine .dx Try.S (And.intro (And.intro e1 hwn1) (And.intro (apn hM) apr)) [1, 2, 3, 4] ?_
     refine .plx Try.S hwn1 [1, 2, 3, 4] ?_
     refine ⟨(n1 + 1, _), ?_, ⟨by omega, by dsimp only; simp at hl2 ⊢; omega, hx1⟩, by dsimp only; omega⟩
     refine Goes.new0 1 9 (Nat.le_of_ble_eq_true rfl) ?_
     refine Goes.blk 20016 (.arr 34 1 false ([.ref 20005 1 0 b0.length (some unkC), .ref 20006 1 0 b1.length (some unkC)] ++ [.imm 1 [] 0])) (.arr 34 1 false ([.ref 20005 1 0 b0.length (some unkC), .ref 20006 1 0 b1.length (some unkC)] ++ [.ref 20017 1 0 0 (some unkC)])) rfl (fun _ hC h => holds_last [.ref 20005 1 0 b0.length (some unkC), .ref 20006 1 0 b1.length (some unkC)] (fun _ hC _ h => rep_own0 hC _ _ _ _ (by decide) h) hC h) ?_
     exact .mx hE [1, 2, 3, 4] [20000, 20001, 20002, 20003, 20016, 20005, 20006, 20017, 20008, 20009, 20010, 20011, 20012, 20013, 20014] [(20016, 20004), (20017, 20007)]
    ·skip
     have hM : (a0.Logs[n1]).map D.str ≠ [] := by rw [hE]; simp
     refine .dx Try.S (And.intro (And.intro e1 hwn1) (And.intro (apc hM) apr)) [1, 2, 3, 4] ?_
     refine .plx Try.S hwn1 [1, 2, 3, 4] ?_
     refine ⟨(n1 + 1, _), ?_, ⟨by omega, by dsimp only; simp at hl2 ⊢; omega, hx1⟩, by dsimp only; omega⟩
     refine Goes.blk 20017 (.arr 34 1 false ([.ref 20005 1 0 b0.length (some unkC), .ref 20006 1 0 b1.length (some unkC)] ++ [.ref 20015 1 0 (a0.Logs[n1]).length none])) (.arr 34 1 false ([.ref 20005 1 0 b0.length (some unkC), .ref 20006 1 0 b1.length (some unkC)] ++ [.ref 20015 1 0 (a0.Logs[n1]).length (some unkC)])) rfl (fun _ hC h => holds_last [.ref 20005 1 0 b0.length (some unkC), .ref 20006 1 0 b1.length (some unkC)] (fun C _ v h => Wk.unk _ _ _ _ _ C v h) hC h) ?_
     exact .m [1, 2, 3, 4] [20000, 20001, 20002, 20003, 20017, 20005, 20006, 20015, 20008, 20009, 20010, 20011, 20012, 20013, 20014] [(20017, 20004), (20015, 20007)]
   ·skip
    rcases list_cases (a0.Logs[n1]) with hE | ⟨y, ys, hE⟩
    ·skip
     have hM : (a0.Logs[n1]).map D.str = [] := by rw [hE]; simp
     refine .dx Try.S (And.intro (And.intro e1 hwn1) (And.intro (apn hM) apr)) [1, 2, 3, 4] ?_
     refine .plx Try.S hwn1 [1, 2, 3, 4] ?_
     refine ⟨(n1 + 1, _), ?_, ⟨by omega, by dsimp only; simp at hl2 ⊢; omega, hx1⟩, by dsimp only; omega⟩
     refine Goes.new0 1 9 (Nat.le_of_ble_eq_true rfl) ?_
     refine Goes.blk 20016 (.arr 34 1 false ([.ref 20005 1 0 b0.length (some unkC), .ref 20006 1 0 b1.length (some unkC), .ref 20007 1 0 b2.length (some unkC)] ++ [.imm 1 [] 0])) (.arr 34 1 false ([.ref 20005 1 0 b0.length (some unkC), .ref 20006 1 0 b1.length (some unkC), .ref 20007 1 0 b2.length (some unkC)] ++ [.ref 20017 1 0 0 (some unkC)])) rfl (fun _ hC h => holds_last [.ref 20005 1 0 b0.length (some unkC), .ref 20006 1 0 b1.length (some unkC), .ref 20007 1 0 b2.length (some unkC)] (fun _ hC _ h => rep_own0 hC _ _ _ _ (by decide) h) hC h) ?_
     exact .mx hE [1, 2, 3, 4] [20000, 20001, 20002, 20003, 20016, 20005, 20006, 20007, 20017, 20009, 20010, 20011, 20012, 20013, 20014] [(20016, 20004), (20017, 20008)]
    ·skip
     have hM : (a0.Logs[n1]).map D.str ≠ [] := by rw [hE]; simp
     refine .dx Try.S (And.intro (And.intro e1 hwn1) (And.intro (apc hM) apr)) [1, 2, 3, 4] ?_
     refine .plx Try.S hwn1 [1, 2, 3, 4] ?_
     refine ⟨(n1 + 1, _), ?_, ⟨by omega, by dsimp only; simp at hl2 ⊢; omega, hx1⟩, by dsimp only; omega⟩
     refine Goes.blk 20017 (.arr 34 1 false ([.ref 20005 1 0 b0.length (some unkC), .ref 20006 1 0 b1.length (some unkC), .ref 20007 1 0 b2.length (some unkC)] ++ [.ref 20015 1 0 (a0.Logs[n1]).length none])) (.arr 34 1 false ([.ref 20005 1 0 b0.length (some unkC), .ref 20006 1 0 b1.length (some unkC), .ref 20007 1 0 b2.length (some unkC)] ++ [.ref 20015 1 0 (a0.Logs[n1]).length (some unkC)])) rfl (fun _ hC h => holds_last [.ref 20005 1 0 b0.length (some unkC), .ref 20006 1 0 b1.length (some unkC), .ref 20007 1 0 b2.length (some unkC)] (fun C _ v h => Wk.unk _ _ _ _ _ C v h) hC h) ?_
     exact .m [1, 2, 3, 4] [20000, 20001, 20002, 20003, 20017, 20005, 20006, 20007, 20015, 20009, 20010, 20011, 20012, 20013, 20014] [(20017, 20004), (20015, 20008)]
   ·skip
    rcases list_cases (a0.Logs[n1]) with hE | ⟨y, ys, hE⟩
    ·skip
     have hM : (a0.Logs[n1]).map D.str = [] := by rw [hE]; simp
     refine .dx Try.S (And.intro (And.intro e1 hwn1) (And.intro (apn hM) apr)) [1, 2, 3, 4] ?_
     refine .plx Try.S hwn1 [1, 2, 3, 4] ?_
     refine ⟨(n1 + 1, _), ?_, ⟨by omega, by dsimp only; simp at hl2 ⊢; omega, hx1⟩, by dsimp only; omega⟩
     refine Goes.new0 1 9 (Nat.le_of_ble_eq_true rfl) ?_
     refine Goes.blk 20016 (.arr 34 1 false ([.ref 20005 1 0 b0.length (some unkC), .ref 20006 1 0 b1.length (some unkC), .ref 20007 1 0 b2.length (some unkC), .ref 20008 1 0 b3.length (some unkC)] ++ [.imm 1 [] 0])) (.arr 34 1 false ([.ref 20005 1 0 b0.length (some unkC), .ref 20006 1 0 b1.length (some unkC), .ref 20007 1 0 b2.length (some unkC), .ref 20008 1 0 b3.length (some unkC)] ++ [.ref 20017 1 0 0 (some unkC)])) rfl (fun _ hC h => holds_last [.ref 20005 1 0 b0.length (some unkC), .ref 20006 1 0 b1.length (some unkC), .ref 20007 1 0 b2.length (some unkC), .ref 20008 1 0 b3.length (some unkC)] (fun _ hC _ h => rep_own0 hC _ _ _ _ (by decide) h) hC h) ?_
     exact .mx hE [1, 2, 3, 4] [20000, 20001, 20002, 20003, 20016, 20005, 20006, 20007, 20008, 20017, 20010, 20011, 20012, 20013, 20014] [(20016, 20004), (20017, 20009)]
    ·skip
     have hM : (a0.Logs[n1]).map D.str ≠ [] := by rw [hE]; simp
     refine .dx Try.S (And.intro (And.intro e1 hwn1) (And.intro (apc hM) apr)) [1, 2, 3, 4] ?_
     refine .plx Try.S hwn1 [1, 2, 3, 4] ?_
     refine ⟨(n1 + 1, _), ?_, ⟨by omega, by dsimp only; simp at hl2 ⊢; omega, hx1⟩, by dsimp only; omega⟩
     refine Goes.blk 20017 (.arr 34 1 false ([.ref 20005 1 0 b0.length (some unkC), .ref 20006 1 0 b1.length (some unkC), .ref 20007 1 0 b2.length (some unkC), .ref 20008 1 0 b3.length (some unkC)] ++ [.ref 20015 1 0 (a0.Logs[n1]).length none])) (.arr 34 1 false ([.ref 20005 1 0 b0.length (some unkC), .ref 20006 1 0 b1.length (some unkC), .ref 20007 1 0 b2.length (some unkC), .ref 20008 1 0 b3.length (some unkC)] ++ [.ref 20015 1 0 (a0.Logs[n1]).length (some unkC)])) rfl (fun _ hC h => holds_last [.ref 20005 1 0 b0.length (some unkC), .ref 20006 1 0 b1.length (some unkC), .ref 20007 1 0 b2.length (some unkC), .ref 20008 1 0 b3.length (some unkC)] (fun C _ v h => Wk.unk _ _ _ _ _ C v h) hC h) ?_
     exact .m [1, 2, 3, 4] [20000, 20001, 20002, 20003, 20017, 20005, 20006, 20007, 20008, 20015, 20010, 20011, 20012, 20013, 20014] [(20017, 20004), (20015, 20009)]
   ·skip
    rcases list_cases (a0.Logs[n1]) with hE | ⟨y, ys, hE⟩
    ·skip
     have hM : (a0.Logs[n1]).map D.str = [] := by rw [hE]; simp
     refine .dx Try.S (And.intro (And.intro e1 hwn1) (And.intro (apn hM) apr)) [1, 2, 3, 4] ?_
     refine .plx Try.S hwn1 [1, 2, 3, 4] ?_
     refine ⟨(n1 + 1, _), ?_, ⟨by omega, by dsimp only; simp at hl2 ⊢; omega, hx1⟩, by dsimp only; omega⟩
     refine Goes.new0 1 9 (Nat.le_of_ble_eq_true rfl) ?_
     refine Goes.blk 20016 (.arr 34 1 false ([.ref 20005 1 0 b0.length (some unkC), .ref 20006 1 0 b1.length (some unkC), .ref 20007 1 0 b2.length (some unkC), .ref 20008 1 0 b3.length (some unkC), .ref 20009 1 0 b4.length (some unkC)] ++ [.imm 1 [] 0])) (.arr 34 1 false ([.ref 20005 1 0 b0.length (some unkC), .ref 20006 1 0 b1.length (some unkC), .ref 20007 1 0 b2.length (some unkC), .ref 20008 1 0 b3.length (some unkC), .ref 20009 1 0 b4.length (some unkC)] ++ [.ref 20017 1 0 0 (some unkC)])) rfl (fun _ hC h => holds_last [.ref 20005 1 0 b0.length (some unkC), .ref 20006 1 0 b1.length (some unkC), .ref 20007 1 0 b2.length (some unkC), .ref 20008 1 0 b3.length (some unkC), .ref 20009 1 0 b4.length (some unkC)] (fun _ hC _ h => rep_own0 hC _ _ _ _ (by decide) h) hC h) ?_
     exact .mx hE [1, 2, 3, 4] [20000, 20001, 20002, 20003, 20016, 20005, 20006, 20007, 20008, 20009, 20017, 20011, 20012, 20013, 20014] [(20016, 20004), (20017, 20010)]
    ·skip
     have hM : (a0.Logs[n1]).map D.str ≠ [] := by rw [hE]; simp
     refine .dx Try.S (And.intro (And.intro e1 hwn1) (And.intro (apc hM) apr)) [1, 2, 3, 4] ?_
     refine .plx Try.S hwn1 [1, 2, 3, 4] ?_
     refine ⟨(n1 + 1, _), ?_, ⟨by omega, by dsimp only; simp at hl2 ⊢; omega, hx1⟩, by dsimp only; omega⟩
     refine Goes.blk 20017 (.arr 34 1 false ([.ref 20005 1 0 b0.length (some unkC), .ref 20006 1 0 b1.length (some unkC), .ref 20007 1 0 b2.length (some unkC), .ref 20008 1 0 b3.length (some unkC), .ref 20009 1 0 b4.length (some unkC)] ++ [.ref 20015 1 0 (a0.Logs[n1]).length none])) (.arr 34 1 false ([.ref 20005 1 0 b0.length (some unkC), .ref 20006 1 0 b1.length (some unkC), .ref 20007 1 0 b2.length (some unkC), .ref 20008 1 0 b3.length (some unkC), .ref 20009 1 0 b4.length (some unkC)] ++ [.ref 20015 1 0 (a0.Logs[n1]).length (some unkC)])) rfl (fun _ hC h => holds_last [.ref 20005 1 0 b0.length (some unkC), .ref 20006 1 0 b1.length (some unkC), .ref 20007 1 0 b2.length (some unkC), .ref 20008 1 0 b3.length (some unkC), .ref 20009 1 0 b4.length (some unkC)] (fun C _ v h => Wk.unk _ _ _ _ _ C v h) hC h) ?_
     exact .m [1, 2, 3, 4] [20000, 20001, 20002, 20003, 20017, 20005, 20006, 20007, 20008, 20009, 20015, 20011, 20012, 20013, 20014] [(20017, 20004), (20015, 20010)]
   ·skip
    rcases list_cases (a0.Logs[n1]) with hE | ⟨y, ys, hE⟩
    ·skip
     have hM : (a0.Logs[n1]).map D.str = [] := by rw [hE]; simp
     refine .dx Try.S (And.intro (And.intro e1 hwn1) (And.intro (apn hM) apr)) [1, 2, 3, 4] ?_
     refine .plx Try.S hwn1 [1, 2, 3, 4] ?_
     refine ⟨(n1 + 1, _), ?_, ⟨by omega, by dsimp only; simp at hl2 ⊢; omega, hx1⟩, by dsimp only; omega⟩
     refine Goes.new0 1 9 (Nat.le_of_ble_eq_true rfl) ?_
     refine Goes.blk 20016 (.arr 34 1 false ([.ref 20005 1 0 b0.length (some unkC), .ref 20006 1 0 b1.length (some unkC), .ref 20007 1 0 b2.length (some unkC), .ref 20008 1 0 b3.length (some unkC), .ref 20009 1 0 b4.length (some unkC), .ref 20010 1 0 b5.length (some unkC)] ++ [.imm 1 [] 0])) (.arr 34 1 false ([.ref 20005 1 0 b0.length (some unkC), .ref 20006 1 0 b1.length (some unkC), .ref 20007 1 0 b2.length (some unkC), .ref 20008 1 0 b3.length (some unkC), .ref 20009 1 0 b4.length (some unkC), .ref 20010 1 0 b5.length (some unkC)] ++ [.ref 20017 1 0 0 (some unkC)])) rfl (fun _ hC h => holds_last [.ref 20005 1 0 b0.length (some unkC), .ref 20006 1 0 b1.length (some unkC), .ref 20007 1 0 b2.length (some unkC), .ref 20008 1 0 b3.length (some unkC), .ref 20009 1 0 b4.length (some unkC), .ref 20010 1 0 b5.length (some unkC)] (fun _ hC _ h => rep_own0 hC _ _ _ _ (by decide) h) hC h) ?_
     exact .mx hE [1, 2, 3, 4] [20000, 20001, 20002, 20003, 20016, 20005, 20006, 20007, 20008, 20009, 20010, 20017, 20012, 20013, 20014] [(20016, 20004), (20017, 20011)]
    ·skip
     have hM : (a0.Logs[n1]).map D.str ≠ [] := by rw [hE]; simp
     refine .dx Try.S (And.intro (And.intro e1 hwn1) (And.intro (apc hM) apr)) [1, 2, 3, 4] ?_
     refine .plx Try.S hwn1 [1, 2, 3, 4] ?_
     refine ⟨(n1 + 1, _), ?_, ⟨by omega, by dsimp only; simp at hl2 ⊢; omega, hx1⟩, by dsimp only; omega⟩
     refine Goes.blk 20017 (.arr 34 1 false ([.ref 20005 1 0 b0.length (some unkC), .ref 20006 1 0 b1.length (some unkC), .ref 20007 1 0 b2.length (some unkC), .ref 20008 1 0 b3.length (some unkC), .ref 20009 1 0 b4.length (some unkC), .ref 20010 1 0 b5.length (some unkC)] ++ [.ref 20015 1 0 (a0.Logs[n1]).length none])) (.arr 34 1 false ([.ref 20005 1 0 b0.length (some unkC), .ref 20006 1 0 b1.length (some unkC), .ref 20007 1 0 b2.length (some unkC), .ref 20008 1 0 b3.length (some unkC), .ref 20009 1 0 b4.length (some unkC), .ref 20010 1 0 b5.length (some unkC)] ++ [.ref 20015 1 0 (a0.Logs[n1]).length (some unkC)])) rfl (fun _ hC h => holds_last [.ref 20005 1 0 b0.length (some unkC), .ref 20006 1 0 b1.length (some unkC), .ref 20007 1 0 b2.length (some unkC), .ref 20008 1 0 b3.length (some unkC), .ref 20009 1 0 b4.length (some unkC), .ref 20010 1 0 b5.length (some unkC)] (fun C _ v h => Wk.unk _ _ _ _ _ C v h) hC h) ?_
     exact .m [1, 2, 3, 4] [20000, 20001, 20002, 20003, 20017, 20005, 20006, 20007, 20008, 20009, 20010, 20015, 20012, 20013, 20014] [(20017, 20004), (20015, 20011)]
   ·skip
    rcases list_cases (a0.Logs[n1]) with hE | ⟨y, ys, hE⟩
    ·skip
     have hM : (a0.Logs[n1]).map D.str = [] := by rw [hE]; simp
     refine .dx Try.S (And.intro (And.intro e1 hwn1) (And.intro (apn hM) apr)) [1, 2, 3, 4] ?_
     refine .plx Try.S hwn1 [1, 2, 3, 4] ?_
     refine ⟨(n1 + 1, _), ?_, ⟨by omega, by dsimp only; simp at hl2 ⊢; omega, hx1⟩, by dsimp only; omega⟩
     refine Goes.new0 1 9 (Nat.le_of_ble_eq_true rfl) ?_
     refine Goes.blk 20016 (.arr 34 1 false ([.ref 20005 1 0 b0.length (some unkC), .ref 20006 1 0 b1.length (some unkC), .ref 20007 1 0 b2.length (some unkC), .ref 20008 1 0 b3.length (some unkC), .ref 20009 1 0 b4.length (some unkC), .ref 20010 1 0 b5.length (some unkC), .ref 20011 1 0 b6.length (some unkC)] ++ [.imm 1 [] 0])) (.arr 34 1 false ([.ref 20005 1 0 b0.length (some unkC), .ref 20006 1 0 b1.length (some unkC), .ref 20007 1 0 b2.length (some unkC), .ref 20008 1 0 b3.length (some unkC), .ref 20009 1 0 b4.length (some unkC), .ref 20010 1 0 b5.length (some unkC), .ref 20011 1 0 b6.length (some unkC)] ++ [.ref 20017 1 0 0 (some unkC)])) rfl (fun _ hC h => holds_last [.ref 20005 1 0 b0.length (some unkC), .ref 20006 1 0 b1.length (some unkC), .ref 20007 1 0 b2.length (some unkC), .ref 20008 1 0 b3.length (some unkC), .ref 20009 1 0 b4.length (some unkC), .ref 20010 1 0 b5.length (some unkC), .ref 20011 1 0 b6.length (some unkC)] (fun _ hC _ h => rep_own0 hC _ _ _ _ (by decide) h) hC h) ?_
     exact .mx hE [1, 2, 3, 4] [20000, 20001, 20002, 20003, 20016, 20005, 20006, 20007, 20008, 20009, 20010, 20011, 20017, 20013, 20014] [(20016, 20004), (20017, 20012)]
    ·skip
     have hM : (a0.Logs[n1]).map D.str ≠ [] := by rw [hE]; simp
     refine .dx Try.S (And.intro (And.intro e1 hwn1) (And.intro (apc hM) apr)) [1, 2, 3, 4] ?_
     refine .plx Try.S hwn1 [1, 2, 3, 4] ?_
     refine ⟨(n1 + 1, _), ?_, ⟨by omega, by dsimp only; simp at hl2 ⊢; omega, hx1⟩, by dsimp only; omega⟩
     refine Goes.blk 20017 (.arr 34 1 false ([.ref 20005 1 0 b0.length (some unkC), .ref 20006 1 0 b1.length (some unkC), .ref 20007 1 0 b2.length (some unkC), .ref 20008 1 0 b3.length (some unkC), .ref 20009 1 0 b4.length (some unkC), .ref 20010 1 0 b5.length (some unkC), .ref 20011 1 0 b6.length (some unkC)] ++ [.ref 20015 1 0 (a0.Logs[n1]).length none])) (.arr 34 1 false ([.ref 20005 1 0 b0.length (some unkC), .ref 20006 1 0 b1.length (some unkC), .ref 20007 1 0 b2.length (some unkC), .ref 20008 1 0 b3.length (some unkC), .ref 20009 1 0 b4.length (some unkC), .ref 20010 1 0 b5.length (some unkC), .ref 20011 1 0 b6.length (some unkC)] ++ [.ref 20015 1 0 (a0.Logs[n1]).length (some unkC)])) rfl (fun _ hC h => holds_last [.ref 20005 1 0 b0.length (some unkC), .ref 20006 1 0 b1.length (some unkC), .ref 20007 1 0 b2.length (some unkC), .ref 20008 1 0 b3.length (some unkC), .ref 20009 1 0 b4.length (some unkC), .ref 20010 1 0 b5.length (some unkC), .ref 20011 1 0 b6.length (some unkC)] (fun C _ v h => Wk.unk _ _ _ _ _ C v h) hC h) ?_
     exact .m [1, 2, 3, 4] [20000, 20001, 20002, 20003, 20017, 20005, 20006, 20007, 20008, 20009, 20010, 20011, 20015, 20013, 20014] [(20017, 20004), (20015, 20012)]
   ·skip
    rcases list_cases (a0.Logs[n1]) with hE | ⟨y, ys, hE⟩
    ·skip
     have hM : (a0.Logs[n1]).map D.str = [] := by rw [hE]; simp
     refine .dx Try.S (And.intro (And.intro e1 hwn1) (And.intro (apn hM) apr)) [1, 2, 3, 4] ?_
     refine .plx Try.S hwn1 [1, 2, 3, 4] ?_
     refine ⟨(n1 + 1, _), ?_, ⟨by omega, by dsimp only; simp at hl2 ⊢; omega, hx1⟩, by dsimp only; omega⟩
     refine Goes.new0 1 9 (Nat.le_of_ble_eq_true rfl) ?_
     refine Goes.blk 20016 (.arr 34 1 false ([.ref 20005 1 0 b0.length (some unkC), .ref 20006 1 0 b1.length (some unkC), .ref 20007 1 0 b2.length (some unkC), .ref 20008 1 0 b3.length (some unkC), .ref 20009 1 0 b4.length (some unkC), .ref 20010 1 0 b5.length (some unkC), .ref 20011 1 0 b6.length (some unkC), .ref 20012 1 0 b7.length (some unkC)] ++ [.imm 1 [] 0])) (.arr 34 1 false ([.ref 20005 1 0 b0.length (some unkC), .ref 20006 1 0 b1.length (some unkC), .ref 20007 1 0 b2.length (some unkC), .ref 20008 1 0 b3.length (some unkC), .ref 20009 1 0 b4.length (some unkC), .ref 20010 1 0 b5.length (some unkC), .ref 20011 1 0 b6.length (some unkC), .ref 20012 1 0 b7.length (some unkC)] ++ [.ref 20017 1 0 0 (some unkC)])) rfl (fun _ hC h => holds_last [.ref 20005 1 0 b0.length (some unkC), .ref 20006 1 0 b1.length (some unkC), .ref 20007 1 0 b2.length (some unkC), .ref 20008 1 0 b3.length (some unkC), .ref 20009 1 0 b4.length (some unkC), .ref 20010 1 0 b5.length (some unkC), .ref 20011 1 0 b6.length (some unkC), .ref 20012 1 0 b7.length (some unkC)] (fun _ hC _ h => rep_own0 hC _ _ _ _ (by decide) h) hC h) ?_
     exact .mx hE [1, 2, 3, 4] [20000, 20001, 20002, 20003, 20016, 20005, 20006, 20007, 20008, 20009, 20010, 20011, 20012, 20017, 20014] [(20016, 20004), (20017, 20013)]
    ·skip
     have hM : (a0.Logs[n1]).map D.str ≠ [] := by rw [hE]; simp
     refine .dx Try.S (And.intro (And.intro e1 hwn1) (And.intro (apc hM) apr)) [1, 2, 3, 4] ?_
     refine .plx Try.S hwn1 [1, 2, 3, 4] ?_
     refine ⟨(n1 + 1, _), ?_, ⟨by omega, by dsimp only; simp at hl2 ⊢; omega, hx1⟩, by dsimp only; omega⟩
     refine Goes.blk 20017 (.arr 34 1 false ([.ref 20005 1 0 b0.length (some unkC), .ref 20006 1 0 b1.length (some unkC), .ref 20007 1 0 b2.length (some unkC), .ref 20008 1 0 b3.length (some unkC), .ref 20009 1 0 b4.length (some unkC), .ref 20010 1 0 b5.length (some unkC), .ref 20011 1 0 b6.length (some unkC), .ref 20012 1 0 b7.length (some unkC)] ++ [.ref 20015 1 0 (a0.Logs[n1]).length none])) (.arr 34 1 false ([.ref 20005 1 0 b0.length (some unkC), .ref 20006 1 0 b1.length (some unkC), .ref 20007 1 0 b2.length (some unkC), .ref 20008 1 0 b3.length (some unkC), .ref 20009 1 0 b4.length (some unkC), .ref 20010 1 0 b5.length (some unkC), .ref 20011 1 0 b6.length (some unkC), .ref 20012 1 0 b7.length (some unkC)] ++ [.ref 20015 1 0 (a0.Logs[n1]).length (some unkC)])) rfl (fun _ hC h => holds_last [.ref 20005 1 0 b0.length (some unkC), .ref 20006 1 0 b1.length (some unkC), .ref 20007 1 0 b2.length (some unkC), .ref 20008 1 0 b3.length (some unkC), .ref 20009 1 0 b4.length (some unkC), .ref 20010 1 0 b5.length (some unkC), .ref 20011 1 0 b6.length (some unkC), .ref 20012 1 0 b7.length (some unkC)] (fun C _ v h => Wk.unk _ _ _ _ _ C v h) hC h) ?_
     exact .m [1, 2, 3, 4] [20000, 20001, 20002, 20003, 20017, 20005, 20006, 20007, 20008, 20009, 20010, 20011, 20012, 20015, 20014] [(20017, 20004), (20015, 20013)]
   ·skip
    rcases list_cases (a0.Logs[n1]) with hE | ⟨y, ys, hE⟩
    ·skip
     have hM : (a0.Logs[n1]).map D.str = [] := by rw [hE]; simp
     refine .dx Try.S (And.intro (And.intro e1 hwn1) (And.intro (apn hM) apr)) [1, 2, 3, 4] ?_
     refine .plx Try.S hwn1 [1, 2, 3, 4] ?_
     refine ⟨(n1 + 1, _), ?_, ⟨by omega, by dsimp only; simp at hl2 ⊢; omega, hx1⟩, by dsimp only; omega⟩
     refine Goes.new0 1 9 (Nat.le_of_ble_eq_true rfl) ?_
     refine Goes.blk 20016 (.arr 34 1 false ([.ref 20005 1 0 b0.length (some unkC), .ref 20006 1 0 b1.length (some unkC), .ref 20007 1 0 b2.length (some unkC), .ref 20008 1 0 b3.length (some unkC), .ref 20009 1 0 b4.length (some unkC), .ref 20010 1 0 b5.length (some unkC), .ref 20011 1 0 b6.length (some unkC), .ref 20012 1 0 b7.length (some unkC), .ref 20013 1 0 b8.length (some unkC)] ++ [.imm 1 [] 0])) (.arr 34 1 false ([.ref 20005 1 0 b0.length (some unkC), .ref 20006 1 0 b1.length (some unkC), .ref 20007 1 0 b2.length (some unkC), .ref 20008 1 0 b3.length (some unkC), .ref 20009 1 0 b4.length (some unkC), .ref 20010 1 0 b5.length (some unkC), .ref 20011 1 0 b6.length (some unkC), .ref 20012 1 0 b7.length (some unkC), .ref 20013 1 0 b8.length (some unkC)] ++ [.ref 20017 1 0 0 (some unkC)])) rfl (fun _ hC h => holds_last [.ref 20005 1 0 b0.length (some unkC), .ref 20006 1 0 b1.length (some unkC), .ref 20007 1 0 b2.length (some unkC), .ref 20008 1 0 b3.length (some unkC), .ref 20009 1 0 b4.length (some unkC), .ref 20010 1 0 b5.length (some unkC), .ref 20011 1 0 b6.length (some unkC), .ref 20012 1 0 b7.length (some unkC), .ref 20013 1 0 b8.length (some unkC)] (fun _ hC _ h => rep_own0 hC _ _ _ _ (by decide) h) hC h) ?_
     exact .mx hE [1, 2, 3, 4] [20000, 20001, 20002, 20003, 20016, 20005, 20006, 20007, 20008, 20009, 20010, 20011, 20012, 20013, 20017] [(20016, 20004), (20017, 20014)]
    ·skip
     have hM : (a0.Logs[n1]).map D.str ≠ [] := by rw [hE]; simp
     refine .dx Try.S (And.intro (And.intro e1 hwn1) (And.intro (apc hM) apr)) [1, 2, 3, 4] ?_
     refine .plx Try.S hwn1 [1, 2, 3, 4] ?_
     refine ⟨(n1 + 1, _), ?_, ⟨by omega, by dsimp only; simp at hl2 ⊢; omega, hx1⟩, by dsimp only; omega⟩
     refine Goes.blk 20017 (.arr 34 1 false ([.ref 20005 1 0 b0.length (some unkC), .ref 20006 1 0 b1.length (some unkC), .ref 20007 1 0 b2.length (some unkC), .ref 20008 1 0 b3.length (some unkC), .ref 20009 1 0 b4.length (some unkC), .ref 20010 1 0 b5.length (some unkC), .ref 20011 1 0 b6.length (some unkC), .ref 20012 1 0 b7.length (some unkC), .ref 20013 1 0 b8.length (some unkC)] ++ [.ref 20015 1 0 (a0.Logs[n1]).length none])) (.arr 34 1 false ([.ref 20005 1 0 b0.length (some unkC), .ref 20006 1 0 b1.length (some unkC), .ref 20007 1 0 b2.length (some unkC), .ref 20008 1 0 b3.length (some unkC), .ref 20009 1 0 b4.length (some unkC), .ref 20010 1 0 b5.length (some unkC), .ref 20011 1 0 b6.length (some unkC), .ref 20012 1 0 b7.length (some unkC), .ref 20013 1 0 b8.length (some unkC)] ++ [.ref 20015 1 0 (a0.Logs[n1]).length (some unkC)])) rfl (fun _ hC h => holds_last [.ref 20005 1 0 b0.length (some unkC), .ref 20006 1 0 b1.length (some unkC), .ref 20007 1 0 b2.length (some unkC), .ref 20008 1 0 b3.length (some unkC), .ref 20009 1 0 b4.length (some unkC), .ref 20010 1 0 b5.length (some unkC), .ref 20011 1 0 b6.length (some unkC), .ref 20012 1 0 b7.length (some unkC), .ref 20013 1 0 b8.length (some unkC)] (fun C _ v h => Wk.unk _ _ _ _ _ C v h) hC h) ?_
     exact .m [1, 2, 3, 4] [20000, 20001, 20002, 20003, 20017, 20005, 20006, 20007, 20008, 20009, 20010, 20011, 20012, 20013, 20015] [(20017, 20004), (20015, 20014)]
   ·exact absurd hl2 (by simp only [List.length_cons]; omega)
  ·skip
   have h2 : n1 = a0.Logs.length := by have h2b := of_decide_eq_false hc1; omega
   rw [List.drop_of_length_le (by omega), m_towncrierref11_Twin_loop1_n] at hx1
   refine .exit ?_
   refine ⟨_, ?_, by omega, (Option.some.inj hx1).symm⟩
   exact .sub [2, 3] [20001, 20002, 20003, 20004, 20005, 20006, 20007, 20008, 20009, 20010, 20011, 20012, 20013, 20014]
 ·skip
  rintro l1 ⟨hl1, hj1⟩
  subst x1
  try dsimp only at h
  simp only [Try.St_towncrierref11_Twin_1]
  refine .seq ?_
  refine .pl Try.S [2, 3] ?_
  have hq := Option.some.inj h
  subst r
  have h4' : l1.length ≤ 10 := by omega
  refine .ret ⟨⟨[(2, .ptr 20020 0)], [(20002, .arr 67 5 true (a0.Votes.map TSeen.d)), (20020, .box [.ref 20001 1 0 l1.length (some unkC), .ref 20002 5 0 a0.Votes.length (some unkC)]), (20001, outb 20010 l1), (20010, inb l1 0), (20011, inb l1 1), (20012, inb l1 2), (20013, inb l1 3), (20014, inb l1 4), (20015, inb l1 5), (20016, inb l1 6), (20017, inb l1 7), (20018, inb l1 8), (20019, inb l1 9)], 20030⟩, ?_, .inr rfl, retH [20019, 20018, 20017, 20016, 20015, 20014, 20013, 20012, 20011, 20010, 20002, 20001] ?_ ?_⟩
  ·skip
   exact .mxq (hrenN [(20001, 20020), (20004, 20001), (20005, 20010), (20006, 20011), (20007, 20012), (20008, 20013), (20009, 20014), (20010, 20015), (20011, 20016), (20012, 20017), (20013, 20018), (20014, 20019)] 20005 20010 10 l1 h4' (by decide)) [2] [20002, 20001, 20004, 20005, 20006, 20007, 20008, 20009, 20010, 20011, 20012, 20013, 20014] [(20001, 20020), (20004, 20001), (20005, 20010), (20006, 20011), (20007, 20012), (20008, 20013), (20009, 20014), (20010, 20015), (20011, 20016), (20012, 20017), (20013, 20018), (20014, 20019)] [20002, 20001, 20004, 20005, 20006, 20007, 20008, 20009, 20010, 20011, 20012, 20013, 20014] (by intro i hi; simp only [go_sem, idsV, idsH, Blk.ids, D.ids, D.idsL, cond_false, cond_true, List.mem_append, List.mem_cons, List.not_mem_nil, or_false, false_or, List.nil_append, List.append_nil, List.cons_append, qrefs_mem, List.length_map, List.length_set, Nat.reduceBEq] at hi ⊢; omega)
  ·exact rsi0
  ·rfl
def Try.St_towncrierref11_Apply_1 (a0 : TStable) (a1 : TRecord) (n1 : Int) (n2 : Int) (s1 : List UInt8) (n3 : Int) : St := ⟨[(2, .ptr 0 0), (3, .ptr 1 0), (4, .ptr 2 0), (7, .ptr 3 0), (8, .int .i64 n3)], [(0, .box [.imm 1 (a0.Logs.map dL_str) 4, .imm 5 (a0.Votes.map TSeen.d) 4]), (1, .box [.int .u8 a1.Kind, .int .i64 a1.Group, .int .i64 a1.Slot, .int .i64 a1.Ballot, .str a1.Value]), (2, .box [.imm 0 [] 0, .imm 0 [] 0]), (3, .box [.int .i64 n1, .int .i64 n2, .str s1])], 4⟩
attribute [local go_sem] Try.St_towncrierref11_Apply_1
def Try.St_towncrierref11_Apply_3 (v7 : List TSeen) (l1 : LL) : St := ⟨[(4, .ptr 2 0), (9, .ptr 20060 0)], [(2, .box [.imm 0 [] 0, .imm 0 [] 0]), (20060, .box [.ref 20001 1 0 l1.length (some unkC), .ref 20061 5 0 v7.length (some unkC)]), (20061, .arr 67 5 true (v7.map TSeen.d)), (20001, outb 20110 l1), (20110, inb l1 0), (20111, inb l1 1), (20112, inb l1 2), (20113, inb l1 3)], 20160⟩
attribute [local go_sem] Try.St_towncrierref11_Apply_3
def Try.Re_towncrierref11_Apply (r : TStable × Int) : St := ⟨[(4, .ptr 2 0), (5, .int .i64 r.2)], [(20001, outb 20110 r.1.Logs), (20110, inb r.1.Logs 0), (20111, inb r.1.Logs 1), (20112, inb r.1.Logs 2), (20113, inb r.1.Logs 3), (20101, .arr 67 5 true (r.1.Votes.map TSeen.d)), (2, .box [.ref 20001 1 0 r.1.Logs.length (some unkC), .ref 20101 5 0 r.1.Votes.length (some unkC)])], 20200⟩
attribute [local go_sem] Try.Re_towncrierref11_Apply
theorem callH_towncrierref11_ApplyQ (a0 : TStable) (a1 : TRecord) (r : TStable × Int) (h : m_towncrierref11_Apply a0 a1 = some r) : CallH Try.prog 15 [.agg [.imm 1 (a0.Logs.map dL_str) 4, .imm 5 (a0.Votes.map TSeen.d) 4], .agg [.int .u8 a1.Kind, .int .i64 a1.Group, .int .i64 a1.Slot, .int .i64 a1.Ballot, .str a1.Value]] [] (.tuple [.agg [.ref 20001 1 0 r.1.Logs.length (some unkC), .ref 20101 5 0 r.1.Votes.length (some unkC)], .int .i64 r.2]) [(20001, some (outb 20110 r.1.Logs)), (20110, some (inb r.1.Logs 0)), (20111, some (inb r.1.Logs 1)), (20112, some (inb r.1.Logs 2)), (20113, some (inb r.1.Logs 3)), (20101, some (.arr 67 5 true (r.1.Votes.map TSeen.d)))] (0, 20200) := by
 refine callH_intro' Try.tmOk Try.func15 rfl (by decide) (Nat.le_of_ble_eq_true rfl) (by simp) ?_
 intro hwf
 unfold m_towncrierref11_Apply at h
 refine .ends 0 (Nat.le_refl _) ?_
 refine .seq ?_
 refine .pl Try.S [0, 1] ?_
 refine .seq ?_
 refine .seq ?_
 obtain ⟨v1, hv1, h⟩ := bind_some h
 obtain ⟨v2, hv2, h⟩ := bind_some h
 refine .rg Try.S [2, 3, 4] ?_
 refine .rn 1 ?_
 refine .call (r := .bool v1) rfl rfl rfl rfl rfl rfl (callP_towncrierref11_May a0 v1 hv1) ?_
 refine .rn 3 ?_
 refine .gcall (r := .bool v2) rfl rfl rfl rfl rfl (fun hg => ⟨[], [.agg [.int .u8 a1.Kind, .int .i64 a1.Group, .int .i64 a1.Slot, .int .i64 a1.Ballot, .str a1.Value]], _, rfl, gd hg, rfl, (callP_towncrierref10_May a1 v2 (ite_lc hv2 hg))⟩) ?_
 refine .rn 2 ?_
 refine .nil ⟨nofun, ?_⟩
 refine .cond rfl rfl (fun hc1 => ?_) (fun hc1 => ?_)
 ·skip
  replace h := ite_lc h hc1
  refine .seq ?_
  refine .pl Try.S [4] ?_
  have hq := Option.some.inj h
  subst r
  refine .ret ⟨Try.Re_towncrierref11_Apply ((⟨[], []⟩ : TStable), 8), ?_, .inr rfl, retH [20101, 20113, 20112, 20111, 20110, 20001] ?_ ?_⟩
  ·skip
   refine Goes.new0 1 34 (Nat.le_of_ble_eq_true rfl) ?_
   refine Goes.new0 5 67 (Nat.le_of_ble_eq_true rfl) ?_
   refine Goes.boxs 2 _ [.ref 3 1 0 0 (some unkC), .ref 4 5 0 0 (some unkC)] rfl (.cons (.own0 3 _ _ _ (by decide)) (.cons (.own0 4 _ _ _ (by decide)) (.refl _))) ?_
   refine Goes.pf 3 rfl ?_
   refine Goes.new0 1 9 (Nat.le_of_ble_eq_true rfl) ?_
   refine Goes.new0 1 9 (Nat.le_of_ble_eq_true rfl) ?_
   refine Goes.new0 1 9 (Nat.le_of_ble_eq_true rfl) ?_
   refine Goes.new0 1 9 (Nat.le_of_ble_eq_true rfl) ?_
   exact .m [4, 5] [3, 5, 6, 7, 8, 4, 2] [(3, 20001), (4, 20101), (5, 20110), (6, 20111), (7, 20112), (8, 20113)]
  ·exact rsi0
  ·rfl
 ·skip
  replace h := ite_rc h hc1
  refine .skip ?_
  refine .seq ?_
  refine .seq ?_
  refine .pl Try.S [2, 3, 4] ?_
  refine .cond rfl rfl (fun hc2 => ?_) (fun hc2 => ?_)
  ·skip
   replace h := ite_lc h hc2
   refine .seq ?_
   refine .pl Try.S [4] ?_
   have hq := Option.some.inj h
   subst r
   refine .ret ⟨Try.Re_towncrierref11_Apply ((⟨[], []⟩ : TStable), 6), ?_, .inr rfl, retH [20101, 20113, 20112, 20111, 20110, 20001] ?_ ?_⟩
   ·skip
    refine Goes.new0 1 34 (Nat.le_of_ble_eq_true rfl) ?_
    refine Goes.new0 5 67 (Nat.le_of_ble_eq_true rfl) ?_
    refine Goes.boxs 2 _ [.ref 3 1 0 0 (some unkC), .ref 4 5 0 0 (some unkC)] rfl (.cons (.own0 3 _ _ _ (by decide)) (.cons (.own0 4 _ _ _ (by decide)) (.refl _))) ?_
    refine Goes.pf 3 rfl ?_
    refine Goes.new0 1 9 (Nat.le_of_ble_eq_true rfl) ?_
    refine Goes.new0 1 9 (Nat.le_of_ble_eq_true rfl) ?_
    refine Goes.new0 1 9 (Nat.le_of_ble_eq_true rfl) ?_
    refine Goes.new0 1 9 (Nat.le_of_ble_eq_true rfl) ?_
    exact .m [4, 5] [3, 5, 6, 7, 8, 4, 2] [(3, 20001), (4, 20101), (5, 20110), (6, 20111), (7, 20112), (8, 20113)]
   ·exact rsi0
   ·rfl
  ·skip
   replace h := ite_rc h hc2
   refine .skip ?_
   refine .seq ?_
   obtain ⟨k1, h⟩ := ite_ck h
   have e1 := nth_mapI dL_str a0.Logs a1.Group
   replace e1 := e1 k1
   refine .plx Try.S e1 [2, 3, 4] ?_
   refine .seq ?_
   refine .seq ?_
   refine .rg Try.S [2, 3, 4, 6] ?_
   refine .rn 6 ?_
   refine .rn 6 ?_
   refine .rn 4 ?_
   refine .nil ⟨nofun, ?_⟩
   refine .cond rfl rfl (fun hc3 => ?_) (fun hc3 => ?_)
   ·skip
    replace h := ite_lc h hc3
    refine .seq ?_
    refine .pl Try.S [4] ?_
    have hq := Option.some.inj h
    subst r
    refine .ret ⟨Try.Re_towncrierref11_Apply ((⟨[], []⟩ : TStable), 8), ?_, .inr rfl, retH [20101, 20113, 20112, 20111, 20110, 20001] ?_ ?_⟩
    ·skip
     refine Goes.new0 1 34 (Nat.le_of_ble_eq_true rfl) ?_
     refine Goes.new0 5 67 (Nat.le_of_ble_eq_true rfl) ?_
     refine Goes.boxs 2 _ [.ref 3 1 0 0 (some unkC), .ref 4 5 0 0 (some unkC)] rfl (.cons (.own0 3 _ _ _ (by decide)) (.cons (.own0 4 _ _ _ (by decide)) (.refl _))) ?_
     refine Goes.pf 3 rfl ?_
     refine Goes.new0 1 9 (Nat.le_of_ble_eq_true rfl) ?_
     refine Goes.new0 1 9 (Nat.le_of_ble_eq_true rfl) ?_
     refine Goes.new0 1 9 (Nat.le_of_ble_eq_true rfl) ?_
     refine Goes.new0 1 9 (Nat.le_of_ble_eq_true rfl) ?_
     exact .m [4, 5] [3, 5, 6, 7, 8, 4, 2] [(3, 20001), (4, 20101), (5, 20110), (6, 20111), (7, 20112), (8, 20113)]
    ·exact rsi0
    ·rfl
   ·skip
    replace h := ite_rc h hc3
    refine .skip ?_
    refine .seq ?_
    obtain ⟨v3, hv3, h⟩ := bind_some h
    refine .rg Try.S [2, 3, 4] ?_
    refine .rn 6 ?_
    refine .call (r := .agg [.int .i64 v3.Promised, .int .i64 v3.Ballot, .str v3.Value]) rfl rfl rfl rfl rfl rfl (callP_towncrierref11_Vote a0.Votes a1.Group a1.Slot v3 hv3) ?_
    refine .rn 3 ?_
    refine .nil ⟨nofun, ?_⟩
    obtain ⟨x1, hx1, h⟩ := bind_some h
    refine .seqM 4 (fun (j : Int × Int × (List UInt8) × Int) => Try.St_towncrierref11_Apply_1 a0 a1 j.1 j.2.1 j.2.2.1 j.2.2.2) (fun j => x1 = j) (Nat.le_of_ble_eq_true rfl) ?_ ?_
    ·skip
     refine .seq ?_
     refine .pl Try.S [2, 3, 4, 7, 8] ?_
     refine .block ?_
     refine .seq ?_
     refine .pl Try.S [2, 3, 4, 7, 8, 58] ?_
     refine .cond rfl rfl (fun hc4 => ?_) (fun hc4 => ?_)
     ·skip
      replace hx1 := ite_lc hx1 hc4
      obtain ⟨v4, hv4, hx1⟩ := bind_some hx1
      refine .rg Try.S [2, 3, 4, 7] ?_
      refine .rn 3 ?_
      refine .call (r := .tuple [.agg [.int .i64 v4.1.Promised, .int .i64 v4.1.Ballot, .str v4.1.Value], .int .i64 v4.2]) rfl rfl rfl rfl rfl rfl (callP_towncrierref07_Prepare v3 a1.Ballot v4 hv4) ?_
      refine .rn 5 ?_
      refine .nil ⟨nofun, ?_⟩
      refine ⟨_, ?_, (Option.some.inj hx1).symm⟩
      exact .m [2, 3, 4, 7, 8] [0, 1, 2, 3] []
     ·skip
      replace hx1 := ite_rc hx1 hc4
      refine .seq ?_
      refine .pl Try.S [2, 3, 4, 7, 8, 58] ?_
      refine .cond rfl rfl (fun hc5 => ?_) (fun hc5 => ?_)
      ·skip
       replace hx1 := ite_lc hx1 hc5
       obtain ⟨v5, hv5, hx1⟩ := bind_some hx1
       refine .rg Try.S [2, 3, 4, 7] ?_
       refine .rn 5 ?_
       refine .call (r := .tuple [.agg [.int .i64 v5.1.Promised, .int .i64 v5.1.Ballot, .str v5.1.Value], .int .i64 v5.2]) rfl rfl rfl rfl rfl rfl (callP_towncrierref07_Accept v3 a1.Ballot a1.Value v5 hv5) ?_
       refine .rn 5 ?_
       refine .nil ⟨nofun, ?_⟩
       refine ⟨_, ?_, (Option.some.inj hx1).symm⟩
       exact .m [2, 3, 4, 7, 8] [0, 1, 2, 3] []
      ·skip
       replace hx1 := ite_rc hx1 hc5
       refine .seq ?_
       refine .pl Try.S [2, 3, 4, 7, 8, 58] ?_
       refine .cond rfl rfl (fun hc6 => ?_) (fun hc6 => ?_)
       ·skip
        replace hx1 := ite_lc hx1 hc6
        refine .pl Try.S [2, 3, 4, 7, 8] ?_
        refine ⟨_, ?_, (Option.some.inj hx1).symm⟩
        exact .m [2, 3, 4, 7, 8] [0, 1, 2, 3] []
       ·skip
        replace hx1 := ite_rc hx1 hc6
        refine .skip ?_
        refine ⟨_, ?_, (Option.some.inj hx1).symm⟩
        exact .m [2, 3, 4, 7, 8] [0, 1, 2, 3] []
    ·skip
     rintro ⟨n1, n2, s1, n3⟩ hj1
     subst x1
     try dsimp only at h
     simp only [Try.St_towncrierref11_Apply_1]
     refine .seq ?_
     refine .seq ?_
     refine .pl Try.S [2, 3, 4, 7, 8] ?_
     refine .cond rfl rfl (fun hc7 => ?_) (fun hc7 => ?_)
     ·skip
      replace h := ite_lc h hc7
      refine .seq ?_
      refine .pl Try.S [4, 8] ?_
      have hq := Option.some.inj h
      subst r
      refine .ret ⟨Try.Re_towncrierref11_Apply ((⟨[], []⟩ : TStable), n3), ?_, .inr rfl, retH [20101, 20113, 20112, 20111, 20110, 20001] ?_ ?_⟩
      ·skip
       refine Goes.new0 1 34 (Nat.le_of_ble_eq_true rfl) ?_
       refine Goes.new0 5 67 (Nat.le_of_ble_eq_true rfl) ?_
       refine Goes.boxs 2 _ [.ref 4 1 0 0 (some unkC), .ref 5 5 0 0 (some unkC)] rfl (.cons (.own0 4 _ _ _ (by decide)) (.cons (.own0 5 _ _ _ (by decide)) (.refl _))) ?_
       refine Goes.pf 4 rfl ?_
       refine Goes.new0 1 9 (Nat.le_of_ble_eq_true rfl) ?_
       refine Goes.new0 1 9 (Nat.le_of_ble_eq_true rfl) ?_
       refine Goes.new0 1 9 (Nat.le_of_ble_eq_true rfl) ?_
       refine Goes.new0 1 9 (Nat.le_of_ble_eq_true rfl) ?_
       exact .m [4, 5] [4, 6, 7, 8, 9, 5, 2] [(4, 20001), (5, 20101), (6, 20110), (7, 20111), (8, 20112), (9, 20113)]
      ·exact rsi0
      ·rfl
     ·skip
      replace h := ite_rc h hc7
      refine .skip ?_
      refine .seq ?_
      obtain ⟨v6, hv6, h⟩ := bind_some h
      refine .rg Try.S [2, 3, 4, 7] ?_
      refine .rn 1 ?_
      have hg4 := lens_ref11_May a0 (by
       have : v1 = true := by
        cases v1 with
        | true => rfl
        | false => simp at hc1
       exact this ▸ hv1)
      have htw : v6.Logs.length ≤ 4 ∧ ∀ k, (v6.Logs.getD k []).length ≤ 100000 := by
       rw [lens_ref11_Twin a0 v6 hv6]; exact hg4
      refine .hcall (H := []) (r := .agg [.ref 20001 1 0 v6.Logs.length (some unkC), .ref 20002 5 0 v6.Votes.length (some unkC)]) rfl rfl rfl rfl rfl (callH_towncrierref11_TwinQ a0 v6 (Nat.le_trans hg4.1 (by decide)) hv6) (fun id b h => by cases h) (by simp) (.inr ⟨Nat.le_of_ble_eq_true rfl, Nat.le_of_ble_eq_true rfl⟩) ?_
      refine .rn 2 ?_
      refine .nil ⟨nofun, ?_⟩
      refine .seq ?_
      obtain ⟨v7, hv7, h⟩ := bind_some h
      refine .rg Try.S [2, 3, 4, 7, 9] ?_
      refine .rn 8 ?_
      refine .ncall (r := .ref 20061 5 0 v7.length (some unkC)) (eff := [(20061, some (.arr 67 5 true (v7.map TSeen.d)))]) (nw := (20061, 20069)) [] rfl rfl rfl rfl rfl (lend2s_cons rfl (lend2s_cons rfl lend2s_nil)) rfl (callH_at 20061 (Nat.le_of_ble_eq_true rfl) (callH_towncrierref11_With a0.Votes (⟨a1.Group, a1.Slot, (⟨n1, n2, s1⟩ : TVote)⟩ : TSeen) v7 hv7)) (newE_cons rfl rfl (newB_arr pl0_TSeen _ _ _) newE_nil) (by intro i hi; simp [D.ids, D.idsL] at hi <;> omega) rfl ⟨Nat.le_of_ble_eq_true rfl, Nat.le_of_ble_eq_true rfl⟩ ?_
      refine .rn 2 ?_
      refine .nil ⟨nofun, ?_⟩
      obtain ⟨x2, hx2, h⟩ := bind_some h
      refine .seqM 20100 (fun (j : (List (List (List UInt8)))) => Try.St_towncrierref11_Apply_3 v7 j) (fun j => j.length ≤ 4 ∧ x2 = j) (Nat.le_of_ble_eq_true rfl) ?_ ?_
      ·skip
       refine .seq ?_
       refine .pl Try.S [3, 4, 9] ?_
       refine .cond rfl rfl (fun hc8 => ?_) (fun hc8 => ?_)
       ·skip
        replace hx2 := ite_lc hx2 hc8
        obtain ⟨k2, hx2⟩ := ite_ck hx2
        have kk := k2
        obtain ⟨h4, h5⟩ := htw
        have hx := (Option.some.inj hx2).symm
        clear h hx2 hv6
        obtain ⟨ls, vs⟩ := v6
        obtain ⟨kd, gr, sl, bl, vl⟩ := a1
        have hg : ∃ g : Nat, gr = (g : Int) := ⟨gr.toNat, by simp only at kk; omega⟩
        obtain ⟨g, rfl⟩ := hg
        have hgl : g < ls.length := by simp only at kk; omega
        rcases ls with _ | ⟨b0, _ | ⟨b1, _ | ⟨b2, _ | ⟨b3, _ | ⟨b4, bs⟩⟩⟩⟩⟩
        ·exact absurd hgl (Nat.not_lt_zero _)
        ·skip
         rcases g with _ | g
         ·skip
          have hb0 : b0.length ≤ 100000 := h5 0
          have hS : [b0].set 0 ([b0].getD 0 default ++ [vl]) = [b0 ++ [vl]] := rfl
          have hL : (b0 ++ [vl]).length = b0.length + 1 := by simp
          have hM : (b0 ++ [vl]).map D.str = b0.map D.str ++ [D.str vl] := by simp
          have hG : [b0 ++ [vl]].getD 0 [] = b0 ++ [vl] := rfl
          have hG0 : [b0].getD 0 [] = b0 := rfl
          have hle : (b0.length + 1) * 16 ≤ 140737488355328 := by omega
          refine .dr Try.S [3, 4, 9] ?_ (hv := by first | (simp [hG0, hle, nl0, nl1, nl2, nl3, oneD]; done) | (simp [hG0, nl0, nl1, nl2, nl3, oneD] <;> omega) | (dsimp only; simp only [hG0, hle, decide_true, beq_self_eq_true, Bool.and_self, Bool.true_and, Bool.and_true, Nat.reduceBEq, Bool.or_true, Bool.false_or, Bool.or_false, Bool.false_and]; done))
          refine ⟨_, ?_, by rw [List.length_set]; exact h4, hx⟩
          exact Goes.mx (And.intro hS (And.intro hL (And.intro hM (And.intro hG hG0)))) [4, 9] [2, 20060, 20061, 20001, 20070, 20011, 20012, 20013] [(20070, 20110), (20011, 20111), (20012, 20112), (20013, 20113)]
         ·exact absurd hgl (by simp only [List.length_cons, List.length_nil]; omega)
        ·skip
         rcases g with _ | g
         ·skip
          have hb0 : b0.length ≤ 100000 := h5 0
          have hb1 : b1.length ≤ 100000 := h5 1
          have hS : [b0, b1].set 0 ([b0, b1].getD 0 default ++ [vl]) = [b0 ++ [vl], b1] := rfl
          have hL : (b0 ++ [vl]).length = b0.length + 1 := by simp
          have hM : (b0 ++ [vl]).map D.str = b0.map D.str ++ [D.str vl] := by simp
          have hG : [b0 ++ [vl], b1].getD 0 [] = b0 ++ [vl] := rfl
          have hG0 : [b0, b1].getD 0 [] = b0 := rfl
          have hle : (b0.length + 1) * 16 ≤ 140737488355328 := by omega
          refine .dr Try.S [3, 4, 9] ?_ (hv := by first | (simp [hG0, hle, nl0, nl1, nl2, nl3, oneD]; done) | (simp [hG0, nl0, nl1, nl2, nl3, oneD] <;> omega) | (dsimp only; simp only [hG0, hle, decide_true, beq_self_eq_true, Bool.and_self, Bool.true_and, Bool.and_true, Nat.reduceBEq, Bool.or_true, Bool.false_or, Bool.or_false, Bool.false_and]; done))
          refine ⟨_, ?_, by rw [List.length_set]; exact h4, hx⟩
          exact Goes.mx (And.intro hS (And.intro hL (And.intro hM (And.intro hG hG0)))) [4, 9] [2, 20060, 20061, 20001, 20070, 20011, 20012, 20013] [(20070, 20110), (20011, 20111), (20012, 20112), (20013, 20113)]
         ·skip
          rcases g with _ | g
          ·skip
           have hb0 : b0.length ≤ 100000 := h5 0
           have hb1 : b1.length ≤ 100000 := h5 1
           have hS : [b0, b1].set 1 ([b0, b1].getD 1 default ++ [vl]) = [b0, b1 ++ [vl]] := rfl
           have hL : (b1 ++ [vl]).length = b1.length + 1 := by simp
           have hM : (b1 ++ [vl]).map D.str = b1.map D.str ++ [D.str vl] := by simp
           have hG : [b0, b1 ++ [vl]].getD 1 [] = b1 ++ [vl] := rfl
           have hG0 : [b0, b1].getD 1 [] = b1 := rfl
           have hle : (b1.length + 1) * 16 ≤ 140737488355328 := by omega
           refine .dr Try.S [3, 4, 9] ?_ (hv := by first | (simp [hG0, hle, nl0, nl1, nl2, nl3, oneD]; done) | (simp [hG0, nl0, nl1, nl2, nl3, oneD] <;> omega) | (dsimp only; simp only [hG0, hle, decide_true, beq_self_eq_true, Bool.and_self, Bool.true_and, Bool.and_true, Nat.reduceBEq, Bool.or_true, Bool.false_or, Bool.or_false, Bool.false_and]; done))
           refine ⟨_, ?_, by rw [List.length_set]; exact h4, hx⟩
           exact Goes.mx (And.intro hS (And.intro hL (And.intro hM (And.intro hG hG0)))) [4, 9] [2, 20060, 20061, 20001, 20010, 20070, 20012, 20013] [(20010, 20110), (20070, 20111), (20012, 20112), (20013, 20113)]
          ·exact absurd hgl (by simp only [List.length_cons, List.length_nil]; omega)
        ·skip
         rcases g with _ | g
         ·skip
          have hb0 : b0.length ≤ 100000 := h5 0
          have hb1 : b1.length ≤ 100000 := h5 1
          have hb2 : b2.length ≤ 100000 := h5 2
          have hS : [b0, b1, b2].set 0 ([b0, b1, b2].getD 0 default ++ [vl]) = [b0 ++ [vl], b1, b2] := rfl
          have hL : (b0 ++ [vl]).length = b0.length + 1 := by simp
          have hM : (b0 ++ [vl]).map D.str = b0.map D.str ++ [D.str vl] := by simp
          have hG : [b0 ++ [vl], b1, b2].getD 0 [] = b0 ++ [vl] := rfl
          have hG0 : [b0, b1, b2].getD 0 [] = b0 := rfl
          have hle : (b0.length + 1) * 16 ≤ 140737488355328 := by omega
          refine .dr Try.S [3, 4, 9] ?_ (hv := by first | (simp [hG0, hle, nl0, nl1, nl2, nl3, oneD]; done) | (simp [hG0, nl0, nl1, nl2, nl3, oneD] <;> omega) | (dsimp only; simp only [hG0, hle, decide_true, beq_self_eq_true, Bool.and_self, Bool.true_and, Bool.and_true, Nat.reduceBEq, Bool.or_true, Bool.false_or, Bool.or_false, Bool.false_and]; done))
          refine ⟨_, ?_, by rw [List.length_set]; exact h4, hx⟩
          exact Goes.mx (And.intro hS (And.intro hL (And.intro hM (And.intro hG hG0)))) [4, 9] [2, 20060, 20061, 20001, 20070, 20011, 20012, 20013] [(20070, 20110), (20011, 20111), (20012, 20112), (20013, 20113)]
         ·skip
          rcases g with _ | g
          ·skip
           have hb0 : b0.length ≤ 100000 := h5 0
           have hb1 : b1.length ≤ 100000 := h5 1
           have hb2 : b2.length ≤ 100000 := h5 2
           have hS : [b0, b1, b2].set 1 ([b0, b1, b2].getD 1 default ++ [vl]) = [b0, b1 ++ [vl], b2] := rfl
           have hL : (b1 ++ [vl]).length = b1.length + 1 := by simp
           have hM : (b1 ++ [vl]).map D.str = b1.map D.str ++ [D.str vl] := by simp
           have hG : [b0, b1 ++ [vl], b2].getD 1 [] = b1 ++ [vl] := rfl
           have hG0 : [b0, b1, b2].getD 1 [] = b1 := rfl
           have hle : (b1.length + 1) * 16 ≤ 140737488355328 := by omega
           refine .dr Try.S [3, 4, 9] ?_ (hv := by first | (simp [hG0, hle, nl0, nl1, nl2, nl3, oneD]; done) | (simp [hG0, nl0, nl1, nl2, nl3, oneD] <;> omega) | (dsimp only; simp only [hG0, hle, decide_true, beq_self_eq_true, Bool.and_self, Bool.true_and, Bool.and_true, Nat.reduceBEq, Bool.or_true, Bool.false_or, Bool.or_false, Bool.false_and]; done))
           refine ⟨_, ?_, by rw [List.length_set]; exact h4, hx⟩
           exact Goes.mx (And.intro hS (And.intro hL (And.intro hM (And.intro hG hG0)))) [4, 9] [2, 20060, 20061, 20001, 20010, 20070, 20012, 20013] [(20010, 20110), (20070, 20111), (20012, 20112), (20013, 20113)]
          ·skip
           rcases g with _ | g
           ·skip
            have hb0 : b0.length ≤ 100000 := h5 0
            have hb1 : b1.length ≤ 100000 := h5 1
            have hb2 : b2.length ≤ 100000 := h5 2
            have hS : [b0, b1, b2].set 2 ([b0, b1, b2].getD 2 default ++ [vl]) = [b0, b1, b2 ++ [vl]] := rfl
            have hL : (b2 ++ [vl]).length = b2.length + 1 := by simp
            have hM : (b2 ++ [vl]).map D.str = b2.map D.str ++ [D.str vl] := by simp
            have hG : [b0, b1, b2 ++ [vl]].getD 2 [] = b2 ++ [vl] := rfl
            have hG0 : [b0, b1, b2].getD 2 [] = b2 := rfl
            have hle : (b2.length + 1) * 16 ≤ 140737488355328 := by omega
            refine .dr Try.S [3, 4, 9] ?_ (hv := by first | (simp [hG0, hle, nl0, nl1, nl2, nl3, oneD]; done) | (simp [hG0, nl0, nl1, nl2, nl3, oneD] <;> omega) | (dsimp only; simp only [hG0, hle, decide_true, beq_self_eq_true, Bool.and_self, Bool.true_and, Bool.and_true, Nat.reduceBEq, Bool.or_true, Bool.false_or, Bool.or_false, Bool.false_and]; done))
            refine ⟨_, ?_, by rw [List.length_set]; exact h4, hx⟩
            exact Goes.mx (And.intro hS (And.intro hL (And.intro hM (And.intro hG hG0)))) [4, 9] [2, 20060, 20061, 20001, 20010, 20011, 20070, 20013] [(20010, 20110), (20011, 20111), (20070, 20112), (20013, 20113)]
           ·exact absurd hgl (by simp only [List.length_cons, List.length_nil]; omega)
        ·skip
         rcases g with _ | g
         ·skip
          have hb0 : b0.length ≤ 100000 := h5 0
          have hb1 : b1.length ≤ 100000 := h5 1
          have hb2 : b2.length ≤ 100000 := h5 2
          have hb3 : b3.length ≤ 100000 := h5 3
          have hS : [b0, b1, b2, b3].set 0 ([b0, b1, b2, b3].getD 0 default ++ [vl]) = [b0 ++ [vl], b1, b2, b3] := rfl
          have hL : (b0 ++ [vl]).length = b0.length + 1 := by simp
          have hM : (b0 ++ [vl]).map D.str = b0.map D.str ++ [D.str vl] := by simp
          have hG : [b0 ++ [vl], b1, b2, b3].getD 0 [] = b0 ++ [vl] := rfl
          have hG0 : [b0, b1, b2, b3].getD 0 [] = b0 := rfl
          have hle : (b0.length + 1) * 16 ≤ 140737488355328 := by omega
          refine .dr Try.S [3, 4, 9] ?_ (hv := by first | (simp [hG0, hle, nl0, nl1, nl2, nl3, oneD]; done) | (simp [hG0, nl0, nl1, nl2, nl3, oneD] <;> omega) | (dsimp only; simp only [hG0, hle, decide_true, beq_self_eq_true, Bool.and_self, Bool.true_and, Bool.and_true, Nat.reduceBEq, Bool.or_true, Bool.false_or, Bool.or_false, Bool.false_and]; done))
          refine ⟨_, ?_, by rw [List.length_set]; exact h4, hx⟩
          exact Goes.mx (And.intro hS (And.intro hL (And.intro hM (And.intro hG hG0)))) [4, 9] [2, 20060, 20061, 20001, 20070, 20011, 20012, 20013] [(20070, 20110), (20011, 20111), (20012, 20112), (20013, 20113)]
         ·skip
          rcases g with _ | g
          ·skip
           have hb0 : b0.length ≤ 100000 := h5 0
           have hb1 : b1.length ≤ 100000 := h5 1
           have hb2 : b2.length ≤ 100000 := h5 2
           have hb3 : b3.length ≤ 100000 := h5 3
           have hS : [b0, b1, b2, b3].set 1 ([b0, b1, b2, b3].getD 1 default ++ [vl]) = [b0, b1 ++ [vl], b2, b3] := rfl
           have hL : (b1 ++ [vl]).length = b1.length + 1 := by simp
           have hM : (b1 ++ [vl]).map D.str = b1.map D.str ++ [D.str vl] := by simp
           have hG : [b0, b1 ++ [vl], b2, b3].getD 1 [] = b1 ++ [vl] := rfl
           have hG0 : [b0, b1, b2, b3].getD 1 [] = b1 := rfl
           have hle : (b1.length + 1) * 16 ≤ 140737488355328 := by omega
           refine .dr Try.S [3, 4, 9] ?_ (hv := by first | (simp [hG0, hle, nl0, nl1, nl2, nl3, oneD]; done) | (simp [hG0, nl0, nl1, nl2, nl3, oneD] <;> omega) | (dsimp only; simp only [hG0, hle, decide_true, beq_self_eq_true, Bool.and_self, Bool.true_and, Bool.and_true, Nat.reduceBEq, Bool.or_true, Bool.false_or, Bool.or_false, Bool.false_and]; done))
           refine ⟨_, ?_, by rw [List.length_set]; exact h4, hx⟩
           exact Goes.mx (And.intro hS (And.intro hL (And.intro hM (And.intro hG hG0)))) [4, 9] [2, 20060, 20061, 20001, 20010, 20070, 20012, 20013] [(20010, 20110), (20070, 20111), (20012, 20112), (20013, 20113)]
          ·skip
           rcases g with _ | g
           ·skip
            have hb0 : b0.length ≤ 100000 := h5 0
            have hb1 : b1.length ≤ 100000 := h5 1
            have hb2 : b2.length ≤ 100000 := h5 2
            have hb3 : b3.length ≤ 100000 := h5 3
            have hS : [b0, b1, b2, b3].set 2 ([b0, b1, b2, b3].getD 2 default ++ [vl]) = [b0, b1, b2 ++ [vl], b3] := rfl
            have hL : (b2 ++ [vl]).length = b2.length + 1 := by simp
            have hM : (b2 ++ [vl]).map D.str = b2.map D.str ++ [D.str vl] := by simp
            have hG : [b0, b1, b2 ++ [vl], b3].getD 2 [] = b2 ++ [vl] := rfl
            have hG0 : [b0, b1, b2, b3].getD 2 [] = b2 := rfl
            have hle : (b2.length + 1) * 16 ≤ 140737488355328 := by omega
            refine .dr Try.S [3, 4, 9] ?_ (hv := by first | (simp [hG0, hle, nl0, nl1, nl2, nl3, oneD]; done) | (simp [hG0, nl0, nl1, nl2, nl3, oneD] <;> omega) | (dsimp only; simp only [hG0, hle, decide_true, beq_self_eq_true, Bool.and_self, Bool.true_and, Bool.and_true, Nat.reduceBEq, Bool.or_true, Bool.false_or, Bool.or_false, Bool.false_and]; done))
            refine ⟨_, ?_, by rw [List.length_set]; exact h4, hx⟩
            exact Goes.mx (And.intro hS (And.intro hL (And.intro hM (And.intro hG hG0)))) [4, 9] [2, 20060, 20061, 20001, 20010, 20011, 20070, 20013] [(20010, 20110), (20011, 20111), (20070, 20112), (20013, 20113)]
           ·skip
            rcases g with _ | g
            ·skip
             have hb0 : b0.length ≤ 100000 := h5 0
             have hb1 : b1.length ≤ 100000 := h5 1
             have hb2 : b2.length ≤ 100000 := h5 2
             have hb3 : b3.length ≤ 100000 := h5 3
             have hS : [b0, b1, b2, b3].set 3 ([b0, b1, b2, b3].getD 3 default ++ [vl]) = [b0, b1, b2, b3 ++ [vl]] := rfl
             have hL : (b3 ++ [vl]).length = b3.length + 1 := by simp
             have hM : (b3 ++ [vl]).map D.str = b3.map D.str ++ [D.str vl] := by simp
             have hG : [b0, b1, b2, b3 ++ [vl]].getD 3 [] = b3 ++ [vl] := rfl
             have hG0 : [b0, b1, b2, b3].getD 3 [] = b3 := rfl
             have hle : (b3.length + 1) * 16 ≤ 140737488355328 := by omega
             refine .dr Try.S [3, 4, 9] ?_ (hv := by first | (simp [hG0, hle, nl0, nl1, nl2, nl3, oneD]; done) | (simp [hG0, nl0, nl1, nl2, nl3, oneD] <;> omega) | (dsimp only; simp only [hG0, hle, decide_true, beq_self_eq_true, Bool.and_self, Bool.true_and, Bool.and_true, Nat.reduceBEq, Bool.or_true, Bool.false_or, Bool.or_false, Bool.false_and]; done))
             refine ⟨_, ?_, by rw [List.length_set]; exact h4, hx⟩
             exact Goes.mx (And.intro hS (And.intro hL (And.intro hM (And.intro hG hG0)))) [4, 9] [2, 20060, 20061, 20001, 20010, 20011, 20012, 20070] [(20010, 20110), (20011, 20111), (20012, 20112), (20070, 20113)]
            ·exact absurd hgl (by simp only [List.length_cons, List.length_nil]; omega)
        ·exact absurd h4 (by simp only [List.length_cons]; omega)
       ·skip
        replace hx2 := ite_rc hx2 hc8
        refine .skip ?_
        refine ⟨_, ?_, htw.1, (Option.some.inj hx2).symm⟩
        exact .mxq (hrenQ [(20010, 20110), (20011, 20111), (20012, 20112), (20013, 20113)] 20010 20110 v6.Logs htw.1 (by decide)) [4, 9] [2, 20060, 20061, 20001, 20010, 20011, 20012, 20013] [(20010, 20110), (20011, 20111), (20012, 20112), (20013, 20113)] [2, 20060, 20061, 20001, 20010, 20011, 20012, 20013] (by intro i hi; simp only [go_sem, idsV, idsH, Blk.ids, D.ids, D.idsL, cond_false, cond_true, List.mem_append, List.mem_cons, List.not_mem_nil, or_false, false_or, List.nil_append, List.append_nil, List.cons_append, qrefs_mem, List.length_map, List.length_set, Nat.reduceBEq] at hi ⊢; omega)
      ·skip
       rintro l1 ⟨hl1, hj2⟩
       subst x2
       try dsimp only at h
       simp only [Try.St_towncrierref11_Apply_3]
       refine .seq ?_
       refine .pl Try.S [4, 9] ?_
       have hq := Option.some.inj h
       subst r
       refine .ret ⟨Try.Re_towncrierref11_Apply ((⟨l1, v7⟩ : TStable), 0), ?_, .inr rfl, retH [20101, 20113, 20112, 20111, 20110, 20001] ?_ ?_⟩
       ·skip
        exact .mxq (hrenQ [(20061, 20101)] 20110 20110 l1 hl1 (by decide)) [4, 5] [20001, 20110, 20111, 20112, 20113, 20061, 2] [(20061, 20101)] [20001, 20110, 20111, 20112, 20113, 20061, 2] (by intro i hi; simp only [go_sem, idsV, idsH, Blk.ids, D.ids, D.idsL, cond_false, cond_true, List.mem_append, List.mem_cons, List.not_mem_nil, or_false, false_or, List.nil_append, List.append_nil, List.cons_append, qrefs_mem, List.length_map, List.length_set, Nat.reduceBEq] at hi ⊢; omega)
       ·exact rsi0
       ·rfl
theorem callP_towncrierref11_Twin (a0 : TStable) (r : TStable) (h4 : a0.Logs.length ≤ 10) (h : m_towncrierref11_Twin a0 = some r) : CallP Try.prog 14 [.agg [.imm 1 (a0.Logs.map dL_str) 4, .imm 5 (a0.Votes.map TSeen.d) 4]] (.agg [.imm 1 (r.Logs.map dL_str) 12, .imm 5 (r.Votes.map TSeen.d) 12]) :=
 callP_frzR (.agg (.cons (FrzR.nest plL_str rfl rfl (fun i hi => by
  have e := congrArg List.length (lens_ref11_Twin a0 r h)
  rcases (by omega : i = 0 ∨ i = 1 ∨ i = 2 ∨ i = 3 ∨ i = 4 ∨ i = 5 ∨ i = 6 ∨ i = 7 ∨ i = 8 ∨ i = 9) with rfl | rfl | rfl | rfl | rfl | rfl | rfl | rfl | rfl | rfl <;> rfl)) (.cons (.of (frz_ref0 pl0_TSeen rfl rfl)) .nil))) rfl (callH_towncrierref11_TwinQ a0 r h4 h)
theorem callP_towncrierref11_Apply (a0 : TStable) (a1 : TRecord) (r : TStable × Int) (h : m_towncrierref11_Apply a0 a1 = some r) : CallP Try.prog 15 [.agg [.imm 1 (a0.Logs.map dL_str) 4, .imm 5 (a0.Votes.map TSeen.d) 4], .agg [.int .u8 a1.Kind, .int .i64 a1.Group, .int .i64 a1.Slot, .int .i64 a1.Ballot, .str a1.Value]] (.tuple [.agg [.imm 1 (r.1.Logs.map dL_str) 12, .imm 5 (r.1.Votes.map TSeen.d) 12], .int .i64 r.2]) :=
 callP_frzR (FrzR.tup (.cons (.agg (.cons (FrzR.nest plL_str rfl rfl (fun i hi => by
  have h4 := lens_ref11_Apply a0 a1 r h
  rcases (by omega : i = 0 ∨ i = 1 ∨ i = 2 ∨ i = 3) with rfl | rfl | rfl | rfl <;> rfl)) (.cons (.of (frz_ref0 pl0_TSeen rfl rfl)) .nil))) (.cons (.of rfl) .nil))) rfl (callH_towncrierref11_ApplyQ a0 a1 r h)
end Go.Proofs
end
section
namespace Go.Proofs
open Go.Tm Go.RowKit Go.WideShapes
set_option maxRecDepth 100000
set_option maxHeartbeats 4000000
set_option linter.unusedSimpArgs false
set_option linter.unusedVariables false
attribute [local go_sem] argVars runE runK isCallV stepE aop opd opdsL opds opdO ev ofVal keep List.any natbeq Bool.false_or Bool.true_or aggEq cond_true cond_false Bool.cond_false_right Bool.cond_true_left beq_true beq_false imp_self implies_true getR getL put St.app effL del nwB blt_dec Nat.lt_irrefl Nat.lt_add_one ble_dec Nat.le_refl Nat.beq_refl roomNZ appendIn capS capK mkZ_zero mkZL_zero zeroEl D.ids D.idsL bin arith sarith binT dpick Tm.part splice fillD oneD loadD storeD srcD sliceD idxOk decide_true gval dstAt D.cells List.map_cons List.map_nil List.take List.drop List.length_map List.append Int.toNat_natCast and_true true_and decide_false List.length_cons List.length_nil List.append_nil List.nil_append Bool.and_true Bool.true_and Bool.not_false Bool.not_true ne_eq not_false_eq_true BEq.rfl List.getElem?_cons_zero List.getElem?_cons_succ List.getElem?_nil Nat.zero_add List.all_cons List.all_nil List.isEmpty_cons List.isEmpty_nil Option.getD_some Option.getD_none List.any_cons List.any_nil List.drop_succ_cons List.drop_zero unfL unf okM okML low3 List.cons_append true_or or_true Nat.zero_mul Nat.zero_le findD_int findD_str  getD_int getD_str getD_bool Option.isSome_map keyD List.length_replicate List.map_replicate setEl List.length_set bytesD_map map_ub mx_len mkZ_one mkZL_one mkM mkML mk1_int mk1_str mk1_bool drop_map take_map take_map_len List.take_length Int.toNat_zero toNat_pred fpOf metIds opIds mvV mvH mvF pickL D.ren D.renL Blk.ren List.map_append List.length_append Bool.not_not Bool.or_not_self Bool.not_or_self Bool.or_true
attribute [local go_sem] Try.tm_1 Try.tm_2 Try.tm_3 Try.tm_4 Try.tm_5 Try.tm_6 Try.tm_7 Try.tm_8 Try.tm_9 Try.tm_10 Try.tm_11 Try.tm_12 Try.tm_13 Try.tm_14 Try.tm_15 Try.tm_16 Try.tm_17 Try.tm_18 Try.tm_19 Try.tm_20 Try.tm_21 Try.tm_22 Try.tm_23 Try.tm_24 Try.tm_25 Try.tm_26 Try.tm_27 Try.tm_28 Try.tm_29 Try.tm_30 Try.tm_32 Try.tm_33 Try.tm_34 Try.tm_35 Try.tm_36 Try.tm_37 Try.tm_39 Try.tm_40 Try.tm_41 Try.tm_43 Try.tm_45 Try.tm_46 Try.tm_47 Try.tm_48 Try.tm_49 Try.tm_50 Try.tm_51 Try.tm_52 Try.tm_53 Try.tm_55 Try.tm_57 Try.tm_58 Try.tm_60 Try.tm_61 Try.tm_63 Try.tm_64 Try.tm_65 Try.tm_66 Try.tm_67 Try.tm_68 Try.tm_69 Try.tm_70 Try.tm_71 Try.tm_72 Try.tm_73 Try.tm_74 Try.tm_76 Try.tm_77 Try.tm_78 Try.tm_79 Try.tm_80 Try.tm_81 Try.tm_82 Try.tm_83 Try.tm_84 Try.tm_85 Try.tm_86 Try.tm_87 Try.tm_89 Try.tm_91 Try.tm_92 Try.tm_93 Try.tm_94 Try.tm_95 Try.tm_96 Try.tm_98 Try.tm_99 Try.tm_101 Try.tm_103 Try.tm_104 Try.tm_105 Try.tm_106 Try.tm_107 Try.tm_108 Try.tm_109 Try.tm_110 Try.tm_111 Try.tm_112 Try.tm_113 Try.tm_114 Try.tm_115 Try.tm_116 Try.tm_117 Try.tm_118 Try.tm_119 Try.tm_120 Try.tm_121 Try.tm_123 Try.tm_124 Try.tm_125 Try.tm_126 Try.tm_127 Try.tm_128 Try.tm_129 Try.tm_130 Try.tm_132 Try.tm_134 Try.tm_135 Try.tm_136 Try.tm_137 Try.tm_138 Try.tm_139 Try.tm_140 Try.tm_143 Try.tm_144 Try.tm_145 Try.tm_146 Try.tm_147 Try.tm_148 Try.tm_149 Try.tm_150 Try.tm_151 dL_str nL_str TVote.d TSeen.d TStable.d TStable.n TRecord.d mk1_dL_str mk1_TVote mk1_TSeen mk1_TStable mk1_TRecord Try.f86 Try.f70 Try.f69 Try.f38 Try.f39 Try.f68 Try.f35 Try.f36 Try.f37 Try.f61 Try.f33 Try.f11 Try.f23 Try.f13 Try.f46 Try.f45 Try.f17 Try.f52 Try.f53 Try.f51 Try.f20 Try.f49 Try.f40 Try.f50 Try.f48 Try.f19 Try.f24 Try.f12 Try.f47 Try.f18 Try.f41 Try.f44 Try.f16 Try.f22 Try.f9 Try.f83 Try.f64 Try.f65 Try.f72 Try.f42 Try.f43
attribute [local go_sem] qrefs outb inb
def Try.St_QU1 (v1 : List TSeen) (l1 : LL) : St := ⟨[(2, .ptr 20301 0), (3, .ptr 20306 0)], [(20301, .box [.imm 0 [] 0, .imm 0 [] 0]), (20303, .arr 67 5 true (v1.map TSeen.d)), (20306, .box [.ref 20307 1 0 l1.length (some unkC), .ref 20303 5 0 v1.length (some unkC)]), (20307, outb 20308 l1), (20308, inb l1 0), (20309, inb l1 1), (20310, inb l1 2), (20311, inb l1 3), (20312, inb l1 4), (20313, inb l1 5), (20314, inb l1 6), (20315, inb l1 7), (20316, inb l1 8), (20317, inb l1 9)], 20318⟩
attribute [local go_sem] Try.St_QU1
def Try.St_QU3 (a0 : TStable) (v1 : List TSeen) (n1 : Nat) (l2 : LL) : St := ⟨[(2, .ptr 20301 0), (3, .ptr 20306 0), (11, .imm 1 (a0.Logs.map dL_str) 4), (12, .int .i64 (a0.Logs.length : Int)), (13, .int .i64 (n1 : Int))], [(20301, .box [.imm 0 [] 0, .imm 0 [] 0]), (20303, .arr 67 5 true (v1.map TSeen.d)), (20306, .box [.ref 20307 1 0 l2.length (some unkC), .ref 20303 5 0 v1.length (some unkC)]), (20307, outb 20308 l2), (20308, inb l2 0), (20309, inb l2 1), (20310, inb l2 2), (20311, inb l2 3), (20312, inb l2 4), (20313, inb l2 5), (20314, inb l2 6), (20315, inb l2 7), (20316, inb l2 8), (20317, inb l2 9)], 20318⟩
attribute [local go_sem] Try.St_QU3
theorem callH_stable_TwinU (a0 : TStable) (r : TStable) (h4 : a0.Logs.length ≤ 10) (h : m_stable_Twin a0 = some r) : CallH Try.prog 17 [.agg [.imm 1 (a0.Logs.map dL_str) 4, .imm 5 (a0.Votes.map TSeen.d) 4]] [] (.agg [.ref 20301 1 0 r.Logs.length (some unkC), .ref 20302 5 0 r.Votes.length (some unkC)]) [(20301, some (outb 20310 r.Logs)), (20310, some (inb r.Logs 0)), (20311, some (inb r.Logs 1)), (20312, some (inb r.Logs 2)), (20313, some (inb r.Logs 3)), (20314, some (inb r.Logs 4)), (20315, some (inb r.Logs 5)), (20316, some (inb r.Logs 6)), (20317, some (inb r.Logs 7)), (20318, some (inb r.Logs 8)), (20319, some (inb r.Logs 9)), (20302, some (.arr 67 5 true (r.Votes.map TSeen.d)))] (20300, 20360) := by
 refine callH_intro' Try.tmOk Try.func17 rfl (by decide) (Nat.le_of_ble_eq_true rfl) (by simp) ?_
 intro hwf
 unfold m_stable_Twin at h
 refine .ends 20300 (Nat.le_refl _) ?_
 refine .seq ?_
 refine .pl Try.S [0] ?_
 refine .seq ?_
 obtain ⟨v1, hv1, h⟩ := bind_some h
 refine .rg Try.S [1, 2] ?_
 refine .rn 2 ?_
 refine .ncall (r := .ref 20303 5 0 v1.length (some unkC)) (eff := [(20303, some (.arr 67 5 true (v1.map TSeen.d)))]) (nw := (20303, 20306)) [] rfl rfl rfl rfl rfl (lend2s_cons rfl lend2s_nil) rfl (callH_at 20303 (Nat.le_of_ble_eq_true rfl) (callH_slices_Clone_Seen_Seen a0.Votes v1 hv1)) (newE_cons rfl rfl (newB_arr pl0_TSeen _ _ _) newE_nil) (by intro i hi; simp [D.ids, D.idsL] at hi <;> omega) rfl ⟨Nat.le_of_ble_eq_true rfl, Nat.le_of_ble_eq_true rfl⟩ ?_
 refine .rn 3 ?_
 refine .nil ⟨nofun, ?_⟩
 obtain ⟨x1, hx1, h⟩ := bind_some h
 refine .seqM 20307 (fun (j : LL) => Try.St_QU1 v1 j) (fun j => j.length ≤ a0.Logs.length ∧ x1 = j) (Nat.le_of_ble_eq_true rfl) ?_ ?_
 ·skip
  refine .seq ?_
  refine .pl Try.S [1, 2, 3] ?_
  refine .block ?_
  refine .loopG 20307 (fun (j : Nat × LL) => Try.St_QU3 a0 v1 j.1 j.2) (fun j => j.1 ≤ a0.Logs.length ∧ j.2.length = j.1 ∧ m_stable_Twin_loop1 (a0.Logs.drop j.1) j.2 = some x1) (fun j => a0.Logs.length - j.1) (0, []) (Nat.le_of_ble_eq_true rfl) ?_ ⟨Nat.zero_le _, rfl, hx1⟩ ?_
  ·skip
   refine Goes.new0 1 34 (Nat.le_of_ble_eq_true rfl) ?_
   refine Goes.boxs 20306 _ [.ref 20307 1 0 0 (some unkC), .ref 20303 5 0 v1.length (some unkC)] rfl (.cons (.own0 20307 _ _ _ (by decide)) (.refl _)) ?_
   refine Goes.pf 20307 rfl ?_
   refine Goes.new0 1 9 (Nat.le_of_ble_eq_true rfl) ?_
   refine Goes.new0 1 9 (Nat.le_of_ble_eq_true rfl) ?_
   refine Goes.new0 1 9 (Nat.le_of_ble_eq_true rfl) ?_
   refine Goes.new0 1 9 (Nat.le_of_ble_eq_true rfl) ?_
   refine Goes.new0 1 9 (Nat.le_of_ble_eq_true rfl) ?_
   refine Goes.new0 1 9 (Nat.le_of_ble_eq_true rfl) ?_
   refine Goes.new0 1 9 (Nat.le_of_ble_eq_true rfl) ?_
   refine Goes.new0 1 9 (Nat.le_of_ble_eq_true rfl) ?_
   refine Goes.new0 1 9 (Nat.le_of_ble_eq_true rfl) ?_
   refine Goes.new0 1 9 (Nat.le_of_ble_eq_true rfl) ?_
   exact .sub [2, 3, 11, 12, 13] [20301, 20303, 20306, 20307, 20308, 20309, 20310, 20311, 20312, 20313, 20314, 20315, 20316, 20317]
  rintro ⟨n1, l2⟩ ⟨hi1, hl2, hx1⟩
  simp only [Try.St_QU3]
  simp only at hi1 hl2 hx1
  refine .wf 12 (.int .i64 (a0.Logs.length : Int)) rfl ?_
  intro hln1
  replace hln1 : (a0.Logs.length : Int) ≤ 9223372036854775807 := by omega
  refine .seq ?_
  refine .pl Try.S [2, 3, 11, 12, 13] ?_
  refine .seq ?_
  refine .cond rfl rfl (fun hc1 => ?_) (fun hc1 => ?_)
  ·skip
   have h1 : n1 < a0.Logs.length := by simpa using hc1
   have hwn1 : wr .i64 ((n1 : Int) + 1) = ((n1 + 1 : Nat) : Int) := wr_succ h1 hln1
   have hpn1 : wr .i64 ((n1 : Int) - 1) = (n1 : Int) - 1 := wr_pred h1 hln1
   rw [List.drop_eq_getElem_cons h1, m_stable_Twin_loop1_c] at hx1
   refine .skip ?_
   refine .seq ?_
   refine .block ?_
   refine .seq ?_
   have e1 := nth_map dL_str a0.Logs n1 h1
   refine .plx Try.S (And.intro e1 hwn1) [2, 3, 11, 12, 13] ?_
   obtain ⟨v2, hv2, hx1⟩ := bind_some hx1
   obtain ⟨k1, hx1⟩ := ite_ck hx1
   rcases l2 with _ | ⟨b0, _ | ⟨b1, _ | ⟨b2, _ | ⟨b3, _ | ⟨b4, _ | ⟨b5, _ | ⟨b6, _ | ⟨b7, _ | ⟨b8, _ | ⟨b9, bs⟩⟩⟩⟩⟩⟩⟩⟩⟩⟩
   ·skip
    refine .rg Try.S [2, 3, 5, 11, 12, 13] ?_
    refine .rdx 3 hwn1 ?_
    refine .ncall (r := .ref 20318 1 0 v2.length (some unkC)) (eff := [(20318, some (.arr 9 1 true (v2.map D.str)))]) (nw := (20318, 20321)) [] rfl rfl rfl rfl rfl (lend2s_cons rfl lend2s_nil) rfl (callH_at 20318 (Nat.le_of_ble_eq_true rfl) (callH_slices_Clone_string_string (a0.Logs[n1]) v2 hv2)) (newE_cons rfl rfl (newB_arr pl0_str _ _ _) newE_nil) (by intro i hi; simp [D.ids, D.idsL] at hi <;> omega) rfl ⟨Nat.le_of_ble_eq_true rfl, Nat.le_of_ble_eq_true rfl⟩ ?_
    refine .rdx 4 hwn1 ?_
    refine .nil ⟨fun _ => schedB_of (by kernel_rfl), ?_⟩
    refine .plx Try.S hwn1 [2, 3, 11, 12, 13] ?_
    refine ⟨(n1 + 1, _), ?_, ⟨by omega, by dsimp only; simp at hl2 ⊢; omega, hx1⟩, by dsimp only; omega⟩
    exact .m [2, 3, 11, 12, 13] [20301, 20303, 20306, 20322, 20318, 20309, 20310, 20311, 20312, 20313, 20314, 20315, 20316, 20317] [(20322, 20307), (20318, 20308)]
   ·skip
    refine .rg Try.S [2, 3, 5, 11, 12, 13] ?_
    refine .rdx 3 hwn1 ?_
    refine .ncall (r := .ref 20318 1 0 v2.length (some unkC)) (eff := [(20318, some (.arr 9 1 true (v2.map D.str)))]) (nw := (20318, 20321)) [] rfl rfl rfl rfl rfl (lend2s_cons rfl lend2s_nil) rfl (callH_at 20318 (Nat.le_of_ble_eq_true rfl) (callH_slices_Clone_string_string (a0.Logs[n1]) v2 hv2)) (newE_cons rfl rfl (newB_arr pl0_str _ _ _) newE_nil) (by intro i hi; simp [D.ids, D.idsL] at hi <;> omega) rfl ⟨Nat.le_of_ble_eq_true rfl, Nat.le_of_ble_eq_true rfl⟩ ?_
    refine .rdx 4 hwn1 ?_
    refine .nil ⟨fun _ => schedB_of (by kernel_rfl), ?_⟩
    refine .plx Try.S hwn1 [2, 3, 11, 12, 13] ?_
    refine ⟨(n1 + 1, _), ?_, ⟨by omega, by dsimp only; simp at hl2 ⊢; omega, hx1⟩, by dsimp only; omega⟩
    exact .m [2, 3, 11, 12, 13] [20301, 20303, 20306, 20322, 20308, 20318, 20310, 20311, 20312, 20313, 20314, 20315, 20316, 20317] [(20322, 20307), (20318, 20309)]
   ·skip
    refine .rg Try.S [2, 3, 5, 11, 12, 13] ?_
    refine .rdx 3 hwn1 ?_
    refine .ncall (r := .ref 20318 1 0 v2.length (some unkC)) (eff := [(20318, some (.arr 9 1 true (v2.map D.str)))]) (nw := (20318, 20321)) [] rfl rfl rfl rfl rfl (lend2s_cons rfl lend2s_nil) rfl (callH_at 20318 (Nat.le_of_ble_eq_true rfl) (callH_slices_Clone_string_string (a0.Logs[n1]) v2 hv2)) (newE_cons rfl rfl (newB_arr pl0_str _ _ _) newE_nil) (by intro i hi; simp [D.ids, D.idsL] at hi <;> omega) rfl ⟨Nat.le_of_ble_eq_true rfl, Nat.le_of_ble_eq_true rfl⟩ ?_
    refine .rdx 4 hwn1 ?_
    refine .nil ⟨fun _ => schedB_of (by kernel_rfl), ?_⟩
    refine .plx Try.S hwn1 [2, 3, 11, 12, 13] ?_
    refine ⟨(n1 + 1, _), ?_, ⟨by omega, by dsimp only; simp at hl2 ⊢; omega, hx1⟩, by dsimp only; omega⟩
    exact .m [2, 3, 11, 12, 13] [20301, 20303, 20306, 20322, 20308, 20309, 20318, 20311, 20312, 20313, 20314, 20315, 20316, 20317] [(20322, 20307), (20318, 20310)]
   ·skip
    refine .rg Try.S [2, 3, 5, 11, 12, 13] ?_
    refine .rdx 3 hwn1 ?_
    refine .ncall (r := .ref 20318 1 0 v2.length (some unkC)) (eff := [(20318, some (.arr 9 1 true (v2.map D.str)))]) (nw := (20318, 20321)) [] rfl rfl rfl rfl rfl (lend2s_cons rfl lend2s_nil) rfl (callH_at 20318 (Nat.le_of_ble_eq_true rfl) (callH_slices_Clone_string_string (a0.Logs[n1]) v2 hv2)) (newE_cons rfl rfl (newB_arr pl0_str _ _ _) newE_nil) (by intro i hi; simp [D.ids, D.idsL] at hi <;> omega) rfl ⟨Nat.le_of_ble_eq_true rfl, Nat.le_of_ble_eq_true rfl⟩ ?_
    refine .rdx 4 hwn1 ?_
    refine .nil ⟨fun _ => schedB_of (by kernel_rfl), ?_⟩
    refine .plx Try.S hwn1 [2, 3, 11, 12, 13] ?_
    refine ⟨(n1 + 1, _), ?_, ⟨by omega, by dsimp only; simp at hl2 ⊢; omega, hx1⟩, by dsimp only; omega⟩
    exact .m [2, 3, 11, 12, 13] [20301, 20303, 20306, 20322, 20308, 20309, 20310, 20318, 20312, 20313, 20314, 20315, 20316, 20317] [(20322, 20307), (20318, 20311)]
   ·skip
    refine .rg Try.S [2, 3, 5, 11, 12, 13] ?_
    refine .rdx 3 hwn1 ?_
    refine .ncall (r := .ref 20318 1 0 v2.length (some unkC)) (eff := [(20318, some (.arr 9 1 true (v2.map D.str)))]) (nw := (20318, 20321)) [] rfl rfl rfl rfl rfl (lend2s_cons rfl lend2s_nil) rfl (callH_at 20318 (Nat.le_of_ble_eq_true rfl) (callH_slices_Clone_string_string (a0.Logs[n1]) v2 hv2)) (newE_cons rfl rfl (newB_arr pl0_str _ _ _) newE_nil) (by intro i hi; simp [D.ids, D.idsL] at hi <;> omega) rfl ⟨Nat.le_of_ble_eq_true rfl, Nat.le_of_ble_eq_true rfl⟩ ?_
    refine .rdx 4 hwn1 ?_
    refine .nil ⟨fun _ => schedB_of (by kernel_rfl), ?_⟩
    refine .plx Try.S hwn1 [2, 3, 11, 12, 13] ?_
    refine ⟨(n1 + 1, _), ?_, ⟨by omega, by dsimp only; simp at hl2 ⊢; omega, hx1⟩, by dsimp only; omega⟩
    exact .m [2, 3, 11, 12, 13] [20301, 20303, 20306, 20322, 20308, 20309, 20310, 20311, 20318, 20313, 20314, 20315, 20316, 20317] [(20322, 20307), (20318, 20312)]
   ·skip
    refine .rg Try.S [2, 3, 5, 11, 12, 13] ?_
    refine .rdx 3 hwn1 ?_
    refine .ncall (r := .ref 20318 1 0 v2.length (some unkC)) (eff := [(20318, some (.arr 9 1 true (v2.map D.str)))]) (nw := (20318, 20321)) [] rfl rfl rfl rfl rfl (lend2s_cons rfl lend2s_nil) rfl (callH_at 20318 (Nat.le_of_ble_eq_true rfl) (callH_slices_Clone_string_string (a0.Logs[n1]) v2 hv2)) (newE_cons rfl rfl (newB_arr pl0_str _ _ _) newE_nil) (by intro i hi; simp [D.ids, D.idsL] at hi <;> omega) rfl ⟨Nat.le_of_ble_eq_true rfl, Nat.le_of_ble_eq_true rfl⟩ ?_
    refine .rdx 4 hwn1 ?_
    refine .nil ⟨fun _ => schedB_of (by kernel_rfl), ?_⟩
    refine .plx Try.S hwn1 [2, 3, 11, 12, 13] ?_
    refine ⟨(n1 + 1, _), ?_, ⟨by omega, by dsimp only; simp at hl2 ⊢; omega, hx1⟩, by dsimp only; omega⟩
    exact .m [2, 3, 11, 12, 13] [20301, 20303, 20306, 20322, 20308, 20309, 20310, 20311, 20312, 20318, 20314, 20315, 20316, 20317] [(20322, 20307), (20318, 20313)]
   ·skip
    refine .rg Try.S [2, 3, 5, 11, 12, 13] ?_
    refine .rdx 3 hwn1 ?_
    refine .ncall (r := .ref 20318 1 0 v2.length (some unkC)) (eff := [(20318, some (.arr 9 1 true (v2.map D.str)))]) (nw := (20318, 20321)) [] rfl rfl rfl rfl rfl (lend2s_cons rfl lend2s_nil) rfl (callH_at 20318 (Nat.le_of_ble_eq_true rfl) (callH_slices_Clone_string_string (a0.Logs[n1]) v2 hv2)) (newE_cons rfl rfl (newB_arr pl0_str _ _ _) newE_nil) (by intro i hi; simp [D.ids, D.idsL] at hi <;> omega) rfl ⟨Nat.le_of_ble_eq_true rfl, Nat.le_of_ble_eq_true rfl⟩ ?_
    refine .rdx 4 hwn1 ?_
    refine .nil ⟨fun _ => schedB_of (by kernel_rfl), ?_⟩
    refine .plx Try.S hwn1 [2, 3, 11, 12, 13] ?_
    refine ⟨(n1 + 1, _), ?_, ⟨by omega, by dsimp only; simp at hl2 ⊢; omega, hx1⟩, by dsimp only; omega⟩
    exact .m [2, 3, 11, 12, 13] [20301, 20303, 20306, 20322, 20308, 20309, 20310, 20311, 20312, 20313, 20318, 20315, 20316, 20317] [(20322, 20307), (20318, 20314)]
   ·skip
    refine .rg Try.S [2, 3, 5, 11, 12, 13] ?_
    refine .rdx 3 hwn1 ?_
    refine .ncall (r := .ref 20318 1 0 v2.length (some unkC)) (eff := [(20318, some (.arr 9 1 true (v2.map D.str)))]) (nw := (20318, 20321)) [] rfl rfl rfl rfl rfl (lend2s_cons rfl lend2s_nil) rfl (callH_at 20318 (Nat.le_of_ble_eq_true rfl) (callH_slices_Clone_string_string (a0.Logs[n1]) v2 hv2)) (newE_cons rfl rfl (newB_arr pl0_str _ _ _) newE_nil) (by intro i hi; simp [D.ids, D.idsL] at hi <;> omega) rfl ⟨Nat.le_of_ble_eq_true rfl, Nat.le_of_ble_eq_true rfl⟩ ?_
    refine .rdx 4 hwn1 ?_
    refine .nil ⟨fun _ => schedB_of (by kernel_rfl), ?_⟩
    refine .plx Try.S hwn1 [2, 3, 11, 12, 13] ?_
    refine ⟨(n1 + 1, _), ?_, ⟨by omega, by dsimp only; simp at hl2 ⊢; omega, hx1⟩, by dsimp only; omega⟩
    exact .m [2, 3, 11, 12, 13] [20301, 20303, 20306, 20322, 20308, 20309, 20310, 20311, 20312, 20313, 20314, 20318, 20316, 20317] [(20322, 20307), (20318, 20315)]
   ·skip
    refine .rg Try.S [2, 3, 5, 11, 12, 13] ?_
    refine .rdx 3 hwn1 ?_
    refine .ncall (r := .ref 20318 1 0 v2.length (some unkC)) (eff := [(20318, some (.arr 9 1 true (v2.map D.str)))]) (nw := (20318, 20321)) [] rfl rfl rfl rfl rfl (lend2s_cons rfl lend2s_nil) rfl (callH_at 20318 (Nat.le_of_ble_eq_true rfl) (callH_slices_Clone_string_string (a0.Logs[n1]) v2 hv2)) (newE_cons rfl rfl (newB_arr pl0_str _ _ _) newE_nil) (by intro i hi; simp [D.ids, D.idsL] at hi <;> omega) rfl ⟨Nat.le_of_ble_eq_true rfl, Nat.le_of_ble_eq_true rfl⟩ ?_
    refine .rdx 4 hwn1 ?_
    refine .nil ⟨fun _ => schedB_of (by kernel_rfl), ?_⟩
    refine .plx Try.S hwn1 [2, 3, 11, 12, 13] ?_
    refine ⟨(n1 + 1, _), ?_, ⟨by omega, by dsimp only; simp at hl2 ⊢; omega, hx1⟩, by dsimp only; omega⟩
    exact .m [2, 3, 11, 12, 13] [20301, 20303, 20306, 20322, 20308, 20309, 20310, 20311, 20312, 20313, 20314, 20315, 20318, 20317] [(20322, 20307), (20318, 20316)]
   ·skip
    refine .rg Try.S [2, 3, 5, 11, 12, 13] ?_
    refine .rdx 3 hwn1 ?_
    refine .ncall (r := .ref 20318 1 0 v2.length (some unkC)) (eff := [(20318, some (.arr 9 1 true (v2.map D.str)))]) (nw := (20318, 20321)) [] rfl rfl rfl rfl rfl (lend2s_cons rfl lend2s_nil) rfl (callH_at 20318 (Nat.le_of_ble_eq_true rfl) (callH_slices_Clone_string_string (a0.Logs[n1]) v2 hv2)) (newE_cons rfl rfl (newB_arr pl0_str _ _ _) newE_nil) (by intro i hi; simp [D.ids, D.idsL] at hi <;> omega) rfl ⟨Nat.le_of_ble_eq_true rfl, Nat.le_of_ble_eq_true rfl⟩ ?_
    refine .rdx 4 hwn1 ?_
    refine .nil ⟨fun _ => schedB_of (by kernel_rfl), ?_⟩
    refine .plx Try.S hwn1 [2, 3, 11, 12, 13] ?_
    refine ⟨(n1 + 1, _), ?_, ⟨by omega, by dsimp only; simp at hl2 ⊢; omega, hx1⟩, by dsimp only; omega⟩
    exact .m [2, 3, 11, 12, 13] [20301, 20303, 20306, 20322, 20308, 20309, 20310, 20311, 20312, 20313, 20314, 20315, 20316, 20318] [(20322, 20307), (20318, 20317)]
   ·exact absurd hl2 (by simp only [List.length_cons]; omega)
  ·skip
   have h2 : n1 = a0.Logs.length := by have h2b := of_decide_eq_false hc1; omega
   rw [List.drop_of_length_le (by omega), m_stable_Twin_loop1_n] at hx1
   refine .exit ?_
   refine ⟨_, ?_, by omega, (Option.some.inj hx1).symm⟩
   exact .sub [2, 3] [20301, 20303, 20306, 20307, 20308, 20309, 20310, 20311, 20312, 20313, 20314, 20315, 20316, 20317]
 ·skip
  rintro l1 ⟨hl1, hj1⟩
  subst x1
  try dsimp only at h
  simp only [Try.St_QU1]
  refine .seq ?_
  refine .pl Try.S [2, 3] ?_
  have hq := Option.some.inj h
  subst r
  have ho : ∀ F ls, outb F ls = .arr 34 1 false (qrefs 1 F (ls.map List.length)) := fun _ _ => rfl
  have h4' : l1.length ≤ 10 := by omega
  refine .ret ⟨⟨[(2, .ptr 20340 0)], [(20302, .arr 67 5 true (v1.map TSeen.d)), (20340, .box [.ref 20301 1 0 l1.length (some unkC), .ref 20302 5 0 v1.length (some unkC)]), (20301, outb 20310 l1), (20310, inb l1 0), (20311, inb l1 1), (20312, inb l1 2), (20313, inb l1 3), (20314, inb l1 4), (20315, inb l1 5), (20316, inb l1 6), (20317, inb l1 7), (20318, inb l1 8), (20319, inb l1 9)], 20350⟩, ?_, .inr rfl, retH [20302, 20319, 20318, 20317, 20316, 20315, 20314, 20313, 20312, 20311, 20310, 20301] ?_ ?_⟩
  ·skip
   exact .mxq (hrenN [(20303, 20302), (20301, 20340), (20307, 20301), (20308, 20310), (20309, 20311), (20310, 20312), (20311, 20313), (20312, 20314), (20313, 20315), (20314, 20316), (20315, 20317), (20316, 20318), (20317, 20319)] 20308 20310 10 l1 h4' (by decide)) [2] [20303, 20301, 20307, 20308, 20309, 20310, 20311, 20312, 20313, 20314, 20315, 20316, 20317] [(20303, 20302), (20301, 20340), (20307, 20301), (20308, 20310), (20309, 20311), (20310, 20312), (20311, 20313), (20312, 20314), (20313, 20315), (20314, 20316), (20315, 20317), (20316, 20318), (20317, 20319)] [20303, 20301, 20307, 20308, 20309, 20310, 20311, 20312, 20313, 20314, 20315, 20316, 20317] (by intro i hi; simp only [go_sem, idsV, idsH, Blk.ids, D.ids, D.idsL, cond_false, cond_true, List.mem_append, List.mem_cons, List.not_mem_nil, or_false, false_or, List.nil_append, List.append_nil, List.cons_append, qrefs_mem, List.length_map, List.length_set, Nat.reduceBEq] at hi ⊢; omega)
  ·exact rsi0
  ·rfl
end Go.Proofs
end
section
namespace Go.Proofs
open Go.Tm Go.RowKit Go.WideShapes
set_option maxRecDepth 100000
set_option maxHeartbeats 4000000
set_option linter.unusedSimpArgs false
set_option linter.unusedVariables false
attribute [local go_sem] argVars runE runK isCallV stepE aop opd opdsL opds opdO ev ofVal keep List.any natbeq Bool.false_or Bool.true_or aggEq cond_true cond_false Bool.cond_false_right Bool.cond_true_left beq_true beq_false imp_self implies_true getR getL put St.app effL del nwB blt_dec Nat.lt_irrefl Nat.lt_add_one ble_dec Nat.le_refl Nat.beq_refl roomNZ appendIn capS capK mkZ_zero mkZL_zero zeroEl D.ids D.idsL bin arith sarith binT dpick Tm.part splice fillD oneD loadD storeD srcD sliceD idxOk decide_true gval dstAt D.cells List.map_cons List.map_nil List.take List.drop List.length_map List.append Int.toNat_natCast and_true true_and decide_false List.length_cons List.length_nil List.append_nil List.nil_append Bool.and_true Bool.true_and Bool.not_false Bool.not_true ne_eq not_false_eq_true BEq.rfl List.getElem?_cons_zero List.getElem?_cons_succ List.getElem?_nil Nat.zero_add List.all_cons List.all_nil List.isEmpty_cons List.isEmpty_nil Option.getD_some Option.getD_none List.any_cons List.any_nil List.drop_succ_cons List.drop_zero unfL unf okM okML low3 List.cons_append true_or or_true Nat.zero_mul Nat.zero_le findD_int findD_str  getD_int getD_str getD_bool Option.isSome_map keyD List.length_replicate List.map_replicate setEl List.length_set bytesD_map map_ub mx_len mkZ_one mkZL_one mkM mkML mk1_int mk1_str mk1_bool drop_map take_map take_map_len List.take_length Int.toNat_zero toNat_pred fpOf metIds opIds mvV mvH mvF pickL D.ren D.renL Blk.ren List.map_append List.length_append Bool.not_not Bool.or_not_self Bool.not_or_self Bool.or_true
attribute [local go_sem] Try.tm_1 Try.tm_2 Try.tm_3 Try.tm_4 Try.tm_5 Try.tm_6 Try.tm_7 Try.tm_8 Try.tm_9 Try.tm_10 Try.tm_11 Try.tm_12 Try.tm_13 Try.tm_14 Try.tm_15 Try.tm_16 Try.tm_17 Try.tm_18 Try.tm_19 Try.tm_20 Try.tm_21 Try.tm_22 Try.tm_23 Try.tm_24 Try.tm_25 Try.tm_26 Try.tm_27 Try.tm_28 Try.tm_29 Try.tm_30 Try.tm_32 Try.tm_33 Try.tm_34 Try.tm_35 Try.tm_36 Try.tm_37 Try.tm_39 Try.tm_40 Try.tm_41 Try.tm_43 Try.tm_45 Try.tm_46 Try.tm_47 Try.tm_48 Try.tm_49 Try.tm_50 Try.tm_51 Try.tm_52 Try.tm_53 Try.tm_55 Try.tm_57 Try.tm_58 Try.tm_60 Try.tm_61 Try.tm_63 Try.tm_64 Try.tm_65 Try.tm_66 Try.tm_67 Try.tm_68 Try.tm_69 Try.tm_70 Try.tm_71 Try.tm_72 Try.tm_73 Try.tm_74 Try.tm_76 Try.tm_77 Try.tm_78 Try.tm_79 Try.tm_80 Try.tm_81 Try.tm_82 Try.tm_83 Try.tm_84 Try.tm_85 Try.tm_86 Try.tm_87 Try.tm_89 Try.tm_91 Try.tm_92 Try.tm_93 Try.tm_94 Try.tm_95 Try.tm_96 Try.tm_98 Try.tm_99 Try.tm_101 Try.tm_103 Try.tm_104 Try.tm_105 Try.tm_106 Try.tm_107 Try.tm_108 Try.tm_109 Try.tm_110 Try.tm_111 Try.tm_112 Try.tm_113 Try.tm_114 Try.tm_115 Try.tm_116 Try.tm_117 Try.tm_118 Try.tm_119 Try.tm_120 Try.tm_121 Try.tm_123 Try.tm_124 Try.tm_125 Try.tm_126 Try.tm_127 Try.tm_128 Try.tm_129 Try.tm_130 Try.tm_132 Try.tm_134 Try.tm_135 Try.tm_136 Try.tm_137 Try.tm_138 Try.tm_139 Try.tm_140 Try.tm_143 Try.tm_144 Try.tm_145 Try.tm_146 Try.tm_147 Try.tm_148 Try.tm_149 Try.tm_150 Try.tm_151 dL_str nL_str TVote.d TSeen.d TStable.d TStable.n TRecord.d mk1_dL_str mk1_TVote mk1_TSeen mk1_TStable mk1_TRecord Try.f34 Try.f10
attribute [local go_sem] qrefs outb inb
theorem renQ20 (ls : LL) (F : Nat) (hF : 20001 ≤ F) : D.renL (sw 20000 20) (qrefs 1 F (ls.map List.length)) = qrefs 1 F (ls.map List.length) := by
 refine qrefs_ren 1 (sw 20000 20) _ F F fun i _ => ?_
 unfold sw
 rw [beq_ne (by omega), beq_ne (by omega)]; rfl
theorem callH_put20 (a0 : TStable) (a1 : TRecord) (r : Int × TStable) (h4 : a0.Logs.length ≤ 4) (h5 : ∀ k, (a0.Logs.getD k []).length ≤ 100000) (h : m_stable_put a0 a1 = some r) : CallH Try.prog 34 [.ptr 20 0, .agg [.int .u8 a1.Kind, .int .i64 a1.Group, .int .i64 a1.Slot, .int .i64 a1.Ballot, .str a1.Value]] [(20, .box [.ref 20001 1 0 a0.Logs.length (some unkC), .ref 20002 5 0 a0.Votes.length (some unkC)]), (20001, outb 20010 a0.Logs), (20010, inb a0.Logs 0), (20011, inb a0.Logs 1), (20012, inb a0.Logs 2), (20013, inb a0.Logs 3), (20002, .arr 67 5 true (a0.Votes.map TSeen.d))] (.int .i64 r.1) [(20, some (.box [.ref 20001 1 0 r.2.Logs.length (some unkC), .ref 20101 5 0 r.2.Votes.length (some unkC)])), (20001, some (outb 20110 r.2.Logs)), (20010, none), (20011, none), (20012, none), (20013, none), (20002, none), (20110, some (inb r.2.Logs 0)), (20111, some (inb r.2.Logs 1)), (20112, some (inb r.2.Logs 2)), (20113, some (inb r.2.Logs 3)), (20101, some (.arr 67 5 true (r.2.Votes.map TSeen.d)))] (20100, 20160) := by
 have t := callH_sw 20000 20 (callH_stable_put a0 a1 r h4 h5 h)
 have e1 := renQ20 a0.Logs 20010 (by decide)
 have e2 := renQ20 r.2.Logs 20110 (by decide)
 have e3 : ∀ (α : Type) (f : α → D) (hf : ∀ x, D.ren (sw 20000 20) (f x) = f x) (l : List α), D.renL (sw 20000 20) (l.map f) = l.map f := fun α f hf l => by
  induction l with
  | nil => rfl
  | cons x l ih => simp only [List.map_cons, D.renL, hf, ih]
 have e4 := e3 _ D.str (fun _ => rfl)
 have e5 := e3 _ TSeen.d (fun _ => rfl)
 simp only [D.renL, D.ren, mvH, renE, Blk.ren, outb, inb, cond_true, cond_false, e1, e2, e4, e5, Option.map_some, Option.map_none, List.map_cons, List.map_nil] at t
 exact t
def Try.Re_stable_ApplyD (r : TStable × Int) : St := ⟨[(4, .ptr 22 0), (5, .int .i64 r.2)], [(20001, outb 20110 r.1.Logs), (20110, inb r.1.Logs 0), (20111, inb r.1.Logs 1), (20112, inb r.1.Logs 2), (20113, inb r.1.Logs 3), (20101, .arr 67 5 true (r.1.Votes.map TSeen.d)), (22, .box [.ref 20001 1 0 r.1.Logs.length (some unkC), .ref 20101 5 0 r.1.Votes.length (some unkC)])], 20200⟩
attribute [local go_sem] Try.Re_stable_ApplyD
theorem callH_ApplyD (a0 : TStable) (a1 : TRecord) (r : TStable × Int) (h : m_stable_Apply a0 a1 = some r) : CallH Try.prog 10 [.agg [.imm 1 (a0.Logs.map dL_str) 4, .imm 5 (a0.Votes.map TSeen.d) 4], .agg [.int .u8 a1.Kind, .int .i64 a1.Group, .int .i64 a1.Slot, .int .i64 a1.Ballot, .str a1.Value]] [] (.tuple [.agg [.ref 20001 1 0 r.1.Logs.length (some unkC), .ref 20101 5 0 r.1.Votes.length (some unkC)], .int .i64 r.2]) [(20001, some (outb 20110 r.1.Logs)), (20110, some (inb r.1.Logs 0)), (20111, some (inb r.1.Logs 1)), (20112, some (inb r.1.Logs 2)), (20113, some (inb r.1.Logs 3)), (20101, some (.arr 67 5 true (r.1.Votes.map TSeen.d)))] (20, 20200) := by
 refine callH_intro' Try.tmOk Try.func10 rfl (by decide) (Nat.le_of_ble_eq_true rfl) (by simp) ?_
 intro hwf
 unfold m_stable_Apply at h
 refine .ends 20 (Nat.le_refl _) ?_
 refine .seq ?_
 refine .pl Try.S [0, 1] ?_
 refine .seq ?_
 refine .seq ?_
 obtain ⟨v1, hv1, h⟩ := bind_some h
 refine .rg Try.S [2, 3, 4] ?_
 refine .rn 1 ?_
 refine .call (r := .int .i64 v1) rfl rfl rfl rfl rfl rfl (callP_stable_Check a0 v1 hv1) ?_
 refine .rn 1 ?_
 refine .nil ⟨nofun, ?_⟩
 refine .seq ?_
 refine .pl Try.S [2, 3, 4, 6] ?_
 refine .cond rfl rfl (fun hc1 => ?_) (fun hc1 => ?_)
 ·skip
  replace h := ite_lc h hc1
  refine .seq ?_
  refine .pl Try.S [4, 6] ?_
  have hq := Option.some.inj h
  subst r
  refine .ret ⟨Try.Re_stable_ApplyD ((⟨[], []⟩ : TStable), v1), ?_, .inr rfl, retH [20101, 20113, 20112, 20111, 20110, 20001] ?_ ?_⟩
  ·skip
   refine Goes.new0 1 34 (Nat.le_of_ble_eq_true rfl) ?_
   refine Goes.new0 5 67 (Nat.le_of_ble_eq_true rfl) ?_
   refine Goes.boxs 22 _ [.ref 23 1 0 0 (some unkC), .ref 24 5 0 0 (some unkC)] rfl (.cons (.own0 23 _ _ _ (by decide)) (.cons (.own0 24 _ _ _ (by decide)) (.refl _))) ?_
   refine Goes.pf 23 rfl ?_
   refine Goes.new0 1 9 (Nat.le_of_ble_eq_true rfl) ?_
   refine Goes.new0 1 9 (Nat.le_of_ble_eq_true rfl) ?_
   refine Goes.new0 1 9 (Nat.le_of_ble_eq_true rfl) ?_
   refine Goes.new0 1 9 (Nat.le_of_ble_eq_true rfl) ?_
   exact .m [4, 5] [23, 25, 26, 27, 28, 24, 22] [(23, 20001), (24, 20101), (25, 20110), (26, 20111), (27, 20112), (28, 20113)]
  ·exact rsi0
  ·rfl
 ·skip
  replace h := ite_rc h hc1
  refine .skip ?_
  refine .seq ?_
  refine .seq ?_
  obtain ⟨v2, hv2, h⟩ := bind_some h
  refine .rg Try.S [2, 3, 4] ?_
  refine .rn 1 ?_
  refine .call (r := .int .i64 v2) rfl rfl rfl rfl rfl rfl (callP_record_Check a1 v2 hv2) ?_
  refine .rn 1 ?_
  refine .nil ⟨nofun, ?_⟩
  refine .seq ?_
  refine .pl Try.S [2, 3, 4, 7] ?_
  refine .cond rfl rfl (fun hc2 => ?_) (fun hc2 => ?_)
  ·skip
   replace h := ite_lc h hc2
   refine .seq ?_
   refine .pl Try.S [4, 7] ?_
   have hq := Option.some.inj h
   subst r
   refine .ret ⟨Try.Re_stable_ApplyD ((⟨[], []⟩ : TStable), v2), ?_, .inr rfl, retH [20101, 20113, 20112, 20111, 20110, 20001] ?_ ?_⟩
   ·skip
    refine Goes.new0 1 34 (Nat.le_of_ble_eq_true rfl) ?_
    refine Goes.new0 5 67 (Nat.le_of_ble_eq_true rfl) ?_
    refine Goes.boxs 22 _ [.ref 23 1 0 0 (some unkC), .ref 24 5 0 0 (some unkC)] rfl (.cons (.own0 23 _ _ _ (by decide)) (.cons (.own0 24 _ _ _ (by decide)) (.refl _))) ?_
    refine Goes.pf 23 rfl ?_
    refine Goes.new0 1 9 (Nat.le_of_ble_eq_true rfl) ?_
    refine Goes.new0 1 9 (Nat.le_of_ble_eq_true rfl) ?_
    refine Goes.new0 1 9 (Nat.le_of_ble_eq_true rfl) ?_
    refine Goes.new0 1 9 (Nat.le_of_ble_eq_true rfl) ?_
    exact .m [4, 5] [23, 25, 26, 27, 28, 24, 22] [(23, 20001), (24, 20101), (25, 20110), (26, 20111), (27, 20112), (28, 20113)]
   ·exact rsi0
   ·rfl
  ·skip
   replace h := ite_rc h hc2
   refine .skip ?_
   refine .seq ?_
   obtain ⟨v3, hv3, h⟩ := bind_some h
   refine .rg Try.S [2, 3, 4] ?_
   refine .rn 1 ?_
   have hck : v1 = 0 := by simpa using hc1
   have hg4 := lens_stable_Check a0 (hck ▸ hv1)
   have htw : v3.Logs.length ≤ 4 ∧ ∀ k, (v3.Logs.getD k []).length ≤ 100000 := by
    have e := lens_stable_Twin a0 v3 hv3
    rw [e]; exact ⟨hg4.1, hg4.2⟩
   refine .hcall (H := []) (r := .agg [.ref 20001 1 0 v3.Logs.length (some unkC), .ref 20002 5 0 v3.Votes.length (some unkC)]) rfl rfl rfl rfl rfl (callH_stable_TwinQ a0 v3 hg4.1 hv3) (fun id b h => by cases h) (by simp) (.inr ⟨Nat.le_of_ble_eq_true rfl, Nat.le_of_ble_eq_true rfl⟩) ?_
   refine .rn 1 ?_
   refine .nil ⟨nofun, ?_⟩
   refine .seq ?_
   refine .seq ?_
   obtain ⟨v4, hv4, h⟩ := bind_some h
   refine .rg Try.S [2, 3, 4] ?_
   refine .rn 1 ?_
   refine .hcall (H := [(20, .box [.ref 20001 1 0 v3.Logs.length (some unkC), .ref 20002 5 0 v3.Votes.length (some unkC)]), (20001, outb 20010 v3.Logs), (20010, inb v3.Logs 0), (20011, inb v3.Logs 1), (20012, inb v3.Logs 2), (20013, inb v3.Logs 3), (20002, .arr 67 5 true (v3.Votes.map TSeen.d))]) (eff := [(20, some (.box [.ref 20001 1 0 v4.2.Logs.length (some unkC), .ref 20101 5 0 v4.2.Votes.length (some unkC)])), (20001, some (outb 20110 v4.2.Logs)), (20010, none), (20011, none), (20012, none), (20013, none), (20002, none), (20110, some (inb v4.2.Logs 0)), (20111, some (inb v4.2.Logs 1)), (20112, some (inb v4.2.Logs 2)), (20113, some (inb v4.2.Logs 3)), (20101, some (.arr 67 5 true (v4.2.Votes.map TSeen.d)))]) (nw := (20100, 20160)) (r := .int .i64 v4.1) rfl rfl rfl rfl rfl (callH_put20 v3 a1 v4 htw.1 htw.2 hv4) (fun id b h => getL_pick [20, 20001, 20010, 20011, 20012, 20013, 20002] _ id b h) (by simp) (.inr ⟨Nat.le_of_ble_eq_true rfl, Nat.le_of_ble_eq_true rfl⟩) ?_
   refine .rn 1 ?_
   refine .nil ⟨nofun, ?_⟩
   refine .seq ?_
   refine .pl Try.S [2, 4, 8] ?_
   refine .cond rfl rfl (fun hc3 => ?_) (fun hc3 => ?_)
   ·skip
    replace h := ite_lc h hc3
    refine .seq ?_
    refine .pl Try.S [4, 8] ?_
    have hq := Option.some.inj h
    subst r
    refine .ret ⟨Try.Re_stable_ApplyD ((⟨[], []⟩ : TStable), v4.1), ?_, .inr rfl, retH [20101, 20113, 20112, 20111, 20110, 20001] ?_ ?_⟩
    ·skip
     refine Goes.new0 1 34 (Nat.le_of_ble_eq_true rfl) ?_
     refine Goes.new0 5 67 (Nat.le_of_ble_eq_true rfl) ?_
     refine Goes.boxs 22 _ [.ref 20160 1 0 0 (some unkC), .ref 20161 5 0 0 (some unkC)] rfl (.cons (.own0 20160 _ _ _ (by decide)) (.cons (.own0 20161 _ _ _ (by decide)) (.refl _))) ?_
     refine Goes.pf 20160 rfl ?_
     refine Goes.new0 1 9 (Nat.le_of_ble_eq_true rfl) ?_
     refine Goes.new0 1 9 (Nat.le_of_ble_eq_true rfl) ?_
     refine Goes.new0 1 9 (Nat.le_of_ble_eq_true rfl) ?_
     refine Goes.new0 1 9 (Nat.le_of_ble_eq_true rfl) ?_
     exact .m [4, 5] [20160, 20162, 20163, 20164, 20165, 20161, 22] [(20160, 20001), (20161, 20101), (20162, 20110), (20163, 20111), (20164, 20112), (20165, 20113)]
    ·exact rsi0
    ·rfl
   ·skip
    replace h := ite_rc h hc3
    refine .skip ?_
    refine .seq ?_
    refine .pl Try.S [2, 4] ?_
    have hq := Option.some.inj h
    subst r
    refine .ret ⟨Try.Re_stable_ApplyD (v4.2, 0), ?_, .inr rfl, retH [20101, 20113, 20112, 20111, 20110, 20001] ?_ ?_⟩
    ·skip
     exact .sub [4, 5] [20001, 20110, 20111, 20112, 20113, 20101, 22]
    ·exact rsi0
    ·rfl
end Go.Proofs
end
section
namespace Go.Tm
open Go.RowKit Go.WideShapes
def LendR (H : List (Nat × Blk)) (d d' : D) : Prop := ∀ (fr : Nat) (w : World) (g : Gh) (hp : Nat → Option Blk) (nu : Nat → Bool), Mem fr w g hp nu → (∀ id b, getL H id = some b → hp id = some b) → ∀ v, rep (cx w g hp) d v → rep (cx0 w w.heap.size) d' v
def LendRs (H : List (Nat × Blk)) (l l' : List D) : Prop := ∀ (fr : Nat) (w : World) (g : Gh) (hp : Nat → Option Blk) (nu : Nat → Bool), Mem fr w g hp nu → (∀ id b, getL H id = some b → hp id = some b) → ∀ vs, reps (cx w g hp) l vs → reps (cx0 w w.heap.size) l' vs
theorem LendRs.nil {H : List (Nat × Blk)} : LendRs H [] [] := fun _ _ _ _ _ _ _ vs h => by simp only [reps] at h ⊢; exact h
theorem LendRs.cons {H : List (Nat × Blk)} {d d' : D} {l l' : List D} (h : LendR H d d') (hl : LendRs H l l') : LendRs H (d :: l) (d' :: l') := fun fr w g hp nu hM hH vs hv => by
 simp only [reps] at hv ⊢
 obtain ⟨v, vs', rfl, h1, h2⟩ := hv
 exact ⟨v, vs', rfl, h fr w g hp nu hM hH v h1, hl fr w g hp nu hM hH vs' h2⟩
theorem LendR.agg {H : List (Nat × Blk)} {l l' : List D} (h : LendRs H l l') : LendR H (.agg l) (.agg l') := fun fr w g hp nu hM hH v hv => by
 simp only [rep] at hv ⊢
 obtain ⟨cs, rfl, h1⟩ := hv
 exact ⟨cs, rfl, h fr w g hp nu hM hH cs h1⟩
theorem LendR.of {H : List (Nat × Blk)} {d d' : D} (h : ∀ hp, lend hp d = (d', true)) : LendR H d d' := fun fr w g hp nu hM _ v hv => by
 have hR : Rel ⟨w, fr, fun _ => True, g, nu⟩ 0 ⟨fun _ => .undef, hp, nu⟩ ⟨#[], []⟩ w g := by
  refine ⟨Nat.zero_le _, rfl, fun t => ?_, hM, fun _ _ _ _ _ => .inr trivial, ⟨rfl, rfl, rfl, Nat.le_refl _, fun _ _ _ => rfl, fun _ _ => rfl⟩, ⟨rfl, rfl⟩, fun _ _ => rfl, fun _ h => h⟩
  simp only [rep]
 have h1 : d' = (lend hp d).1 := by rw [h]
 rw [h1]
 exact lend_ok w.heap.size hR d v hv (by rw [h])
theorem LendR.list {H : List (Nat × Blk)} {id si n ei : Nat} {oc : Option Nat} {items : List D} (hb : getL H id = some (.arr ei si true items)) (hn : n = items.length) (hpl : plL items = true) : LendR H (.ref id si 0 n oc) (.imm si items 4) := fun _ w _ _ _ hM hH v hv =>
 rep_give_in (fr := 0) hM.hd (fun _ _ => Nat.zero_le _) (hH _ _ hb) hn hpl v hv (cx0 w w.heap.size) rfl (fun _ h => h) (fun _ _ => trivial)
theorem LendR.nest {α : Type} {f : α → D} (hf : ∀ l : List α, plL (l.map f) = true) {H : List (Nat × Blk)} {id s e n F si ei : Nat} {oc : Option Nat} {ls : List (List α)} (hb : getL H id = some (.arr e s false (qrefs si F (ls.map List.length)))) (hn : n = ls.length) (hin : ∀ i, i < ls.length → getL H (F + i) = some (.arr ei si true ((ls.getD i []).map f))) :
  LendR H (.ref id s 0 n oc) (.imm s (ls.map fun l => .imm si (l.map f) 4) 4) := fun _ w g hp _ hM hH v h => by
 have hd := hM.hd
 have hb := hH _ _ hb
 simp only [rep] at h ⊢
 obtain ⟨_, ad, cap, rfl, h1, h2, h3, _, h4⟩ := h
 subst hn
 refine ⟨ad, cap, by simp, by simpa using h1, h2, by simp, by simp, by simp, h3, by simp, ?_⟩
 by_cases hz0 : ls = []
 ·left; subst hz0; rfl
 right
 intro Z hZ'
 have hZe : (cx0 w w.heap.size).Z = Z := by
  have : (some (cx0 w w.heap.size).Z : Option (Nat → Prop)) = some Z := hZ'
  exact Option.some.inj this
 subst hZe
 have hl : 0 < ls.length := List.length_pos_iff.2 hz0
 rcases h4 with h4 | ⟨b, T, nn, hσ, rfl, hsh, hn⟩
 ·omega
 rcases hd id _ hb with ⟨e, _⟩ | ⟨b', cs, hσ', hblk, hsz, hel⟩
 ·have := congrArg List.length e
  rw [qrefs_len, List.length_map, List.length_nil] at this
  omega
 have e := hσ'.symm.trans hσ
 simp only [Option.some.injEq, Prod.mk.injEq] at e
 obtain ⟨rfl, _⟩ := e
 refine ⟨_, rfl, rfl, fun h => h, trivial, (Array.getElem?_eq_some_iff.1 hblk).1, ?_⟩
 rw [Nat.zero_mul]
 exact elems_give (fr := 0) f hf hd (fun _ _ => Nat.zero_le _) si ei ((cx0 w w.heap.size).at (cx0 w w.heap.size).Z) rfl (fun _ h => h) (fun _ _ => trivial) ls F b' 0 s (fun i hi => hH _ _ (hin i hi)) hel
theorem callH_lendR {P : Program} {K : FuncId} {args args' : List D} {H : List (Nat × Blk)} {r : D} (hL : LendRs H args args') (h : CallP P K args' r) : CallH P K args H r [] (0, 0) := by
 refine ⟨h.1, fun fr w g hp nu vs hM hH hn hvs => ?_⟩
 refine (h.2 w vs (hL fr w g hp nu hM hH vs hvs)).mono ?_
 rintro ee w' ⟨v, he, hkeep, hnew, hrep⟩
 have e0 : effH hp [] = hp := effH_nil hp
 have e1 : effN nu (0, 0) = nu := effN_none nu
 have hK : Keep (blkOf g hp fun _ => False) w w' := hkeep.mono fun _ _ h => h.elim
 have hm : Mem fr w' g hp nu := hM.change (ch := fun _ => False) hK rfl rfl (fun _ _ => rfl) (fun b hb => .inr hb) (fun _ _ hb => .inl ⟨fun h => h, hb⟩) hM.inj hM.nw
 refine ⟨v, g, he, ⟨rfl, rfl⟩, fun _ _ => rfl, hkeep.mono fun _ _ h => h.elim, ?_, ?_, ?_⟩
 ·rw [e0, e1]; exact hm
 ·rw [e0]; exact fun b hb => .inr hb
 ·rw [e0]
  refine rep_leQ (C := cx0 w' w.heap.size) (C' := cx w' g hp) (q := new1) ?_ (fun _ _ => rfl) rfl rfl r v hnew hrep
  intro m hm' Z' hZ'
  have hm1 : m = 1 := Nat.eq_of_beq_eq_true hm'
  subst hm1
  obtain ⟨Z1, k1, k2, k3⟩ := hM.zs.z1
  have : Z' = Z1 := by
   have : g.zn 1 = some Z' := by simpa [Cx.zone, cx] using hZ'
   rw [k1] at this
   exact (Option.some.inj this).symm
  subst this
  refine ⟨fun b => w.heap.size ≤ b, by simp [Cx.zone, cx0], fun b _ hb _ => ⟨?_, k3 b hb, rfl⟩⟩
  intro hM'
  have := hM.own_lt hM'
  omega
section
variable {P : Program} {tab : Nat → TI} {lim : Nat}
theorem WRun.ghcall {ops : Array Oper} {o : Oper} {l : List Oper} {st : St} {acc : List FP} {Q : St → List FP → Prop} {c : Call} {f : Operand} {K : FuncId} {r : D} {j t : Nat} {want g : Bool} (H : List (Nat × Blk))
  (ho : o.op = .call c) (hc : c.callee = .value f) (hg : o.guard = some (j, want)) (hj : dstAt ops.toList j = some t) (hgv : gval want (getR st.vars t) = some g) (hH : ∀ id b, getL H id = some b → getL st.heap id = some b)
  (h : g = true → ∃ caps ds, opd true (getR st.vars) f = (.fn (.func K) caps, true) ∧ opds true (getR st.vars) c.args.toList = (ds, true) ∧ CallH P K (ds ++ caps) H r [] (0, 0))
  (hQ : WRun P tab true lim ops l (st.app o.dst { d := .when g r, vc := true, met := H.map (·.1) }) (acc ++ [fpOf o (st.fs lim) { d := .when g r, vc := true, met := H.map (·.1) }]) Q) : WRun P tab true lim ops (o :: l) st acc Q := by
 obtain ⟨os, st', hch, hq⟩ := hQ
 refine ⟨_, st', .cons (out := { d := .when g r, vc := true, met := H.map (·.1) }) ?_ pureNw hch, by simpa using hq⟩
 unfold Fires
 simp only [hg]
 refine ⟨t, g, { d := r, vc := true, met := H.map (·.1) }, ?_, hgv, fun hgt => ?_, ?_⟩
 ·rw [dstAt_eq] at hj
  simpa [gslot] using hj
 ·obtain ⟨caps, ds, h1, h3, h7⟩ := h hgt
  unfold Core
  simp only [ho, hc]
  exact ⟨K, caps, true, ds, true, r, h1, rfl, h3, rfl, .inr (.inl ⟨H, [], (0, 0), h7, hH, fun id h1 h2 => absurd h2 (Nat.not_lt_zero _), (fun x hx => by cases hx), rfl⟩)⟩
 ·cases g <;> rfl
end
end Go.Tm
end
section
namespace Go.Proofs
open Go.Tm
set_option linter.unusedVariables false
def m_towncrierlaw11_StableDoes (a0 : TStable) (a1 : TStable) (a2 : TRecord) (a3 : Int) (a4 : Int) : Option Bool :=
 Option.bind (m_towncrierref11_Great a0) fun v1 =>
 Option.bind (if ¬ (v1 = true) then m_towncrierref11_Great a1 else some default) fun v2 =>
 if ((v1 = true) ∨ (v2 = true)) ∨ ((a2.Value.length : Int) > 5000) then
 some true
 else
 Option.bind (m_towncrierref11_Twin a0) fun v3 =>
 Option.bind (m_stable_Apply v3 a2) fun v4 =>
 Option.bind (m_towncrierref11_Apply a0 a2) fun v5 =>
 Option.bind (m_stable_At v3 a3 a4) fun v6 =>
 Option.bind (m_towncrierref11_At a0 a3 a4) fun v7 =>
 Option.bind (m_stable_Twin v3) fun v8 =>
 Option.bind (m_towncrierref11_Same v4.1 v5.1) fun v9 =>
 Option.bind (if ¬ ((((¬ (v9 = true)) ∨ (¬ (v4.2 = v5.2))) ∨ (¬ ((v6.1.Promised = v7.1.Promised) ∧ (v6.1.Ballot = v7.1.Ballot) ∧ (v6.1.Value = v7.1.Value)))) ∨ (¬ (v6.2 = v7.2))) then m_towncrierref11_Same v8 a0 else some default) fun v10 =>
 Option.bind (if ¬ (((((¬ (v9 = true)) ∨ (¬ (v4.2 = v5.2))) ∨ (¬ ((v6.1.Promised = v7.1.Promised) ∧ (v6.1.Ballot = v7.1.Ballot) ∧ (v6.1.Value = v7.1.Value)))) ∨ (¬ (v6.2 = v7.2))) ∨ (¬ (v10 = true))) then m_stable_Check v3 else some default) fun v11 =>
 Option.bind (if ¬ (((((¬ (v9 = true)) ∨ (¬ (v4.2 = v5.2))) ∨ (¬ ((v6.1.Promised = v7.1.Promised) ∧ (v6.1.Ballot = v7.1.Ballot) ∧ (v6.1.Value = v7.1.Value)))) ∨ (¬ (v6.2 = v7.2))) ∨ (¬ (v10 = true))) then m_towncrierref11_May a0 else some default) fun v12 =>
 Option.bind (if ¬ ((((((¬ (v9 = true)) ∨ (¬ (v4.2 = v5.2))) ∨ (¬ ((v6.1.Promised = v7.1.Promised) ∧ (v6.1.Ballot = v7.1.Ballot) ∧ (v6.1.Value = v7.1.Value)))) ∨ (¬ (v6.2 = v7.2))) ∨ (¬ (v10 = true))) ∨ ((!((v11 == 0) == v12)) = true)) then m_stable_Same v3 a1 else some default) fun v13 =>
 Option.bind (if ¬ ((((((¬ (v9 = true)) ∨ (¬ (v4.2 = v5.2))) ∨ (¬ ((v6.1.Promised = v7.1.Promised) ∧ (v6.1.Ballot = v7.1.Ballot) ∧ (v6.1.Value = v7.1.Value)))) ∨ (¬ (v6.2 = v7.2))) ∨ (¬ (v10 = true))) ∨ ((!((v11 == 0) == v12)) = true)) then m_towncrierref11_Same a0 a1 else some default) fun v14 =>
 if ((((((¬ (v9 = true)) ∨ (¬ (v4.2 = v5.2))) ∨ (¬ ((v6.1.Promised = v7.1.Promised) ∧ (v6.1.Ballot = v7.1.Ballot) ∧ (v6.1.Value = v7.1.Value)))) ∨ (¬ (v6.2 = v7.2))) ∨ (¬ (v10 = true))) ∨ ((!((v11 == 0) == v12)) = true)) ∨ ((!(v13 == v14)) = true) then
 some false
 else
 Option.bind (m_towncrierref11_Same v3 a0) fun v15 =>
 some v15
end Go.Proofs
end
