/- Texts of the proof. -/
import Derived.Test.YtkfipajabmhkbaaStableReplaysPj
import Derived.Test.YtkfipajabmhkbaaStableReplaysPf
import Derived.Test.YtkfipajabmhkbaaStableReplaysPk
import Derived.Test.YtkfipajabmhkbaaStableReplaysPg
import Derived.Test.YtkfipajabmhkbaaStableReplaysPi
import Derived.Test.YtkfipajabmhkbaaStableReplaysPe
section
namespace Go.Proofs
open Go.Tm Go.RowKit Go.WideShapes
set_option maxRecDepth 100000
set_option maxHeartbeats 4000000
set_option linter.unusedSimpArgs false
set_option linter.unusedVariables false
attribute [local go_sem] argVars runE runK isCallV stepE aop opd opdsL opds opdO ev ofVal keep List.any natbeq Bool.false_or Bool.true_or aggEq cond_true cond_false Bool.cond_false_right Bool.cond_true_left beq_true beq_false imp_self implies_true getR getL put St.app effL del nwB blt_dec Nat.lt_irrefl Nat.lt_add_one ble_dec Nat.le_refl Nat.beq_refl roomNZ appendIn capS capK mkZ_zero mkZL_zero zeroEl D.ids D.idsL bin arith sarith binT dpick Tm.part splice fillD oneD loadD storeD srcD sliceD idxOk decide_true gval dstAt D.cells List.map_cons List.map_nil List.take List.drop List.length_map List.append Int.toNat_natCast and_true true_and decide_false List.length_cons List.length_nil List.append_nil List.nil_append Bool.and_true Bool.true_and Bool.not_false Bool.not_true ne_eq not_false_eq_true BEq.rfl List.getElem?_cons_zero List.getElem?_cons_succ List.getElem?_nil Nat.zero_add List.all_cons List.all_nil List.isEmpty_cons List.isEmpty_nil Option.getD_some Option.getD_none List.any_cons List.any_nil List.drop_succ_cons List.drop_zero unfL unf okM okML low3 List.cons_append true_or or_true Nat.zero_mul Nat.zero_le findD_int findD_str  getD_int getD_str getD_bool Option.isSome_map keyD List.length_replicate List.map_replicate setEl List.length_set bytesD_map map_ub mx_len mkZ_one mkZL_one mkM mkML mk1_int mk1_str mk1_bool drop_map take_map take_map_len List.take_length Int.toNat_zero toNat_pred fpOf metIds opIds mvV mvH mvF pickL D.ren D.renL Blk.ren List.map_append List.length_append Bool.not_not Bool.or_not_self Bool.not_or_self Bool.or_true
attribute [local go_sem] Try.tm_1 Try.tm_2 Try.tm_3 Try.tm_4 Try.tm_5 Try.tm_6 Try.tm_7 Try.tm_8 Try.tm_9 Try.tm_10 Try.tm_11 Try.tm_12 Try.tm_13 Try.tm_14 Try.tm_15 Try.tm_16 Try.tm_17 Try.tm_18 Try.tm_19 Try.tm_20 Try.tm_21 Try.tm_22 Try.tm_23 Try.tm_24 Try.tm_25 Try.tm_26 Try.tm_27 Try.tm_28 Try.tm_29 Try.tm_30 Try.tm_32 Try.tm_33 Try.tm_34 Try.tm_35 Try.tm_36 Try.tm_37 Try.tm_39 Try.tm_40 Try.tm_41 Try.tm_43 Try.tm_45 Try.tm_46 Try.tm_47 Try.tm_48 Try.tm_49 Try.tm_50 Try.tm_51 Try.tm_52 Try.tm_53 Try.tm_55 Try.tm_57 Try.tm_58 Try.tm_60 Try.tm_61 Try.tm_63 Try.tm_64 Try.tm_65 Try.tm_66 Try.tm_67 Try.tm_68 Try.tm_69 Try.tm_70 Try.tm_71 Try.tm_72 Try.tm_73 Try.tm_74 Try.tm_76 Try.tm_77 Try.tm_78 Try.tm_79 Try.tm_80 Try.tm_81 Try.tm_82 Try.tm_83 Try.tm_84 Try.tm_85 Try.tm_86 Try.tm_87 Try.tm_89 Try.tm_91 Try.tm_92 Try.tm_93 Try.tm_94 Try.tm_95 Try.tm_96 Try.tm_98 Try.tm_99 Try.tm_101 Try.tm_103 Try.tm_104 Try.tm_105 Try.tm_106 Try.tm_107 Try.tm_108 Try.tm_109 Try.tm_110 Try.tm_111 Try.tm_112 Try.tm_113 Try.tm_114 Try.tm_115 Try.tm_116 Try.tm_117 Try.tm_118 Try.tm_119 Try.tm_120 Try.tm_121 Try.tm_123 Try.tm_124 Try.tm_125 Try.tm_126 Try.tm_127 Try.tm_128 Try.tm_129 Try.tm_130 Try.tm_132 Try.tm_134 Try.tm_135 Try.tm_136 Try.tm_137 Try.tm_138 Try.tm_139 Try.tm_140 Try.tm_143 Try.tm_144 Try.tm_145 Try.tm_146 Try.tm_147 Try.tm_148 Try.tm_149 Try.tm_150 Try.tm_151 dL_str nL_str TVote.d TSeen.d TStable.d TStable.n TRecord.d mk1_dL_str mk1_TVote mk1_TSeen mk1_TStable mk1_TRecord Ttowncrierref01_Reader.d Ttowncrierref01_Reader.n mk1_Ttowncrierref01_Reader Try.f14 Try.f15
attribute [local go_sem] qrefs outb inb
attribute [local go_sem] nl0 nl1 nl2 nl3 sl0 sl1 sl2 sl3
theorem hrenN (ps : List (Nat × Nat)) (F G n : Nat) (ls : LL) (h : ls.length ≤ n) (hp : ∀ i, i < n → mvF ps (F + i) = G + i) : D.renL (mvF ps) (qrefs 1 F (ls.map List.length)) = qrefs 1 G (ls.map List.length) :=
 qrefs_ren 1 (mvF ps) _ F G fun i hi => hp i (by rw [List.length_map] at hi; omega)
theorem apr : ∀ (hp : Nat → Option Blk) (nid el esz eby id s' off len : Nat) (oc : Option Nat) (xs : List D) (px vx : Bool), appendD hp nid el esz eby (.ref id s' off len oc) xs px vx = (match hp id with
  | some (.arr e s'' p items) => (match oc with
   | none => some ⟨.ref nid esz 0 (len + xs.length) none, vx && Nat.beq e el && Nat.beq s' esz && Nat.beq s'' esz && Nat.beq off 0 && Nat.beq len items.length && decide ((items.length + xs.length) * eby ≤ 140737488355328),
     [(nid, some (.arr el esz (p && px) (items ++ xs))), (id, none)], (nid, nid + 1), []⟩
   | some c => bif !capK c then some ⟨.ref nid esz 0 (len + xs.length) (some c), vx && Nat.beq e el && Nat.beq s' esz && Nat.beq s'' esz && Nat.beq off 0 && Nat.beq len items.length && decide ((items.length + xs.length) * eby ≤ 140737488355328),
     [(nid, some (.arr el esz (p && px) (items ++ xs))), (id, none)], (nid, nid + 1), []⟩
     else bif Nat.blt c (len + xs.length) then
      some ⟨.ref nid esz 0 (len + xs.length) none, vx && Nat.beq e el && Nat.beq s' esz && Nat.beq s'' esz && Nat.ble (off + len) items.length && decide ((len + xs.length) * eby ≤ 140737488355328),
       [(nid, some (.arr el esz (p && px) ((items.drop off).take len ++ xs)))], (nid, nid + 1), []⟩
     else match xs with
      | [] => some ⟨.ref id s' off len oc, vx, [], (0, 0), []⟩
      | _ :: _ => some ⟨.ref nid esz 0 (len + xs.length) oc, vx && Nat.beq e el && Nat.beq s' esz && Nat.beq s'' esz && Nat.beq off 0 && Nat.beq len items.length,
       [(nid, some (.arr el esz (p && px) (items ++ xs))), (id, none)], (nid, nid + 1), []⟩)
  | _ => none) := by intro hp nid el esz eby id s' off len oc xs px vx; rfl
def Try.St_towncrierref11_Twin_1 (a0 : TStable) (l1 : LL) : St := ⟨[(2, .ptr 20001 0), (3, .ptr 20003 0)], [(20001, .box [.imm 0 [] 0, .imm 0 [] 0]), (20002, .arr 67 5 true (a0.Votes.map TSeen.d)), (20003, .box [.ref 20004 1 0 l1.length (some unkC), .ref 20002 5 0 a0.Votes.length (some unkC)]), (20004, outb 20005 l1), (20005, inb l1 0), (20006, inb l1 1), (20007, inb l1 2), (20008, inb l1 3), (20009, inb l1 4), (20010, inb l1 5), (20011, inb l1 6), (20012, inb l1 7), (20013, inb l1 8), (20014, inb l1 9)], 20015⟩
attribute [local go_sem] Try.St_towncrierref11_Twin_1
def Try.St_towncrierref11_Twin_3 (a0 : TStable) (n1 : Nat) (l2 : LL) : St := ⟨[(1, .ptr 20000 0), (2, .ptr 20001 0), (3, .ptr 20003 0), (4, .int .i64 (n1 : Int))], [(20000, .box [.imm 1 (a0.Logs.map dL_str) 4, .imm 5 (a0.Votes.map TSeen.d) 4]), (20001, .box [.imm 0 [] 0, .imm 0 [] 0]), (20002, .arr 67 5 true (a0.Votes.map TSeen.d)), (20003, .box [.ref 20004 1 0 l2.length (some unkC), .ref 20002 5 0 a0.Votes.length (some unkC)]), (20004, outb 20005 l2), (20005, inb l2 0), (20006, inb l2 1), (20007, inb l2 2), (20008, inb l2 3), (20009, inb l2 4), (20010, inb l2 5), (20011, inb l2 6), (20012, inb l2 7), (20013, inb l2 8), (20014, inb l2 9)], 20015⟩
attribute [local go_sem] Try.St_towncrierref11_Twin_3
theorem callH_towncrierref11_TwinQ (a0 : TStable) (r : TStable) (h4 : a0.Logs.length ≤ 10) (h : m_towncrierref11_Twin a0 = some r) : CallH Try.prog 14 [.agg [.imm 1 (a0.Logs.map dL_str) 4, .imm 5 (a0.Votes.map TSeen.d) 4]] [] (.agg [.ref 20001 1 0 r.Logs.length (some unkC), .ref 20002 5 0 r.Votes.length (some unkC)]) [(20001, some (outb 20010 r.Logs)), (20002, some (.arr 67 5 true (r.Votes.map TSeen.d))), (20010, some (inb r.Logs 0)), (20011, some (inb r.Logs 1)), (20012, some (inb r.Logs 2)), (20013, some (inb r.Logs 3)), (20014, some (inb r.Logs 4)), (20015, some (inb r.Logs 5)), (20016, some (inb r.Logs 6)), (20017, some (inb r.Logs 7)), (20018, some (inb r.Logs 8)), (20019, some (inb r.Logs 9))] (20000, 20060) := by
 refine callH_intro' Try.tmOk Try.func14 rfl (by decide) (Nat.le_of_ble_eq_true rfl) (by simp) ?_
 intro hwf
 unfold m_towncrierref11_Twin at h
 refine .ends 20000 (Nat.le_refl _) ?_
 refine .seq ?_
 refine .pl Try.S [0] ?_
 obtain ⟨k1, h⟩ := ite_ck h
 refine .seqM 20002 (fun (_ : Unit) => ⟨[(1, .ptr 20000 0), (2, .ptr 20001 0), (3, .ptr 20003 0)], [(20000, .box [.imm 1 (a0.Logs.map dL_str) 4, .imm 5 (a0.Votes.map TSeen.d) 4]), (20001, .box [.imm 0 [] 0, .imm 0 [] 0]), (20002, .arr 67 5 true (a0.Votes.map TSeen.d)), (20003, .box [.imm 0 [] 0, .ref 20002 5 0 a0.Votes.length (some unkC)])], 20004⟩) (fun _ => True) (Nat.le_of_ble_eq_true rfl) ?_ (fun _ _ => ?_)
 ·skip
  rcases list_cases a0.Votes with hE1 | ⟨y, ys, hE1⟩
  ·skip
   have hM1 : a0.Votes.map TSeen.d = [] := by rw [hE1]; simp
   refine .plain Try.tmOk Try.tmMixed [1, 2] (by decide +kernel) (by intro q hq; simp only [go_sem, Nat.reduceSub, Int.reduceEq, Nat.reduceLT, Nat.reduceDiv, Nat.reduceAdd, Nat.reduceBEq, Nat.reduceLeDiff, reduceCtorEq, Nat.reduceEqDiff, Nat.reduceMod, Nat.reduceMul, Try.tm_23, Try.tm_25, appendD_nil hM1, TSeen.d, TStable.d]; exact hq) (by first | rfl | (simp only [go_sem, Nat.reduceLeDiff]; done) | (simp only [go_sem, Nat.reduceLeDiff]; rfl) | (simp; done) | (simp [oneD] <;> omega) | (simp_all; done) | (simp_all [oneD] <;> omega)) (by first | exact Nat.le_refl _ | exact Nat.le_of_ble_eq_true rfl | (dsimp only; omega) | (simp <;> omega)) ?_
   refine ⟨(), ?_, trivial⟩
   refine Goes.new0 5 67 (Nat.le_of_ble_eq_true rfl) ?_
   refine Goes.boxs 20002 _ [.imm 0 [] 0, .ref 20003 5 0 0 (some unkC)] rfl (.keep (.cons (.own0 20003 _ _ _ (by decide)) (.refl _))) ?_
   exact .mx hE1 [1, 2, 3] [20000, 20001, 20003, 20002] [(20003, 20002), (20002, 20003)]
  ·skip
   have hM1 : a0.Votes.map TSeen.d ≠ [] := by rw [hE1]; simp
   refine .plain Try.tmOk Try.tmMixed [1, 2] (by decide +kernel) (by intro q hq; simp only [go_sem, Nat.reduceSub, Int.reduceEq, Nat.reduceLT, Nat.reduceDiv, Nat.reduceAdd, Nat.reduceBEq, Nat.reduceLeDiff, reduceCtorEq, Nat.reduceEqDiff, Nat.reduceMod, Nat.reduceMul, Try.tm_23, Try.tm_25, appendD_cons hM1, TSeen.d, TStable.d]; exact hq) (by first | rfl | (simp only [go_sem, Nat.reduceLeDiff]; done) | (simp only [go_sem, Nat.reduceLeDiff]; rfl) | (simp; done) | (simp [oneD] <;> omega) | (simp_all; done) | (simp_all [oneD] <;> omega)) (by first | exact Nat.le_refl _ | exact Nat.le_of_ble_eq_true rfl | (dsimp only; omega) | (simp <;> omega)) ?_
   refine ⟨(), ?_, trivial⟩
   refine Goes.boxs 20003 _ [.imm 0 [] 0, .ref 20002 5 0 a0.Votes.length (some unkC)] rfl (.keep (.cons (.unk _ _ _ _ _) (.refl _))) ?_
   exact .mx hE1 [1, 2, 3] [20000, 20001, 20002, 20003] []
 obtain ⟨x1, hx1, h⟩ := bind_some h
 refine .seqM 20004 (fun (j : (List (List (List UInt8)))) => Try.St_towncrierref11_Twin_1 a0 j) (fun j => j.length ≤ a0.Logs.length ∧ x1 = j) (Nat.le_of_ble_eq_true rfl) ?_ ?_
 ·skip
  refine .seq ?_
  refine .pl Try.S [1, 2, 3] ?_
  refine .block ?_
  refine .loopG 20004 (fun (j : Nat × (List (List (List UInt8)))) => Try.St_towncrierref11_Twin_3 a0 j.1 j.2) (fun j => j.1 ≤ a0.Logs.length ∧ j.2.length = j.1 ∧ m_towncrierref11_Twin_loop1 (a0.Logs.drop j.1) j.2 = some x1) (fun j => a0.Logs.length - j.1) (0, []) (Nat.le_of_ble_eq_true rfl) ?_ ⟨Nat.zero_le _, rfl, hx1⟩ ?_
  ·skip
   refine Goes.new0 1 34 (Nat.le_of_ble_eq_true rfl) ?_
   refine Goes.boxs 20003 _ [.ref 20004 1 0 0 (some unkC), .ref 20002 5 0 a0.Votes.length (some unkC)] rfl (.cons (.own0 20004 _ _ _ (by decide)) (.refl _)) ?_
   refine Goes.pf 20004 rfl ?_
   refine Goes.new0 1 9 (Nat.le_of_ble_eq_true rfl) ?_
   refine Goes.new0 1 9 (Nat.le_of_ble_eq_true rfl) ?_
   refine Goes.new0 1 9 (Nat.le_of_ble_eq_true rfl) ?_
   refine Goes.new0 1 9 (Nat.le_of_ble_eq_true rfl) ?_
   refine Goes.new0 1 9 (Nat.le_of_ble_eq_true rfl) ?_
   refine Goes.new0 1 9 (Nat.le_of_ble_eq_true rfl) ?_
   refine Goes.new0 1 9 (Nat.le_of_ble_eq_true rfl) ?_
   refine Goes.new0 1 9 (Nat.le_of_ble_eq_true rfl) ?_
   refine Goes.new0 1 9 (Nat.le_of_ble_eq_true rfl) ?_
   refine Goes.new0 1 9 (Nat.le_of_ble_eq_true rfl) ?_
   exact .sub [1, 2, 3, 4] [20000, 20001, 20002, 20003, 20004, 20005, 20006, 20007, 20008, 20009, 20010, 20011, 20012, 20013, 20014]
  rintro ⟨n1, l2⟩ ⟨hi1, hl2, hx1⟩
  simp only [Try.St_towncrierref11_Twin_3]
  simp only at hi1 hl2 hx1
  refine .wfb 20000 [.imm 1 (a0.Logs.map dL_str) 4, .imm 5 (a0.Votes.map TSeen.d) 4] rfl ?_
  intro hln1
  replace hln1 : (a0.Logs.length : Int) ≤ 9223372036854775807 := by simp only [wf, wfL, IntKind.max, IntKind.min, IntKind.signed, IntKind.bits, List.length_map] at hln1; first | exact hln1.2 | exact hln1.1 | (simp at hln1; omega)
  refine .seq ?_
  refine .seq ?_
  refine .pl Try.S [1, 2, 3, 4] ?_
  refine .cond rfl rfl (fun hc1 => ?_) (fun hc1 => ?_)
  ·skip
   have h1 : n1 < a0.Logs.length := by simpa using hc1
   have hwn1 : wr .i64 ((n1 : Int) + 1) = ((n1 + 1 : Nat) : Int) := wr_succ h1 hln1
   have hpn1 : wr .i64 ((n1 : Int) - 1) = (n1 : Int) - 1 := wr_pred h1 hln1
   rw [List.drop_eq_getElem_cons h1, m_towncrierref11_Twin_loop1_c] at hx1
   refine .skip ?_
   refine .seq ?_
   refine .block ?_
   obtain ⟨k2, hx1⟩ := ite_ck hx1
   obtain ⟨k3, hx1⟩ := ite_ck hx1
   have e1 := nth_map dL_str a0.Logs n1 h1
   rcases l2 with _ | ⟨b0, _ | ⟨b1, _ | ⟨b2, _ | ⟨b3, _ | ⟨b4, _ | ⟨b5, _ | ⟨b6, _ | ⟨b7, _ | ⟨b8, _ | ⟨b9, bs⟩⟩⟩⟩⟩⟩⟩⟩⟩⟩
   ·skip
    rcases list_cases (a0.Logs[n1]) with hE | ⟨y, ys, hE⟩
    ·skip
     have hM : (a0.Logs[n1]).map D.str = [] := by rw [hE]; simp
     refine .dx Try.S (And.intro (And.intro e1 hwn1) (And.intro (apn hM) apr)) [1, 2, 3, 4] ?_
     refine .plx Try.S hwn1 [1, 2, 3, 4] ?_
     refine ⟨(n1 + 1, _), ?_, ⟨by omega, by dsimp only; simp at hl2 ⊢; omega, hx1⟩, by dsimp only; omega⟩
     refine Goes.new0 1 9 (Nat.le_of_ble_eq_true rfl) ?_
     refine Goes.blk 20016 (.arr 34 1 false ([] ++ [.imm 1 [] 0])) (.arr 34 1 false ([] ++ [.ref 20017 1 0 0 (some unkC)])) rfl (fun _ hC h => holds_last [] (fun _ hC _ h => rep_own0 hC _ _ _ _ (by decide) h) hC h) ?_
     exact .mx hE [1, 2, 3, 4] [20000, 20001, 20002, 20003, 20016, 20017, 20006, 20007, 20008, 20009, 20010, 20011, 20012, 20013, 20014] [(20016, 20004), (20017, 20005)]
    ·skip
     have hM : (a0.Logs[n1]).map D.str ≠ [] := by rw [hE]; simp
     refine .dx Try.S (And.intro (And.intro e1 hwn1) (And.intro (apc hM) apr)) [1, 2, 3, 4] ?_
     refine .plx Try.S hwn1 [1, 2, 3, 4] ?_
     refine ⟨(n1 + 1, _), ?_, ⟨by omega, by dsimp only; simp at hl2 ⊢; omega, hx1⟩, by dsimp only; omega⟩
     refine Goes.blk 20017 (.arr 34 1 false ([] ++ [.ref 20015 1 0 (a0.Logs[n1]).length none])) (.arr 34 1 false ([] ++ [.ref 20015 1 0 (a0.Logs[n1]).length (some unkC)])) rfl (fun _ hC h => holds_last [] (fun C _ v h => Wk.unk _ _ _ _ _ C v h) hC h) ?_
     exact .m [1, 2, 3, 4] [20000, 20001, 20002, 20003, 20017, 20015, 20006, 20007, 20008, 20009, 20010, 20011, 20012, 20013, 20014] [(20017, 20004), (20015, 20005)]
   ·skip
    rcases list_cases (a0.Logs[n1]) with hE | ⟨y, ys, hE⟩
    ·skip
     have hM : (a0.Logs[n1]).map D.str = [] := by rw [hE]; simp
     refine .dx Try.S (And.intro (And.intro e1 hwn1) (And.intro (apn hM) apr)) [1, 2, 3, 4] ?_
     refine .plx Try.S hwn1 [1, 2, 3, 4] ?_
     refine ⟨(n1 + 1, _), ?_, ⟨by omega, by dsimp only; simp at hl2 ⊢; omega, hx1⟩, by dsimp only; omega⟩
     refine Goes.new0 1 9 (Nat.le_of_ble_eq_true rfl) ?_
     refine Goes.blk 20016 (.arr 34 1 false ([.ref 20005 1 0 b0.length (some unkC)] ++ [.imm 1 [] 0])) (.arr 34 1 false ([.ref 20005 1 0 b0.length (some unkC)] ++ [.ref 20017 1 0 0 (some unkC)])) rfl (fun _ hC h => holds_last [.ref 20005 1 0 b0.length (some unkC)] (fun _ hC _ h => rep_own0 hC _ _ _ _ (by decide) h) hC h) ?_
     exact .mx hE [1, 2, 3, 4] [20000, 20001, 20002, 20003, 20016, 20005, 20017, 20007, 20008, 20009, 20010, 20011, 20012, 20013, 20014] [(20016, 20004), (20017, 20006)]
    ·skip
     have hM : (a0.Logs[n1]).map D.str ≠ [] := by rw [hE]; simp
     refine .dx Try.S (And.intro (And.intro e1 hwn1) (And.intro (apc hM) apr)) [1, 2, 3, 4] ?_
     refine .plx Try.S hwn1 [1, 2, 3, 4] ?_
     refine ⟨(n1 + 1, _), ?_, ⟨by omega, by dsimp only; simp at hl2 ⊢; omega, hx1⟩, by dsimp only; omega⟩
     refine Goes.blk 20017 (.arr 34 1 false ([.ref 20005 1 0 b0.length (some unkC)] ++ [.ref 20015 1 0 (a0.Logs[n1]).length none])) (.arr 34 1 false ([.ref 20005 1 0 b0.length (some unkC)] ++ [.ref 20015 1 0 (a0.Logs[n1]).length (some unkC)])) rfl (fun _ hC h => holds_last [.ref 20005 1 0 b0.length (some unkC)] (fun C _ v h => Wk.unk _ _ _ _ _ C v h) hC h) ?_
     exact .m [1, 2, 3, 4] [20000, 20001, 20002, 20003, 20017, 20005, 20015, 20007, 20008, 20009, 20010, 20011, 20012, 20013, 20014] [(20017, 20004), (20015, 20006)]
   ·skip
    rcases list_cases (a0.Logs[n1]) with hE | ⟨y, ys, hE⟩
    ·skip
     have hM : (a0.Logs[n1]).map D.str = [] := by rw [hE]; simp
     refine .dx Try.S (And.intro (And.intro e1 hwn1) (And.intro (apn hM) apr)) [1, 2, 3, 4] ?_
     refine .plx Try.S hwn1 [1, 2, 3, 4] ?_
     refine ⟨(n1 + 1, _), ?_, ⟨by omega, by dsimp only; simp at hl2 ⊢; omega, hx1⟩, by dsimp only; omega⟩
     refine Goes.new0 1 9 (Nat.le_of_ble_eq_true rfl) ?_
     refine Goes.blk 20016 (.arr 34 1 false ([.ref 20005 1 0 b0.length (some unkC), .ref 20006 1 0 b1.length (some unkC)] ++ [.imm 1 [] 0])) (.arr 34 1 false ([.ref 20005 1 0 b0.length (some unkC), .ref 20006 1 0 b1.length (some unkC)] ++ [.ref 20017 1 0 0 (some unkC)])) rfl (fun _ hC h => holds_last [.ref 20005 1 0 b0.length (some unkC), .ref 20006 1 0 b1.length (some unkC)] (fun _ hC _ h => rep_own0 hC _ _ _ _ (by decide) h) hC h) ?_
     exact .mx hE [1, 2, 3, 4] [20000, 20001, 20002, 20003, 20016, 20005, 20006, 20017, 20008, 20009, 20010, 20011, 20012, 20013, 20014] [(20016, 20004), (20017, 20007)]
    ·skip
     have hM : (a0.Logs[n1]).map D.str ≠ [] := by rw [hE]; simp
     refine .dx Try.S (And.intro (And.intro e1 hwn1) (And.intro (apc hM) apr)) [1, 2, 3, 4] ?_
     refine .plx Try.S hwn1 [1, 2, 3, 4] ?_
     refine ⟨(n1 + 1, _), ?_, ⟨by omega, by dsimp only; simp at hl2 ⊢; omega, hx1⟩, by dsimp only; omega⟩
     refine Goes.blk 20017 (.arr 34 1 false ([.ref 20005 1 0 b0.length (some unkC), .ref 20006 1 0 b1.length (some unkC)] ++ [.ref 20015 1 0 (a0.Logs[n1]).length none])) (.arr 34 1 false ([.ref 20005 1 0 b0.length (some unkC), .ref 20006 1 0 b1.length (some unkC)] ++ [.ref 20015 1 0 (a0.Logs[n1]).length (some unkC)])) rfl (fun _ hC h => holds_last [.ref 20005 1 0 b0.length (some unkC), .ref 20006 1 0 b1.length (some unkC)] (fun C _ v h => Wk.unk _ _ _ _ _ C v h) hC h) ?_
     exact .m [1, 2, 3, 4] [20000, 20001, 20002, 20003, 20017, 20005, 20006, 20015, 20008, 20009, 20010, 20011, 20012, 20013, 20014] [(20017, 20004), (20015, 20007)]
   ·skip
    rcases list_cases (a0.Logs[n1]) with hE | ⟨y, ys, hE⟩
    ·skip
     have hM : (a0.Logs[n1]).map D.str = [] := by rw [hE]; simp
     refine .dx Try.S (And.intro (And.intro e1 hwn1) (And.intro (apn hM) apr)) [1, 2, 3, 4] ?_
     refine .plx Try.S hwn1 [1, 2, 3, 4] ?_
     refine ⟨(n1 + 1, _), ?_, ⟨by omega, by dsimp only; simp at hl2 ⊢; omega, hx1⟩, by dsimp only; omega⟩
     refine Goes.new0 1 9 (Nat.le_of_ble_eq_true rfl) ?_
     refine Goes.blk 20016 (.arr 34 1 false ([.ref 20005 1 0 b0.length (some unkC), .ref 20006 1 0 b1.length (some unkC), .ref 20007 1 0 b2.length (some unkC)] ++ [.imm 1 [] 0])) (.arr 34 1 false ([.ref 20005 1 0 b0.length (some unkC), .ref 20006 1 0 b1.length (some unkC), .ref 20007 1 0 b2.length (some unkC)] ++ [.ref 20017 1 0 0 (some unkC)])) rfl (fun _ hC h => holds_last [.ref 20005 1 0 b0.length (some unkC), .ref 20006 1 0 b1.length (some unkC), .ref 20007 1 0 b2.length (some unkC)] (fun _ hC _ h => rep_own0 hC _ _ _ _ (by decide) h) hC h) ?_
     exact .mx hE [1, 2, 3, 4] [20000, 20001, 20002, 20003, 20016, 20005, 20006, 20007, 20017, 20009, 20010, 20011, 20012, 20013, 20014] [(20016, 20004), (20017, 20008)]
    ·skip
     have hM : (a0.Logs[n1]).map D.str ≠ [] := by rw [hE]; simp
     refine .dx Try.S (And.intro (And.intro e1 hwn1) (And.intro (apc hM) apr)) [1, 2, 3, 4] ?_
     refine .plx Try.S hwn1 [1, 2, 3, 4] ?_
     refine ⟨(n1 + 1, _), ?_, ⟨by omega, by dsimp only; simp at hl2 ⊢; omega, hx1⟩, by dsimp only; omega⟩
     refine Goes.blk 20017 (.arr 34 1 false ([.ref 20005 1 0 b0.length (some unkC), .ref 20006 1 0 b1.length (some unkC), .ref 20007 1 0 b2.length (some unkC)] ++ [.ref 20015 1 0 (a0.Logs[n1]).length none])) (.arr 34 1 false ([.ref 20005 1 0 b0.length (some unkC), .ref 20006 1 0 b1.length (some unkC), .ref 20007 1 0 b2.length (some unkC)] ++ [.ref 20015 1 0 (a0.Logs[n1]).length (some unkC)])) rfl (fun _ hC h => holds_last [.ref 20005 1 0 b0.length (some unkC), .ref 20006 1 0 b1.length (some unkC), .ref 20007 1 0 b2.length (some unkC)] (fun C _ v h => Wk.unk _ _ _ _ _ C v h) hC h) ?_
     exact .m [1, 2, 3, 4] [20000, 20001, 20002, 20003, 20017, 20005, 20006, 20007, 20015, 20009, 20010, 20011, 20012, 20013, 20014] [(20017, 20004), (20015, 20008)]
   ·skip
    rcases list_cases (a0.Logs[n1]) with hE | ⟨y, ys, hE⟩
    ·skip
     have hM : (a0.Logs[n1]).map D.str = [] := by rw [hE]; simp
     refine .dx Try.S (And.intro (And.intro e1 hwn1) (And.intro (apn hM) apr)) [1, 2, 3, 4] ?_
     refine .plx Try.S hwn1 [1, 2, 3, 4] ?_
     refine ⟨(n1 + 1, _), ?_, ⟨by omega, by dsimp only; simp at hl2 ⊢; omega, hx1⟩, by dsimp only; omega⟩
     refine Goes.new0 1 9 (Nat.le_of_ble_eq_true rfl) ?_
     refine Goes.blk 20016 (.arr 34 1 false ([.ref 20005 1 0 b0.length (some unkC), .ref 20006 1 0 b1.length (some unkC), .ref 20007 1 0 b2.length (some unkC), .ref 20008 1 0 b3.length (some unkC)] ++ [.imm 1 [] 0])) (.arr 34 1 false ([.ref 20005 1 0 b0.length (some unkC), .ref 20006 1 0 b1.length (some unkC), .ref 20007 1 0 b2.length (some unkC), .ref 20008 1 0 b3.length (some unkC)] ++ [.ref 20017 1 0 0 (some unkC)])) rfl (fun _ hC h => holds_last [.ref 20005 1 0 b0.length (some unkC), .ref 20006 1 0 b1.length (some unkC), .ref 20007 1 0 b2.length (some unkC), .ref 20008 1 0 b3.length (some unkC)] (fun _ hC _ h => rep_own0 hC _ _ _ _ (by decide) h) hC h) ?_
     exact .mx hE [1, 2, 3, 4] [20000, 20001, 20002, 20003, 20016, 20005, 20006, 20007, 20008, 20017, 20010, 20011, 20012, 20013, 20014] [(20016, 20004), (20017, 20009)]
    ·skip
     have hM : (a0.Logs[n1]).map D.str ≠ [] := by rw [hE]; simp
     refine .dx Try.S (And.intro (And.intro e1 hwn1) (And.intro (apc hM) apr)) [1, 2, 3, 4] ?_
     refine .plx Try.S hwn1 [1, 2, 3, 4] ?_
     refine ⟨(n1 + 1, _), ?_, ⟨by omega, by dsimp only; simp at hl2 ⊢; omega, hx1⟩, by dsimp only; omega⟩
     refine Goes.blk 20017 (.arr 34 1 false ([.ref 20005 1 0 b0.length (some unkC), .ref 20006 1 0 b1.length (some unkC), .ref 20007 1 0 b2.length (some unkC), .ref 20008 1 0 b3.length (some unkC)] ++ [.ref 20015 1 0 (a0.Logs[n1]).length none])) (.arr 34 1 false ([.ref 20005 1 0 b0.length (some unkC), .ref 20006 1 0 b1.length (some unkC), .ref 20007 1 0 b2.length (some unkC), .ref 20008 1 0 b3.length (some unkC)] ++ [.ref 20015 1 0 (a0.Logs[n1]).length (some unkC)])) rfl (fun _ hC h => holds_last [.ref 20005 1 0 b0.length (some unkC), .ref 20006 1 0 b1.length (some unkC), .ref 20007 1 0 b2.length (some unkC), .ref 20008 1 0 b3.length (some unkC)] (fun C _ v h => Wk.unk _ _ _ _ _ C v h) hC h) ?_
     exact .m [1, 2, 3, 4] [20000, 20001, 20002, 20003, 20017, 20005, 20006, 20007, 20008, 20015, 20010, 20011, 20012, 20013, 20014] [(20017, 20004), (20015, 20009)]
   ·skip
    rcases list_cases (a0.Logs[n1]) with hE | ⟨y, ys, hE⟩
    ·skip
     have hM : (a0.Logs[n1]).map D.str = [] := by rw [hE]; simp
     refine .dx Try.S (And.intro (And.intro e1 hwn1) (And.intro (apn hM) apr)) [1, 2, 3, 4] ?_
     refine .plx Try.S hwn1 [1, 2, 3, 4] ?_
     refine ⟨(n1 + 1, _), ?_, ⟨by omega, by dsimp only; simp at hl2 ⊢; omega, hx1⟩, by dsimp only; omega⟩
     refine Goes.new0 1 9 (Nat.le_of_ble_eq_true rfl) ?_
     refine Goes.blk 20016 (.arr 34 1 false ([.ref 20005 1 0 b0.length (some unkC), .ref 20006 1 0 b1.length (some unkC), .ref 20007 1 0 b2.length (some unkC), .ref 20008 1 0 b3.length (some unkC), .ref 20009 1 0 b4.length (some unkC)] ++ [.imm 1 [] 0])) (.arr 34 1 false ([.ref 20005 1 0 b0.length (some unkC), .ref 20006 1 0 b1.length (some unkC), .ref 20007 1 0 b2.length (some unkC), .ref 20008 1 0 b3.length (some unkC), .ref 20009 1 0 b4.length (some unkC)] ++ [.ref 20017 1 0 0 (some unkC)])) rfl (fun _ hC h => holds_last [.ref 20005 1 0 b0.length (some unkC), .ref 20006 1 0 b1.length (some unkC), .ref 20007 1 0 b2.length (some unkC), .ref 20008 1 0 b3.length (some unkC), .ref 20009 1 0 b4.length (some unkC)] (fun _ hC _ h => rep_own0 hC _ _ _ _ (by decide) h) hC h) ?_
     exact .mx hE [1, 2, 3, 4] [20000, 20001, 20002, 20003, 20016, 20005, 20006, 20007, 20008, 20009, 20017, 20011, 20012, 20013, 20014] [(20016, 20004), (20017, 20010)]
    ·skip
     have hM : (a0.Logs[n1]).map D.str ≠ [] := by rw [hE]; simp
     refine .dx Try.S (And.intro (And.intro e1 hwn1) (And.intro (apc hM) apr)) [1, 2, 3, 4] ?_
     refine .plx Try.S hwn1 [1, 2, 3, 4] ?_
     refine ⟨(n1 + 1, _), ?_, ⟨by omega, by dsimp only; simp at hl2 ⊢; omega, hx1⟩, by dsimp only; omega⟩
     refine Goes.blk 20017 (.arr 34 1 false ([.ref 20005 1 0 b0.length (some unkC), .ref 20006 1 0 b1.length (some unkC), .ref 20007 1 0 b2.length (some unkC), .ref 20008 1 0 b3.length (some unkC), .ref 20009 1 0 b4.length (some unkC)] ++ [.ref 20015 1 0 (a0.Logs[n1]).length none])) (.arr 34 1 false ([.ref 20005 1 0 b0.length (some unkC), .ref 20006 1 0 b1.length (some unkC), .ref 20007 1 0 b2.length (some unkC), .ref 20008 1 0 b3.length (some unkC), .ref 20009 1 0 b4.length (some unkC)] ++ [.ref 20015 1 0 (a0.Logs[n1]).length (some unkC)])) rfl (fun _ hC h => holds_last [.ref 20005 1 0 b0.length (some unkC), .ref 20006 1 0 b1.length (some unkC), .ref 20007 1 0 b2.length (some unkC), .ref 20008 1 0 b3.length (some unkC), .ref 20009 1 0 b4.length (some unkC)] (fun C _ v h => Wk.unk _ _ _ _ _ C v h) hC h) ?_
     exact .m [1, 2, 3, 4] [20000, 20001, 20002, 20003, 20017, 20005, 20006, 20007, 20008, 20009, 20015, 20011, 20012, 20013, 20014] [(20017, 20004), (20015, 20010)]
   ·skip
    rcases list_cases (a0.Logs[n1]) with hE | ⟨y, ys, hE⟩
    ·skip
     have hM : (a0.Logs[n1]).map D.str = [] := by rw [hE]; simp
     refine .dx Try.S (And.intro (And.intro e1 hwn1) (And.intro (apn hM) apr)) [1, 2, 3, 4] ?_
     refine .plx Try.S hwn1 [1, 2, 3, 4] ?_
     refine ⟨(n1 + 1, _), ?_, ⟨by omega, by dsimp only; simp at hl2 ⊢; omega, hx1⟩, by dsimp only; omega⟩
     refine Goes.new0 1 9 (Nat.le_of_ble_eq_true rfl) ?_
     refine Goes.blk 20016 (.arr 34 1 false ([.ref 20005 1 0 b0.length (some unkC), .ref 20006 1 0 b1.length (some unkC), .ref 20007 1 0 b2.length (some unkC), .ref 20008 1 0 b3.length (some unkC), .ref 20009 1 0 b4.length (some unkC), .ref 20010 1 0 b5.length (some unkC)] ++ [.imm 1 [] 0])) (.arr 34 1 false ([.ref 20005 1 0 b0.length (some unkC), .ref 20006 1 0 b1.length (some unkC), .ref 20007 1 0 b2.length (some unkC), .ref 20008 1 0 b3.length (some unkC), .ref 20009 1 0 b4.length (some unkC), .ref 20010 1 0 b5.length (some unkC)] ++ [.ref 20017 1 0 0 (some unkC)])) rfl (fun _ hC h => holds_last [.ref 20005 1 0 b0.length (some unkC), .ref 20006 1 0 b1.length (some unkC), .ref 20007 1 0 b2.length (some unkC), .ref 20008 1 0 b3.length (some unkC), .ref 20009 1 0 b4.length (some unkC), .ref 20010 1 0 b5.length (some unkC)] (fun _ hC _ h => rep_own0 hC _ _ _ _ (by decide) h) hC h) ?_
     exact .mx hE [1, 2, 3, 4] [20000, 20001, 20002, 20003, 20016, 20005, 20006, 20007, 20008, 20009, 20010, 20017, 20012, 20013, 20014] [(20016, 20004), (20017, 20011)]
    ·skip
     have hM : (a0.Logs[n1]).map D.str ≠ [] := by rw [hE]; simp
     refine .dx Try.S (And.intro (And.intro e1 hwn1) (And.intro (apc hM) apr)) [1, 2, 3, 4] ?_
     refine .plx Try.S hwn1 [1, 2, 3, 4] ?_
     refine ⟨(n1 + 1, _), ?_, ⟨by omega, by dsimp only; simp at hl2 ⊢; omega, hx1⟩, by dsimp only; omega⟩
     refine Goes.blk 20017 (.arr 34 1 false ([.ref 20005 1 0 b0.length (some unkC), .ref 20006 1 0 b1.length (some unkC), .ref 20007 1 0 b2.length (some unkC), .ref 20008 1 0 b3.length (some unkC), .ref 20009 1 0 b4.length (some unkC), .ref 20010 1 0 b5.length (some unkC)] ++ [.ref 20015 1 0 (a0.Logs[n1]).length none])) (.arr 34 1 false ([.ref 20005 1 0 b0.length (some unkC), .ref 20006 1 0 b1.length (some unkC), .ref 20007 1 0 b2.length (some unkC), .ref 20008 1 0 b3.length (some unkC), .ref 20009 1 0 b4.length (some unkC), .ref 20010 1 0 b5.length (some unkC)] ++ [.ref 20015 1 0 (a0.Logs[n1]).length (some unkC)])) rfl (fun _ hC h => holds_last [.ref 20005 1 0 b0.length (some unkC), .ref 20006 1 0 b1.length (some unkC), .ref 20007 1 0 b2.length (some unkC), .ref 20008 1 0 b3.length (some unkC), .ref 20009 1 0 b4.length (some unkC), .ref 20010 1 0 b5.length (some unkC)] (fun C _ v h => Wk.unk _ _ _ _ _ C v h) hC h) ?_
     exact .m [1, 2, 3, 4] [20000, 20001, 20002, 20003, 20017, 20005, 20006, 20007, 20008, 20009, 20010, 20015, 20012, 20013, 20014] [(20017, 20004), (20015, 20011)]
   ·skip
    rcases list_cases (a0.Logs[n1]) with hE | ⟨y, ys, hE⟩
    ·skip
     have hM : (a0.Logs[n1]).map D.str = [] := by rw [hE]; simp
     refine .dx Try.S (And.intro (And.intro e1 hwn1) (And.intro (apn hM) apr)) [1, 2, 3, 4] ?_
     refine .plx Try.S hwn1 [1, 2, 3, 4] ?_
     refine ⟨(n1 + 1, _), ?_, ⟨by omega, by dsimp only; simp at hl2 ⊢; omega, hx1⟩, by dsimp only; omega⟩
     refine Goes.new0 1 9 (Nat.le_of_ble_eq_true rfl) ?_
     refine Goes.blk 20016 (.arr 34 1 false ([.ref 20005 1 0 b0.length (some unkC), .ref 20006 1 0 b1.length (some unkC), .ref 20007 1 0 b2.length (some unkC), .ref 20008 1 0 b3.length (some unkC), .ref 20009 1 0 b4.length (some unkC), .ref 20010 1 0 b5.length (some unkC), .ref 20011 1 0 b6.length (some unkC)] ++ [.imm 1 [] 0])) (.arr 34 1 false ([.ref 20005 1 0 b0.length (some unkC), .ref 20006 1 0 b1.length (some unkC), .ref 20007 1 0 b2.length (some unkC), .ref 20008 1 0 b3.length (some unkC), .ref 20009 1 0 b4.length (some unkC), .ref 20010 1 0 b5.length (some unkC), .ref 20011 1 0 b6.length (some unkC)] ++ [.ref 20017 1 0 0 (some unkC)])) rfl (fun _ hC h => holds_last [.ref 20005 1 0 b0.length (some unkC), .ref 20006 1 0 b1.length (some unkC), .ref 20007 1 0 b2.length (some unkC), .ref 20008 1 0 b3.length (some unkC), .ref 20009 1 0 b4.length (some unkC), .ref 20010 1 0 b5.length (some unkC), .ref 20011 1 0 b6.length (some unkC)] (fun _ hC _ h => rep_own0 hC _ _ _ _ (by decide) h) hC h) ?_
     exact .mx hE [1, 2, 3, 4] [20000, 20001, 20002, 20003, 20016, 20005, 20006, 20007, 20008, 20009, 20010, 20011, 20017, 20013, 20014] [(20016, 20004), (20017, 20012)]
    ·skip
     have hM : (a0.Logs[n1]).map D.str ≠ [] := by rw [hE]; simp
     refine .dx Try.S (And.intro (And.intro e1 hwn1) (And.intro (apc hM) apr)) [1, 2, 3, 4] ?_
     refine .plx Try.S hwn1 [1, 2, 3, 4] ?_
     refine ⟨(n1 + 1, _), ?_, ⟨by omega, by dsimp only; simp at hl2 ⊢; omega, hx1⟩, by dsimp only; omega⟩
     refine Goes.blk 20017 (.arr 34 1 false ([.ref 20005 1 0 b0.length (some unkC), .ref 20006 1 0 b1.length (some unkC), .ref 20007 1 0 b2.length (some unkC), .ref 20008 1 0 b3.length (some unkC), .ref 20009 1 0 b4.length (some unkC), .ref 20010 1 0 b5.length (some unkC), .ref 20011 1 0 b6.length (some unkC)] ++ [.ref 20015 1 0 (a0.Logs[n1]).length none])) (.arr 34 1 false ([.ref 20005 1 0 b0.length (some unkC), .ref 20006 1 0 b1.length (some unkC), .ref 20007 1 0 b2.length (some unkC), .ref 20008 1 0 b3.length (some unkC), .ref 20009 1 0 b4.length (some unkC), .ref 20010 1 0 b5.length (some unkC), .ref 20011 1 0 b6.length (some unkC)] ++ [.ref 20015 1 0 (a0.Logs[n1]).length (some unkC)])) rfl (fun _ hC h => holds_last [.ref 20005 1 0 b0.length (some unkC), .ref 20006 1 0 b1.length (some unkC), .ref 20007 1 0 b2.length (some unkC), .ref 20008 1 0 b3.length (some unkC), .ref 20009 1 0 b4.length (some unkC), .ref 20010 1 0 b5.length (some unkC), .ref 20011 1 0 b6.length (some unkC)] (fun C _ v h => Wk.unk _ _ _ _ _ C v h) hC h) ?_
     exact .m [1, 2, 3, 4] [20000, 20001, 20002, 20003, 20017, 20005, 20006, 20007, 20008, 20009, 20010, 20011, 20015, 20013, 20014] [(20017, 20004), (20015, 20012)]
   ·skip
    rcases list_cases (a0.Logs[n1]) with hE | ⟨y, ys, hE⟩
    ·skip
     have hM : (a0.Logs[n1]).map D.str = [] := by rw [hE]; simp
     refine .dx Try.S (And.intro (And.intro e1 hwn1) (And.intro (apn hM) apr)) [1, 2, 3, 4] ?_
     refine .plx Try.S hwn1 [1, 2, 3, 4] ?_
     refine ⟨(n1 + 1, _), ?_, ⟨by omega, by dsimp only; simp at hl2 ⊢; omega, hx1⟩, by dsimp only; omega⟩
     refine Goes.new0 1 9 (Nat.le_of_ble_eq_true rfl) ?_
     refine Goes.blk 20016 (.arr 34 1 false ([.ref 20005 1 0 b0.length (some unkC), .ref 20006 1 0 b1.length (some unkC), .ref 20007 1 0 b2.length (some unkC), .ref 20008 1 0 b3.length (some unkC), .ref 20009 1 0 b4.length (some unkC), .ref 20010 1 0 b5.length (some unkC), .ref 20011 1 0 b6.length (some unkC), .ref 20012 1 0 b7.length (some unkC)] ++ [.imm 1 [] 0])) (.arr 34 1 false ([.ref 20005 1 0 b0.length (some unkC), .ref 20006 1 0 b1.length (some unkC), .ref 20007 1 0 b2.length (some unkC), .ref 20008 1 0 b3.length (some unkC), .ref 20009 1 0 b4.length (some unkC), .ref 20010 1 0 b5.length (some unkC), .ref 20011 1 0 b6.length (some unkC), .ref 20012 1 0 b7.length (some unkC)] ++ [.ref 20017 1 0 0 (some unkC)])) rfl (fun _ hC h => holds_last [.ref 20005 1 0 b0.length (some unkC), .ref 20006 1 0 b1.length (some unkC), .ref 20007 1 0 b2.length (some unkC), .ref 20008 1 0 b3.length (some unkC), .ref 20009 1 0 b4.length (some unkC), .ref 20010 1 0 b5.length (some unkC), .ref 20011 1 0 b6.length (some unkC), .ref 20012 1 0 b7.length (some unkC)] (fun _ hC _ h => rep_own0 hC _ _ _ _ (by decide) h) hC h) ?_
     exact .mx hE [1, 2, 3, 4] [20000, 20001, 20002, 20003, 20016, 20005, 20006, 20007, 20008, 20009, 20010, 20011, 20012, 20017, 20014] [(20016, 20004), (20017, 20013)]
    ·skip
     have hM : (a0.Logs[n1]).map D.str ≠ [] := by rw [hE]; simp
     refine .dx Try.S (And.intro (And.intro e1 hwn1) (And.intro (apc hM) apr)) [1, 2, 3, 4] ?_
     refine .plx Try.S hwn1 [1, 2, 3, 4] ?_
     refine ⟨(n1 + 1, _), ?_, ⟨by omega, by dsimp only; simp at hl2 ⊢; omega, hx1⟩, by dsimp only; omega⟩
     refine Goes.blk 20017 (.arr 34 1 false ([.ref 20005 1 0 b0.length (some unkC), .ref 20006 1 0 b1.length (some unkC), .ref 20007 1 0 b2.length (some unkC), .ref 20008 1 0 b3.length (some unkC), .ref 20009 1 0 b4.length (some unkC), .ref 20010 1 0 b5.length (some unkC), .ref 20011 1 0 b6.length (some unkC), .ref 20012 1 0 b7.length (some unkC)] ++ [.ref 20015 1 0 (a0.Logs[n1]).length none])) (.arr 34 1 false ([.ref 20005 1 0 b0.length (some unkC), .ref 20006 1 0 b1.length (some unkC), .ref 20007 1 0 b2.length (some unkC), .ref 20008 1 0 b3.length (some unkC), .ref 20009 1 0 b4.length (some unkC), .ref 20010 1 0 b5.length (some unkC), .ref 20011 1 0 b6.length (some unkC), .ref 20012 1 0 b7.length (some unkC)] ++ [.ref 20015 1 0 (a0.Logs[n1]).length (some unkC)])) rfl (fun _ hC h => holds_last [.ref 20005 1 0 b0.length (some unkC), .ref 20006 1 0 b1.length (some unkC), .ref 20007 1 0 b2.length (some unkC), .ref 20008 1 0 b3.length (some unkC), .ref 20009 1 0 b4.length (some unkC), .ref 20010 1 0 b5.length (some unkC), .ref 20011 1 0 b6.length (some unkC), .ref 20012 1 0 b7.length (some unkC)] (fun C _ v h => Wk.unk _ _ _ _ _ C v h) hC h) ?_
     exact .m [1, 2, 3, 4] [20000, 20001, 20002, 20003, 20017, 20005, 20006, 20007, 20008, 20009, 20010, 20011, 20012, 20015, 20014] [(20017, 20004), (20015, 20013)]
   ·skip
    rcases list_cases (a0.Logs[n1]) with hE | ⟨y, ys, hE⟩
    ·skip
     have hM : (a0.Logs[n1]).map D.str = [] := by rw [hE]; simp
     refine .dx Try.S (And.intro (And.intro e1 hwn1) (And.intro (apn hM) apr)) [1, 2, 3, 4] ?_
     refine .plx Try.S hwn1 [1, 2, 3, 4] ?_
     refine ⟨(n1 + 1, _), ?_, ⟨by omega, by dsimp only; simp at hl2 ⊢; omega, hx1⟩, by dsimp only; omega⟩
     refine Goes.new0 1 9 (Nat.le_of_ble_eq_true rfl) ?_
     refine Goes.blk 20016 (.arr 34 1 false ([.ref 20005 1 0 b0.length (some unkC), .ref 20006 1 0 b1.length (some unkC), .ref 20007 1 0 b2.length (some unkC), .ref 20008 1 0 b3.length (some unkC), .ref 20009 1 0 b4.length (some unkC), .ref 20010 1 0 b5.length (some unkC), .ref 20011 1 0 b6.length (some unkC), .ref 20012 1 0 b7.length (some unkC), .ref 20013 1 0 b8.length (some unkC)] ++ [.imm 1 [] 0])) (.arr 34 1 false ([.ref 20005 1 0 b0.length (some unkC), .ref 20006 1 0 b1.length (some unkC), .ref 20007 1 0 b2.length (some unkC), .ref 20008 1 0 b3.length (some unkC), .ref 20009 1 0 b4.length (some unkC), .ref 20010 1 0 b5.length (some unkC), .ref 20011 1 0 b6.length (some unkC), .ref 20012 1 0 b7.length (some unkC), .ref 20013 1 0 b8.length (some unkC)] ++ [.ref 20017 1 0 0 (some unkC)])) rfl (fun _ hC h => holds_last [.ref 20005 1 0 b0.length (some unkC), .ref 20006 1 0 b1.length (some unkC), .ref 20007 1 0 b2.length (some unkC), .ref 20008 1 0 b3.length (some unkC), .ref 20009 1 0 b4.length (some unkC), .ref 20010 1 0 b5.length (some unkC), .ref 20011 1 0 b6.length (some unkC), .ref 20012 1 0 b7.length (some unkC), .ref 20013 1 0 b8.length (some unkC)] (fun _ hC _ h => rep_own0 hC _ _ _ _ (by decide) h) hC h) ?_
     exact .mx hE [1, 2, 3, 4] [20000, 20001, 20002, 20003, 20016, 20005, 20006, 20007, 20008, 20009, 20010, 20011, 20012, 20013, 20017] [(20016, 20004), (20017, 20014)]
    ·skip
     have hM : (a0.Logs[n1]).map D.str ≠ [] := by rw [hE]; simp
     refine .dx Try.S (And.intro (And.intro e1 hwn1) (And.intro (apc hM) apr)) [1, 2, 3, 4] ?_
     refine .plx Try.S hwn1 [1, 2, 3, 4] ?_
     refine ⟨(n1 + 1, _), ?_, ⟨by omega, by dsimp only; simp at hl2 ⊢; omega, hx1⟩, by dsimp only; omega⟩
     refine Goes.blk 20017 (.arr 34 1 false ([.ref 20005 1 0 b0.length (some unkC), .ref 20006 1 0 b1.length (some unkC), .ref 20007 1 0 b2.length (some unkC), .ref 20008 1 0 b3.length (some unkC), .ref 20009 1 0 b4.length (some unkC), .ref 20010 1 0 b5.length (some unkC), .ref 20011 1 0 b6.length (some unkC), .ref 20012 1 0 b7.length (some unkC), .ref 20013 1 0 b8.length (some unkC)] ++ [.ref 20015 1 0 (a0.Logs[n1]).length none])) (.arr 34 1 false ([.ref 20005 1 0 b0.length (some unkC), .ref 20006 1 0 b1.length (some unkC), .ref 20007 1 0 b2.length (some unkC), .ref 20008 1 0 b3.length (some unkC), .ref 20009 1 0 b4.length (some unkC), .ref 20010 1 0 b5.length (some unkC), .ref 20011 1 0 b6.length (some unkC), .ref 20012 1 0 b7.length (some unkC), .ref 20013 1 0 b8.length (some unkC)] ++ [.ref 20015 1 0 (a0.Logs[n1]).length (some unkC)])) rfl (fun _ hC h => holds_last [.ref 20005 1 0 b0.length (some unkC), .ref 20006 1 0 b1.length (some unkC), .ref 20007 1 0 b2.length (some unkC), .ref 20008 1 0 b3.length (some unkC), .ref 20009 1 0 b4.length (some unkC), .ref 20010 1 0 b5.length (some unkC), .ref 20011 1 0 b6.length (some unkC), .ref 20012 1 0 b7.length (some unkC), .ref 20013 1 0 b8.length (some unkC)] (fun C _ v h => Wk.unk _ _ _ _ _ C v h) hC h) ?_
     exact .m [1, 2, 3, 4] [20000, 20001, 20002, 20003, 20017, 20005, 20006, 20007, 20008, 20009, 20010, 20011, 20012, 20013, 20015] [(20017, 20004), (20015, 20014)]
   ·exact absurd hl2 (by simp only [List.length_cons]; omega)
  ·skip
   have h2 : n1 = a0.Logs.length := by have h2b := of_decide_eq_false hc1; omega
   rw [List.drop_of_length_le (by omega), m_towncrierref11_Twin_loop1_n] at hx1
   refine .exit ?_
   refine ⟨_, ?_, by omega, (Option.some.inj hx1).symm⟩
   exact .sub [2, 3] [20001, 20002, 20003, 20004, 20005, 20006, 20007, 20008, 20009, 20010, 20011, 20012, 20013, 20014]
 ·skip
  rintro l1 ⟨hl1, hj1⟩
  subst x1
  try dsimp only at h
  simp only [Try.St_towncrierref11_Twin_1]
  refine .seq ?_
  refine .pl Try.S [2, 3] ?_
  have hq := Option.some.inj h
  subst r
  have h4' : l1.length ≤ 10 := by omega
  refine .ret ⟨⟨[(2, .ptr 20020 0)], [(20002, .arr 67 5 true (a0.Votes.map TSeen.d)), (20020, .box [.ref 20001 1 0 l1.length (some unkC), .ref 20002 5 0 a0.Votes.length (some unkC)]), (20001, outb 20010 l1), (20010, inb l1 0), (20011, inb l1 1), (20012, inb l1 2), (20013, inb l1 3), (20014, inb l1 4), (20015, inb l1 5), (20016, inb l1 6), (20017, inb l1 7), (20018, inb l1 8), (20019, inb l1 9)], 20030⟩, ?_, .inr rfl, retH [20019, 20018, 20017, 20016, 20015, 20014, 20013, 20012, 20011, 20010, 20002, 20001] ?_ ?_⟩
  ·skip
   exact .mxq (hrenN [(20001, 20020), (20004, 20001), (20005, 20010), (20006, 20011), (20007, 20012), (20008, 20013), (20009, 20014), (20010, 20015), (20011, 20016), (20012, 20017), (20013, 20018), (20014, 20019)] 20005 20010 10 l1 h4' (by decide)) [2] [20002, 20001, 20004, 20005, 20006, 20007, 20008, 20009, 20010, 20011, 20012, 20013, 20014] [(20001, 20020), (20004, 20001), (20005, 20010), (20006, 20011), (20007, 20012), (20008, 20013), (20009, 20014), (20010, 20015), (20011, 20016), (20012, 20017), (20013, 20018), (20014, 20019)] [20002, 20001, 20004, 20005, 20006, 20007, 20008, 20009, 20010, 20011, 20012, 20013, 20014] (by intro i hi; simp only [go_sem, idsV, idsH, Blk.ids, D.ids, D.idsL, cond_false, cond_true, List.mem_append, List.mem_cons, List.not_mem_nil, or_false, false_or, List.nil_append, List.append_nil, List.cons_append, qrefs_mem, List.length_map, List.length_set, Nat.reduceBEq] at hi ⊢; omega)
  ·exact rsi0
  ·rfl
def Try.St_towncrierref11_Apply_1 (a0 : TStable) (a1 : TRecord) (n1 : Int) (n2 : Int) (s1 : List UInt8) (n3 : Int) : St := ⟨[(2, .ptr 0 0), (3, .ptr 1 0), (4, .ptr 2 0), (7, .ptr 3 0), (8, .int .i64 n3)], [(0, .box [.imm 1 (a0.Logs.map dL_str) 4, .imm 5 (a0.Votes.map TSeen.d) 4]), (1, .box [.int .u8 a1.Kind, .int .i64 a1.Group, .int .i64 a1.Slot, .int .i64 a1.Ballot, .str a1.Value]), (2, .box [.imm 0 [] 0, .imm 0 [] 0]), (3, .box [.int .i64 n1, .int .i64 n2, .str s1])], 4⟩
attribute [local go_sem] Try.St_towncrierref11_Apply_1
def Try.St_towncrierref11_Apply_3 (v7 : List TSeen) (l1 : LL) : St := ⟨[(4, .ptr 2 0), (9, .ptr 20060 0)], [(2, .box [.imm 0 [] 0, .imm 0 [] 0]), (20060, .box [.ref 20001 1 0 l1.length (some unkC), .ref 20061 5 0 v7.length (some unkC)]), (20061, .arr 67 5 true (v7.map TSeen.d)), (20001, outb 20110 l1), (20110, inb l1 0), (20111, inb l1 1), (20112, inb l1 2), (20113, inb l1 3)], 20160⟩
attribute [local go_sem] Try.St_towncrierref11_Apply_3
def Try.Re_towncrierref11_Apply (r : TStable × Int) : St := ⟨[(4, .ptr 2 0), (5, .int .i64 r.2)], [(20001, outb 20110 r.1.Logs), (20110, inb r.1.Logs 0), (20111, inb r.1.Logs 1), (20112, inb r.1.Logs 2), (20113, inb r.1.Logs 3), (20101, .arr 67 5 true (r.1.Votes.map TSeen.d)), (2, .box [.ref 20001 1 0 r.1.Logs.length (some unkC), .ref 20101 5 0 r.1.Votes.length (some unkC)])], 20200⟩
attribute [local go_sem] Try.Re_towncrierref11_Apply
theorem callH_towncrierref11_ApplyQ (a0 : TStable) (a1 : TRecord) (r : TStable × Int) (h : m_towncrierref11_Apply a0 a1 = some r) : CallH Try.prog 15 [.agg [.imm 1 (a0.Logs.map dL_str) 4, .imm 5 (a0.Votes.map TSeen.d) 4], .agg [.int .u8 a1.Kind, .int .i64 a1.Group, .int .i64 a1.Slot, .int .i64 a1.Ballot, .str a1.Value]] [] (.tuple [.agg [.ref 20001 1 0 r.1.Logs.length (some unkC), .ref 20101 5 0 r.1.Votes.length (some unkC)], .int .i64 r.2]) [(20001, some (outb 20110 r.1.Logs)), (20110, some (inb r.1.Logs 0)), (20111, some (inb r.1.Logs 1)), (20112, some (inb r.1.Logs 2)), (20113, some (inb r.1.Logs 3)), (20101, some (.arr 67 5 true (r.1.Votes.map TSeen.d)))] (0, 20200) := by
 refine callH_intro' Try.tmOk Try.func15 rfl (by decide) (Nat.le_of_ble_eq_true rfl) (by simp) ?_
 intro hwf
 unfold m_towncrierref11_Apply at h
 refine .ends 0 (Nat.le_refl _) ?_
 refine .seq ?_
 refine .pl Try.S [0, 1] ?_
 refine .seq ?_
 refine .seq ?_
 obtain ⟨v1, hv1, h⟩ := bind_some h
 obtain ⟨v2, hv2, h⟩ := bind_some h
 refine .rg Try.S [2, 3, 4] ?_
 refine .rn 1 ?_
 refine .call (r := .bool v1) rfl rfl rfl rfl rfl rfl (callP_towncrierref11_May a0 v1 hv1) ?_
 refine .rn 3 ?_
 refine .gcall (r := .bool v2) rfl rfl rfl rfl rfl (fun hg => ⟨[], [.agg [.int .u8 a1.Kind, .int .i64 a1.Group, .int .i64 a1.Slot, .int .i64 a1.Ballot, .str a1.Value]], _, rfl, gd hg, rfl, (callP_towncrierref10_May a1 v2 (ite_lc hv2 hg))⟩) ?_
 refine .rn 2 ?_
 refine .nil ⟨nofun, ?_⟩
 refine .cond rfl rfl (fun hc1 => ?_) (fun hc1 => ?_)
 ·skip
  replace h := ite_lc h hc1
  refine .seq ?_
  refine .pl Try.S [4] ?_
  have hq := Option.some.inj h
  subst r
  refine .ret ⟨Try.Re_towncrierref11_Apply ((⟨[], []⟩ : TStable), 8), ?_, .inr rfl, retH [20101, 20113, 20112, 20111, 20110, 20001] ?_ ?_⟩
  ·skip
   refine Goes.new0 1 34 (Nat.le_of_ble_eq_true rfl) ?_
   refine Goes.new0 5 67 (Nat.le_of_ble_eq_true rfl) ?_
   refine Goes.boxs 2 _ [.ref 3 1 0 0 (some unkC), .ref 4 5 0 0 (some unkC)] rfl (.cons (.own0 3 _ _ _ (by decide)) (.cons (.own0 4 _ _ _ (by decide)) (.refl _))) ?_
   refine Goes.pf 3 rfl ?_
   refine Goes.new0 1 9 (Nat.le_of_ble_eq_true rfl) ?_
   refine Goes.new0 1 9 (Nat.le_of_ble_eq_true rfl) ?_
   refine Goes.new0 1 9 (Nat.le_of_ble_eq_true rfl) ?_
   refine Goes.new0 1 9 (Nat.le_of_ble_eq_true rfl) ?_
   exact .m [4, 5] [3, 5, 6, 7, 8, 4, 2] [(3, 20001), (4, 20101), (5, 20110), (6, 20111), (7, 20112), (8, 20113)]
  ·exact rsi0
  ·rfl
 ·skip
  replace h := ite_rc h hc1
  refine .skip ?_
  refine .seq ?_
  refine .seq ?_
  refine .pl Try.S [2, 3, 4] ?_
  refine .cond rfl rfl (fun hc2 => ?_) (fun hc2 => ?_)
  ·skip
   replace h := ite_lc h hc2
   refine .seq ?_
   refine .pl Try.S [4] ?_
   have hq := Option.some.inj h
   subst r
   refine .ret ⟨Try.Re_towncrierref11_Apply ((⟨[], []⟩ : TStable), 6), ?_, .inr rfl, retH [20101, 20113, 20112, 20111, 20110, 20001] ?_ ?_⟩
   ·skip
    refine Goes.new0 1 34 (Nat.le_of_ble_eq_true rfl) ?_
    refine Goes.new0 5 67 (Nat.le_of_ble_eq_true rfl) ?_
    refine Goes.boxs 2 _ [.ref 3 1 0 0 (some unkC), .ref 4 5 0 0 (some unkC)] rfl (.cons (.own0 3 _ _ _ (by decide)) (.cons (.own0 4 _ _ _ (by decide)) (.refl _))) ?_
    refine Goes.pf 3 rfl ?_
    refine Goes.new0 1 9 (Nat.le_of_ble_eq_true rfl) ?_
    refine Goes.new0 1 9 (Nat.le_of_ble_eq_true rfl) ?_
    refine Goes.new0 1 9 (Nat.le_of_ble_eq_true rfl) ?_
    refine Goes.new0 1 9 (Nat.le_of_ble_eq_true rfl) ?_
    exact .m [4, 5] [3, 5, 6, 7, 8, 4, 2] [(3, 20001), (4, 20101), (5, 20110), (6, 20111), (7, 20112), (8, 20113)]
   ·exact rsi0
   ·rfl
  ·skip
   replace h := ite_rc h hc2
   refine .skip ?_
   refine .seq ?_
   obtain ⟨k1, h⟩ := ite_ck h
   have e1 := nth_mapI dL_str a0.Logs a1.Group
   replace e1 := e1 k1
   refine .plx Try.S e1 [2, 3, 4] ?_
   refine .seq ?_
   refine .seq ?_
   refine .rg Try.S [2, 3, 4, 6] ?_
   refine .rn 6 ?_
   refine .rn 6 ?_
   refine .rn 4 ?_
   refine .nil ⟨nofun, ?_⟩
   refine .cond rfl rfl (fun hc3 => ?_) (fun hc3 => ?_)
   ·skip
    replace h := ite_lc h hc3
    refine .seq ?_
    refine .pl Try.S [4] ?_
    have hq := Option.some.inj h
    subst r
    refine .ret ⟨Try.Re_towncrierref11_Apply ((⟨[], []⟩ : TStable), 8), ?_, .inr rfl, retH [20101, 20113, 20112, 20111, 20110, 20001] ?_ ?_⟩
    ·skip
     refine Goes.new0 1 34 (Nat.le_of_ble_eq_true rfl) ?_
     refine Goes.new0 5 67 (Nat.le_of_ble_eq_true rfl) ?_
     refine Goes.boxs 2 _ [.ref 3 1 0 0 (some unkC), .ref 4 5 0 0 (some unkC)] rfl (.cons (.own0 3 _ _ _ (by decide)) (.cons (.own0 4 _ _ _ (by decide)) (.refl _))) ?_
     refine Goes.pf 3 rfl ?_
     refine Goes.new0 1 9 (Nat.le_of_ble_eq_true rfl) ?_
     refine Goes.new0 1 9 (Nat.le_of_ble_eq_true rfl) ?_
     refine Goes.new0 1 9 (Nat.le_of_ble_eq_true rfl) ?_
     refine Goes.new0 1 9 (Nat.le_of_ble_eq_true rfl) ?_
     exact .m [4, 5] [3, 5, 6, 7, 8, 4, 2] [(3, 20001), (4, 20101), (5, 20110), (6, 20111), (7, 20112), (8, 20113)]
    ·exact rsi0
    ·rfl
   ·skip
    replace h := ite_rc h hc3
    refine .skip ?_
    refine .seq ?_
    obtain ⟨v3, hv3, h⟩ := bind_some h
    refine .rg Try.S [2, 3, 4] ?_
    refine .rn 6 ?_
    refine .call (r := .agg [.int .i64 v3.Promised, .int .i64 v3.Ballot, .str v3.Value]) rfl rfl rfl rfl rfl rfl (callP_towncrierref11_Vote a0.Votes a1.Group a1.Slot v3 hv3) ?_
    refine .rn 3 ?_
    refine .nil ⟨nofun, ?_⟩
    obtain ⟨x1, hx1, h⟩ := bind_some h
    refine .seqM 4 (fun (j : Int × Int × (List UInt8) × Int) => Try.St_towncrierref11_Apply_1 a0 a1 j.1 j.2.1 j.2.2.1 j.2.2.2) (fun j => x1 = j) (Nat.le_of_ble_eq_true rfl) ?_ ?_
    ·skip
     refine .seq ?_
     refine .pl Try.S [2, 3, 4, 7, 8] ?_
     refine .block ?_
     refine .seq ?_
     refine .pl Try.S [2, 3, 4, 7, 8, 58] ?_
     refine .cond rfl rfl (fun hc4 => ?_) (fun hc4 => ?_)
     ·skip
      replace hx1 := ite_lc hx1 hc4
      obtain ⟨v4, hv4, hx1⟩ := bind_some hx1
      refine .rg Try.S [2, 3, 4, 7] ?_
      refine .rn 3 ?_
      refine .call (r := .tuple [.agg [.int .i64 v4.1.Promised, .int .i64 v4.1.Ballot, .str v4.1.Value], .int .i64 v4.2]) rfl rfl rfl rfl rfl rfl (callP_towncrierref07_Prepare v3 a1.Ballot v4 hv4) ?_
      refine .rn 5 ?_
      refine .nil ⟨nofun, ?_⟩
      refine ⟨_, ?_, (Option.some.inj hx1).symm⟩
      exact .m [2, 3, 4, 7, 8] [0, 1, 2, 3] []
     ·skip
      replace hx1 := ite_rc hx1 hc4
      refine .seq ?_
      refine .pl Try.S [2, 3, 4, 7, 8, 58] ?_
      refine .cond rfl rfl (fun hc5 => ?_) (fun hc5 => ?_)
      ·skip
       replace hx1 := ite_lc hx1 hc5
       obtain ⟨v5, hv5, hx1⟩ := bind_some hx1
       refine .rg Try.S [2, 3, 4, 7] ?_
       refine .rn 5 ?_
       refine .call (r := .tuple [.agg [.int .i64 v5.1.Promised, .int .i64 v5.1.Ballot, .str v5.1.Value], .int .i64 v5.2]) rfl rfl rfl rfl rfl rfl (callP_towncrierref07_Accept v3 a1.Ballot a1.Value v5 hv5) ?_
       refine .rn 5 ?_
       refine .nil ⟨nofun, ?_⟩
       refine ⟨_, ?_, (Option.some.inj hx1).symm⟩
       exact .m [2, 3, 4, 7, 8] [0, 1, 2, 3] []
      ·skip
       replace hx1 := ite_rc hx1 hc5
       refine .seq ?_
       refine .pl Try.S [2, 3, 4, 7, 8, 58] ?_
       refine .cond rfl rfl (fun hc6 => ?_) (fun hc6 => ?_)
       ·skip
        replace hx1 := ite_lc hx1 hc6
        refine .pl Try.S [2, 3, 4, 7, 8] ?_
        refine ⟨_, ?_, (Option.some.inj hx1).symm⟩
        exact .m [2, 3, 4, 7, 8] [0, 1, 2, 3] []
       ·skip
        replace hx1 := ite_rc hx1 hc6
        refine .skip ?_
        refine ⟨_, ?_, (Option.some.inj hx1).symm⟩
        exact .m [2, 3, 4, 7, 8] [0, 1, 2, 3] []
    ·skip
     rintro ⟨n1, n2, s1, n3⟩ hj1
     subst x1
     try dsimp only at h
     simp only [Try.St_towncrierref11_Apply_1]
     refine .seq ?_
     refine .seq ?_
     refine .pl Try.S [2, 3, 4, 7, 8] ?_
     refine .cond rfl rfl (fun hc7 => ?_) (fun hc7 => ?_)
     ·skip
      replace h := ite_lc h hc7
      refine .seq ?_
      refine .pl Try.S [4, 8] ?_
      have hq := Option.some.inj h
      subst r
      refine .ret ⟨Try.Re_towncrierref11_Apply ((⟨[], []⟩ : TStable), n3), ?_, .inr rfl, retH [20101, 20113, 20112, 20111, 20110, 20001] ?_ ?_⟩
      ·skip
       refine Goes.new0 1 34 (Nat.le_of_ble_eq_true rfl) ?_
       refine Goes.new0 5 67 (Nat.le_of_ble_eq_true rfl) ?_
       refine Goes.boxs 2 _ [.ref 4 1 0 0 (some unkC), .ref 5 5 0 0 (some unkC)] rfl (.cons (.own0 4 _ _ _ (by decide)) (.cons (.own0 5 _ _ _ (by decide)) (.refl _))) ?_
       refine Goes.pf 4 rfl ?_
       refine Goes.new0 1 9 (Nat.le_of_ble_eq_true rfl) ?_
       refine Goes.new0 1 9 (Nat.le_of_ble_eq_true rfl) ?_
       refine Goes.new0 1 9 (Nat.le_of_ble_eq_true rfl) ?_
       refine Goes.new0 1 9 (Nat.le_of_ble_eq_true rfl) ?_
       exact .m [4, 5] [4, 6, 7, 8, 9, 5, 2] [(4, 20001), (5, 20101), (6, 20110), (7, 20111), (8, 20112), (9, 20113)]
      ·exact rsi0
      ·rfl
     ·skip
      replace h := ite_rc h hc7
      refine .skip ?_
      refine .seq ?_
      obtain ⟨v6, hv6, h⟩ := bind_some h
      refine .rg Try.S [2, 3, 4, 7] ?_
      refine .rn 1 ?_
      have hg4 := lens_ref11_May a0 (by
       have : v1 = true := by
        cases v1 with
        | true => rfl
        | false => simp at hc1
       exact this ▸ hv1)
      have htw : v6.Logs.length ≤ 4 ∧ ∀ k, (v6.Logs.getD k []).length ≤ 100000 := by
       rw [lens_ref11_Twin a0 v6 hv6]; exact hg4
      refine .hcall (H := []) (r := .agg [.ref 20001 1 0 v6.Logs.length (some unkC), .ref 20002 5 0 v6.Votes.length (some unkC)]) rfl rfl rfl rfl rfl (callH_towncrierref11_TwinQ a0 v6 (Nat.le_trans hg4.1 (by decide)) hv6) (fun id b h => by cases h) (by simp) (.inr ⟨Nat.le_of_ble_eq_true rfl, Nat.le_of_ble_eq_true rfl⟩) ?_
      refine .rn 2 ?_
      refine .nil ⟨nofun, ?_⟩
      refine .seq ?_
      obtain ⟨v7, hv7, h⟩ := bind_some h
      refine .rg Try.S [2, 3, 4, 7, 9] ?_
      refine .rn 8 ?_
      refine .ncall (r := .ref 20061 5 0 v7.length (some unkC)) (eff := [(20061, some (.arr 67 5 true (v7.map TSeen.d)))]) (nw := (20061, 20069)) [] rfl rfl rfl rfl rfl (lend2s_cons rfl (lend2s_cons rfl lend2s_nil)) rfl (callH_at 20061 (Nat.le_of_ble_eq_true rfl) (callH_towncrierref11_With a0.Votes (⟨a1.Group, a1.Slot, (⟨n1, n2, s1⟩ : TVote)⟩ : TSeen) v7 hv7)) (newE_cons rfl rfl (newB_arr pl0_TSeen _ _ _) newE_nil) (by intro i hi; simp [D.ids, D.idsL] at hi <;> omega) rfl ⟨Nat.le_of_ble_eq_true rfl, Nat.le_of_ble_eq_true rfl⟩ ?_
      refine .rn 2 ?_
      refine .nil ⟨nofun, ?_⟩
      obtain ⟨x2, hx2, h⟩ := bind_some h
      refine .seqM 20100 (fun (j : (List (List (List UInt8)))) => Try.St_towncrierref11_Apply_3 v7 j) (fun j => j.length ≤ 4 ∧ x2 = j) (Nat.le_of_ble_eq_true rfl) ?_ ?_
      ·skip
       refine .seq ?_
       refine .pl Try.S [3, 4, 9] ?_
       refine .cond rfl rfl (fun hc8 => ?_) (fun hc8 => ?_)
       ·skip
        replace hx2 := ite_lc hx2 hc8
        obtain ⟨k2, hx2⟩ := ite_ck hx2
        have kk := k2
        obtain ⟨h4, h5⟩ := htw
        have hx := (Option.some.inj hx2).symm
        clear h hx2 hv6
        obtain ⟨ls, vs⟩ := v6
        obtain ⟨kd, gr, sl, bl, vl⟩ := a1
        have hg : ∃ g : Nat, gr = (g : Int) := ⟨gr.toNat, by simp only at kk; omega⟩
        obtain ⟨g, rfl⟩ := hg
        have hgl : g < ls.length := by simp only at kk; omega
        rcases ls with _ | ⟨b0, _ | ⟨b1, _ | ⟨b2, _ | ⟨b3, _ | ⟨b4, bs⟩⟩⟩⟩⟩
        ·exact absurd hgl (Nat.not_lt_zero _)
        ·skip
         rcases g with _ | g
         ·skip
          have hb0 : b0.length ≤ 100000 := h5 0
          have hS : [b0].set 0 ([b0].getD 0 default ++ [vl]) = [b0 ++ [vl]] := rfl
          have hL : (b0 ++ [vl]).length = b0.length + 1 := by simp
          have hM : (b0 ++ [vl]).map D.str = b0.map D.str ++ [D.str vl] := by simp
          have hG : [b0 ++ [vl]].getD 0 [] = b0 ++ [vl] := rfl
          have hG0 : [b0].getD 0 [] = b0 := rfl
          have hle : (b0.length + 1) * 16 ≤ 140737488355328 := by omega
          refine .dr Try.S [3, 4, 9] ?_ (hv := by first | (simp [hG0, hle, nl0, nl1, nl2, nl3, oneD]; done) | (simp [hG0, nl0, nl1, nl2, nl3, oneD] <;> omega) | (dsimp only; simp only [hG0, hle, decide_true, beq_self_eq_true, Bool.and_self, Bool.true_and, Bool.and_true, Nat.reduceBEq, Bool.or_true, Bool.false_or, Bool.or_false, Bool.false_and]; done))
          refine ⟨_, ?_, by rw [List.length_set]; exact h4, hx⟩
          exact Goes.mx (And.intro hS (And.intro hL (And.intro hM (And.intro hG hG0)))) [4, 9] [2, 20060, 20061, 20001, 20070, 20011, 20012, 20013] [(20070, 20110), (20011, 20111), (20012, 20112), (20013, 20113)]
         ·exact absurd hgl (by simp only [List.length_cons, List.length_nil]; omega)
        ·skip
         rcases g with _ | g
         ·skip
          have hb0 : b0.length ≤ 100000 := h5 0
          have hb1 : b1.length ≤ 100000 := h5 1
          have hS : [b0, b1].set 0 ([b0, b1].getD 0 default ++ [vl]) = [b0 ++ [vl], b1] := rfl
          have hL : (b0 ++ [vl]).length = b0.length + 1 := by simp
          have hM : (b0 ++ [vl]).map D.str = b0.map D.str ++ [D.str vl] := by simp
          have hG : [b0 ++ [vl], b1].getD 0 [] = b0 ++ [vl] := rfl
          have hG0 : [b0, b1].getD 0 [] = b0 := rfl
          have hle : (b0.length + 1) * 16 ≤ 140737488355328 := by omega
          refine .dr Try.S [3, 4, 9] ?_ (hv := by first | (simp [hG0, hle, nl0, nl1, nl2, nl3, oneD]; done) | (simp [hG0, nl0, nl1, nl2, nl3, oneD] <;> omega) | (dsimp only; simp only [hG0, hle, decide_true, beq_self_eq_true, Bool.and_self, Bool.true_and, Bool.and_true, Nat.reduceBEq, Bool.or_true, Bool.false_or, Bool.or_false, Bool.false_and]; done))
          refine ⟨_, ?_, by rw [List.length_set]; exact h4, hx⟩
          exact Goes.mx (And.intro hS (And.intro hL (And.intro hM (And.intro hG hG0)))) [4, 9] [2, 20060, 20061, 20001, 20070, 20011, 20012, 20013] [(20070, 20110), (20011, 20111), (20012, 20112), (20013, 20113)]
         ·skip
          rcases g with _ | g
          ·skip
           have hb0 : b0.length ≤ 100000 := h5 0
           have hb1 : b1.length ≤ 100000 := h5 1
           have hS : [b0, b1].set 1 ([b0, b1].getD 1 default ++ [vl]) = [b0, b1 ++ [vl]] := rfl
           have hL : (b1 ++ [vl]).length = b1.length + 1 := by simp
           have hM : (b1 ++ [vl]).map D.str = b1.map D.str ++ [D.str vl] := by simp
           have hG : [b0, b1 ++ [vl]].getD 1 [] = b1 ++ [vl] := rfl
           have hG0 : [b0, b1].getD 1 [] = b1 := rfl
           have hle : (b1.length + 1) * 16 ≤ 140737488355328 := by omega
           refine .dr Try.S [3, 4, 9] ?_ (hv := by first | (simp [hG0, hle, nl0, nl1, nl2, nl3, oneD]; done) | (simp [hG0, nl0, nl1, nl2, nl3, oneD] <;> omega) | (dsimp only; simp only [hG0, hle, decide_true, beq_self_eq_true, Bool.and_self, Bool.true_and, Bool.and_true, Nat.reduceBEq, Bool.or_true, Bool.false_or, Bool.or_false, Bool.false_and]; done))
           refine ⟨_, ?_, by rw [List.length_set]; exact h4, hx⟩
           exact Goes.mx (And.intro hS (And.intro hL (And.intro hM (And.intro hG hG0)))) [4, 9] [2, 20060, 20061, 20001, 20010, 20070, 20012, 20013] [(20010, 20110), (20070, 20111), (20012, 20112), (20013, 20113)]
          ·exact absurd hgl (by simp only [List.length_cons, List.length_nil]; omega)
        ·skip
         rcases g with _ | g
         ·skip
          have hb0 : b0.length ≤ 100000 := h5 0
          have hb1 : b1.length ≤ 100000 := h5 1
          have hb2 : b2.length ≤ 100000 := h5 2
          have hS : [b0, b1, b2].set 0 ([b0, b1, b2].getD 0 default ++ [vl]) = [b0 ++ [vl], b1, b2] := rfl
          have hL : (b0 ++ [vl]).length = b0.length + 1 := by simp
          have hM : (b0 ++ [vl]).map D.str = b0.map D.str ++ [D.str vl] := by simp
          have hG : [b0 ++ [vl], b1, b2].getD 0 [] = b0 ++ [vl] := rfl
          have hG0 : [b0, b1, b2].getD 0 [] = b0 := rfl
          have hle : (b0.length + 1) * 16 ≤ 140737488355328 := by omega
          refine .dr Try.S [3, 4, 9] ?_ (hv := by first | (simp [hG0, hle, nl0, nl1, nl2, nl3, oneD]; done) | (simp [hG0, nl0, nl1, nl2, nl3, oneD] <;> omega) | (dsimp only; simp only [hG0, hle, decide_true, beq_self_eq_true, Bool.and_self, Bool.true_and, Bool.and_true, Nat.reduceBEq, Bool.or_true, Bool.false_or, Bool.or_false, Bool.false_and]; done))
          refine ⟨_, ?_, by rw [List.length_set]; exact h4, hx⟩
          exact Goes.mx (And.intro hS (And.intro hL (And.intro hM (And.intro hG hG0)))) [4, 9] [2, 20060, 20061, 20001, 20070, 20011, 20012, 20013] [(20070, 20110), (20011, 20111), (20012, 20112), (20013, 20113)]
         ·skip
          rcases g with _ | g
          ·skip
           have hb0 : b0.length ≤ 100000 := h5 0
           have hb1 : b1.length ≤ 100000 := h5 1
           have hb2 : b2.length ≤ 100000 := h5 2
           have hS : [b0, b1, b2].set 1 ([b0, b1, b2].getD 1 default ++ [vl]) = [b0, b1 ++ [vl], b2] := rfl
           have hL : (b1 ++ [vl]).length = b1.length + 1 := by simp
           have hM : (b1 ++ [vl]).map D.str = b1.map D.str ++ [D.str vl] := by simp
           have hG : [b0, b1 ++ [vl], b2].getD 1 [] = b1 ++ [vl] := rfl
           have hG0 : [b0, b1, b2].getD 1 [] = b1 := rfl
           have hle : (b1.length + 1) * 16 ≤ 140737488355328 := by omega
           refine .dr Try.S [3, 4, 9] ?_ (hv := by first | (simp [hG0, hle, nl0, nl1, nl2, nl3, oneD]; done) | (simp [hG0, nl0, nl1, nl2, nl3, oneD] <;> omega) | (dsimp only; simp only [hG0, hle, decide_true, beq_self_eq_true, Bool.and_self, Bool.true_and, Bool.and_true, Nat.reduceBEq, Bool.or_true, Bool.false_or, Bool.or_false, Bool.false_and]; done))
           refine ⟨_, ?_, by rw [List.length_set]; exact h4, hx⟩
           exact Goes.mx (And.intro hS (And.intro hL (And.intro hM (And.intro hG hG0)))) [4, 9] [2, 20060, 20061, 20001, 20010, 20070, 20012, 20013] [(20010, 20110), (20070, 20111), (20012, 20112), (20013, 20113)]
          ·skip
           rcases g with _ | g
           ·skip
            have hb0 : b0.length ≤ 100000 := h5 0
            have hb1 : b1.length ≤ 100000 := h5 1
            have hb2 : b2.length ≤ 100000 := h5 2
            have hS : [b0, b1, b2].set 2 ([b0, b1, b2].getD 2 default ++ [vl]) = [b0, b1, b2 ++ [vl]] := rfl
            have hL : (b2 ++ [vl]).length = b2.length + 1 := by simp
            have hM : (b2 ++ [vl]).map D.str = b2.map D.str ++ [D.str vl] := by simp
            have hG : [b0, b1, b2 ++ [vl]].getD 2 [] = b2 ++ [vl] := rfl
            have hG0 : [b0, b1, b2].getD 2 [] = b2 := rfl
            have hle : (b2.length + 1) * 16 ≤ 140737488355328 := by omega
            refine .dr Try.S [3, 4, 9] ?_ (hv := by first | (simp [hG0, hle, nl0, nl1, nl2, nl3, oneD]; done) | (simp [hG0, nl0, nl1, nl2, nl3, oneD] <;> omega) | (dsimp only; simp only [hG0, hle, decide_true, beq_self_eq_true, Bool.and_self, Bool.true_and, Bool.and_true, Nat.reduceBEq, Bool.or_true, Bool.false_or, Bool.or_false, Bool.false_and]; done))
            refine ⟨_, ?_, by rw [List.length_set]; exact h4, hx⟩
            exact Goes.mx (And.intro hS (And.intro hL (And.intro hM (And.intro hG hG0)))) [4, 9] [2, 20060, 20061, 20001, 20010, 20011, 20070, 20013] [(20010, 20110), (20011, 20111), (20070, 20112), (20013, 20113)]
           ·exact absurd hgl (by simp only [List.length_cons, List.length_nil]; omega)
        ·skip
         rcases g with _ | g
         ·skip
          have hb0 : b0.length ≤ 100000 := h5 0
          have hb1 : b1.length ≤ 100000 := h5 1
          have hb2 : b2.length ≤ 100000 := h5 2
          have hb3 : b3.length ≤ 100000 := h5 3
          have hS : [b0, b1, b2, b3].set 0 ([b0, b1, b2, b3].getD 0 default ++ [vl]) = [b0 ++ [vl], b1, b2, b3] := rfl
          have hL : (b0 ++ [vl]).length = b0.length + 1 := by simp
          have hM : (b0 ++ [vl]).map D.str = b0.map D.str ++ [D.str vl] := by simp
          have hG : [b0 ++ [vl], b1, b2, b3].getD 0 [] = b0 ++ [vl] := rfl
          have hG0 : [b0, b1, b2, b3].getD 0 [] = b0 := rfl
          have hle : (b0.length + 1) * 16 ≤ 140737488355328 := by omega
          refine .dr Try.S [3, 4, 9] ?_ (hv := by first | (simp [hG0, hle, nl0, nl1, nl2, nl3, oneD]; done) | (simp [hG0, nl0, nl1, nl2, nl3, oneD] <;> omega) | (dsimp only; simp only [hG0, hle, decide_true, beq_self_eq_true, Bool.and_self, Bool.true_and, Bool.and_true, Nat.reduceBEq, Bool.or_true, Bool.false_or, Bool.or_false, Bool.false_and]; done))
          refine ⟨_, ?_, by rw [List.length_set]; exact h4, hx⟩
          exact Goes.mx (And.intro hS (And.intro hL (And.intro hM (And.intro hG hG0)))) [4, 9] [2, 20060, 20061, 20001, 20070, 20011, 20012, 20013] [(20070, 20110), (20011, 20111), (20012, 20112), (20013, 20113)]
         ·skip
          rcases g with _ | g
          ·skip
           have hb0 : b0.length ≤ 100000 := h5 0
           have hb1 : b1.length ≤ 100000 := h5 1
           have hb2 : b2.length ≤ 100000 := h5 2
           have hb3 : b3.length ≤ 100000 := h5 3
           have hS : [b0, b1, b2, b3].set 1 ([b0, b1, b2, b3].getD 1 default ++ [vl]) = [b0, b1 ++ [vl], b2, b3] := rfl
           have hL : (b1 ++ [vl]).length = b1.length + 1 := by simp
           have hM : (b1 ++ [vl]).map D.str = b1.map D.str ++ [D.str vl] := by simp
           have hG : [b0, b1 ++ [vl], b2, b3].getD 1 [] = b1 ++ [vl] := rfl
           have hG0 : [b0, b1, b2, b3].getD 1 [] = b1 := rfl
           have hle : (b1.length + 1) * 16 ≤ 140737488355328 := by omega
           refine .dr Try.S [3, 4, 9] ?_ (hv := by first | (simp [hG0, hle, nl0, nl1, nl2, nl3, oneD]; done) | (simp [hG0, nl0, nl1, nl2, nl3, oneD] <;> omega) | (dsimp only; simp only [hG0, hle, decide_true, beq_self_eq_true, Bool.and_self, Bool.true_and, Bool.and_true, Nat.reduceBEq, Bool.or_true, Bool.false_or, Bool.or_false, Bool.false_and]; done))
           refine ⟨_, ?_, by rw [List.length_set]; exact h4, hx⟩
           exact Goes.mx (And.intro hS (And.intro hL (And.intro hM (And.intro hG hG0)))) [4, 9] [2, 20060, 20061, 20001, 20010, 20070, 20012, 20013] [(20010, 20110), (20070, 20111), (20012, 20112), (20013, 20113)]
          ·skip
           rcases g with _ | g
           ·skip
            have hb0 : b0.length ≤ 100000 := h5 0
            have hb1 : b1.length ≤ 100000 := h5 1
            have hb2 : b2.length ≤ 100000 := h5 2
            have hb3 : b3.length ≤ 100000 := h5 3
            have hS : [b0, b1, b2, b3].set 2 ([b0, b1, b2, b3].getD 2 default ++ [vl]) = [b0, b1, b2 ++ [vl], b3] := rfl
            have hL : (b2 ++ [vl]).length = b2.length + 1 := by simp
            have hM : (b2 ++ [vl]).map D.str = b2.map D.str ++ [D.str vl] := by simp
            have hG : [b0, b1, b2 ++ [vl], b3].getD 2 [] = b2 ++ [vl] := rfl
            have hG0 : [b0, b1, b2, b3].getD 2 [] = b2 := rfl
            have hle : (b2.length + 1) * 16 ≤ 140737488355328 := by omega
            refine .dr Try.S [3, 4, 9] ?_ (hv := by first | (simp [hG0, hle, nl0, nl1, nl2, nl3, oneD]; done) | (simp [hG0, nl0, nl1, nl2, nl3, oneD] <;> omega) | (dsimp only; simp only [hG0, hle, decide_true, beq_self_eq_true, Bool.and_self, Bool.true_and, Bool.and_true, Nat.reduceBEq, Bool.or_true, Bool.false_or, Bool.or_false, Bool.false_and]; done))
            refine ⟨_, ?_, by rw [List.length_set]; exact h4, hx⟩
            exact Goes.mx (And.intro hS (And.intro hL (And.intro hM (And.intro hG hG0)))) [4, 9] [2, 20060, 20061, 20001, 20010, 20011, 20070, 20013] [(20010, 20110), (20011, 20111), (20070, 20112), (20013, 20113)]
           ·skip
            rcases g with _ | g
            ·skip
             have hb0 : b0.length ≤ 100000 := h5 0
             have hb1 : b1.length ≤ 100000 := h5 1
             have hb2 : b2.length ≤ 100000 := h5 2
             have hb3 : b3.length ≤ 100000 := h5 3
             have hS : [b0, b1, b2, b3].set 3 ([b0, b1, b2, b3].getD 3 default ++ [vl]) = [b0, b1, b2, b3 ++ [vl]] := rfl
             have hL : (b3 ++ [vl]).length = b3.length + 1 := by simp
             have hM : (b3 ++ [vl]).map D.str = b3.map D.str ++ [D.str vl] := by simp
             have hG : [b0, b1, b2, b3 ++ [vl]].getD 3 [] = b3 ++ [vl] := rfl
             have hG0 : [b0, b1, b2, b3].getD 3 [] = b3 := rfl
             have hle : (b3.length + 1) * 16 ≤ 140737488355328 := by omega
             refine .dr Try.S [3, 4, 9] ?_ (hv := by first | (simp [hG0, hle, nl0, nl1, nl2, nl3, oneD]; done) | (simp [hG0, nl0, nl1, nl2, nl3, oneD] <;> omega) | (dsimp only; simp only [hG0, hle, decide_true, beq_self_eq_true, Bool.and_self, Bool.true_and, Bool.and_true, Nat.reduceBEq, Bool.or_true, Bool.false_or, Bool.or_false, Bool.false_and]; done))
             refine ⟨_, ?_, by rw [List.length_set]; exact h4, hx⟩
             exact Goes.mx (And.intro hS (And.intro hL (And.intro hM (And.intro hG hG0)))) [4, 9] [2, 20060, 20061, 20001, 20010, 20011, 20012, 20070] [(20010, 20110), (20011, 20111), (20012, 20112), (20070, 20113)]
            ·exact absurd hgl (by simp only [List.length_cons, List.length_nil]; omega)
        ·exact absurd h4 (by simp only [List.length_cons]; omega)
       ·skip
        replace hx2 := ite_rc hx2 hc8
        refine .skip ?_
        refine ⟨_, ?_, htw.1, (Option.some.inj hx2).symm⟩
        exact .mxq (hrenQ [(20010, 20110), (20011, 20111), (20012, 20112), (20013, 20113)] 20010 20110 v6.Logs htw.1 (by decide)) [4, 9] [2, 20060, 20061, 20001, 20010, 20011, 20012, 20013] [(20010, 20110), (20011, 20111), (20012, 20112), (20013, 20113)] [2, 20060, 20061, 20001, 20010, 20011, 20012, 20013] (by intro i hi; simp only [go_sem, idsV, idsH, Blk.ids, D.ids, D.idsL, cond_false, cond_true, List.mem_append, List.mem_cons, List.not_mem_nil, or_false, false_or, List.nil_append, List.append_nil, List.cons_append, qrefs_mem, List.length_map, List.length_set, Nat.reduceBEq] at hi ⊢; omega)
      ·skip
       rintro l1 ⟨hl1, hj2⟩
       subst x2
       try dsimp only at h
       simp only [Try.St_towncrierref11_Apply_3]
       refine .seq ?_
       refine .pl Try.S [4, 9] ?_
       have hq := Option.some.inj h
       subst r
       refine .ret ⟨Try.Re_towncrierref11_Apply ((⟨l1, v7⟩ : TStable), 0), ?_, .inr rfl, retH [20101, 20113, 20112, 20111, 20110, 20001] ?_ ?_⟩
       ·skip
        exact .mxq (hrenQ [(20061, 20101)] 20110 20110 l1 hl1 (by decide)) [4, 5] [20001, 20110, 20111, 20112, 20113, 20061, 2] [(20061, 20101)] [20001, 20110, 20111, 20112, 20113, 20061, 2] (by intro i hi; simp only [go_sem, idsV, idsH, Blk.ids, D.ids, D.idsL, cond_false, cond_true, List.mem_append, List.mem_cons, List.not_mem_nil, or_false, false_or, List.nil_append, List.append_nil, List.cons_append, qrefs_mem, List.length_map, List.length_set, Nat.reduceBEq] at hi ⊢; omega)
       ·exact rsi0
       ·rfl
theorem callP_towncrierref11_Twin (a0 : TStable) (r : TStable) (h4 : a0.Logs.length ≤ 10) (h : m_towncrierref11_Twin a0 = some r) : CallP Try.prog 14 [.agg [.imm 1 (a0.Logs.map dL_str) 4, .imm 5 (a0.Votes.map TSeen.d) 4]] (.agg [.imm 1 (r.Logs.map dL_str) 12, .imm 5 (r.Votes.map TSeen.d) 12]) :=
 callP_frzR (.agg (.cons (FrzR.nest plL_str rfl rfl (fun i hi => by
  have e := congrArg List.length (lens_ref11_Twin a0 r h)
  rcases (by omega : i = 0 ∨ i = 1 ∨ i = 2 ∨ i = 3 ∨ i = 4 ∨ i = 5 ∨ i = 6 ∨ i = 7 ∨ i = 8 ∨ i = 9) with rfl | rfl | rfl | rfl | rfl | rfl | rfl | rfl | rfl | rfl <;> rfl)) (.cons (.of (frz_ref0 pl0_TSeen rfl rfl)) .nil))) rfl (callH_towncrierref11_TwinQ a0 r h4 h)
theorem callP_towncrierref11_Apply (a0 : TStable) (a1 : TRecord) (r : TStable × Int) (h : m_towncrierref11_Apply a0 a1 = some r) : CallP Try.prog 15 [.agg [.imm 1 (a0.Logs.map dL_str) 4, .imm 5 (a0.Votes.map TSeen.d) 4], .agg [.int .u8 a1.Kind, .int .i64 a1.Group, .int .i64 a1.Slot, .int .i64 a1.Ballot, .str a1.Value]] (.tuple [.agg [.imm 1 (r.1.Logs.map dL_str) 12, .imm 5 (r.1.Votes.map TSeen.d) 12], .int .i64 r.2]) :=
 callP_frzR (FrzR.tup (.cons (.agg (.cons (FrzR.nest plL_str rfl rfl (fun i hi => by
  have h4 := lens_ref11_Apply a0 a1 r h
  rcases (by omega : i = 0 ∨ i = 1 ∨ i = 2 ∨ i = 3) with rfl | rfl | rfl | rfl <;> rfl)) (.cons (.of (frz_ref0 pl0_TSeen rfl rfl)) .nil))) (.cons (.of rfl) .nil))) rfl (callH_towncrierref11_ApplyQ a0 a1 r h)
end Go.Proofs
end
section
namespace Go.Proofs
open Go.Tm
set_option linter.unusedVariables false
def m_towncrierref11_Replay_loop1 : List (List UInt8) → (List (List (List UInt8))) → (List TSeen) → Option ((TStable × Int) ⊕ ((List (List (List UInt8))) × (List TSeen)))
 | [], l3, l4 =>
  some (.inr (l3, l4))
 | y1 :: rest1, l3, l4 =>
  Option.bind (m_towncrierref10_Read (y1)) fun v2 =>
  if ¬ (v2.2 = 0) then
  some (.inl ((⟨[], []⟩ : TStable), v2.2))
  else
  Option.bind (m_towncrierref11_Apply (⟨l3, l4⟩ : TStable) v2.1) fun v3 =>
  if ¬ (v3.2 = 0) then
  some (.inl ((⟨[], []⟩ : TStable), v3.2))
  else
  m_towncrierref11_Replay_loop1 rest1 v3.1.Logs v3.1.Votes
def m_towncrierref11_Replay (a0 : Int) (a1 : List (List UInt8)) : Option (TStable × Int) :=
 Option.bind (m_towncrierref11_New a0) fun v1 =>
 if ¬ (v1.2 = 0) then
 some ((⟨[], []⟩ : TStable), v1.2)
 else
 if (a1.length : Int) > 65536 then
 some ((⟨[], []⟩ : TStable), 4)
 else
 Option.bind (α := (TStable × Int) ⊕ ((List (List (List UInt8))) × (List TSeen))) (m_towncrierref11_Replay_loop1 a1 v1.1.Logs v1.1.Votes) fun z => match z with
 | (.inl r) => some r
 | (.inr (l1, l2)) =>
 some ((⟨l1, l2⟩ : TStable), 0)
def m_towncrierlaw11_StableReplays (a0 : Int) (a1 : List (List UInt8)) (a2 : TStable) : Option Bool :=
 Option.bind (if ¬ ((a1.length : Int) > 150) then m_towncrierref01_Great a1 else some default) fun v1 =>
 Option.bind (if ¬ (((a1.length : Int) > 150) ∨ (v1 = true)) then m_towncrierref11_Great a2 else some default) fun v2 =>
 if (((a1.length : Int) > 150) ∨ (v1 = true)) ∨ (v2 = true) then
 some true
 else
 Option.bind (m_stable_New a0) fun v3 =>
 Option.bind (m_towncrierref11_New a0) fun v4 =>
 Option.bind (m_stable_Replay a0 a1) fun v5 =>
 Option.bind (m_towncrierref11_Replay a0 a1) fun v6 =>
 Option.bind (m_towncrierref11_Twin a2) fun v7 =>
 Option.bind (m_stable_Image v7) fun v8 =>
 Option.bind (m_towncrierref11_Image a2) fun v9 =>
 Option.bind (m_towncrierref11_Same v3.1 v4.1) fun v10 =>
 Option.bind (if (v10 = true) ∧ (v3.2 = v4.2) then m_towncrierref11_Same v5.1 v6.1 else some default) fun v11 =>
 Option.bind (if (((v10 = true) ∧ (v3.2 = v4.2)) ∧ (v11 = true)) ∧ (v5.2 = v6.2) then m_towncrierref01_SameTexts v8.1 v9.1 else some default) fun v12 =>
 Option.bind (if (((((v10 = true) ∧ (v3.2 = v4.2)) ∧ (v11 = true)) ∧ (v5.2 = v6.2)) ∧ (v12 = true)) ∧ (v8.2 = v9.2) then m_towncrierref11_Same v7 a2 else some default) fun v13 =>
 some ((((((v10 && (v3.2 == v4.2)) && v11) && (v5.2 == v6.2)) && v12) && (v8.2 == v9.2)) && v13)
end Go.Proofs
end
section
namespace Go.Proofs
open Go.Tm
set_option linter.unusedSimpArgs false
def voteAt (l : List TSeen) (g k : Int) : TVote := ((l.find? fun y => decide (y.Group = g ∧ y.Slot = k)).map TSeen.Vote).getD zV
def withV (l : List TSeen) (x : TSeen) : List TSeen := bef x l ++ ((if x.Vote = zV then [] else [x]) ++ aft x l)
def logAt (s : TStable) (g : Int) : Txts := s.Logs.getD g.toNat default
def newV (s : TStable) (r : TRecord) : TVote × Int :=
 if r.Kind = 1 then (if askE (voteAt s.Votes r.Group r.Slot) r.Ballot [] = 0 then ⟨r.Ballot, (voteAt s.Votes r.Group r.Slot).Ballot, (voteAt s.Votes r.Group r.Slot).Value⟩ else zV, askE (voteAt s.Votes r.Group r.Slot) r.Ballot [])
 else if r.Kind = 2 then (if askE (voteAt s.Votes r.Group r.Slot) r.Ballot r.Value = 0 then ⟨r.Ballot, r.Ballot, r.Value⟩ else zV, askE (voteAt s.Votes r.Group r.Slot) r.Ballot r.Value)
 else (zV, 0)
def putE (s : TStable) (r : TRecord) : Int := if r.Group ≥ (s.Logs.length : Int) then 6 else if r.Slot ≤ ((logAt s r.Group).length : Int) ∨ (r.Kind = 3 ∧ r.Slot ≠ ((logAt s r.Group).length : Int) + 1) then 8 else (newV s r).2
def putS (s : TStable) (r : TRecord) : TStable := ⟨if r.Kind = 3 then s.Logs.set r.Group.toNat (logAt s r.Group ++ [r.Value]) else s.Logs, withV s.Votes ⟨r.Group, r.Slot, (newV s r).1⟩⟩
theorem find_bef (l : List TSeen) (x : TSeen) : (bef x l).find? (fun y => decide (y.Group = x.Group ∧ y.Slot = x.Slot)) = none := by
 rw [List.find?_eq_none]
 intro y hy
 have := (bef_lt hy).2
 simp only [decide_eq_true_eq]
 unfold ltP at this
 omega
theorem find_aft (l : List TSeen) (x : TSeen) : (aft x l).find? (fun y => decide (y.Group = x.Group ∧ y.Slot = x.Slot)) = none := by
 rw [List.find?_eq_none]
 intro y hy
 have := (aft_lt hy).2
 simp only [decide_eq_true_eq]
 unfold ltP at this
 omega
theorem voteAt_no {l : List TSeen} {x : TSeen} (e : l = bef x l ++ aft x l) : voteAt l x.Group x.Slot = zV := by
 unfold voteAt
 rw [e, List.find?_append, find_bef, find_aft]
 rfl
theorem voteAt_yes {l : List TSeen} {x y : TSeen} (hy : sameP y x) (e : l = bef x l ++ y :: aft x l) : voteAt l x.Group x.Slot = y.Vote := by
 unfold voteAt
 rw [e, List.find?_append, find_bef, List.find?_cons_of_pos (by simpa [sameP] using hy)]
 rfl
theorem getD_at {l A B : List TSeen} {y : TSeen} (e : l = A ++ y :: B) : l.getD A.length default = y := by
 rw [e, List.getD_eq_getElem?_getD, List.getElem?_append_right (Nat.le_refl _), Nat.sub_self]; rfl
theorem wr_i {n : Int} (h1 : -9223372036854775808 ≤ n) (h2 : n ≤ 9223372036854775807) : wr .i64 n = n := wr_eq _ _ (by show (-9223372036854775808 : Int) ≤ _; omega) (by show _ ≤ (9223372036854775807 : Int); omega)
theorem SOk.log {s : TStable} (h : SOk s) {g : Int} (h1 : 0 ≤ g) (h2 : g < (s.Logs.length : Int)) : LogOk (logAt s g) := by
 unfold logAt
 rw [List.getD_eq_getElem?_getD, List.getElem?_eq_getElem (by omega)]
 exact h.l _ (List.getElem_mem _)
theorem put_eq (s : TStable) (r : TRecord) (hs : SOk s) (hr : RecOk r) (hl : s.Votes.length < 900000) : m_stable_put s r = some (putE s r, if putE s r = 0 then putS s r else s) := by
 obtain ⟨hg, hsl, hvl, hk⟩ := hr
 rw [m_stable_put]
 by_cases h1 : r.Group ≥ (s.Logs.length : Int)
 ·have e : putE s r = 6 := by unfold putE; rw [if_pos h1]
  rw [if_pos h1, e]; rfl
 have hlog := hs.log hg.1 (by omega)
 have hll := hlog.1
 have ew : wr .i64 (((s.Logs.getD r.Group.toNat default).length : Int) + 1) = ((logAt s r.Group).length : Int) + 1 := by
  rw [wr_i (by omega) (by unfold logAt at hll; omega)]; rfl
 rw [if_neg h1, if_pos ⟨hg.1, by omega⟩, ew]
 by_cases h2 : r.Slot ≤ ((logAt s r.Group).length : Int) ∨ (r.Kind = 3 ∧ r.Slot ≠ ((logAt s r.Group).length : Int) + 1)
 ·have e : putE s r = 8 := by unfold putE; rw [if_neg h1, if_pos h2]
  rw [e]; exact if_pos h2
 have eE : putE s r = (newV s r).2 := by unfold putE; rw [if_neg h1, if_neg h2]
 refine (if_neg h2).trans ?_
 rw [eE]
 have hx : ∀ v : TVote, bef ⟨r.Group, r.Slot, v⟩ s.Votes = bef ⟨r.Group, r.Slot, zV⟩ s.Votes ∧ aft ⟨r.Group, r.Slot, v⟩ s.Votes = aft ⟨r.Group, r.Slot, zV⟩ s.Votes := fun _ => ⟨rfl, rfl⟩
 -- what the search tells, and what stands there
 obtain ⟨b, V, hfind, hvote, hrest⟩ : ∃ (b : Bool) (R : List TSeen), m_slices_BinarySearchFunc_Seen_Seen_Seen s.Votes (⟨r.Group, r.Slot, ⟨0, 0, []⟩⟩ : TSeen) m_stable_place = some (((bef ⟨r.Group, r.Slot, zV⟩ s.Votes).length : Int), b) ∧
   (if b = true then (if (0 ≤ ((bef ⟨r.Group, r.Slot, zV⟩ s.Votes).length : Int) ∧ ((bef ⟨r.Group, r.Slot, zV⟩ s.Votes).length : Int) < (s.Votes.length : Int)) then some ((s.Votes.getD (((bef ⟨r.Group, r.Slot, zV⟩ s.Votes).length : Int)).toNat default).Group, (s.Votes.getD (((bef ⟨r.Group, r.Slot, zV⟩ s.Votes).length : Int)).toNat default).Slot, (s.Votes.getD (((bef ⟨r.Group, r.Slot, zV⟩ s.Votes).length : Int)).toNat default).Vote.Promised, (s.Votes.getD (((bef ⟨r.Group, r.Slot, zV⟩ s.Votes).length : Int)).toNat default).Vote.Ballot, (s.Votes.getD (((bef ⟨r.Group, r.Slot, zV⟩ s.Votes).length : Int)).toNat default).Vote.Value) else none) else some (r.Group, r.Slot, 0, 0, [])) = some (r.Group, r.Slot, (voteAt s.Votes r.Group r.Slot).Promised, (voteAt s.Votes r.Group r.Slot).Ballot, (voteAt s.Votes r.Group r.Slot).Value) ∧
   s.Votes = bef ⟨r.Group, r.Slot, zV⟩ s.Votes ++ R ∧ (if b = true then ∃ y, R = y :: aft ⟨r.Group, r.Slot, zV⟩ s.Votes else R = aft ⟨r.Group, r.Slot, zV⟩ s.Votes) := by
  rcases find_eq s.Votes ⟨r.Group, r.Slot, zV⟩ (by omega) hs.p with ⟨e, hf⟩ | ⟨y, hy, e, hf⟩
  ·refine ⟨false, _, hf, ?_, e, ?_⟩
   ·have := voteAt_no e
    simp only at this
    rw [this]; rfl
   ·rfl
  ·refine ⟨true, _, hf, ?_, e, ⟨y, rfl⟩⟩
   have := voteAt_yes hy e
   simp only at this
   rw [this, if_pos rfl, Int.toNat_natCast, getD_at e]
   have hlen : (bef ⟨r.Group, r.Slot, zV⟩ s.Votes).length < s.Votes.length := by
    have := congrArg List.length e
    simp only [List.length_append, List.length_cons] at this
    omega
   rw [if_pos ⟨by omega, by omega⟩]
   obtain ⟨y1, y2⟩ := hy
   simp only at y1 y2
   rw [y1, y2]
 rw [hfind]
 simp only [Option.bind_some]
 obtain ⟨hsp, hV⟩ := hrest
 have hlen : (bef ⟨r.Group, r.Slot, zV⟩ s.Votes).length ≤ s.Votes.length := bef_len _ _
 -- the three kinds
 have upd : ∀ (v : TVote), v ≠ zV → (Option.bind (α := (List TSeen)) (if ¬ (b = true) then
   if 0 ≤ ((bef ⟨r.Group, r.Slot, zV⟩ s.Votes).length : Int) ∧ ((bef ⟨r.Group, r.Slot, zV⟩ s.Votes).length : Int) ≤ (s.Votes.length : Int) then
   if s.Votes.length < 1000000 then
   some ((s.Votes.take ((bef ⟨r.Group, r.Slot, zV⟩ s.Votes).length : Int).toNat) ++ ((⟨r.Group, r.Slot, (⟨v.Promised, v.Ballot, v.Value⟩ : TVote)⟩ : TSeen) :: (s.Votes.drop ((bef ⟨r.Group, r.Slot, zV⟩ s.Votes).length : Int).toNat)))
   else none else none else some s.Votes) fun l2 =>
   if (0 ≤ ((bef ⟨r.Group, r.Slot, zV⟩ s.Votes).length : Int) ∧ ((bef ⟨r.Group, r.Slot, zV⟩ s.Votes).length : Int) < (l2.length : Int)) then
   some (0, (⟨s.Logs, (l2.set ((bef ⟨r.Group, r.Slot, zV⟩ s.Votes).length : Int).toNat (⟨r.Group, r.Slot, (⟨v.Promised, v.Ballot, v.Value⟩ : TVote)⟩ : TSeen))⟩ : TStable))
   else none) = some ((0 : Int), (⟨s.Logs, withV s.Votes ⟨r.Group, r.Slot, v⟩⟩ : TStable)) := by
  intro v hv
  have hw : withV s.Votes ⟨r.Group, r.Slot, v⟩ = bef ⟨r.Group, r.Slot, zV⟩ s.Votes ++ ⟨r.Group, r.Slot, v⟩ :: aft ⟨r.Group, r.Slot, zV⟩ s.Votes := by
   unfold withV
   rw [if_neg hv]; rfl
  rw [Int.toNat_natCast]
  cases b with
  | false =>
   simp only [Bool.false_eq_true, if_false] at hV
   subst hV
   rw [if_pos (by simp), if_pos ⟨by omega, by omega⟩, if_pos (by omega)]
   have ht : s.Votes.take (bef ⟨r.Group, r.Slot, zV⟩ s.Votes).length = bef ⟨r.Group, r.Slot, zV⟩ s.Votes := by
    have : ∀ l A B : List TSeen, l = A ++ B → l.take A.length = A := by rintro _ A B rfl; exact List.take_left
    exact this _ _ _ hsp
   have hd : s.Votes.drop (bef ⟨r.Group, r.Slot, zV⟩ s.Votes).length = aft ⟨r.Group, r.Slot, zV⟩ s.Votes := by
    have : ∀ l A B : List TSeen, l = A ++ B → l.drop A.length = B := by rintro _ A B rfl; exact List.drop_left
    exact this _ _ _ hsp
   rw [ht, hd, Option.bind_some, if_pos ⟨by omega, by simp; omega⟩, hw]
   simp
  | true =>
   simp only [if_true] at hV
   obtain ⟨y, rfl⟩ := hV
   rw [if_neg (by simp), Option.bind_some]
   have hlt : (bef ⟨r.Group, r.Slot, zV⟩ s.Votes).length < s.Votes.length := by
    have := congrArg List.length hsp
    simp only [List.length_append, List.length_cons] at this
    omega
   rw [if_pos ⟨by omega, by omega⟩, hw]
   have : ∀ (l A B : List TSeen) (z w : TSeen), l = A ++ z :: B → l.set A.length w = A ++ w :: B := by rintro _ A B z w rfl; simp
   rw [this _ _ _ _ _ hsp]
 have hvv : (⟨(voteAt s.Votes r.Group r.Slot).Promised, (voteAt s.Votes r.Group r.Slot).Ballot, (voteAt s.Votes r.Group r.Slot).Value⟩ : TVote) = voteAt s.Votes r.Group r.Slot := rfl
 refine (congrArg (fun o => Option.bind o _) hvote).trans ?_
 rw [Option.bind_some]
 simp only
 rw [hvv, prepare_eq, accept_eq]
 simp only [Option.bind_some]
 rcases hk with ⟨k, kb, kv⟩ | ⟨k, kb⟩ | ⟨k, kb⟩
 ·have hn : newV s r = (if askE (voteAt s.Votes r.Group r.Slot) r.Ballot [] = 0 then ⟨r.Ballot, (voteAt s.Votes r.Group r.Slot).Ballot, (voteAt s.Votes r.Group r.Slot).Value⟩ else zV, askE (voteAt s.Votes r.Group r.Slot) r.Ballot []) := by unfold newV; rw [if_pos k]
  rw [if_pos k]
  simp only [Option.bind_some]
  by_cases ha : askE (voteAt s.Votes r.Group r.Slot) r.Ballot [] = 0
  ·rw [if_pos ha, if_neg (by simpa using ha)]
   refine (upd ⟨r.Ballot, (voteAt s.Votes r.Group r.Slot).Ballot, (voteAt s.Votes r.Group r.Slot).Value⟩ (fun e => kb.ne (congrArg TVote.Promised e))).trans ?_
   rw [hn]
   simp only
   unfold putS
   rw [hn, if_neg (by omega : ¬ r.Kind = 3)]
   simp only
   rw [if_pos ha, if_pos ha, ha]
  ·rw [if_neg ha, if_pos (by simpa using ha), hn]
   simp only
   rw [if_neg ha]
 ·have hn : newV s r = (if askE (voteAt s.Votes r.Group r.Slot) r.Ballot r.Value = 0 then ⟨r.Ballot, r.Ballot, r.Value⟩ else zV, askE (voteAt s.Votes r.Group r.Slot) r.Ballot r.Value) := by unfold newV; rw [if_neg (by omega), if_pos k]
  rw [if_neg (by omega), if_pos k]
  simp only [Option.bind_some]
  by_cases ha : askE (voteAt s.Votes r.Group r.Slot) r.Ballot r.Value = 0
  ·rw [if_pos ha, if_neg (by simpa using ha)]
   refine (upd ⟨r.Ballot, r.Ballot, r.Value⟩ (fun e => kb.ne (congrArg TVote.Promised e))).trans ?_
   rw [hn]
   simp only
   unfold putS
   rw [hn, if_neg (by omega : ¬ r.Kind = 3)]
   simp only
   rw [if_pos ha, if_pos ha, ha]
  ·rw [if_neg ha, if_pos (by simpa using ha), hn]
   simp only
   rw [if_neg ha]
 ·have hn : newV s r = (zV, 0) := by unfold newV; rw [if_neg (by omega), if_neg (by omega)]
  have hw : withV s.Votes ⟨r.Group, r.Slot, zV⟩ = bef ⟨r.Group, r.Slot, zV⟩ s.Votes ++ aft ⟨r.Group, r.Slot, zV⟩ s.Votes := by
   unfold withV
   rw [if_pos rfl]; rfl
  rw [if_neg (by omega), if_neg (by omega), Int.toNat_natCast]
  have hp : putS s r = ⟨s.Logs.set r.Group.toNat (logAt s r.Group ++ [r.Value]), withV s.Votes ⟨r.Group, r.Slot, zV⟩⟩ := by
   unfold putS
   rw [hn, if_pos k]
  have hE : (if b = true then if 0 ≤ ((bef ⟨r.Group, r.Slot, zV⟩ s.Votes).length : Int) ∧ ((bef ⟨r.Group, r.Slot, zV⟩ s.Votes).length : Int) < (s.Votes.length : Int) then
    if s.Votes.length < 1000000 then some (s.Votes.eraseIdx (bef ⟨r.Group, r.Slot, zV⟩ s.Votes).length) else none else none else some s.Votes) = some (withV s.Votes ⟨r.Group, r.Slot, zV⟩) := by
   cases b with
   | false =>
    simp only [Bool.false_eq_true, if_false] at hV ⊢
    subst hV
    rw [hw, ← hsp]
   | true =>
    simp only [if_true] at hV ⊢
    obtain ⟨y, rfl⟩ := hV
    have hlt : (bef ⟨r.Group, r.Slot, zV⟩ s.Votes).length < s.Votes.length := by
     have := congrArg List.length hsp
     simp only [List.length_append, List.length_cons] at this
     omega
    rw [if_pos ⟨by omega, by omega⟩, if_pos (by omega), hw]
    have : ∀ (l A B : List TSeen) (z : TSeen), l = A ++ z :: B → l.eraseIdx A.length = A ++ B := by
     rintro _ A B z rfl
     rw [List.eraseIdx_append_of_length_le (Nat.le_refl _), Nat.sub_self]; rfl
    rw [this _ _ _ _ hsp]
  rw [hE, hn, hp]
  rfl
end Go.Proofs
end
section
namespace Go.Proofs
open Go.Tm
set_option linter.unusedSimpArgs false
theorem get_loop : ∀ (l : List Int) (n2 : Nat) (n1 : Int), (∃ (n : Int) (k : Nat), m_num_Get_loop1 l n2 n1 = some (.inl (n, (k : Int), 0)) ∧ n2 < k ∧ k ≤ n2 + l.length ∧ 0 ≤ n ∧ n ≤ 1099511627776) ∨ m_num_Get_loop1 l n2 n1 = some (.inr ())
 | [], n2, n1 => .inr (by rw [m_num_Get_loop1])
 | y :: l, n2, n1 => by
  rw [m_num_Get_loop1]
  by_cases h5 : (n2 : Int) > 5
  ·rw [if_pos h5]; exact .inr rfl
  rw [if_neg h5, if_pos (by rw [wr_i (by omega) (by omega)]; omega)]
  split
  ·rcases get_loop l (n2 + 1) (bitw .or .i64 n1 (shw true .i64 (wr .i64 (bitw .and .u8 y 127)) (wr .i64 (7 * (n2 : Int))))) with ⟨n, k, h1, h2, h3, h4⟩ | h
   ·exact .inl ⟨n, k, h1, by omega, by simp only [List.length_cons]; omega, h4⟩
   ·exact .inr h
  ·have ek : wr .i64 ((n2 : Int) + 1) = ((n2 + 1 : Nat) : Int) := by rw [wr_i (by omega) (by omega)]; omega
   generalize bitw .or .i64 n1 (shw true .i64 (wr .i64 (bitw .and .u8 y 127)) (wr .i64 (7 * (n2 : Int)))) = N
   rw [ek]
   by_cases hz : y = 0 ∧ (n2 : Int) > 0
   ·rw [if_neg (fun h => h hz)]
    simp only [Option.bind_some]
    rw [if_pos (.inl hz)]
    exact .inr rfl
   ·rw [if_pos hz, m_num_in]
    simp only [Option.bind_some]
    by_cases hN : 0 ≤ N ∧ N ≤ 1099511627776
    ·rw [if_neg (by simp [hN.1, hN.2]; omega)]
     exact .inl ⟨N, n2 + 1, rfl, by omega, by simp only [List.length_cons]; omega, hN⟩
    ·rw [if_pos (.inr (by simp; omega))]
     exact .inr rfl
theorem get_tot (l : List Int) : ∃ (n : Int) (k : Nat) (e : Int), m_num_Get l = some (n, (k : Int), e) ∧ k ≤ l.length ∧ 0 ≤ n ∧ n ≤ 1099511627776 := by
 rw [m_num_Get]
 rcases get_loop l 0 0 with ⟨n, k, h1, _, h3, h4, h5⟩ | h
 ·rw [h1]; exact ⟨n, k, 0, rfl, by omega, h4, h5⟩
 ·rw [h]; exact ⟨0, 0, 8, rfl, Nat.zero_le _, by omega, by omega⟩
theorem next_tot (l : List Int) (b : Bool) : ∃ (n : Int) (k : Nat) (b' : Bool), m_record_Read_1 l b = some (n, l.drop k, b') ∧ k ≤ l.length := by
 obtain ⟨n, k, e, h1, h2, _⟩ := get_tot l
 rw [m_record_Read_1, h1]
 simp only [Option.bind_some]
 rw [if_pos ⟨by omega, by omega⟩, Int.toNat_natCast]
 exact ⟨n, k, _, rfl, h2⟩
theorem text_tot (l : List Int) (hl : (l.length : Int) ≤ 9223372036854775807) : ∃ (t : List UInt8) (k : Nat) (e : Int), m_num_GetText l = some (t, (k : Int), e) ∧ k ≤ l.length := by
 obtain ⟨n, k, e, h1, h2, h3, h4⟩ := get_tot l
 rw [m_num_GetText, h1]
 simp only [Option.bind_some]
 rw [wr_i (by omega) (by omega)]
 split
 ·exact ⟨[], 0, 8, rfl, Nat.zero_le _⟩
 ·rename_i hc
  rw [wr_i (by omega) (by omega), if_pos ⟨by omega, by omega, by omega⟩]
  exact ⟨_, k + n.toNat, 0, by
   have : ((k + n.toNat : Nat) : Int) = (k : Int) + n := by omega
   rw [this], by omega⟩
theorem has_eq (k : Int) : m_record_has k = some (((k == 1) || (k == 2)), ((k == 2) || (k == 3))) := rfl
theorem read_tot (t : List UInt8) (ht : (t.length : Int) ≤ 9223372036854775807) : ∃ r, m_record_Read t = some r := by
 have hlen : ((ofBytes t).length : Int) ≤ 9223372036854775807 := by
  have : (ofBytes t).length = t.length := by simp [ofBytes]
  omega
 rw [m_record_Read]
 obtain ⟨n1, k1, b1, e1, g1⟩ := next_tot (ofBytes t) false
 rw [e1]; simp only [Option.bind_some]
 obtain ⟨n2, k2, b2, e2, g2⟩ := next_tot ((ofBytes t).drop k1) b1
 rw [e2]; simp only [Option.bind_some]
 obtain ⟨n3, k3, b3, e3, g3⟩ := next_tot (((ofBytes t).drop k1).drop k2) b2
 rw [e3]; simp only [Option.bind_some]
 rw [has_eq]; simp only [Option.bind_some]
 obtain ⟨n4, k4, b4, e4, g4⟩ := next_tot ((((ofBytes t).drop k1).drop k2).drop k3) b3
 rw [e4]; simp only [Option.bind_some]
 have key : ∀ (l1 : List Int) (bb : Bool) (m : Int), (l1.length : Int) ≤ 9223372036854775807 → ∀ g : Bool × Bool, ∃ r, (Option.bind (α := (List Int) × Bool × (List UInt8)) (if (g.2 = true) ∧ (¬ (bb = true)) then
   Option.bind (m_num_GetText l1) fun v6 =>
   if (0 ≤ v6.2.1 ∧ v6.2.1 ≤ (l1.length : Int)) then
   some ((l1.drop v6.2.1.toNat), (v6.2.2 != 0), v6.1)
   else none
   else
   some (l1, bb, [])) fun (l2, b2, s1) =>
   Option.bind (if ¬ (((b2 = true) ∨ ((l2.length : Int) > 0)) ∨ (n1 > 255)) then m_record_Check (⟨(wr .u8 (bitw .and .i64 n1 255)), n2, n3, m, s1⟩ : TRecord) else some default) fun v7 =>
   if (((b2 = true) ∨ ((l2.length : Int) > 0)) ∨ (n1 > 255)) ∨ (¬ (v7 = 0)) then
   some ((⟨0, 0, 0, 0, []⟩ : TRecord), (8 : Int))
   else
   some ((⟨(wr .u8 (bitw .and .i64 n1 255)), n2, n3, m, s1⟩ : TRecord), 0)) = some r := by
  intro l1 bb m hl g
  have fin : ∀ (l2 : List Int) (b2 : Bool) (s1 : List UInt8), ∃ r, (Option.bind (if ¬ (((b2 = true) ∨ ((l2.length : Int) > 0)) ∨ (n1 > 255)) then m_record_Check (⟨(wr .u8 (bitw .and .i64 n1 255)), n2, n3, m, s1⟩ : TRecord) else some default) fun v7 =>
    if (((b2 = true) ∨ ((l2.length : Int) > 0)) ∨ (n1 > 255)) ∨ (¬ (v7 = 0)) then
    some ((⟨0, 0, 0, 0, []⟩ : TRecord), (8 : Int))
    else
    some ((⟨(wr .u8 (bitw .and .i64 n1 255)), n2, n3, m, s1⟩ : TRecord), 0)) = some r := by
   intro l2 b2 s1
   obtain ⟨z, hz⟩ : ∃ z, m_record_Check (⟨(wr .u8 (bitw .and .i64 n1 255)), n2, n3, m, s1⟩ : TRecord) = some z := ⟨_, rcheck_eq _⟩
   rw [hz]
   split
   ·simp only [Option.bind_some]
    split
    ·exact ⟨_, rfl⟩
    ·exact ⟨_, rfl⟩
   ·simp only [Option.bind_some]
    split
    ·exact ⟨_, rfl⟩
    ·exact ⟨_, rfl⟩
  split
  ·obtain ⟨t', k', e', h1, h2⟩ := text_tot l1 hl
   rw [h1]
   simp only [Option.bind_some]
   rw [if_pos ⟨by omega, by omega⟩]
   simp only [Option.bind_some]
   exact fin _ _ _
  ·simp only [Option.bind_some]
   exact fin _ _ _
 have d3 : (((((ofBytes t).drop k1).drop k2).drop k3).length : Int) ≤ 9223372036854775807 := by
  simp only [List.length_drop]; omega
 by_cases hv : ((wr .u8 (bitw .and .i64 n1 255) == 1) || (wr .u8 (bitw .and .i64 n1 255) == 2)) = true
 ·rw [if_pos hv]
  simp only [Option.bind_some]
  exact key _ b4 n4 (by simp only [List.length_drop] at d3 ⊢; omega) (true, _)
 ·rw [if_neg hv]
  simp only [Option.bind_some]
  exact key _ b3 0 d3 (true, _)
def rd (t : List UInt8) : TRecord × Int := (m_record_Read t).getD (⟨0, 0, 0, 0, []⟩, 8)
theorem rd_eq (t : List UInt8) (ht : (t.length : Int) ≤ 9223372036854775807) : m_record_Read t = some (rd t) := by
 obtain ⟨r, hr⟩ := read_tot t ht
 unfold rd
 rw [hr]; rfl
theorem rd_ok (t : List UInt8) (ht : (t.length : Int) ≤ 9223372036854775807) (h : (rd t).2 = 0) : RecOk (rd t).1 := read_ok t _ (rd_eq t ht) h
end Go.Proofs
end
section
namespace Go.Proofs
open Go.Tm
set_option linter.unusedVariables false
end Go.Proofs
end
section
namespace Go.Proofs
open Go.Tm
set_option linter.unusedSimpArgs false
theorem BOk.pos {b : Int} (h : BOk b) (h1 : -9223372036854775808 ≤ b) (h2 : b ≤ 9223372036854775807) : 8 ≤ b := by
 have h3 := h.1
 by_cases h0 : 0 ≤ b
 ·rw [Int.tdiv_eq_ediv_of_nonneg h0, wr_i (by omega) (by omega)] at h3
  omega
 ·have e : b.tdiv 8 = -((-b) / 8) := by
   rw [← Int.tdiv_eq_ediv_of_nonneg (by omega : 0 ≤ -b), Int.neg_tdiv, Int.neg_neg]
  rw [e, wr_i (by omega) (by omega)] at h3
  omega
theorem Up.app {A B : List TSeen} (h : Up A) (k : Up B) (hab : ∀ a ∈ A, ∀ b ∈ B, ltP a b) : Up (A ++ B) := List.pairwise_append.2 ⟨h, k, hab⟩
theorem Up.bef {l : List TSeen} (h : Up l) (x : TSeen) : Up (bef x l) := List.Pairwise.filter _ h
theorem Up.aft {l : List TSeen} (h : Up l) (x : TSeen) : Up (aft x l) := List.Pairwise.filter _ h
theorem mem_with {l : List TSeen} {x y : TSeen} (h : y ∈ withV l x) : (y = x ∧ x.Vote ≠ zV) ∨ (y ∈ l ∧ ¬ sameP y x) := by
 unfold withV at h
 rw [List.mem_append, List.mem_append] at h
 rcases h with h | h | h
 ·have := bef_lt h; exact .inr ⟨this.1, ltP_ns this.2⟩
 ·split at h
  ·cases h
  ·rename_i hz
   rw [List.mem_singleton] at h
   exact .inl ⟨h, hz⟩
 ·have := aft_lt h; exact .inr ⟨this.1, ltP_ns' this.2⟩
theorem Up.with {l : List TSeen} (h : Up l) (x : TSeen) : Up (withV l x) := by
 unfold withV
 refine (h.bef x).app (Up.app ?_ (h.aft x) ?_) ?_
 ·split
  ·exact List.Pairwise.nil
  ·exact List.pairwise_singleton _ _
 ·intro a ha b hb
  split at ha
  ·cases ha
  ·rw [List.mem_singleton] at ha; subst ha; exact (aft_lt hb).2
 ·intro a ha b hb
  rcases List.mem_append.1 hb with hb | hb
  ·split at hb
   ·cases hb
   ·rw [List.mem_singleton] at hb; subst hb; exact (bef_lt ha).2
  ·exact ltP_trans (bef_lt ha).2 (aft_lt hb).2
theorem VOk.at {s : TStable} (h : SOk s) (g k : Int) : VOk (voteAt s.Votes g k) := by
 unfold voteAt
 cases hf : s.Votes.find? fun y => decide (y.Group = g ∧ y.Slot = k) with
 | none => exact ⟨.inl rfl, by rfl⟩
 | some y => exact (h.v y (List.mem_of_find?_eq_some hf)).2.2.2.2
theorem newV_ok {s : TStable} (_ : SOk s) {r : TRecord} (hr : RecOk r) (h : (newV s r).2 = 0) (hz : (newV s r).1 ≠ zV) : (newV s r).1.Promised ≠ 0 ∧ VOk (newV s r).1 := by
 unfold newV at h hz ⊢
 obtain ⟨_, _, _, h3⟩ := hr
 rcases h3 with ⟨k, b, _⟩ | ⟨k, b⟩ | ⟨k, _⟩
 ·rw [if_pos k] at h ⊢
  simp only at h ⊢
  rw [if_pos h]
  exact ⟨b.ne, VOk.prep (askE_0.1 h)⟩
 ·rw [if_neg (by omega), if_pos k] at h ⊢
  simp only at h ⊢
  rw [if_pos h]
  exact ⟨b.ne, VOk.acc (askE_0.1 h)⟩
 ·rw [if_neg (by omega), if_neg (by omega)] at hz
  exact absurd rfl hz
theorem putE_0 {s : TStable} {r : TRecord} (h : putE s r = 0) : r.Group < (s.Logs.length : Int) ∧ ((logAt s r.Group).length : Int) < r.Slot ∧ (r.Kind = 3 → r.Slot = ((logAt s r.Group).length : Int) + 1) ∧ (newV s r).2 = 0 := by
 unfold putE at h
 split at h
 ·cases h
 ·split at h
  ·cases h
  ·exact ⟨by omega, by omega, fun k => by omega, h⟩
theorem logs_put (s : TStable) (r : TRecord) : (putS s r).Logs.length = s.Logs.length := by
 unfold putS
 simp only
 split
 ·rw [List.length_set]
 ·rfl
theorem getD_set (L : List Txts) (k j : Nat) (x : Txts) (h : k < L.length) : (L.set k x).getD j default = if k = j then x else L.getD j default := by
 rw [List.getD_eq_getElem?_getD, List.getElem?_set]
 split
 ·rename_i e; subst e; simp [h]
 ·rw [List.getD_eq_getElem?_getD]
theorem SOk.put {s : TStable} {r : TRecord} (hs : SOk s) (hr : RecOk r) (h0 : putE s r = 0) : SOk (putS s r) := by
 obtain ⟨h1, h2, h3, h4⟩ := putE_0 h0
 have hl := logs_put s r
 have hg := hr.1
 have hlog := hs.log hg.1 h1
 have hlk : ∀ g : Int, 0 ≤ g → g < (s.Logs.length : Int) → (((putS s r).Logs.getD g.toNat default).length : Int) = ((s.Logs.getD g.toNat default).length : Int) + (if r.Kind = 3 ∧ g = r.Group then 1 else 0) := by
  intro g a b
  unfold putS
  simp only
  by_cases k : r.Kind = 3
  ·rw [if_pos k, getD_set _ _ _ _ (by omega)]
   by_cases e : g = r.Group
   ·rw [if_pos (by rw [e]), if_pos ⟨k, e⟩, e, List.length_append]
    unfold logAt
    simp
   ·rw [if_neg (by omega), if_neg (fun h => e h.2)]; omega
  ·rw [if_neg k, if_neg (fun h => k h.1)]; omega
 refine ⟨by rw [hl]; exact hs.n, ?_, ?_, hs.p.with _⟩
 ·intro l hlm
  unfold putS at hlm
  simp only at hlm
  split at hlm
  ·rename_i k
   rcases List.mem_or_eq_of_mem_set hlm with h | h
   ·exact hs.l l h
   ·subst h
    refine ⟨?_, fun v hv => ?_⟩
    ·have := h3 k
     have := hr.2.1.2
     rw [List.length_append, List.length_singleton]
     omega
    ·rcases List.mem_append.1 hv with h | h
     ·exact hlog.2 v h
     ·rw [List.mem_singleton] at h; subst h; exact hr.2.2.1
  ·exact hs.l l hlm
 ·intro v hv
  rcases mem_with (show v ∈ withV s.Votes _ from hv) with ⟨rfl, hz⟩ | ⟨hm, hns⟩
  ·have hk : r.Kind ≠ 3 := by
    intro k
    refine hz ?_
    show (newV s r).1 = zV
    unfold newV
    rw [if_neg (by omega), if_neg (by omega)]
   obtain ⟨n1, n2⟩ := newV_ok hs hr h4 hz
   refine ⟨⟨hg.1, by rw [hl]; exact h1⟩, ?_, hr.2.1.2, n1, n2⟩
   rw [hlk _ hg.1 h1, if_neg (fun h => hk h.1)]
   have : ((s.Logs.getD r.Group.toNat default).length : Int) < r.Slot := h2
   simp only
   omega
  ·obtain ⟨v1, v2, v3, v4, v5⟩ := hs.v v hm
   refine ⟨⟨v1.1, by rw [hl]; exact v1.2⟩, ?_, v3, v4, v5⟩
   rw [hlk _ v1.1 v1.2]
   split
   ·rename_i k
    have e3 := h3 k.1
    have e4 : ((s.Logs.getD v.Group.toNat default).length : Int) = ((logAt s r.Group).length : Int) := by rw [k.2]; rfl
    have : ¬ (v.Group = r.Group ∧ v.Slot = r.Slot) := hns
    omega
   ·omega
def eStb : TStable := ⟨[], []⟩
theorem gt_loop (l : List Txts) : ∀ n, ∃ r, m_towncrierref11_Great_loop1 l n = some r ∧ ∀ b, r = .inl b → b = true := by
 induction l with
 | nil => intro n; exact ⟨_, rfl, fun b h => by cases h⟩
 | cons y l ih =>
  intro n
  have hg : ∃ b, m_towncrierref01_Great y = some b := by
   have : ∀ (l : Txts) (a : Nat) (b : Int), ∃ c, m_towncrierref01_Great_loop1 l a b = some c := by
    intro l
    induction l with
    | nil => intro a b; exact ⟨_, m_towncrierref01_Great_loop1_n a b⟩
    | cons z l ih =>
     intro a b
     rw [m_towncrierref01_Great_loop1_c]
     split
     ·exact ih _ _
     ·exact ⟨_, rfl⟩
   obtain ⟨c, hc⟩ := this y 0 0
   rw [m_towncrierref01_Great, hc]
   exact ⟨_, rfl⟩
  obtain ⟨b, hb⟩ := hg
  rw [m_towncrierref11_Great_loop1]
  split
  ·rw [hb]
   simp only [Option.bind_some]
   split
   ·exact ⟨_, rfl, fun b h => by cases h; rfl⟩
   ·exact ih _
  ·exact ⟨_, rfl, fun b h => by cases h⟩
theorem great_eq (s : TStable) : ∃ b, m_towncrierref11_Great s = some b ∧ (b = false → s.Votes.length ≤ 1000 ∧ s.Logs.length ≤ 10) := by
 rw [m_towncrierref11_Great]
 obtain ⟨r, hr, hb⟩ := gt_loop s.Logs 0
 rw [hr]
 cases r with
 | inl b => exact ⟨b, rfl, fun h => by rw [hb b rfl] at h; cases h⟩
 | inr u =>
  simp only [Option.bind_some]
  have : ∀ (l : List TSeen) (a : Nat) (b : Int), ∃ c, m_towncrierref11_Great_loop2 l a b = some c := by
   intro l
   induction l with
   | nil => intro a b; exact ⟨_, m_towncrierref11_Great_loop2_n a b⟩
   | cons z l ih =>
    intro a b
    rw [m_towncrierref11_Great_loop2_c]
    split
    ·exact ih _ _
    ·exact ⟨_, rfl⟩
  obtain ⟨c, hc⟩ := this s.Votes 0 0
  rw [hc]
  refine ⟨_, rfl, fun h => ?_⟩
  simp only [Bool.or_eq_false_iff, decide_eq_false_iff_not] at h
  exact ⟨by omega, by omega⟩
theorem st_loop (b : Txts) : ∀ (l : Txts) (n : Nat), b.drop n = l → n + l.length = b.length → m_towncrierref01_SameTexts_loop1 b l n = some (.inr ())
 | [], n, _, _ => by rw [m_towncrierref01_SameTexts_loop1]
 | y :: l, n, h, hl => by
  simp only [List.length_cons] at hl
  have hn : n < b.length := by omega
  have hd := h
  rw [List.drop_eq_getElem_cons hn] at hd
  obtain ⟨hy, hr⟩ := List.cons.inj hd
  have e : b.getD n default = y := by rw [List.getD_eq_getElem?_getD, List.getElem?_eq_getElem hn, hy]; rfl
  rw [m_towncrierref01_SameTexts_loop1, if_pos hn, e, if_neg (by simp), st_loop b l (n + 1) hr (by omega)]
theorem same_refl (l : Txts) : m_towncrierref01_SameTexts l l = some true := by
 rw [m_towncrierref01_SameTexts, if_neg (by simp), st_loop l l 0 rfl (by simp)]
 rfl
end Go.Proofs
end
section
namespace Go.Proofs
open Go.Tm
set_option linter.unusedSimpArgs false
theorem len_with' {l : List TSeen} (hu : Up l) (x : TSeen) : (withV l x).length ≤ l.length + 1 := by
 have h : (bef x l).length + (aft x l).length ≤ l.length := by
  rcases split_at x l hu with e | ⟨y, _, e⟩
  ·have := congrArg List.length e
   rw [List.length_append] at this
   omega
  ·have := congrArg List.length e
   simp only [List.length_append, List.length_cons] at this
   omega
 unfold withV
 simp only [List.length_append]
 split <;> simp <;> omega
noncomputable def stS (s : TStable) (t : List UInt8) : TStable × Int :=
 if (rd t).2 = 0 then if putE s (rd t).1 = 0 then (putS s (rd t).1, 0) else (eStb, putE s (rd t).1) else (eStb, (rd t).2)
noncomputable def foldS : TStable → Txts → TStable × Int
 | s, [] => (s, 0)
 | s, t :: l => if (stS s t).2 = 0 then foldS (stS s t).1 l else (eStb, (stS s t).2)
abbrev Short (l : Txts) : Prop := ∀ t ∈ l, (t.length : Int) ≤ 9223372036854775807
theorem stS_ok {s : TStable} {t : List UInt8} (hs : SOk s) (ht : (t.length : Int) ≤ 9223372036854775807) (h : (stS s t).2 = 0) : SOk (stS s t).1 ∧ (stS s t).1.Votes.length ≤ s.Votes.length + 1 := by
 unfold stS at h ⊢
 by_cases h1 : (rd t).2 = 0
 ·rw [if_pos h1] at h ⊢
  by_cases h2 : putE s (rd t).1 = 0
  ·rw [if_pos h2]
   exact ⟨hs.put (rd_ok t ht h1) h2, len_with' hs.p _⟩
  ·rw [if_neg h2] at h
   exact absurd h h2
 ·rw [if_neg h1] at h
  exact absurd h h1
theorem foldS_bad : ∀ (l : Txts) (s : TStable), (foldS s l).2 ≠ 0 → (foldS s l).1 = eStb
 | [], s, h => absurd rfl h
 | t :: l, s, h => by
  rw [foldS] at h ⊢
  by_cases h0 : (stS s t).2 = 0
  ·rw [if_pos h0] at h ⊢
   exact foldS_bad l _ h
  ·rw [if_neg h0]
theorem replay_loop : ∀ (l : Txts) (s : TStable), SOk s → Short l → s.Votes.length + l.length < 900000 →
  m_stable_Replay_loop1 l s.Logs s.Votes = some (if (foldS s l).2 = 0 then .inr ((foldS s l).1.Logs, (foldS s l).1.Votes) else .inl (eStb, (foldS s l).2))
 | [], s, _, _, _ => by rw [m_stable_Replay_loop1]; simp [foldS]
 | t :: l, s, hs, hl, hn => by
  have ht := hl t (List.mem_cons_self ..)
  simp only [List.length_cons] at hn
  have hsd : (⟨s.Logs, s.Votes⟩ : TStable) = s := rfl
  rw [m_stable_Replay_loop1, rd_eq t ht]
  simp only [Option.bind_some]
  have one : (if (rd t).2 = 0 then Option.bind (m_stable_put (⟨s.Logs, s.Votes⟩ : TStable) (rd t).1) fun v3 => some (v3.2.Logs, v3.2.Votes, v3.1) else some (s.Logs, s.Votes, (rd t).2)) =
    some (if (stS s t).2 = 0 then ((stS s t).1.Logs, (stS s t).1.Votes, 0) else (s.Logs, s.Votes, (stS s t).2)) := by
   unfold stS
   by_cases h1 : (rd t).2 = 0
   ·rw [if_pos h1, hsd, put_eq s _ hs (rd_ok t ht h1) (by omega)]
    simp only [Option.bind_some]
    by_cases h2 : putE s (rd t).1 = 0
    ·simp [h1, h2]
    ·simp [h1, h2]
   ·simp [h1]
  rw [foldS]
  refine (congrArg (fun o => Option.bind o _) one).trans ?_
  rw [Option.bind_some]
  by_cases h0 : (stS s t).2 = 0
  ·obtain ⟨k1, k2⟩ := stS_ok hs ht h0
   rw [if_pos h0, if_pos h0]
   simp only
   rw [if_neg (by simp)]
   exact replay_loop l _ k1 (fun x hx => hl x (List.mem_cons_of_mem _ hx)) (by omega)
  ·rw [if_neg h0, if_neg h0]
   simp only
   rw [if_pos h0, if_neg h0]; rfl
def newS (n : Int) : TStable := ⟨List.replicate n.toNat [], []⟩
theorem new_eq (n : Int) : m_stable_New n = some (if 1 ≤ n ∧ n ≤ 4 then (newS n, 0) else (eStb, 2)) := by
 rw [m_stable_New]
 by_cases h : 1 ≤ n ∧ n ≤ 4
 ·rw [if_neg (by omega), if_pos (by omega), if_pos h, List.take_of_length_le (by simp)]; rfl
 ·rw [if_pos (by omega), if_neg h]; rfl
theorem new_ok {n : Int} (h : 1 ≤ n ∧ n ≤ 4) : SOk (newS n) := by
 refine ⟨by unfold newS; simp; omega, fun l hl => ?_, (fun v hv => by cases hv), List.Pairwise.nil⟩
 unfold newS at hl
 rw [List.eq_of_mem_replicate hl]
 exact ⟨by simp, fun v hv => by cases hv⟩
theorem replay_eq (n : Int) (l : Txts) (hl : Short l) (hn : l.length ≤ 65536) : m_stable_Replay n l = some (if 1 ≤ n ∧ n ≤ 4 then foldS (newS n) l else (eStb, 2)) := by
 rw [m_stable_Replay, new_eq]
 simp only [Option.bind_some]
 by_cases h : 1 ≤ n ∧ n ≤ 4
 ·rw [if_pos h, if_pos h, if_neg (by simp), if_neg (by omega)]
  rw [replay_loop l (newS n) (new_ok h) hl (by unfold newS; simp; omega)]
  simp only [Option.bind_some]
  by_cases h0 : (foldS (newS n) l).2 = 0
  ·rw [if_pos h0]
   simp only
   rw [← h0]
  ·rw [if_neg h0]
   simp only
   rw [← foldS_bad _ _ h0]
 ·rw [if_neg h, if_neg h, if_pos (by decide)]; rfl
theorem great_txt (l : Txts) : ∃ b, m_towncrierref01_Great l = some b := by
 have : ∀ (l : Txts) (a : Nat) (b : Int), ∃ c, m_towncrierref01_Great_loop1 l a b = some c := by
  intro l
  induction l with
  | nil => intro a b; exact ⟨_, m_towncrierref01_Great_loop1_n a b⟩
  | cons z l ih =>
   intro a b
   rw [m_towncrierref01_Great_loop1_c]
   split
   ·exact ih _ _
   ·exact ⟨_, rfl⟩
 obtain ⟨c, hc⟩ := this l 0 0
 rw [m_towncrierref01_Great, hc]
 exact ⟨_, rfl⟩
theorem short_wf {l : Txts} (h : wf (.imm 1 (l.map D.str) 4)) : Short l := by
 simp only [wf, wfL_iff, List.mem_map] at h
 intro t ht
 have := h.2 (by decide) (D.str t) ⟨t, ht, rfl⟩
 simpa only [wf] using this
end Go.Proofs
end
