/- Texts of the proof. -/
import Derived.Test.YtkfipajabmhkbaaStableDoesPi
import Derived.Test.YtkfipajabmhkbaaStableDoesPf
import Derived.Test.YtkfipajabmhkbaaStableDoesPg
section
namespace Go.Proofs
open Go.Tm Go.RowKit Go.WideShapes
set_option maxRecDepth 100000
set_option maxHeartbeats 4000000
set_option linter.unusedSimpArgs false
set_option linter.unusedVariables false
attribute [local go_sem] argVars runE runK isCallV stepE aop opd opdsL opds opdO ev ofVal keep List.any natbeq Bool.false_or Bool.true_or aggEq cond_true cond_false Bool.cond_false_right Bool.cond_true_left beq_true beq_false imp_self implies_true getR getL put St.app effL del nwB blt_dec Nat.lt_irrefl Nat.lt_add_one ble_dec Nat.le_refl Nat.beq_refl roomNZ appendIn capS capK mkZ_zero mkZL_zero zeroEl D.ids D.idsL bin arith sarith binT dpick Tm.part splice fillD oneD loadD storeD srcD sliceD idxOk decide_true gval dstAt D.cells List.map_cons List.map_nil List.take List.drop List.length_map List.append Int.toNat_natCast and_true true_and decide_false List.length_cons List.length_nil List.append_nil List.nil_append Bool.and_true Bool.true_and Bool.not_false Bool.not_true ne_eq not_false_eq_true BEq.rfl List.getElem?_cons_zero List.getElem?_cons_succ List.getElem?_nil Nat.zero_add List.all_cons List.all_nil List.isEmpty_cons List.isEmpty_nil Option.getD_some Option.getD_none List.any_cons List.any_nil List.drop_succ_cons List.drop_zero unfL unf okM okML low3 List.cons_append true_or or_true Nat.zero_mul Nat.zero_le findD_int findD_str  getD_int getD_str getD_bool Option.isSome_map keyD List.length_replicate List.map_replicate setEl List.length_set bytesD_map map_ub mx_len mkZ_one mkZL_one mkM mkML mk1_int mk1_str mk1_bool drop_map take_map take_map_len List.take_length Int.toNat_zero toNat_pred fpOf metIds opIds mvV mvH mvF pickL D.ren D.renL Blk.ren List.map_append List.length_append Bool.not_not Bool.or_not_self Bool.not_or_self Bool.or_true
attribute [local go_sem] Try.tm_1 Try.tm_2 Try.tm_3 Try.tm_4 Try.tm_5 Try.tm_6 Try.tm_7 Try.tm_8 Try.tm_9 Try.tm_10 Try.tm_11 Try.tm_12 Try.tm_13 Try.tm_14 Try.tm_15 Try.tm_16 Try.tm_17 Try.tm_18 Try.tm_19 Try.tm_20 Try.tm_21 Try.tm_22 Try.tm_23 Try.tm_24 Try.tm_25 Try.tm_26 Try.tm_27 Try.tm_28 Try.tm_29 Try.tm_30 Try.tm_32 Try.tm_33 Try.tm_34 Try.tm_35 Try.tm_36 Try.tm_37 Try.tm_39 Try.tm_40 Try.tm_41 Try.tm_43 Try.tm_45 Try.tm_46 Try.tm_47 Try.tm_48 Try.tm_49 Try.tm_50 Try.tm_51 Try.tm_52 Try.tm_53 Try.tm_55 Try.tm_57 Try.tm_58 Try.tm_60 Try.tm_61 Try.tm_63 Try.tm_64 Try.tm_65 Try.tm_66 Try.tm_67 Try.tm_68 Try.tm_69 Try.tm_70 Try.tm_71 Try.tm_72 Try.tm_73 Try.tm_74 Try.tm_76 Try.tm_77 Try.tm_78 Try.tm_79 Try.tm_80 Try.tm_81 Try.tm_82 Try.tm_83 Try.tm_84 Try.tm_85 Try.tm_86 Try.tm_87 Try.tm_89 Try.tm_91 Try.tm_92 Try.tm_93 Try.tm_94 Try.tm_95 Try.tm_96 Try.tm_98 Try.tm_99 Try.tm_101 Try.tm_103 Try.tm_104 Try.tm_105 Try.tm_106 Try.tm_107 Try.tm_108 Try.tm_109 Try.tm_110 Try.tm_111 Try.tm_112 Try.tm_113 Try.tm_114 Try.tm_115 Try.tm_116 Try.tm_117 Try.tm_118 Try.tm_119 Try.tm_120 Try.tm_121 Try.tm_123 Try.tm_124 Try.tm_125 Try.tm_126 Try.tm_127 Try.tm_128 Try.tm_129 Try.tm_130 Try.tm_132 Try.tm_134 Try.tm_135 Try.tm_136 Try.tm_137 Try.tm_138 Try.tm_139 Try.tm_140 Try.tm_143 Try.tm_144 Try.tm_145 Try.tm_146 Try.tm_147 Try.tm_148 Try.tm_149 Try.tm_150 Try.tm_151 dL_str nL_str TVote.d TSeen.d TStable.d TStable.n TRecord.d mk1_dL_str mk1_TVote mk1_TSeen mk1_TStable mk1_TRecord Try.f34 Try.f10
attribute [local go_sem] qrefs outb inb
theorem nl0 (a : D) (l : List D) : nth (a :: l) 0 = a := by unfold nth; rfl
theorem nl1 (a b : D) (l : List D) : nth (a :: b :: l) 1 = b := by unfold nth; rfl
theorem nl2 (a b c : D) (l : List D) : nth (a :: b :: c :: l) 2 = c := by unfold nth; rfl
theorem nl3 (a b c d : D) (l : List D) : nth (a :: b :: c :: d :: l) 3 = d := by unfold nth; rfl
theorem sl0 (a x : D) (l : List D) : setN (a :: l) 0 x = x :: l := by unfold setN; rfl
theorem sl1 (a b x : D) (l : List D) : setN (a :: b :: l) 1 x = a :: x :: l := by unfold setN; rfl
theorem sl2 (a b c x : D) (l : List D) : setN (a :: b :: c :: l) 2 x = a :: b :: x :: l := by unfold setN; rfl
theorem sl3 (a b c d x : D) (l : List D) : setN (a :: b :: c :: d :: l) 3 x = a :: b :: c :: x :: l := by unfold setN; rfl
attribute [local go_sem] nl0 nl1 nl2 nl3 sl0 sl1 sl2 sl3
def Try.St_stable_put_1 (a0 : TStable) (a1 : TRecord) (v1 : Int × Bool) (n1 : Int) (n2 : Int) (n3 : Int) (n4 : Int) (s1 : List UInt8) : St := ⟨[(0, .ptr 20000 0), (3, .ptr 20100 0), (5, .eptr 20001 1 a1.Group.toNat 0), (6, .ptr 20101 0), (7, .int .i64 v1.1), (8, .bool v1.2)], [(20000, .box [.ref 20001 1 0 a0.Logs.length (some unkC), .ref 20002 5 0 a0.Votes.length (some unkC)]), (20001, outb 20010 a0.Logs), (20010, inb a0.Logs 0), (20011, inb a0.Logs 1), (20012, inb a0.Logs 2), (20013, inb a0.Logs 3), (20002, .arr 67 5 true (a0.Votes.map TSeen.d)), (20100, .box [.int .u8 a1.Kind, .int .i64 a1.Group, .int .i64 a1.Slot, .int .i64 a1.Ballot, .str a1.Value]), (20101, .box [.int .i64 n1, .int .i64 n2, .int .i64 n3, .int .i64 n4, .str s1])], 20102⟩
attribute [local go_sem] Try.St_stable_put_1
def Try.St_stable_put_3 (a0 : TStable) (v1 : Int × Bool) (n1 : Int) (n2 : Int) (n5 : Int) (n6 : Int) (s2 : List UInt8) (n7 : Int) : St := ⟨[(0, .ptr 20000 0), (6, .ptr 20101 0), (7, .int .i64 v1.1), (8, .bool v1.2), (9, .int .i64 n7)], [(20000, .box [.ref 20001 1 0 a0.Logs.length (some unkC), .ref 20002 5 0 a0.Votes.length (some unkC)]), (20001, outb 20010 a0.Logs), (20010, inb a0.Logs 0), (20011, inb a0.Logs 1), (20012, inb a0.Logs 2), (20013, inb a0.Logs 3), (20002, .arr 67 5 true (a0.Votes.map TSeen.d)), (20101, .box [.int .i64 n1, .int .i64 n2, .int .i64 n5, .int .i64 n6, .str s2])], 20102⟩
attribute [local go_sem] Try.St_stable_put_3
def Try.St_stable_put_5 (a0 : TStable) (a1 : TRecord) (l1 : List TSeen) : St := ⟨[(0, .ptr 20000 0)], [(20000, .box [.ref 20001 1 0 ((a0.Logs.set a1.Group.toNat ((a0.Logs.getD a1.Group.toNat default) ++ [a1.Value])).length) (some unkC), .ref 20121 5 0 l1.length (some unkC)]), (20001, outb 20110 (a0.Logs.set a1.Group.toNat ((a0.Logs.getD a1.Group.toNat default) ++ [a1.Value]))), (20110, inb (a0.Logs.set a1.Group.toNat ((a0.Logs.getD a1.Group.toNat default) ++ [a1.Value])) 0), (20111, inb (a0.Logs.set a1.Group.toNat ((a0.Logs.getD a1.Group.toNat default) ++ [a1.Value])) 1), (20112, inb (a0.Logs.set a1.Group.toNat ((a0.Logs.getD a1.Group.toNat default) ++ [a1.Value])) 2), (20113, inb (a0.Logs.set a1.Group.toNat ((a0.Logs.getD a1.Group.toNat default) ++ [a1.Value])) 3), (20121, .arr 67 5 true (l1.map TSeen.d))], 20140⟩
attribute [local go_sem] Try.St_stable_put_5
def Try.St_stable_put_7 (a0 : TStable) (v1 : Int × Bool) (n1 : Int) (n2 : Int) (n5 : Int) (n6 : Int) (s2 : List UInt8) (l2 : List TSeen) : St := ⟨[(0, .ptr 20000 0), (6, .ptr 20101 0), (7, .int .i64 v1.1)], [(20000, .box [.ref 20001 1 0 a0.Logs.length (some unkC), .ref 20102 5 0 l2.length (some unkC)]), (20001, outb 20010 a0.Logs), (20010, inb a0.Logs 0), (20011, inb a0.Logs 1), (20012, inb a0.Logs 2), (20013, inb a0.Logs 3), (20101, .box [.int .i64 n1, .int .i64 n2, .int .i64 n5, .int .i64 n6, .str s2]), (20102, .arr 67 5 true (l2.map TSeen.d))], 20103⟩
attribute [local go_sem] Try.St_stable_put_7
def Try.Re_stable_put (r : Int × TStable) : St := ⟨[(0, .ptr 20000 0), (4, .int .i64 r.1)], [(20000, .box [.ref 20001 1 0 r.2.Logs.length (some unkC), .ref 20101 5 0 r.2.Votes.length (some unkC)]), (20001, outb 20110 r.2.Logs), (20110, inb r.2.Logs 0), (20111, inb r.2.Logs 1), (20112, inb r.2.Logs 2), (20113, inb r.2.Logs 3), (20101, .arr 67 5 true (r.2.Votes.map TSeen.d))], 20120⟩
attribute [local go_sem] Try.Re_stable_put
theorem callH_stable_put (a0 : TStable) (a1 : TRecord) (r : Int × TStable) (h4 : a0.Logs.length ≤ 4) (h5 : ∀ k, (a0.Logs.getD k []).length ≤ 100000) (h : m_stable_put a0 a1 = some r) : CallH Try.prog 34 [.ptr 20000 0, .agg [.int .u8 a1.Kind, .int .i64 a1.Group, .int .i64 a1.Slot, .int .i64 a1.Ballot, .str a1.Value]] [(20000, .box [.ref 20001 1 0 a0.Logs.length (some unkC), .ref 20002 5 0 a0.Votes.length (some unkC)]), (20001, outb 20010 a0.Logs), (20010, inb a0.Logs 0), (20011, inb a0.Logs 1), (20012, inb a0.Logs 2), (20013, inb a0.Logs 3), (20002, .arr 67 5 true (a0.Votes.map TSeen.d))] (.int .i64 r.1) [(20000, some (.box [.ref 20001 1 0 r.2.Logs.length (some unkC), .ref 20101 5 0 r.2.Votes.length (some unkC)])), (20001, some (outb 20110 r.2.Logs)), (20010, none), (20011, none), (20012, none), (20013, none), (20002, none), (20110, some (inb r.2.Logs 0)), (20111, some (inb r.2.Logs 1)), (20112, some (inb r.2.Logs 2)), (20113, some (inb r.2.Logs 3)), (20101, some (.arr 67 5 true (r.2.Votes.map TSeen.d)))] (20100, 20160) := by
 refine callH_intro' Try.tmOk Try.func34 rfl (by decide) (Nat.le_of_ble_eq_true rfl) (by simp) ?_
 intro hwf
 unfold m_stable_put at h
 refine .ends 20100 (Nat.le_refl _) ?_
 refine .seq ?_
 refine .pl Try.S [0, 1] ?_
 refine .seq ?_
 refine .seq ?_
 refine .dr Try.S [0, 3] ?_
 refine .cond rfl rfl (fun hc1 => ?_) (fun hc1 => ?_)
 ·skip
  replace h := ite_lc h hc1
  refine .seq ?_
  refine .pl Try.S [0] ?_
  have hq := Option.some.inj h
  subst r
  refine .ret ⟨Try.Re_stable_put (6, a0), ?_, .inr rfl, retH [20000, 20001, 20101, 20113, 20112, 20111, 20110] ?_ ?_⟩
  ·skip
   exact .mxq (hrenQ [(20002, 20101), (20010, 20110), (20011, 20111), (20012, 20112), (20013, 20113)] 20010 20110 a0.Logs h4 (by decide)) [0, 4] [20000, 20001, 20010, 20011, 20012, 20013, 20002] [(20002, 20101), (20010, 20110), (20011, 20111), (20012, 20112), (20013, 20113)] [20000, 20001, 20010, 20011, 20012, 20013, 20002] (by intro i hi; simp only [go_sem, idsV, idsH, Blk.ids, D.ids, D.idsL, cond_false, cond_true, List.mem_append, List.mem_cons, List.not_mem_nil, or_false, false_or, List.nil_append, List.append_nil, List.cons_append, qrefs_mem, List.length_map, List.length_set, Nat.reduceBEq] at hi ⊢; omega)
  ·exact rsi0
  ·rfl
 ·skip
  replace h := ite_rc h hc1
  refine .skip ?_
  refine .seq ?_
  obtain ⟨k1, h⟩ := ite_ck h
  have hq4 : (a0.Logs.map List.length).length ≤ 4 := by rw [List.length_map]; exact h4
  have hln : (qrefs 1 20010 (a0.Logs.map List.length)).length = a0.Logs.length := by rw [qrefs_len, List.length_map]
  have e1 : nth (qrefs 1 20010 (a0.Logs.map List.length)) a1.Group.toNat = .ref (20010 + a1.Group.toNat) 1 0 (a0.Logs.getD a1.Group.toNat default).length (some unkC) := by
   rw [qrefs_nth _ _ _ _ (by rw [List.length_map]; omega)]
   congr 1
   rw [List.getD_eq_getElem?_getD, List.getElem?_map, List.getD_eq_getElem?_getD]
   have h : a1.Group.toNat < a0.Logs.length := by omega
   rw [List.getElem?_eq_getElem h]
   rfl
  refine .drx Try.S e1 [0, 3] ?_
  refine .seq ?_
  refine .seq ?_
  refine .rg Try.S [0, 3, 5] ?_
  refine .rdx 6 (And.intro e1 hln) ?_
  refine .rdx 6 (And.intro e1 hln) ?_
  refine .rdx 6 (And.intro e1 hln) ?_
  refine .rdx 4 (And.intro e1 hln) ?_
  refine .nil ⟨fun _ => schedB_of (by kernel_rfl), ?_⟩
  refine .cond rfl rfl (fun hc2 => ?_) (fun hc2 => ?_)
  ·skip
   replace h := ite_lc h hc2
   refine .seq ?_
   refine .pl Try.S [0] ?_
   have hq := Option.some.inj h
   subst r
   refine .ret ⟨Try.Re_stable_put (8, a0), ?_, .inr rfl, retH [20000, 20001, 20101, 20113, 20112, 20111, 20110] ?_ ?_⟩
   ·skip
    exact .mxq (hrenQ [(20002, 20101), (20010, 20110), (20011, 20111), (20012, 20112), (20013, 20113)] 20010 20110 a0.Logs h4 (by decide)) [0, 4] [20000, 20001, 20010, 20011, 20012, 20013, 20002] [(20002, 20101), (20010, 20110), (20011, 20111), (20012, 20112), (20013, 20113)] [20000, 20001, 20010, 20011, 20012, 20013, 20002] (by intro i hi; simp only [go_sem, idsV, idsH, Blk.ids, D.ids, D.idsL, cond_false, cond_true, List.mem_append, List.mem_cons, List.not_mem_nil, or_false, false_or, List.nil_append, List.append_nil, List.cons_append, qrefs_mem, List.length_map, List.length_set, Nat.reduceBEq] at hi ⊢; omega)
   ·exact rsi0
   ·rfl
  ·skip
   replace h := ite_rc h hc2
   refine .skip ?_
   refine .seq ?_
   refine .pl Try.S [0, 3, 5] ?_
   refine .seq ?_
   obtain ⟨v1, hv1, h⟩ := bind_some h
   refine .rg Try.S [0, 3, 5, 6] ?_
   refine .rd 5 ?_
   refine .lcall (r := .tuple [.int .i64 v1.1, .bool v1.2]) [] rfl rfl rfl rfl rfl (lend2s_cons (lend2_of (lend_ref pl_TSeen (by first | rfl | (simp only [go_sem, Nat.reduceBEq]; rfl)) (by first | rfl | (simp; done) | (simp <;> omega))) trivial) (lend2s_cons rfl (lend2s_cons (lend2_fn lend2s_nil) lend2s_nil))) rfl (callP_slices_BinarySearchFunc_Seen_Seen_Seen a0.Votes (⟨a1.Group, a1.Slot, (⟨0, 0, []⟩ : TVote)⟩ : TSeen) 38 [] (fun _ => rfl) (fun _ => rfl) (fun _ => rfl) m_stable_place (fun x0 x1 y hy => callP_stable_place x0 x1 y hy) v1 hv1) ?_
   refine .rd 5 ?_
   refine .nil ⟨fun _ => schedB_of (by kernel_rfl), ?_⟩
   obtain ⟨x1, hx1, h⟩ := bind_some h
   refine .seqM 20102 (fun (j : Int × Int × Int × Int × (List UInt8)) => Try.St_stable_put_1 a0 a1 v1 j.1 j.2.1 j.2.2.1 j.2.2.2.1 j.2.2.2.2) (fun j => x1 = j) (Nat.le_of_ble_eq_true rfl) ?_ ?_
   ·skip
    refine .seq ?_
    refine .pl Try.S [0, 3, 5, 6, 7, 8] ?_
    refine .cond rfl rfl (fun hc3 => ?_) (fun hc3 => ?_)
    ·skip
     replace hx1 := ite_lc hx1 hc3
     obtain ⟨k2, hx1⟩ := ite_ck hx1
     have e2 := nth_mapI TSeen.d a0.Votes v1.1
     replace e2 := e2 k2
     refine .plx Try.S e2 [0, 3, 5, 6, 7, 8] ?_
     refine ⟨_, ?_, (Option.some.inj hx1).symm⟩
     exact .sub [0, 3, 5, 6, 7, 8] [20000, 20001, 20010, 20011, 20012, 20013, 20002, 20100, 20101]
    ·skip
     replace hx1 := ite_rc hx1 hc3
     refine .skip ?_
     refine ⟨_, ?_, (Option.some.inj hx1).symm⟩
     exact .sub [0, 3, 5, 6, 7, 8] [20000, 20001, 20010, 20011, 20012, 20013, 20002, 20100, 20101]
   ·skip
    rintro ⟨n1, n2, n3, n4, s1⟩ hj1
    subst x1
    try dsimp only at h
    simp only [Try.St_stable_put_1]
    refine .seq ?_
    refine .pl Try.S [0, 3, 5, 6, 7, 8] ?_
    obtain ⟨x2, hx2, h⟩ := bind_some h
    refine .seqM 20102 (fun (j : Int × Int × (List UInt8) × Int) => Try.St_stable_put_3 a0 v1 n1 n2 j.1 j.2.1 j.2.2.1 j.2.2.2) (fun j => x2 = (.inr j)) (Nat.le_of_ble_eq_true rfl) ?_ ?_
    ·skip
     refine .seq ?_
     refine .pl Try.S [0, 3, 5, 6, 7, 8] ?_
     refine .block ?_
     refine .seq ?_
     refine .pl Try.S [0, 3, 5, 6, 7, 8, 70] ?_
     refine .cond rfl rfl (fun hc4 => ?_) (fun hc4 => ?_)
     ·skip
      replace hx2 := ite_lc hx2 hc4
      obtain ⟨v2, hv2, hx2⟩ := bind_some hx2
      refine .rg Try.S [0, 3, 6, 7, 8] ?_
      refine .rn 4 ?_
      refine .call (r := .tuple [.agg [.int .i64 v2.1.Promised, .int .i64 v2.1.Ballot, .str v2.1.Value], .int .i64 v2.2]) rfl rfl rfl rfl rfl rfl (callP_vote_Prepare (⟨n3, n4, s1⟩ : TVote) a1.Ballot v2 hv2) ?_
      refine .rn 6 ?_
      refine .nil ⟨nofun, ?_⟩
      refine ⟨_, ?_, (Option.some.inj hx2).symm⟩
      exact .sub [0, 6, 7, 8, 9] [20000, 20001, 20010, 20011, 20012, 20013, 20002, 20101]
     ·skip
      replace hx2 := ite_rc hx2 hc4
      refine .seq ?_
      refine .pl Try.S [0, 3, 5, 6, 7, 8, 70] ?_
      refine .cond rfl rfl (fun hc5 => ?_) (fun hc5 => ?_)
      ·skip
       replace hx2 := ite_lc hx2 hc5
       obtain ⟨v3, hv3, hx2⟩ := bind_some hx2
       refine .rg Try.S [0, 3, 6, 7, 8] ?_
       refine .rn 6 ?_
       refine .call (r := .tuple [.agg [.int .i64 v3.1.Promised, .int .i64 v3.1.Ballot, .str v3.1.Value], .int .i64 v3.2]) rfl rfl rfl rfl rfl rfl (callP_vote_Accept (⟨n3, n4, s1⟩ : TVote) a1.Ballot a1.Value v3 hv3) ?_
       refine .rn 6 ?_
       refine .nil ⟨nofun, ?_⟩
       refine ⟨_, ?_, (Option.some.inj hx2).symm⟩
       exact .sub [0, 6, 7, 8, 9] [20000, 20001, 20010, 20011, 20012, 20013, 20002, 20101]
      ·skip
       replace hx2 := ite_rc hx2 hc5
       refine .seqM 20102 (fun (_ : Unit) => ⟨[(0, .ptr 20000 0), (3, .ptr 20100 0), (5, .eptr 20001 1 a1.Group.toNat 0), (7, .int .i64 v1.1), (8, .bool v1.2)], [(20000, .box [.ref 20001 1 0 a0.Logs.length (some unkC), .ref 20002 5 0 a0.Votes.length (some unkC)]), (20001, outb 20110 (a0.Logs.set a1.Group.toNat ((a0.Logs.getD a1.Group.toNat default) ++ [a1.Value]))), (20110, inb (a0.Logs.set a1.Group.toNat ((a0.Logs.getD a1.Group.toNat default) ++ [a1.Value])) 0), (20111, inb (a0.Logs.set a1.Group.toNat ((a0.Logs.getD a1.Group.toNat default) ++ [a1.Value])) 1), (20112, inb (a0.Logs.set a1.Group.toNat ((a0.Logs.getD a1.Group.toNat default) ++ [a1.Value])) 2), (20113, inb (a0.Logs.set a1.Group.toNat ((a0.Logs.getD a1.Group.toNat default) ++ [a1.Value])) 3), (20002, .arr 67 5 true (a0.Votes.map TSeen.d)), (20100, .box [.int .u8 a1.Kind, .int .i64 a1.Group, .int .i64 a1.Slot, .int .i64 a1.Ballot, .str a1.Value])], 20120⟩) (fun _ => True) (Nat.le_of_ble_eq_true rfl) ?_ (fun _ _ => ?_)
       ·skip
        have kk := k1
        clear h hx1 hx2
        obtain ⟨ls, vs⟩ := a0
        obtain ⟨kd, gr, sl, bl, vl⟩ := a1
        have hg : ∃ g : Nat, gr = (g : Int) := ⟨gr.toNat, by simp only at kk; omega⟩
        obtain ⟨g, rfl⟩ := hg
        have hgl : g < ls.length := by simp only at kk; omega
        rcases ls with _ | ⟨b0, _ | ⟨b1, _ | ⟨b2, _ | ⟨b3, _ | ⟨b4, bs⟩⟩⟩⟩⟩
        ·exact absurd hgl (Nat.not_lt_zero _)
        ·skip
         rcases g with _ | g
         ·skip
          have hb0 : b0.length ≤ 100000 := h5 0
          have hS : [b0].set 0 ([b0].getD 0 default ++ [vl]) = [b0 ++ [vl]] := rfl
          have hL : (b0 ++ [vl]).length = b0.length + 1 := by simp
          have hM : (b0 ++ [vl]).map D.str = b0.map D.str ++ [D.str vl] := by simp
          have hG : [b0 ++ [vl]].getD 0 [] = b0 ++ [vl] := rfl
          have hG0 : [b0].getD 0 [] = b0 := rfl
          have hle : (b0.length + 1) * 16 ≤ 140737488355328 := by omega
          refine .dr Try.S [0, 3, 5, 7, 8] ?_ (hv := by first | (simp [hG0, hle, nl0, nl1, nl2, nl3, oneD]; done) | (simp [hG0, nl0, nl1, nl2, nl3, oneD] <;> omega) | (dsimp only; simp only [hG0, hle, decide_true, beq_self_eq_true, Bool.and_self, Bool.true_and, Bool.and_true, Nat.reduceBEq, Bool.or_true, Bool.false_or, Bool.or_false, Bool.false_and]; done))
          refine ⟨(), ?_, trivial⟩
          exact Goes.mx (And.intro hS (And.intro hL (And.intro hM (And.intro hG hG0)))) [0, 3, 5, 7, 8] [20000, 20001, 20103, 20011, 20012, 20013, 20002, 20100] [(20103, 20110), (20011, 20111), (20012, 20112), (20013, 20113)]
         ·exact absurd hgl (by simp only [List.length_cons, List.length_nil]; omega)
        ·skip
         rcases g with _ | g
         ·skip
          have hb0 : b0.length ≤ 100000 := h5 0
          have hb1 : b1.length ≤ 100000 := h5 1
          have hS : [b0, b1].set 0 ([b0, b1].getD 0 default ++ [vl]) = [b0 ++ [vl], b1] := rfl
          have hL : (b0 ++ [vl]).length = b0.length + 1 := by simp
          have hM : (b0 ++ [vl]).map D.str = b0.map D.str ++ [D.str vl] := by simp
          have hG : [b0 ++ [vl], b1].getD 0 [] = b0 ++ [vl] := rfl
          have hG0 : [b0, b1].getD 0 [] = b0 := rfl
          have hle : (b0.length + 1) * 16 ≤ 140737488355328 := by omega
          refine .dr Try.S [0, 3, 5, 7, 8] ?_ (hv := by first | (simp [hG0, hle, nl0, nl1, nl2, nl3, oneD]; done) | (simp [hG0, nl0, nl1, nl2, nl3, oneD] <;> omega) | (dsimp only; simp only [hG0, hle, decide_true, beq_self_eq_true, Bool.and_self, Bool.true_and, Bool.and_true, Nat.reduceBEq, Bool.or_true, Bool.false_or, Bool.or_false, Bool.false_and]; done))
          refine ⟨(), ?_, trivial⟩
          exact Goes.mx (And.intro hS (And.intro hL (And.intro hM (And.intro hG hG0)))) [0, 3, 5, 7, 8] [20000, 20001, 20103, 20011, 20012, 20013, 20002, 20100] [(20103, 20110), (20011, 20111), (20012, 20112), (20013, 20113)]
         ·skip
          rcases g with _ | g
          ·skip
           have hb0 : b0.length ≤ 100000 := h5 0
           have hb1 : b1.length ≤ 100000 := h5 1
           have hS : [b0, b1].set 1 ([b0, b1].getD 1 default ++ [vl]) = [b0, b1 ++ [vl]] := rfl
           have hL : (b1 ++ [vl]).length = b1.length + 1 := by simp
           have hM : (b1 ++ [vl]).map D.str = b1.map D.str ++ [D.str vl] := by simp
           have hG : [b0, b1 ++ [vl]].getD 1 [] = b1 ++ [vl] := rfl
           have hG0 : [b0, b1].getD 1 [] = b1 := rfl
           have hle : (b1.length + 1) * 16 ≤ 140737488355328 := by omega
           refine .dr Try.S [0, 3, 5, 7, 8] ?_ (hv := by first | (simp [hG0, hle, nl0, nl1, nl2, nl3, oneD]; done) | (simp [hG0, nl0, nl1, nl2, nl3, oneD] <;> omega) | (dsimp only; simp only [hG0, hle, decide_true, beq_self_eq_true, Bool.and_self, Bool.true_and, Bool.and_true, Nat.reduceBEq, Bool.or_true, Bool.false_or, Bool.or_false, Bool.false_and]; done))
           refine ⟨(), ?_, trivial⟩
           exact Goes.mx (And.intro hS (And.intro hL (And.intro hM (And.intro hG hG0)))) [0, 3, 5, 7, 8] [20000, 20001, 20010, 20103, 20012, 20013, 20002, 20100] [(20010, 20110), (20103, 20111), (20012, 20112), (20013, 20113)]
          ·exact absurd hgl (by simp only [List.length_cons, List.length_nil]; omega)
        ·skip
         rcases g with _ | g
         ·skip
          have hb0 : b0.length ≤ 100000 := h5 0
          have hb1 : b1.length ≤ 100000 := h5 1
          have hb2 : b2.length ≤ 100000 := h5 2
          have hS : [b0, b1, b2].set 0 ([b0, b1, b2].getD 0 default ++ [vl]) = [b0 ++ [vl], b1, b2] := rfl
          have hL : (b0 ++ [vl]).length = b0.length + 1 := by simp
          have hM : (b0 ++ [vl]).map D.str = b0.map D.str ++ [D.str vl] := by simp
          have hG : [b0 ++ [vl], b1, b2].getD 0 [] = b0 ++ [vl] := rfl
          have hG0 : [b0, b1, b2].getD 0 [] = b0 := rfl
          have hle : (b0.length + 1) * 16 ≤ 140737488355328 := by omega
          refine .dr Try.S [0, 3, 5, 7, 8] ?_ (hv := by first | (simp [hG0, hle, nl0, nl1, nl2, nl3, oneD]; done) | (simp [hG0, nl0, nl1, nl2, nl3, oneD] <;> omega) | (dsimp only; simp only [hG0, hle, decide_true, beq_self_eq_true, Bool.and_self, Bool.true_and, Bool.and_true, Nat.reduceBEq, Bool.or_true, Bool.false_or, Bool.or_false, Bool.false_and]; done))
          refine ⟨(), ?_, trivial⟩
          exact Goes.mx (And.intro hS (And.intro hL (And.intro hM (And.intro hG hG0)))) [0, 3, 5, 7, 8] [20000, 20001, 20103, 20011, 20012, 20013, 20002, 20100] [(20103, 20110), (20011, 20111), (20012, 20112), (20013, 20113)]
         ·skip
          rcases g with _ | g
          ·skip
           have hb0 : b0.length ≤ 100000 := h5 0
           have hb1 : b1.length ≤ 100000 := h5 1
           have hb2 : b2.length ≤ 100000 := h5 2
           have hS : [b0, b1, b2].set 1 ([b0, b1, b2].getD 1 default ++ [vl]) = [b0, b1 ++ [vl], b2] := rfl
           have hL : (b1 ++ [vl]).length = b1.length + 1 := by simp
           have hM : (b1 ++ [vl]).map D.str = b1.map D.str ++ [D.str vl] := by simp
           have hG : [b0, b1 ++ [vl], b2].getD 1 [] = b1 ++ [vl] := rfl
           have hG0 : [b0, b1, b2].getD 1 [] = b1 := rfl
           have hle : (b1.length + 1) * 16 ≤ 140737488355328 := by omega
           refine .dr Try.S [0, 3, 5, 7, 8] ?_ (hv := by first | (simp [hG0, hle, nl0, nl1, nl2, nl3, oneD]; done) | (simp [hG0, nl0, nl1, nl2, nl3, oneD] <;> omega) | (dsimp only; simp only [hG0, hle, decide_true, beq_self_eq_true, Bool.and_self, Bool.true_and, Bool.and_true, Nat.reduceBEq, Bool.or_true, Bool.false_or, Bool.or_false, Bool.false_and]; done))
           refine ⟨(), ?_, trivial⟩
           exact Goes.mx (And.intro hS (And.intro hL (And.intro hM (And.intro hG hG0)))) [0, 3, 5, 7, 8] [20000, 20001, 20010, 20103, 20012, 20013, 20002, 20100] [(20010, 20110), (20103, 20111), (20012, 20112), (20013, 20113)]
          ·skip
           rcases g with _ | g
           ·skip
            have hb0 : b0.length ≤ 100000 := h5 0
            have hb1 : b1.length ≤ 100000 := h5 1
            have hb2 : b2.length ≤ 100000 := h5 2
            have hS : [b0, b1, b2].set 2 ([b0, b1, b2].getD 2 default ++ [vl]) = [b0, b1, b2 ++ [vl]] := rfl
            have hL : (b2 ++ [vl]).length = b2.length + 1 := by simp
            have hM : (b2 ++ [vl]).map D.str = b2.map D.str ++ [D.str vl] := by simp
            have hG : [b0, b1, b2 ++ [vl]].getD 2 [] = b2 ++ [vl] := rfl
            have hG0 : [b0, b1, b2].getD 2 [] = b2 := rfl
            have hle : (b2.length + 1) * 16 ≤ 140737488355328 := by omega
            refine .dr Try.S [0, 3, 5, 7, 8] ?_ (hv := by first | (simp [hG0, hle, nl0, nl1, nl2, nl3, oneD]; done) | (simp [hG0, nl0, nl1, nl2, nl3, oneD] <;> omega) | (dsimp only; simp only [hG0, hle, decide_true, beq_self_eq_true, Bool.and_self, Bool.true_and, Bool.and_true, Nat.reduceBEq, Bool.or_true, Bool.false_or, Bool.or_false, Bool.false_and]; done))
            refine ⟨(), ?_, trivial⟩
            exact Goes.mx (And.intro hS (And.intro hL (And.intro hM (And.intro hG hG0)))) [0, 3, 5, 7, 8] [20000, 20001, 20010, 20011, 20103, 20013, 20002, 20100] [(20010, 20110), (20011, 20111), (20103, 20112), (20013, 20113)]
           ·exact absurd hgl (by simp only [List.length_cons, List.length_nil]; omega)
        ·skip
         rcases g with _ | g
         ·skip
          have hb0 : b0.length ≤ 100000 := h5 0
          have hb1 : b1.length ≤ 100000 := h5 1
          have hb2 : b2.length ≤ 100000 := h5 2
          have hb3 : b3.length ≤ 100000 := h5 3
          have hS : [b0, b1, b2, b3].set 0 ([b0, b1, b2, b3].getD 0 default ++ [vl]) = [b0 ++ [vl], b1, b2, b3] := rfl
          have hL : (b0 ++ [vl]).length = b0.length + 1 := by simp
          have hM : (b0 ++ [vl]).map D.str = b0.map D.str ++ [D.str vl] := by simp
          have hG : [b0 ++ [vl], b1, b2, b3].getD 0 [] = b0 ++ [vl] := rfl
          have hG0 : [b0, b1, b2, b3].getD 0 [] = b0 := rfl
          have hle : (b0.length + 1) * 16 ≤ 140737488355328 := by omega
          refine .dr Try.S [0, 3, 5, 7, 8] ?_ (hv := by first | (simp [hG0, hle, nl0, nl1, nl2, nl3, oneD]; done) | (simp [hG0, nl0, nl1, nl2, nl3, oneD] <;> omega) | (dsimp only; simp only [hG0, hle, decide_true, beq_self_eq_true, Bool.and_self, Bool.true_and, Bool.and_true, Nat.reduceBEq, Bool.or_true, Bool.false_or, Bool.or_false, Bool.false_and]; done))
          refine ⟨(), ?_, trivial⟩
          exact Goes.mx (And.intro hS (And.intro hL (And.intro hM (And.intro hG hG0)))) [0, 3, 5, 7, 8] [20000, 20001, 20103, 20011, 20012, 20013, 20002, 20100] [(20103, 20110), (20011, 20111), (20012, 20112), (20013, 20113)]
         ·skip
          rcases g with _ | g
          ·skip
           have hb0 : b0.length ≤ 100000 := h5 0
           have hb1 : b1.length ≤ 100000 := h5 1
           have hb2 : b2.length ≤ 100000 := h5 2
           have hb3 : b3.length ≤ 100000 := h5 3
           have hS : [b0, b1, b2, b3].set 1 ([b0, b1, b2, b3].getD 1 default ++ [vl]) = [b0, b1 ++ [vl], b2, b3] := rfl
           have hL : (b1 ++ [vl]).length = b1.length + 1 := by simp
           have hM : (b1 ++ [vl]).map D.str = b1.map D.str ++ [D.str vl] := by simp
           have hG : [b0, b1 ++ [vl], b2, b3].getD 1 [] = b1 ++ [vl] := rfl
           have hG0 : [b0, b1, b2, b3].getD 1 [] = b1 := rfl
           have hle : (b1.length + 1) * 16 ≤ 140737488355328 := by omega
           refine .dr Try.S [0, 3, 5, 7, 8] ?_ (hv := by first | (simp [hG0, hle, nl0, nl1, nl2, nl3, oneD]; done) | (simp [hG0, nl0, nl1, nl2, nl3, oneD] <;> omega) | (dsimp only; simp only [hG0, hle, decide_true, beq_self_eq_true, Bool.and_self, Bool.true_and, Bool.and_true, Nat.reduceBEq, Bool.or_true, Bool.false_or, Bool.or_false, Bool.false_and]; done))
           refine ⟨(), ?_, trivial⟩
           exact Goes.mx (And.intro hS (And.intro hL (And.intro hM (And.intro hG hG0)))) [0, 3, 5, 7, 8] [20000, 20001, 20010, 20103, 20012, 20013, 20002, 20100] [(20010, 20110), (20103, 20111), (20012, 20112), (20013, 20113)]
          ·skip
           rcases g with _ | g
           ·skip
            have hb0 : b0.length ≤ 100000 := h5 0
            have hb1 : b1.length ≤ 100000 := h5 1
            have hb2 : b2.length ≤ 100000 := h5 2
            have hb3 : b3.length ≤ 100000 := h5 3
            have hS : [b0, b1, b2, b3].set 2 ([b0, b1, b2, b3].getD 2 default ++ [vl]) = [b0, b1, b2 ++ [vl], b3] := rfl
            have hL : (b2 ++ [vl]).length = b2.length + 1 := by simp
            have hM : (b2 ++ [vl]).map D.str = b2.map D.str ++ [D.str vl] := by simp
            have hG : [b0, b1, b2 ++ [vl], b3].getD 2 [] = b2 ++ [vl] := rfl
            have hG0 : [b0, b1, b2, b3].getD 2 [] = b2 := rfl
            have hle : (b2.length + 1) * 16 ≤ 140737488355328 := by omega
            refine .dr Try.S [0, 3, 5, 7, 8] ?_ (hv := by first | (simp [hG0, hle, nl0, nl1, nl2, nl3, oneD]; done) | (simp [hG0, nl0, nl1, nl2, nl3, oneD] <;> omega) | (dsimp only; simp only [hG0, hle, decide_true, beq_self_eq_true, Bool.and_self, Bool.true_and, Bool.and_true, Nat.reduceBEq, Bool.or_true, Bool.false_or, Bool.or_false, Bool.false_and]; done))
            refine ⟨(), ?_, trivial⟩
            exact Goes.mx (And.intro hS (And.intro hL (And.intro hM (And.intro hG hG0)))) [0, 3, 5, 7, 8] [20000, 20001, 20010, 20011, 20103, 20013, 20002, 20100] [(20010, 20110), (20011, 20111), (20103, 20112), (20013, 20113)]
           ·skip
            rcases g with _ | g
            ·skip
             have hb0 : b0.length ≤ 100000 := h5 0
             have hb1 : b1.length ≤ 100000 := h5 1
             have hb2 : b2.length ≤ 100000 := h5 2
             have hb3 : b3.length ≤ 100000 := h5 3
             have hS : [b0, b1, b2, b3].set 3 ([b0, b1, b2, b3].getD 3 default ++ [vl]) = [b0, b1, b2, b3 ++ [vl]] := rfl
             have hL : (b3 ++ [vl]).length = b3.length + 1 := by simp
             have hM : (b3 ++ [vl]).map D.str = b3.map D.str ++ [D.str vl] := by simp
             have hG : [b0, b1, b2, b3 ++ [vl]].getD 3 [] = b3 ++ [vl] := rfl
             have hG0 : [b0, b1, b2, b3].getD 3 [] = b3 := rfl
             have hle : (b3.length + 1) * 16 ≤ 140737488355328 := by omega
             refine .dr Try.S [0, 3, 5, 7, 8] ?_ (hv := by first | (simp [hG0, hle, nl0, nl1, nl2, nl3, oneD]; done) | (simp [hG0, nl0, nl1, nl2, nl3, oneD] <;> omega) | (dsimp only; simp only [hG0, hle, decide_true, beq_self_eq_true, Bool.and_self, Bool.true_and, Bool.and_true, Nat.reduceBEq, Bool.or_true, Bool.false_or, Bool.or_false, Bool.false_and]; done))
             refine ⟨(), ?_, trivial⟩
             exact Goes.mx (And.intro hS (And.intro hL (And.intro hM (And.intro hG hG0)))) [0, 3, 5, 7, 8] [20000, 20001, 20010, 20011, 20012, 20103, 20002, 20100] [(20010, 20110), (20011, 20111), (20012, 20112), (20103, 20113)]
            ·exact absurd hgl (by simp only [List.length_cons, List.length_nil]; omega)
        ·exact absurd h4 (by simp only [List.length_cons]; omega)
       obtain ⟨x3, hx3, hx2⟩ := bind_some hx2
       refine .seqM 20120 (fun (j : (List TSeen)) => Try.St_stable_put_5 a0 a1 j) (fun j => x3 = j) (Nat.le_of_ble_eq_true rfl) ?_ ?_
       ·skip
        refine .seq ?_
        refine .pl Try.S [0, 7, 8] ?_
        refine .cond rfl rfl (fun hc6 => ?_) (fun hc6 => ?_)
        ·skip
         replace hx3 := ite_lc hx3 hc6
         obtain ⟨k3, hx3⟩ := ite_ck hx3
         obtain ⟨k4, hx3⟩ := ite_ck hx3
         refine .rg Try.S [0, 7] ?_
         refine .rn 8 ?_
         refine .hcall (r := .ref 20120 5 0 ((a0.Votes.eraseIdx v1.1.toNat).length) (some unkC)) rfl rfl rfl rfl rfl (delT66 20002 20120 (by decide) a0.Votes v1.1 k3 k4) (fun id b h => getL_pick [20002] _ id b h) (by simp) (.inr ⟨Nat.le_refl _, Nat.le_of_ble_eq_true rfl⟩) ?_
         refine .rn 3 ?_
         refine .nil ⟨nofun, ?_⟩
         refine ⟨_, ?_, (Option.some.inj hx3).symm⟩
         exact .mxq (hrenQ [(20120, 20121)] 20110 20110 (a0.Logs.set a1.Group.toNat ((a0.Logs.getD a1.Group.toNat default) ++ [a1.Value])) (by rw [List.length_set]; exact h4) (by decide)) [0] [20000, 20001, 20110, 20111, 20112, 20113, 20120] [(20120, 20121)] [20000, 20001, 20110, 20111, 20112, 20113, 20120] (by intro i hi; simp only [go_sem, idsV, idsH, Blk.ids, D.ids, D.idsL, cond_false, cond_true, List.mem_append, List.mem_cons, List.not_mem_nil, or_false, false_or, List.nil_append, List.append_nil, List.cons_append, qrefs_mem, List.length_map, List.length_set, Nat.reduceBEq] at hi ⊢; omega)
        ·skip
         replace hx3 := ite_rc hx3 hc6
         refine .skip ?_
         refine ⟨_, ?_, (Option.some.inj hx3).symm⟩
         exact .mxq (hrenQ [(20002, 20121)] 20110 20110 (a0.Logs.set a1.Group.toNat ((a0.Logs.getD a1.Group.toNat default) ++ [a1.Value])) (by rw [List.length_set]; exact h4) (by decide)) [0] [20000, 20001, 20110, 20111, 20112, 20113, 20002] [(20002, 20121)] [20000, 20001, 20110, 20111, 20112, 20113, 20002] (by intro i hi; simp only [go_sem, idsV, idsH, Blk.ids, D.ids, D.idsL, cond_false, cond_true, List.mem_append, List.mem_cons, List.not_mem_nil, or_false, false_or, List.nil_append, List.append_nil, List.cons_append, qrefs_mem, List.length_map, List.length_set, Nat.reduceBEq] at hi ⊢; omega)
       ·skip
        rintro l1 hj2
        subst x3
        try dsimp only at hx2
        simp only [Try.St_stable_put_5]
        refine .seq ?_
        refine .pl Try.S [0] ?_
        have hq := Option.some.inj hx2
        subst x2
        try dsimp only at h
        have hq := Option.some.inj h
        subst r
        refine .ret ⟨Try.Re_stable_put (0, (⟨(a0.Logs.set a1.Group.toNat ((a0.Logs.getD a1.Group.toNat default) ++ [a1.Value])), l1⟩ : TStable)), ?_, .inr rfl, retH [20000, 20001, 20101, 20113, 20112, 20111, 20110] ?_ ?_⟩
        ·skip
         exact .mxq (hrenQ [(20121, 20101)] 20110 20110 (a0.Logs.set a1.Group.toNat ((a0.Logs.getD a1.Group.toNat default) ++ [a1.Value])) (by rw [List.length_set]; exact h4) (by decide)) [0, 4] [20000, 20001, 20110, 20111, 20112, 20113, 20121] [(20121, 20101)] [20000, 20001, 20110, 20111, 20112, 20113, 20121] (by intro i hi; simp only [go_sem, idsV, idsH, Blk.ids, D.ids, D.idsL, cond_false, cond_true, List.mem_append, List.mem_cons, List.not_mem_nil, or_false, false_or, List.nil_append, List.append_nil, List.cons_append, qrefs_mem, List.length_map, List.length_set, Nat.reduceBEq] at hi ⊢; omega)
        ·exact rsi0
        ·rfl
    ·skip
     rintro ⟨n5, n6, s2, n7⟩ hj3
     subst x2
     try dsimp only at h
     simp only [Try.St_stable_put_3]
     refine .seq ?_
     refine .seq ?_
     refine .pl Try.S [0, 6, 7, 8, 9] ?_
     refine .cond rfl rfl (fun hc7 => ?_) (fun hc7 => ?_)
     ·skip
      replace h := ite_lc h hc7
      refine .seq ?_
      refine .pl Try.S [0, 9] ?_
      have hq := Option.some.inj h
      subst r
      refine .ret ⟨Try.Re_stable_put (n7, a0), ?_, .inr rfl, retH [20000, 20001, 20101, 20113, 20112, 20111, 20110] ?_ ?_⟩
      ·skip
       exact .mxq (hrenQ [(20002, 20101), (20010, 20110), (20011, 20111), (20012, 20112), (20013, 20113)] 20010 20110 a0.Logs h4 (by decide)) [0, 4] [20000, 20001, 20010, 20011, 20012, 20013, 20002] [(20002, 20101), (20010, 20110), (20011, 20111), (20012, 20112), (20013, 20113)] [20000, 20001, 20010, 20011, 20012, 20013, 20002] (by intro i hi; simp only [go_sem, idsV, idsH, Blk.ids, D.ids, D.idsL, cond_false, cond_true, List.mem_append, List.mem_cons, List.not_mem_nil, or_false, false_or, List.nil_append, List.append_nil, List.cons_append, qrefs_mem, List.length_map, List.length_set, Nat.reduceBEq] at hi ⊢; omega)
      ·exact rsi0
      ·rfl
     ·skip
      replace h := ite_rc h hc7
      refine .skip ?_
      obtain ⟨x4, hx4, h⟩ := bind_some h
      refine .seqM 20102 (fun (j : (List TSeen)) => Try.St_stable_put_7 a0 v1 n1 n2 n5 n6 s2 j) (fun j => x4 = j) (Nat.le_of_ble_eq_true rfl) ?_ ?_
      ·skip
       refine .seq ?_
       refine .pl Try.S [0, 6, 7, 8] ?_
       refine .cond rfl rfl (fun hc8 => ?_) (fun hc8 => ?_)
       ·skip
        replace hx4 := ite_lc hx4 hc8
        obtain ⟨k5, hx4⟩ := ite_ck hx4
        obtain ⟨k6, hx4⟩ := ite_ck hx4
        refine .rg Try.S [0, 6, 7] ?_
        refine .rd 8 ?_
        refine .hcall (r := .ref 20103 5 0 (((a0.Votes.take v1.1.toNat) ++ ((⟨n1, n2, (⟨n5, n6, s2⟩ : TVote)⟩ : TSeen) :: (a0.Votes.drop v1.1.toNat))).length) (some unkC)) rfl rfl rfl rfl rfl (insT67 20002 20102 20103 (by decide) (by decide) (by decide) a0.Votes (⟨n1, n2, (⟨n5, n6, s2⟩ : TVote)⟩ : TSeen) v1.1 k5 k6) (fun id b h => getL_pick [20002, 20102] _ id b h) (by simp) (.inr ⟨Nat.le_refl _, Nat.le_of_ble_eq_true rfl⟩) ?_
        refine .rd 3 ?_
        refine .nil ⟨fun _ => schedB_of (by kernel_rfl), ?_⟩
        refine ⟨_, ?_, (Option.some.inj hx4).symm⟩
        exact .mxq (hrenQ [(20103, 20102)] 20010 20010 a0.Logs h4 (by decide)) [0, 6, 7] [20000, 20001, 20010, 20011, 20012, 20013, 20101, 20103] [(20103, 20102)] [20000, 20001, 20010, 20011, 20012, 20013, 20101, 20103] (by intro i hi; simp only [go_sem, idsV, idsH, Blk.ids, D.ids, D.idsL, cond_false, cond_true, List.mem_append, List.mem_cons, List.not_mem_nil, or_false, false_or, List.nil_append, List.append_nil, List.cons_append, qrefs_mem, List.length_map, List.length_set, Nat.reduceBEq] at hi ⊢; omega)
       ·skip
        replace hx4 := ite_rc hx4 hc8
        refine .skip ?_
        refine ⟨_, ?_, (Option.some.inj hx4).symm⟩
        exact .mxq (hrenQ [(20002, 20102)] 20010 20010 a0.Logs h4 (by decide)) [0, 6, 7] [20000, 20001, 20010, 20011, 20012, 20013, 20101, 20002] [(20002, 20102)] [20000, 20001, 20010, 20011, 20012, 20013, 20101, 20002] (by intro i hi; simp only [go_sem, idsV, idsH, Blk.ids, D.ids, D.idsL, cond_false, cond_true, List.mem_append, List.mem_cons, List.not_mem_nil, or_false, false_or, List.nil_append, List.append_nil, List.cons_append, qrefs_mem, List.length_map, List.length_set, Nat.reduceBEq] at hi ⊢; omega)
      ·skip
       rintro l2 hj4
       subst x4
       try dsimp only at h
       simp only [Try.St_stable_put_7]
       refine .seq ?_
       obtain ⟨k7, h⟩ := ite_ck h
       have e3 := nth_mapI TSeen.d l2 v1.1
       have es2 := setN_map TSeen.d l2 v1.1.toNat (⟨n1, n2, (⟨n5, n6, s2⟩ : TVote)⟩ : TSeen)
       replace e3 := e3 k7
       replace es2 : setN (l2.map TSeen.d) v1.1.toNat (.agg [.int .i64 n1, .int .i64 n2, .int .i64 n5, .int .i64 n6, .str s2]) = (l2.set v1.1.toNat (⟨n1, n2, (⟨n5, n6, s2⟩ : TVote)⟩ : TSeen)).map TSeen.d := es2
       refine .drx Try.S (And.intro e3 es2) [0, 6, 7] ?_
       refine .seq ?_
       refine .pl Try.S [0] ?_
       have hq := Option.some.inj h
       subst r
       refine .ret ⟨Try.Re_stable_put (0, (⟨a0.Logs, (l2.set v1.1.toNat (⟨n1, n2, (⟨n5, n6, s2⟩ : TVote)⟩ : TSeen))⟩ : TStable)), ?_, .inr rfl, retH [20000, 20001, 20101, 20113, 20112, 20111, 20110] ?_ ?_⟩
       ·skip
        exact .mxq (hrenQ [(20102, 20101), (20010, 20110), (20011, 20111), (20012, 20112), (20013, 20113)] 20010 20110 a0.Logs h4 (by decide)) [0, 4] [20000, 20001, 20010, 20011, 20012, 20013, 20102] [(20102, 20101), (20010, 20110), (20011, 20111), (20012, 20112), (20013, 20113)] [20000, 20001, 20010, 20011, 20012, 20013, 20102] (by intro i hi; simp only [go_sem, idsV, idsH, Blk.ids, D.ids, D.idsL, cond_false, cond_true, List.mem_append, List.mem_cons, List.not_mem_nil, or_false, false_or, List.nil_append, List.append_nil, List.cons_append, qrefs_mem, List.length_map, List.length_set, Nat.reduceBEq] at hi ⊢; omega)
       ·exact rsi0
       ·rfl
end Go.Proofs
end
section
namespace Go.Proofs
open Go.Tm
set_option linter.unusedSimpArgs false
def BOk (b : Int) : Prop := ¬ (wr .i64 (b.tdiv 8) < 1 ∨ wr .i64 (b.tdiv 8) > 1048576) ∧ b.tmod 8 ≥ 0 ∧ b.tmod 8 < 6
instance (b : Int) : Decidable (BOk b) := by unfold BOk; infer_instance
theorem bcheck_eq (b : Int) : m_ballot_Check b = some (if BOk b then 0 else 50) := by
 rw [m_ballot_Check, m_ballot_Of, m_ballot_node]
 unfold BOk
 by_cases h : wr .i64 (b.tdiv 8) < 1 ∨ wr .i64 (b.tdiv 8) > 1048576
 ·simp [h]
 ·by_cases h1 : b.tmod 8 ≥ 0 <;> by_cases h2 : b.tmod 8 < 6 <;> simp [h, h1, h2]
theorem BOk.ne {b : Int} (h : BOk b) : b ≠ 0 := by
 rintro rfl
 have e : wr .i64 (Int.tdiv 0 8) = 0 := by
  rw [Int.zero_tdiv]
  exact wr_eq _ _ (by show (-9223372036854775808 : Int) ≤ _; omega) (by show _ ≤ (9223372036854775807 : Int); omega)
 have := h.1
 rw [e] at this
 omega
def VOk (v : TVote) : Prop := (v.Promised = 0 ∨ BOk v.Promised) ∧ (if v.Ballot = 0 then v.Value = [] else BOk v.Ballot ∧ v.Ballot ≤ v.Promised ∧ v.Value.length ≤ 1024)
instance (v : TVote) : Decidable (VOk v) := by unfold VOk; infer_instance
def AskedS (v : TVote) (b : Int) (t : List UInt8) : Prop := VOk v ∧ BOk b ∧ t.length ≤ 1024 ∧ v.Promised ≤ b
instance (v : TVote) (b : Int) (t : List UInt8) : Decidable (AskedS v b t) := by unfold AskedS; infer_instance
theorem vcheck_eq (v : TVote) : m_vote_Check v = some (if VOk v then 0 else 8) := by
 unfold VOk
 simp only [m_vote_Check, bcheck_eq]
 by_cases h1 : v.Promised = 0 <;> by_cases h2 : v.Ballot = 0 <;> by_cases h3 : BOk v.Promised <;> by_cases h4 : BOk v.Ballot <;> by_cases h5 : v.Value = [] <;> by_cases h6 : v.Ballot ≤ v.Promised <;> by_cases h7 : v.Value.length ≤ 1024 <;> have h8 : ((v.Value.length : Int) ≤ 1024) = (v.Value.length ≤ 1024) := propext (by omega) <;> simp_all
theorem asked_eq (v : TVote) (b : Int) (t : List UInt8) : m_vote_asked v b t = some (if VOk v then if BOk b then if t.length ≤ 1024 then if v.Promised ≤ b then 0 else 70 else 3 else 50 else 8) := by
 simp only [m_vote_asked, bcheck_eq, vcheck_eq, Option.bind_some]
 by_cases h1 : VOk v
 ·by_cases h2 : BOk b
  ·by_cases h3 : t.length ≤ 1024
   ·by_cases h4 : v.Promised ≤ b
    ·simp [h1, h2, h3, h4]; rw [if_neg (by omega), if_neg (by omega)]
    ·simp [h1, h2, h3, h4]; rw [if_neg (by omega), if_pos (by omega)]
   ·simp [h1, h2, h3]; omega
  ·simp [h1, h2]
 ·simp [h1]
def askE (v : TVote) (b : Int) (t : List UInt8) : Int := if VOk v then if BOk b then if t.length ≤ 1024 then if v.Promised ≤ b then 0 else 70 else 3 else 50 else 8
theorem askE_0 {v : TVote} {b : Int} {t : List UInt8} : askE v b t = 0 ↔ AskedS v b t := by
 unfold askE AskedS
 by_cases h1 : VOk v <;> by_cases h2 : BOk b <;> by_cases h3 : t.length ≤ 1024 <;> by_cases h4 : v.Promised ≤ b <;> simp [h1, h2, h3, h4]
def zV : TVote := ⟨0, 0, []⟩
theorem prepare_eq (v : TVote) (b : Int) : m_vote_Prepare v b = some (if askE v b [] = 0 then ⟨b, v.Ballot, v.Value⟩ else zV, askE v b []) := by
 rw [m_vote_Prepare, asked_eq]
 show Option.bind (some (askE v b [])) _ = _
 simp only [Option.bind_some]
 by_cases h : askE v b [] = 0 <;> simp [h, zV]
theorem accept_eq (v : TVote) (b : Int) (t : List UInt8) : m_vote_Accept v b t = some (if askE v b t = 0 then ⟨b, b, t⟩ else zV, askE v b t) := by
 rw [m_vote_Accept, asked_eq]
 show Option.bind (some (askE v b t)) _ = _
 simp only [Option.bind_some]
 by_cases h : askE v b t = 0 <;> simp [h, zV]
theorem VOk.prep {v : TVote} {b : Int} (h : AskedS v b []) : VOk ⟨b, v.Ballot, v.Value⟩ := by
 obtain ⟨h1, h2, _, h4⟩ := h
 refine ⟨.inr h2, ?_⟩
 have := h1.2
 by_cases h0 : v.Ballot = 0
 ·rw [if_pos h0] at this ⊢; exact this
 ·rw [if_neg h0] at this ⊢; exact ⟨this.1, by have := this.2.1; dsimp only; omega, this.2.2⟩
theorem VOk.acc {v : TVote} {b : Int} {t : List UInt8} (h : AskedS v b t) : VOk ⟨b, b, t⟩ := by
 obtain ⟨_, h2, h3, _⟩ := h
 exact ⟨.inr h2, by rw [if_neg h2.ne]; exact ⟨h2, Int.le_refl _, h3⟩⟩
def ltP (a b : TSeen) : Prop := a.Group < b.Group ∨ (a.Group = b.Group ∧ a.Slot < b.Slot)
instance (a b : TSeen) : Decidable (ltP a b) := by unfold ltP; infer_instance
def sameP (a b : TSeen) : Prop := a.Group = b.Group ∧ a.Slot = b.Slot
instance (a b : TSeen) : Decidable (sameP a b) := by unfold sameP; infer_instance
theorem ltP_trans {a b c : TSeen} (h : ltP a b) (k : ltP b c) : ltP a c := by unfold ltP at *; omega
theorem ltP_tri (a b : TSeen) : ltP a b ∨ sameP a b ∨ ltP b a := by unfold ltP sameP; omega
theorem ltP_asym {a b : TSeen} (h : ltP a b) : ¬ ltP b a := by unfold ltP at *; omega
theorem ltP_ns {a b : TSeen} (h : ltP a b) : ¬ sameP a b := by unfold ltP sameP at *; omega
theorem ltP_ns' {a b : TSeen} (h : ltP a b) : ¬ sameP b a := by unfold ltP sameP at *; omega
theorem or2 (x y : Int) : m_cmp_Or_int [x, y] = some (if x = 0 then y else x) := by
 rw [m_cmp_Or_int, m_cmp_Or_int_loop1]
 by_cases hx : x = 0
 ·rw [if_neg (by simpa using hx), m_cmp_Or_int_loop1, if_pos hx]
  by_cases hy : y = 0
  ·rw [if_neg (by simpa using hy), m_cmp_Or_int_loop1]; simp [hy]
  ·rw [if_pos hy]; rfl
 ·rw [if_pos hx, if_neg hx]; rfl
theorem cmp_eq (x y : Int) : m_cmp_Compare_int x y = some (if x < y then -1 else if x > y then 1 else 0) := by
 have e : ∀ z : Int, m_cmp_isNaN_int z = some false := fun z => by rw [m_cmp_isNaN_int]; simp
 rw [m_cmp_Compare_int, e, e]
 simp only [Option.bind_some, Bool.false_eq_true, if_false]
 split
 ·rfl
 ·split <;> rfl
theorem place_eq (a b : TSeen) : m_stable_place a b = some (if ltP a b then -1 else if ltP b a then 1 else 0) := by
 rw [m_stable_place, cmp_eq, cmp_eq]
 simp only [Option.bind_some, or2, Option.some.injEq, ltP]
 by_cases h1 : a.Group < b.Group
 ·simp [h1]
 ·by_cases h2 : a.Group > b.Group
  ·have : ¬ a.Group = b.Group := by omega
   simp [h1, h2, this]
  ·have : a.Group = b.Group := by omega
   by_cases h3 : a.Slot < b.Slot
   ·simp [this, h3]
   ·by_cases h4 : a.Slot > b.Slot <;> simp [this, h3, h4]
def bef (x : TSeen) (l : List TSeen) : List TSeen := l.filter fun y => decide (ltP y x)
def aft (x : TSeen) (l : List TSeen) : List TSeen := l.filter fun y => decide (ltP x y)
abbrev Up (l : List TSeen) : Prop := l.Pairwise ltP
theorem split_at (x : TSeen) : ∀ l : List TSeen, Up l → l = bef x l ++ aft x l ∨ ∃ y, sameP y x ∧ l = bef x l ++ y :: aft x l
 | [], _ => .inl rfl
 | w :: l, h => by
  have h' := List.pairwise_cons.1 h
  rcases ltP_tri w x with k | k | k
  ·have e1 : bef x (w :: l) = w :: bef x l := by simp [bef, k]
   have e2 : aft x (w :: l) = aft x l := by simp [aft, ltP_asym k]
   rw [e1, e2]
   rcases split_at x l h'.2 with e | ⟨y, hy, e⟩
   ·exact .inl (by rw [List.cons_append, ← e])
   ·exact .inr ⟨y, hy, by rw [List.cons_append, ← e]⟩
  ·have hx : ∀ y ∈ l, ltP x y := fun y hy => by have := h'.1 y hy; unfold ltP sameP at *; omega
   have e1 : bef x (w :: l) = [] := by
    unfold bef
    rw [List.filter_eq_nil_iff]
    intro y hy
    rcases List.mem_cons.1 hy with rfl | hy
    ·simp only [decide_eq_true_eq]; unfold ltP sameP at *; omega
    ·simp only [decide_eq_true_eq]; exact ltP_asym (hx y hy)
   have e2 : aft x (w :: l) = l := by
    have : ¬ ltP x w := by unfold ltP sameP at *; omega
    simp only [aft, List.filter_cons, this, decide_false, Bool.false_eq_true, if_false]
    rw [List.filter_eq_self]
    exact fun y hy => by simpa using hx y hy
   exact .inr ⟨w, k, by rw [e1, e2]; rfl⟩
  ·have hx : ∀ y ∈ w :: l, ltP x y := fun y hy => by
    rcases List.mem_cons.1 hy with rfl | hy
    ·exact k
    ·exact ltP_trans k (h'.1 y hy)
   have e1 : bef x (w :: l) = [] := by
    unfold bef
    rw [List.filter_eq_nil_iff]
    intro y hy
    simp only [decide_eq_true_eq]
    exact ltP_asym (hx y hy)
   have e2 : aft x (w :: l) = w :: l := by
    unfold aft
    rw [List.filter_eq_self]
    exact fun y hy => by simpa using hx y hy
   exact .inl (by rw [e1, e2]; rfl)
theorem bef_lt {x y : TSeen} {l : List TSeen} (h : y ∈ bef x l) : y ∈ l ∧ ltP y x := by simpa [bef] using h
theorem aft_lt {x y : TSeen} {l : List TSeen} (h : y ∈ aft x l) : y ∈ l ∧ ltP x y := by simpa [aft] using h
theorem bef_len (x : TSeen) (l : List TSeen) : (bef x l).length ≤ l.length := List.length_filter_le ..
theorem plc_lt (x : TSeen) (l : List TSeen) (hu : Up l) (k : Nat) (h : k < l.length) : (ltP l[k] x ↔ k < (bef x l).length) := by
 have key : ∀ (l : List TSeen) (A R : List TSeen), l = A ++ R → (∀ y ∈ A, ltP y x) → (∀ y ∈ R, ¬ ltP y x) → ∀ (k : Nat) (h : k < l.length), (ltP l[k] x ↔ k < A.length) := by
  rintro l A R rfl hA hR k h
  by_cases hk : k < A.length
  ·rw [List.getElem_append_left hk]
   exact ⟨fun _ => hk, fun _ => hA _ (List.getElem_mem hk)⟩
  ·rw [List.getElem_append_right (by omega)]
   exact ⟨fun h => absurd h (hR _ (List.getElem_mem _)), fun h => absurd h hk⟩
 rcases split_at x l hu with e | ⟨y, hy, e⟩
 ·exact key l _ _ e (fun y hy => (bef_lt hy).2) (fun y hy => ltP_asym (aft_lt hy).2) k h
 ·refine key l _ _ e (fun y hy => (bef_lt hy).2) (fun z hz => ?_) k h
  rcases List.mem_cons.1 hz with rfl | hz
  ·unfold ltP sameP at *; omega
  ·exact ltP_asym (aft_lt hz).2
theorem half_eq (i j : Nat) (h : i + j < 4000000) : wr .i64 (shw false .u64 (wr .u64 (wr .i64 ((i : Int) + (j : Int)))) 1) = (((i + j) / 2 : Nat) : Int) := by
 have e1 : wr .i64 ((i : Int) + (j : Int)) = (i : Int) + (j : Int) := wr_eq _ _ (by show (-9223372036854775808 : Int) ≤ _; omega) (by show _ ≤ (9223372036854775807 : Int); omega)
 have e2 : wr .u64 ((i : Int) + (j : Int)) = (i : Int) + (j : Int) := wr_eq _ _ (by show (0 : Int) ≤ _; omega) (by show _ ≤ (18446744073709551615 : Int); omega)
 have e3 : shw false .u64 ((i : Int) + (j : Int)) 1 = (((i + j) / 2 : Nat) : Int) := by
  unfold shw
  show Int.fdiv ((i : Int) + (j : Int)) 2 = _
  rw [Int.fdiv_eq_ediv_of_nonneg _ (by omega)]
  omega
 rw [e1, e2, e3]
 exact wr_eq _ _ (by show (-9223372036854775808 : Int) ≤ _; omega) (by show _ ≤ (9223372036854775807 : Int); omega)
theorem bs_loop (l : List TSeen) (x : TSeen) (hl : l.length < 1000000) (hu : Up l) : ∀ (fu i j : Nat), j - i < fu → i ≤ (bef x l).length → (bef x l).length ≤ j → j ≤ l.length →
  m_slices_BinarySearchFunc_Seen_Seen_Seen_loop1 l x m_stable_place fu (i : Int) (j : Int) = some (((bef x l).length : Nat) : Int) := by
 intro fu
 induction fu with
 | zero => intro i j h; omega
 | succ fu ih =>
  intro i j h h1 h3 h4
  rw [m_slices_BinarySearchFunc_Seen_Seen_Seen_loop1]
  by_cases hij : i < j
  ·have hm : (i + j) / 2 < l.length := by omega
   have hg : l.getD (((i + j) / 2 : Nat) : Int).toNat default = l[(i + j) / 2] := by rw [Int.toNat_natCast]; simp [List.getD, List.getElem?_eq_getElem hm]
   have e : wr .i64 ((((i + j) / 2 : Nat) : Int) + 1) = (((i + j) / 2 + 1 : Nat) : Int) := wr_eq _ _ (by show (-9223372036854775808 : Int) ≤ _; omega) (by show _ ≤ (9223372036854775807 : Int); omega)
   rw [if_pos (by omega), half_eq i j (by omega), if_pos ⟨by omega, by omega⟩, hg, place_eq, e]
   simp only [Option.bind_some]
   have hp := plc_lt x l hu _ hm
   by_cases hc : ltP l[(i + j) / 2] x
   ·rw [if_pos (by rw [if_pos hc]; decide)]
    exact ih _ _ (by omega) (by have := hp.1 hc; omega) h3 h4
   ·rw [if_neg (by rw [if_neg hc]; split <;> decide)]
    exact ih _ _ (by omega) h1 (by have : ¬ _ := fun k => hc (hp.2 k); omega) (by omega)
  ·rw [if_neg (by omega)]
   have : i = (bef x l).length := by omega
   rw [this]
theorem find_eq (l : List TSeen) (x : TSeen) (hl : l.length < 1000000) (hu : Up l) :
  (l = bef x l ++ aft x l ∧ m_slices_BinarySearchFunc_Seen_Seen_Seen l x m_stable_place = some (((bef x l).length : Int), false)) ∨
  ∃ y, sameP y x ∧ l = bef x l ++ y :: aft x l ∧ m_slices_BinarySearchFunc_Seen_Seen_Seen l x m_stable_place = some (((bef x l).length : Int), true) := by
 have hb := bs_loop l x hl hu (l.length + 1) 0 l.length (by omega) (by omega) (bef_len x l) (by omega)
 have e0 : ((0 : Nat) : Int) = 0 := rfl
 rw [e0] at hb
 rw [m_slices_BinarySearchFunc_Seen_Seen_Seen, hb]
 simp only [Option.bind_some]
 rw [if_pos (by intro h; omega)]
 rcases split_at x l hu with e | ⟨y, hy, e⟩
 ·refine .inl ⟨e, ?_⟩
  by_cases hc : ((bef x l).length : Int) < (l.length : Int)
  ·have hc' : (bef x l).length < l.length := by omega
   have hg : l.getD (((bef x l).length : Nat) : Int).toNat default = l[(bef x l).length] := by rw [Int.toNat_natCast]; simp [List.getD, List.getElem?_eq_getElem hc']
   have hz : ∀ (m A B : List TSeen) (h : A.length < m.length), m = A ++ B → m[A.length] ∈ B := by
    rintro _ A B h rfl
    rw [List.getElem_append_right (Nat.le_refl _)]
    exact List.getElem_mem _
   have h1 := (aft_lt (hz l _ _ hc' e)).2
   rw [if_pos hc, hg, place_eq, if_neg (ltP_asym h1), if_pos h1]
   simp
  ·rw [if_neg hc]
   simp [hc]
 ·refine .inr ⟨y, hy, e, ?_⟩
  have hz : ∀ (m A B : List TSeen) (h : A.length < m.length), m = A ++ y :: B → m[A.length] = y := by
   rintro _ A B h rfl
   rw [List.getElem_append_right (Nat.le_refl _)]
   simp
  have hc' : (bef x l).length < l.length := by
   have := congrArg List.length e
   simp at this
   omega
  have hg : l.getD (((bef x l).length : Nat) : Int).toNat default = y := by rw [Int.toNat_natCast]; simp [List.getD, List.getElem?_eq_getElem hc', hz l _ _ hc' e]
  rw [if_pos (by omega), hg, place_eq, if_neg (by unfold ltP sameP at *; omega), if_neg (by unfold ltP sameP at *; omega)]
  simp [hc']
end Go.Proofs
end
section
namespace Go.Proofs
open Go.Tm
set_option linter.unusedSimpArgs false
abbrev Txts := List (List UInt8)
def LogOk (l : Txts) : Prop := l.length ≤ 200 ∧ ∀ v ∈ l, v.length ≤ 1024
instance (l : Txts) : Decidable (LogOk l) := by unfold LogOk; infer_instance
def SeenOk (L : List Txts) (v : TSeen) : Prop := (0 ≤ v.Group ∧ v.Group < (L.length : Int)) ∧ ((L.getD v.Group.toNat default).length : Int) < v.Slot ∧ v.Slot ≤ 200 ∧ v.Vote.Promised ≠ 0 ∧ VOk v.Vote
instance (L : List Txts) (v : TSeen) : Decidable (SeenOk L v) := by unfold SeenOk; infer_instance
structure SOk (s : TStable) : Prop where
 n : 1 ≤ s.Logs.length ∧ s.Logs.length ≤ 4
 l : ∀ l ∈ s.Logs, LogOk l
 v : ∀ v ∈ s.Votes, SeenOk s.Logs v
 p : Up s.Votes
noncomputable instance (s : TStable) : Decidable (SOk s) := Classical.propDecidable _
theorem ix_loop (f : List UInt8 → Option Bool) (g : List UInt8 → Bool) (hf : ∀ x, f x = some (g x)) (l : Txts) : ∀ n : Nat, (l.any g = true → ∃ k : Nat, m_slices_IndexFunc_string_string_loop1 f l n = some (.inl (k : Int))) ∧ (l.any g = false → m_slices_IndexFunc_string_string_loop1 f l n = some (.inr ())) := by
 induction l with
 | nil => intro n; exact ⟨(fun h => by cases h), fun _ => rfl⟩
 | cons y l ih =>
  intro n
  rw [m_slices_IndexFunc_string_string_loop1, hf, List.any_cons]
  cases hg : g y with
  | true => exact ⟨fun _ => ⟨n, by simp⟩, fun h => by cases h⟩
  | false => simpa using ih (n + 1)
theorem long_eq (l : Txts) : m_slices_ContainsFunc_string_string l m_stable_Check_1 = some (decide (¬ ∀ v ∈ l, v.length ≤ 1024)) := by
 rw [m_slices_ContainsFunc_string_string, m_slices_IndexFunc_string_string]
 have hf : ∀ x : List UInt8, m_stable_Check_1 x = some (decide ((x.length : Int) > 1024)) := fun x => rfl
 cases h : l.any fun x => decide ((x.length : Int) > 1024) with
 | true =>
  obtain ⟨k, hk⟩ := (ix_loop _ _ hf l 0).1 h
  rw [hk]
  simp only [List.any_eq_true, decide_eq_true_eq] at h
  obtain ⟨x, h1, h2⟩ := h
  have : ¬ ∀ v ∈ l, v.length ≤ 1024 := fun k => by have := k x h1; omega
  simp [this]
 | false =>
  rw [(ix_loop _ _ hf l 0).2 h]
  simp only [List.any_eq_false, decide_eq_true_eq] at h
  have : ∀ v ∈ l, v.length ≤ 1024 := fun v hv => by have := h v hv; omega
  simp only [Option.bind_some]
  have e : decide (¬ ∀ v ∈ l, v.length ≤ 1024) = false := decide_eq_false (fun k => k this)
  rw [e]
  simp
theorem ck1 : ∀ l : List Txts, m_stable_Check_loop1 l = some (if ∀ x ∈ l, LogOk x then .inr () else .inl 8)
 | [] => by rw [m_stable_Check_loop1, if_pos (by simp)]
 | y :: l => by
  rw [m_stable_Check_loop1, long_eq, ck1 l]
  by_cases h1 : y.length ≤ 200
  ·by_cases h2 : ∀ v ∈ y, v.length ≤ 1024
   ·have hy : LogOk y := ⟨h1, h2⟩
    rw [if_pos (by omega)]
    simp only [Option.bind_some]
    rw [if_neg (by simp; exact ⟨by omega, h2⟩)]
    congr 1
    simp only [List.forall_mem_cons, hy, true_and]
   ·have hy : ¬ LogOk y := fun h => h2 h.2
    rw [if_pos (by omega)]
    simp only [Option.bind_some]
    rw [if_pos (.inr (by simp only [decide_eq_true_eq]; exact h2)), if_neg (by simp only [List.forall_mem_cons, hy, false_and]; exact id)]
  ·have hy : ¬ LogOk y := fun h => h1 h.1
   rw [if_neg (by omega)]
   simp only [Option.bind_some]
   rw [if_pos (.inl (by omega)), if_neg (by simp only [List.forall_mem_cons, hy, false_and]; exact id)]
def Good2 (L : List Txts) : Option TSeen → List TSeen → Prop
 | _, [] => True
 | none, y :: r => SeenOk L y ∧ Good2 L (some y) r
 | some p, y :: r => SeenOk L y ∧ ltP p y ∧ Good2 L (some y) r
theorem good2_iff (L : List Txts) : ∀ (l : List TSeen) (p : Option TSeen), Good2 L p l ↔ (∀ v ∈ l, SeenOk L v) ∧ Up l ∧ ∀ q, p = some q → ∀ v ∈ l, ltP q v := by
 intro l
 induction l with
 | nil => intro p; cases p <;> simp [Good2]
 | cons y l ih =>
  intro p
  have key : Good2 L (some y) l ↔ (∀ v ∈ l, SeenOk L v) ∧ Up l ∧ ∀ v ∈ l, ltP y v := by
   rw [ih]
   constructor
   ·rintro ⟨a, b, c⟩; exact ⟨a, b, c y rfl⟩
   ·rintro ⟨a, b, c⟩; exact ⟨a, b, fun q hq => by cases hq; exact c⟩
  cases p with
  | none =>
   rw [Good2, key, List.forall_mem_cons, show Up (y :: l) ↔ (∀ v ∈ l, ltP y v) ∧ Up l from List.pairwise_cons]
   constructor
   ·rintro ⟨a, b, c, d⟩; exact ⟨⟨a, b⟩, ⟨d, c⟩, fun q hq => by cases hq⟩
   ·rintro ⟨⟨a, b⟩, ⟨d, c⟩, _⟩; exact ⟨a, b, c, d⟩
  | some q =>
   rw [Good2, key, List.forall_mem_cons, show Up (y :: l) ↔ (∀ v ∈ l, ltP y v) ∧ Up l from List.pairwise_cons]
   constructor
   ·rintro ⟨a, e, b, c, d⟩
    exact ⟨⟨a, b⟩, ⟨d, c⟩, fun q' hq v hv => by
     cases hq
     rcases List.mem_cons.1 hv with rfl | hv
     ·exact e
     ·exact ltP_trans e (d v hv)⟩
   ·rintro ⟨⟨a, b⟩, ⟨d, c⟩, e⟩; exact ⟨a, e q rfl y (List.mem_cons_self ..), b, c, d⟩
noncomputable instance (L : List Txts) (p : Option TSeen) (l : List TSeen) : Decidable (Good2 L p l) := Classical.propDecidable _
theorem ck2 (a0 : TStable) : ∀ (l : List TSeen) (n : Nat), a0.Votes.drop n = l → m_stable_Check_loop2 a0 l n = some (if Good2 a0.Logs (if n = 0 then none else a0.Votes[n - 1]?) l then .inr () else .inl 8) := by
 intro l
 induction l with
 | nil =>
  intro n _
  have : ∀ p, Good2 a0.Logs p [] := fun p => by cases p <;> trivial
  rw [m_stable_Check_loop2, if_pos (this _)]
 | cons y l ih =>
  intro n hd
  have hn : n < a0.Votes.length := by
   rcases Nat.lt_or_ge n a0.Votes.length with h | h
   ·exact h
   ·rw [List.drop_of_length_le h] at hd; cases hd
  have hd' := hd
  rw [List.drop_eq_getElem_cons hn] at hd'
  obtain ⟨hy, hr⟩ := List.cons.inj hd'
  have ih := ih (n + 1) hr
  rw [if_neg (c := n + 1 = 0) (Nat.succ_ne_zero n), show n + 1 - 1 = n from rfl, List.getElem?_eq_getElem hn, hy] at ih
  have hprev : n ≠ 0 → a0.Votes[n - 1]? = some (a0.Votes.getD (n - 1) default) := fun h => by
   rw [List.getD_eq_getElem?_getD, List.getElem?_eq_getElem (by omega)]; rfl
  have hG : Good2 a0.Logs (if n = 0 then none else a0.Votes[n - 1]?) (y :: l) ↔ SeenOk a0.Logs y ∧ (n ≠ 0 → ltP (a0.Votes.getD (n - 1) default) y) ∧ Good2 a0.Logs (some y) l := by
   by_cases h0 : n = 0
   ·rw [if_pos h0, Good2]; exact ⟨fun h => ⟨h.1, fun k => absurd h0 k, h.2⟩, fun h => ⟨h.1, h.2.2⟩⟩
   ·rw [if_neg h0, hprev h0, Good2]; exact ⟨fun h => ⟨h.1, fun _ => h.2.1, h.2.2⟩, fun h => ⟨h.1, h.2.1 h0, h.2.2⟩⟩
  rw [m_stable_Check_loop2, ih, vcheck_eq, place_eq, if_pos (by omega)]
  by_cases h1 : 0 ≤ y.Group ∧ y.Group < (a0.Logs.length : Int)
  ·by_cases h2 : ((a0.Logs.getD y.Group.toNat default).length : Int) < y.Slot
   ·by_cases h3 : y.Slot ≤ 200
    ·by_cases h4 : y.Vote.Promised = 0
     ·rw [if_neg (by simp [h4])]
      simp only [Option.bind_some]
      rw [if_neg (by simp [h4])]
      simp only [Option.bind_some]
      rw [if_pos (by simp [h4]), if_neg (by rw [hG]; rintro ⟨k, _⟩; exact k.2.2.2.1 h4)]
     ·have hA : ¬ (((((y.Group < 0) ∨ (y.Group ≥ (a0.Logs.length : Int))) ∨ (y.Slot ≤ ((a0.Logs.getD (y.Group).toNat default).length : Int))) ∨ (y.Slot > 200)) ∨ (y.Vote.Promised = 0)) := by omega
      rw [if_pos hA]
      simp only [Option.bind_some]
      by_cases h5 : VOk y.Vote
      ·rw [if_pos h5]
       have hS : SeenOk a0.Logs y := ⟨h1, h2, h3, h4, h5⟩
       by_cases h0 : n = 0
       ·rw [if_neg (by omega)]
        simp only [Option.bind_some]
        refine (if_neg (by simp only [h0, not_true_eq_false, or_false]; omega)).trans ?_
        congr 1
        have : Good2 a0.Logs (if n = 0 then none else a0.Votes[n - 1]?) (y :: l) ↔ Good2 a0.Logs (some y) l := by rw [hG]; exact ⟨fun h => h.2.2, fun h => ⟨hS, fun k => absurd h0 k, h⟩⟩
        simp only [this]
       ·rw [if_pos (by omega)]
        simp only [Option.bind_some]
        by_cases h6 : ltP (a0.Votes.getD (n - 1) default) y
        ·rw [if_pos h6]
         refine (if_neg (by simp only [not_true_eq_false, or_false]; omega)).trans ?_
         congr 1
         have : Good2 a0.Logs (if n = 0 then none else a0.Votes[n - 1]?) (y :: l) ↔ Good2 a0.Logs (some y) l := by rw [hG]; exact ⟨fun h => h.2.2, fun h => ⟨hS, fun k => h6, h⟩⟩
         simp only [this]
        ·rw [if_neg h6, if_pos (.inr ⟨by omega, by split <;> decide⟩), if_neg (by rw [hG]; rintro ⟨_, k, _⟩; exact h6 (k h0))]
      ·rw [if_neg h5, if_neg (by omega)]
       simp only [Option.bind_some]
       rw [if_pos (by omega), if_neg (by rw [hG]; rintro ⟨k, _⟩; exact h5 k.2.2.2.2)]
    ·have hN : ¬ Good2 a0.Logs (if n = 0 then none else a0.Votes[n - 1]?) (y :: l) := by rw [hG]; rintro ⟨k, _⟩; exact h3 k.2.2.1
     rw [if_neg (by omega), Option.bind_some, if_neg (by omega), Option.bind_some, if_pos (by omega), if_neg hN]
   ·have hN : ¬ Good2 a0.Logs (if n = 0 then none else a0.Votes[n - 1]?) (y :: l) := by rw [hG]; rintro ⟨k, _⟩; exact h2 k.2.1
    rw [if_neg (by omega), Option.bind_some, if_neg (by omega), Option.bind_some, if_pos (by omega), if_neg hN]
  ·have hN : ¬ Good2 a0.Logs (if n = 0 then none else a0.Votes[n - 1]?) (y :: l) := by rw [hG]; rintro ⟨k, _⟩; exact h1 k.1
   rw [if_neg (by omega), Option.bind_some, if_neg (by omega), Option.bind_some, if_pos (by omega), if_neg hN]
theorem check_eq (s : TStable) : m_stable_Check s = some (if SOk s then 0 else 8) := by
 rw [m_stable_Check]
 by_cases h1 : 1 ≤ s.Logs.length ∧ s.Logs.length ≤ 4
 ·rw [if_neg (by omega), ck1]
  by_cases h2 : ∀ x ∈ s.Logs, LogOk x
  ·rw [if_pos h2]
   simp only [Option.bind_some]
   rw [ck2 s s.Votes 0 rfl, if_pos rfl]
   have e : Good2 s.Logs none s.Votes ↔ SOk s := by
    rw [good2_iff]
    exact ⟨fun h => ⟨h1, h2, h.1, h.2.1⟩, fun h => ⟨h.v, h.p, fun q hq => by cases hq⟩⟩
   by_cases h3 : SOk s
   ·rw [if_pos (e.2 h3), if_pos h3]; rfl
   ·rw [if_neg (fun k => h3 (e.1 k)), if_neg h3]; rfl
  ·rw [if_neg h2, if_neg fun h => h2 h.l]; rfl
 ·rw [if_pos (by omega), if_neg fun h => h1 h.n]
def RecOk (r : TRecord) : Prop := (0 ≤ r.Group ∧ r.Group < 4) ∧ (1 ≤ r.Slot ∧ r.Slot ≤ 200) ∧ r.Value.length ≤ 1024 ∧ ((r.Kind = 1 ∧ BOk r.Ballot ∧ r.Value = []) ∨ (r.Kind = 2 ∧ BOk r.Ballot) ∨ (r.Kind = 3 ∧ r.Ballot = 0))
instance (r : TRecord) : Decidable (RecOk r) := by unfold RecOk; infer_instance
theorem rcheck_eq (r : TRecord) : m_record_Check r = some (if RecOk r then 0 else 8) := by
 rw [m_record_Check, m_record_has, bcheck_eq]
 simp only [Option.bind_some]
 unfold RecOk
 have h8 : ((r.Value.length : Int) ≤ 1024) = (r.Value.length ≤ 1024) := propext (by omega)
 simp only [h8, ge_iff_le]
 by_cases a : 0 ≤ r.Group <;> by_cases b : r.Group < 4 <;> by_cases c : 1 ≤ r.Slot <;> by_cases d : r.Slot ≤ 200 <;> by_cases e : r.Value.length ≤ 1024 <;> simp only [a, b, c, d, e, and_true, true_and, and_false, false_and, if_false, Option.bind_some, not_false_eq_true, if_true, or_false, false_or]
 by_cases k1 : r.Kind = 1
 ·by_cases h1 : r.Value = [] <;> by_cases h2 : BOk r.Ballot <;> simp [k1, h1, h2]
 ·by_cases k2 : r.Kind = 2
  ·by_cases h2 : BOk r.Ballot <;> simp [k2, h2]
  ·by_cases k3 : r.Kind = 3
   ·by_cases h2 : r.Ballot = 0 <;> simp [k3, h2]
   ·simp [k1, k2, k3]
theorem clone_str (l : Txts) (h : l.length * 16 ≤ 140737488355328) : m_slices_Clone_string_string l = some l := by rw [m_slices_Clone_string_string, if_pos h]
theorem twin_loop : ∀ (l acc : List Txts), (∀ x ∈ l, x.length ≤ 100000) → acc.length + l.length < 1000000 → m_stable_Twin_loop1 l acc = some (acc ++ l)
 | [], acc, _, _ => by rw [m_stable_Twin_loop1, List.append_nil]
 | y :: l, acc, h, h2 => by
  have hy := h y (List.mem_cons_self ..)
  simp only [List.length_cons] at h2
  rw [m_stable_Twin_loop1, clone_str y (by omega)]
  simp only [Option.bind_some]
  rw [if_pos (by simp; omega), twin_loop l _ (fun x hx => h x (List.mem_cons_of_mem _ hx)) (by simp; omega), List.append_assoc]
  rfl
theorem twin_eq (s : TStable) (h : SOk s) (hv : s.Votes.length < 900000) : m_stable_Twin s = some s := by
 have := h.n
 rw [m_stable_Twin, m_slices_Clone_Seen_Seen, if_pos (by omega)]
 simp only [Option.bind_some]
 rw [twin_loop s.Logs [] (fun x hx => by have := (h.l x hx).1; omega) (by simp; omega)]
 rfl
theorem twin_logs : ∀ (l acc r : List Txts), m_stable_Twin_loop1 l acc = some r → r = acc ++ l
 | [], acc, r, h => by rw [m_stable_Twin_loop1] at h; cases h; simp
 | y :: l, acc, r, h => by
  rw [m_stable_Twin_loop1, m_slices_Clone_string_string] at h
  split at h
  ·simp only [Option.bind_some] at h
   split at h
   ·rw [twin_logs l _ _ h]; simp
   ·cases h
  ·cases h
theorem lens_stable_Check (a0 : TStable) (h : m_stable_Check a0 = some 0) : a0.Logs.length ≤ 4 ∧ ∀ k, (a0.Logs.getD k []).length ≤ 100000 := by
 rw [check_eq] at h
 by_cases hs : SOk a0
 ·refine ⟨hs.n.2, fun k => ?_⟩
  rw [List.getD_eq_getElem?_getD]
  rcases Nat.lt_or_ge k a0.Logs.length with h | h
  ·rw [List.getElem?_eq_getElem h]
   have := (hs.l _ (List.getElem_mem h)).1
   simp only [Option.getD_some]; omega
  ·rw [List.getElem?_eq_none h]; simp
 ·rw [if_neg hs] at h; cases h
theorem lens_stable_Twin (a0 r : TStable) (h : m_stable_Twin a0 = some r) : r.Logs = a0.Logs := by
 rw [m_stable_Twin, m_slices_Clone_Seen_Seen] at h
 split at h
 ·simp only [Option.bind_some] at h
  cases hl : m_stable_Twin_loop1 a0.Logs [] with
  | none => rw [hl] at h; cases h
  | some l =>
   rw [hl] at h
   simp only [Option.bind_some, Option.some.injEq] at h
   rw [← h, twin_logs _ _ _ hl]; rfl
 ·cases h
end Go.Proofs
end
section
namespace Go.Proofs
open Go.Tm
theorem lens_stable_put (a0 : TStable) (a1 : TRecord) (r : Int × TStable) (h : m_stable_put a0 a1 = some r) : r.2.Logs.length = a0.Logs.length := by
 rw [m_stable_put] at h
 split at h
 ·cases h; rfl
 ·split at h
  ·split at h
   ·cases h; rfl
   ·obtain ⟨v1, _, h⟩ := bind_some h
    obtain ⟨⟨n1, n2, n3, n4, s1⟩, _, h⟩ := bind_some h
    simp only at h
    obtain ⟨x2, hx2, h⟩ := bind_some h
    cases x2 with
    | inl q =>
     simp only [Option.some.injEq] at h
     subst h
     split at hx2
     ·obtain ⟨_, _, hx2⟩ := bind_some hx2; cases hx2
     ·split at hx2
      ·obtain ⟨_, _, hx2⟩ := bind_some hx2; cases hx2
      ·obtain ⟨_, _, hx2⟩ := bind_some hx2; cases hx2; simp
    | inr q =>
     simp only at h
     split at h
     ·cases h; rfl
     ·obtain ⟨_, _, h⟩ := bind_some h
      split at h
      ·cases h; rfl
      ·cases h
  ·cases h
theorem lens_stable_Apply (a0 : TStable) (a1 : TRecord) (r : TStable × Int) (h : m_stable_Apply a0 a1 = some r) : r.1.Logs.length ≤ 4 := by
 rw [m_stable_Apply] at h
 obtain ⟨v1, hv1, h⟩ := bind_some h
 split at h
 ·cases h; exact Nat.zero_le 4
 ·rename_i hc
  obtain ⟨v2, _, h⟩ := bind_some h
  split at h
  ·cases h; exact Nat.zero_le 4
  ·obtain ⟨v3, hv3, h⟩ := bind_some h
   obtain ⟨v4, hv4, h⟩ := bind_some h
   split at h
   ·cases h; exact Nat.zero_le 4
   ·cases h
    have h0 : v1 = 0 := by simpa using hc
    subst h0
    have := lens_stable_put _ _ _ hv4
    have e := lens_stable_Twin _ _ hv3
    have := (lens_stable_Check a0 hv1).1
    have e2 := congrArg List.length e
    simp only
    omega
end Go.Proofs
end
section
namespace Go.Proofs
open Go.Tm Go.RowKit Go.WideShapes
set_option maxRecDepth 100000
set_option maxHeartbeats 4000000
set_option linter.unusedSimpArgs false
set_option linter.unusedVariables false
attribute [local go_sem] argVars runE runK isCallV stepE aop opd opdsL opds opdO ev ofVal keep List.any natbeq Bool.false_or Bool.true_or aggEq cond_true cond_false Bool.cond_false_right Bool.cond_true_left beq_true beq_false imp_self implies_true getR getL put St.app effL del nwB blt_dec Nat.lt_irrefl Nat.lt_add_one ble_dec Nat.le_refl Nat.beq_refl roomNZ appendIn capS capK mkZ_zero mkZL_zero zeroEl D.ids D.idsL bin arith sarith binT dpick Tm.part splice fillD oneD loadD storeD srcD sliceD idxOk decide_true gval dstAt D.cells List.map_cons List.map_nil List.take List.drop List.length_map List.append Int.toNat_natCast and_true true_and decide_false List.length_cons List.length_nil List.append_nil List.nil_append Bool.and_true Bool.true_and Bool.not_false Bool.not_true ne_eq not_false_eq_true BEq.rfl List.getElem?_cons_zero List.getElem?_cons_succ List.getElem?_nil Nat.zero_add List.all_cons List.all_nil List.isEmpty_cons List.isEmpty_nil Option.getD_some Option.getD_none List.any_cons List.any_nil List.drop_succ_cons List.drop_zero unfL unf okM okML low3 List.cons_append true_or or_true Nat.zero_mul Nat.zero_le findD_int findD_str  getD_int getD_str getD_bool Option.isSome_map keyD List.length_replicate List.map_replicate setEl List.length_set bytesD_map map_ub mx_len mkZ_one mkZL_one mkM mkML mk1_int mk1_str mk1_bool drop_map take_map take_map_len List.take_length Int.toNat_zero toNat_pred fpOf metIds opIds mvV mvH mvF pickL D.ren D.renL Blk.ren List.map_append List.length_append Bool.not_not Bool.or_not_self Bool.not_or_self Bool.or_true
attribute [local go_sem] Try.tm_1 Try.tm_2 Try.tm_3 Try.tm_4 Try.tm_5 Try.tm_6 Try.tm_7 Try.tm_8 Try.tm_9 Try.tm_10 Try.tm_11 Try.tm_12 Try.tm_13 Try.tm_14 Try.tm_15 Try.tm_16 Try.tm_17 Try.tm_18 Try.tm_19 Try.tm_20 Try.tm_21 Try.tm_22 Try.tm_23 Try.tm_24 Try.tm_25 Try.tm_26 Try.tm_27 Try.tm_28 Try.tm_29 Try.tm_30 Try.tm_32 Try.tm_33 Try.tm_34 Try.tm_35 Try.tm_36 Try.tm_37 Try.tm_39 Try.tm_40 Try.tm_41 Try.tm_43 Try.tm_45 Try.tm_46 Try.tm_47 Try.tm_48 Try.tm_49 Try.tm_50 Try.tm_51 Try.tm_52 Try.tm_53 Try.tm_55 Try.tm_57 Try.tm_58 Try.tm_60 Try.tm_61 Try.tm_63 Try.tm_64 Try.tm_65 Try.tm_66 Try.tm_67 Try.tm_68 Try.tm_69 Try.tm_70 Try.tm_71 Try.tm_72 Try.tm_73 Try.tm_74 Try.tm_76 Try.tm_77 Try.tm_78 Try.tm_79 Try.tm_80 Try.tm_81 Try.tm_82 Try.tm_83 Try.tm_84 Try.tm_85 Try.tm_86 Try.tm_87 Try.tm_89 Try.tm_91 Try.tm_92 Try.tm_93 Try.tm_94 Try.tm_95 Try.tm_96 Try.tm_98 Try.tm_99 Try.tm_101 Try.tm_103 Try.tm_104 Try.tm_105 Try.tm_106 Try.tm_107 Try.tm_108 Try.tm_109 Try.tm_110 Try.tm_111 Try.tm_112 Try.tm_113 Try.tm_114 Try.tm_115 Try.tm_116 Try.tm_117 Try.tm_118 Try.tm_119 Try.tm_120 Try.tm_121 Try.tm_123 Try.tm_124 Try.tm_125 Try.tm_126 Try.tm_127 Try.tm_128 Try.tm_129 Try.tm_130 Try.tm_132 Try.tm_134 Try.tm_135 Try.tm_136 Try.tm_137 Try.tm_138 Try.tm_139 Try.tm_140 Try.tm_143 Try.tm_144 Try.tm_145 Try.tm_146 Try.tm_147 Try.tm_148 Try.tm_149 Try.tm_150 Try.tm_151 dL_str nL_str TVote.d TSeen.d TStable.d TStable.n TRecord.d mk1_dL_str mk1_TVote mk1_TSeen mk1_TStable mk1_TRecord Try.f34 Try.f10
attribute [local go_sem] qrefs outb inb
theorem plL_str : ∀ l : List (List UInt8), plL (l.map D.str) = true
 | [] => rfl
 | x :: l => by simp only [List.map_cons, plL, plL_str l]; rfl
end Go.Proofs
end
section
namespace Go.Proofs
open Go.Tm
structure Ttowncrierref01_Reader where
 B : List Int
 Bad : Bool
 deriving Inhabited, DecidableEq
def Ttowncrierref01_Reader.d (x : Ttowncrierref01_Reader) : D := .agg [.imm 1 (x.B.map (D.int .u8)) 4, .bool x.Bad]
def Ttowncrierref01_Reader.n (x : Ttowncrierref01_Reader) : D := .agg [.imm 1 (x.B.map (D.int .u8)) 12, .bool x.Bad]
theorem mk1_Ttowncrierref01_Reader (l : List Ttowncrierref01_Reader) : mkML 1 (l.map Ttowncrierref01_Reader.d) = l.map Ttowncrierref01_Reader.n := mkML_map 1 (fun _ => rfl) l
end Go.Proofs
end
section
namespace Go.Tm
open Go.RowKit Go.WideShapes
theorem rep_own0 {C : Cx} (hC : C.rf = true) (id s s0 k : Nat) (hk : k % 8 ≤ 1) {v : Value} (h : rep C (.imm s0 [] k) v) : rep C (.ref id s 0 0 (some unkC)) v := by
 simp only [rep] at h ⊢
 obtain ⟨ad, cap, rfl, k1, k2, k3, k4, k5, k6, _⟩ := h
 have hc : cap = 0 := k5 (.inl hk)
 subst hc
 exact ⟨hC, ad, 0, rfl, by simp, by simp, by simp, ⟨(fun c h hk => by cases h; cases hk), (fun h => by cases h)⟩, .inl rfl⟩
end Go.Tm
end
section
namespace Go.Tm
open Go.RowKit Go.WideShapes
theorem elems_last {C : Cx} {d d' : D} (hw : ∀ v, rep C d v → rep C d' v) : ∀ (l : List D) (b o s : Nat), elems C (l ++ [d]) b o s → elems C (l ++ [d']) b o s
 | [], _, _, _, h => by
  simp only [List.nil_append, elems] at h ⊢
  obtain ⟨⟨v, h1, h2⟩, h3⟩ := h
  exact ⟨⟨v, hw v h1, h2⟩, h3⟩
 | x :: l, b, o, s, h => by
  simp only [List.cons_append, elems] at h ⊢
  exact ⟨h.1, elems_last hw l b (o + s) s h.2⟩
theorem holds_last {C : Cx} {id e s : Nat} {p : Bool} {d d' : D} (l : List D) (hw : ∀ C' : Cx, C'.rf = true → ∀ v, rep C' d v → rep C' d' v) (hC : C.rf = true) (h : holds C id (.arr e s p (l ++ [d]))) : holds C id (.arr e s false (l ++ [d'])) := by
 rcases arr_weak hC (q := false) (fun h => by cases h) h with ⟨h1, _⟩ | ⟨b, cs, h1, h2, h3, h4⟩
 ·exact absurd h1 (by simp)
 ·exact .inr ⟨b, cs, h1, h2, by simpa using h3, elems_last (hw _ rfl) l b 0 s h4⟩
end Go.Tm
end
section
namespace Go.Proofs
open Go.Tm
set_option linter.unusedVariables false
end Go.Proofs
end
section
namespace Go.Proofs
open Go.Tm
set_option linter.unusedVariables false
def m_towncrierref11_Twin_loop1 : List (List (List UInt8)) → (List (List (List UInt8))) → Option ((List (List (List UInt8))))
 | [], l2 =>
  some l2
 | y1 :: rest1, l2 =>
  if (y1).length * 16 ≤ 140737488355328 then
  if l2.length + [y1].length < 1000000 then
  m_towncrierref11_Twin_loop1 rest1 (l2 ++ [y1])
  else none
  else none
theorem m_towncrierref11_Twin_loop1_n (l2 : List (List (List UInt8))) : m_towncrierref11_Twin_loop1 [] l2 =
  (some l2 : Option ((List (List (List UInt8))))) := rfl
theorem m_towncrierref11_Twin_loop1_c (y1 : (List (List UInt8))) (rest1 : List (List (List UInt8))) (l2 : List (List (List UInt8))) : m_towncrierref11_Twin_loop1 (y1 :: rest1) l2 =
  (if (y1).length * 16 ≤ 140737488355328 then
  if l2.length + [y1].length < 1000000 then
  m_towncrierref11_Twin_loop1 rest1 (l2 ++ [y1])
  else none
  else none : Option ((List (List (List UInt8))))) := rfl
def m_towncrierref11_Twin (a0 : TStable) : Option TStable :=
 if a0.Votes.length * 48 ≤ 140737488355328 then
 Option.bind (α := (List (List (List UInt8)))) (m_towncrierref11_Twin_loop1 a0.Logs []) fun l1 =>
 some (⟨l1, a0.Votes⟩ : TStable)
 else none
def m_towncrierref11_Apply (a0 : TStable) (a1 : TRecord) : Option (TStable × Int) :=
 Option.bind (m_towncrierref11_May a0) fun v1 =>
 Option.bind (if ¬ (¬ (v1 = true)) then m_towncrierref10_May a1 else some default) fun v2 =>
 if (¬ (v1 = true)) ∨ (¬ (v2 = true)) then
 some ((⟨[], []⟩ : TStable), 8)
 else
 if a1.Group ≥ (a0.Logs.length : Int) then
 some ((⟨[], []⟩ : TStable), 6)
 else
 if (0 ≤ a1.Group ∧ a1.Group < (a0.Logs.length : Int)) then
 if (a1.Slot ≤ ((a0.Logs.getD a1.Group.toNat default).length : Int)) ∨ ((a1.Kind = 3) ∧ (¬ (a1.Slot = (wr .i64 (((a0.Logs.getD a1.Group.toNat default).length : Int) + 1))))) then
 some ((⟨[], []⟩ : TStable), 8)
 else
 Option.bind (m_towncrierref11_Vote a0.Votes a1.Group a1.Slot) fun v3 =>
 Option.bind (α := Int × Int × (List UInt8) × Int) (if a1.Kind = 1 then
 Option.bind (m_towncrierref07_Prepare v3 a1.Ballot) fun v4 =>
 some (v4.1.Promised, v4.1.Ballot, v4.1.Value, v4.2)
 else
 if a1.Kind = 2 then
 Option.bind (m_towncrierref07_Accept v3 a1.Ballot a1.Value) fun v5 =>
 some (v5.1.Promised, v5.1.Ballot, v5.1.Value, v5.2)
 else
 if a1.Kind = 3 then
 some (0, 0, [], 0)
 else
 some (v3.Promised, v3.Ballot, v3.Value, 0)) fun (n1, n2, s1, n3) =>
 if ¬ (n3 = 0) then
 some ((⟨[], []⟩ : TStable), n3)
 else
 Option.bind (m_towncrierref11_Twin a0) fun v6 =>
 Option.bind (m_towncrierref11_With a0.Votes (⟨a1.Group, a1.Slot, (⟨n1, n2, s1⟩ : TVote)⟩ : TSeen)) fun v7 =>
 Option.bind (α := (List (List (List UInt8)))) (if a1.Kind = 3 then
 if (0 ≤ a1.Group ∧ a1.Group < (v6.Logs.length : Int)) then
 some (v6.Logs.set a1.Group.toNat ((v6.Logs.getD a1.Group.toNat default) ++ [a1.Value]))
 else none
 else
 some v6.Logs) fun l1 =>
 some ((⟨l1, v7⟩ : TStable), 0)
 else none
end Go.Proofs
end
section
namespace Go.Proofs
open Go.Tm
set_option linter.unusedSimpArgs false
theorem mlog_loop : ∀ l : Txts, m_towncrierref11_MayLog_loop1 l = some (if ∀ v ∈ l, v.length ≤ 1024 then .inr () else .inl false)
 | [] => by rw [m_towncrierref11_MayLog_loop1_n, if_pos (by simp)]
 | v :: l => by
  rw [m_towncrierref11_MayLog_loop1_c]
  by_cases h : v.length ≤ 1024
  ·rw [if_neg (by omega), mlog_loop l]
   congr 1
   simp only [List.forall_mem_cons, h, true_and]
  ·rw [if_pos (by omega), if_neg (by simp only [List.forall_mem_cons, h, false_and]; exact id)]
theorem mlog_eq (l : Txts) : m_towncrierref11_MayLog l = some (decide (LogOk l)) := by
 rw [m_towncrierref11_MayLog, mlog_loop]
 by_cases h1 : l.length ≤ 200
 ·rw [if_neg (by omega)]
  by_cases h2 : ∀ v ∈ l, v.length ≤ 1024
  ·rw [if_pos h2, decide_eq_true ⟨h1, h2⟩]; rfl
  ·rw [if_neg h2, decide_eq_false fun h => h2 h.2]; rfl
 ·rw [if_pos (by omega), decide_eq_false fun h => h1 h.1]
theorem mk1 : ∀ L : List Txts, m_towncrierref11_May_loop1 L = some (if ∀ x ∈ L, LogOk x then .inr () else .inl false)
 | [] => by rw [m_towncrierref11_May_loop1, if_pos (by simp)]
 | y :: L => by
  rw [m_towncrierref11_May_loop1, mlog_eq]
  simp only [Option.bind_some]
  by_cases h : LogOk y
  ·rw [if_neg (by simp [h]), mk1 L]
   congr 1
   simp only [List.forall_mem_cons, h, true_and]
  ·rw [if_pos (by simp [h]), if_neg (by simp only [List.forall_mem_cons, h, false_and]; exact id)]
theorem lens_ref11_May (a0 : TStable) (h : m_towncrierref11_May a0 = some true) : a0.Logs.length ≤ 4 ∧ ∀ k, (a0.Logs.getD k []).length ≤ 100000 := by
 rw [m_towncrierref11_May, mk1] at h
 split at h
 ·cases h
 ·refine ⟨by omega, fun k => ?_⟩
  by_cases hl : ∀ x ∈ a0.Logs, LogOk x
  ·rw [List.getD_eq_getElem?_getD]
   rcases Nat.lt_or_ge k a0.Logs.length with hk | hk
   ·rw [List.getElem?_eq_getElem hk]
    have := (hl _ (List.getElem_mem hk)).1
    simp only [Option.getD_some]; omega
   ·rw [List.getElem?_eq_none hk]; simp
  ·rw [if_neg hl] at h; cases h
theorem rtwin_logs : ∀ (l acc r : List Txts), m_towncrierref11_Twin_loop1 l acc = some r → r = acc ++ l
 | [], acc, r, h => by rw [m_towncrierref11_Twin_loop1_n] at h; cases h; simp
 | y :: l, acc, r, h => by
  rw [m_towncrierref11_Twin_loop1_c] at h
  split at h
  ·split at h
   ·rw [rtwin_logs l _ _ h]; simp
   ·cases h
  ·cases h
theorem lens_ref11_Twin (a0 r : TStable) (h : m_towncrierref11_Twin a0 = some r) : r.Logs = a0.Logs := by
 rw [m_towncrierref11_Twin] at h
 split at h
 ·obtain ⟨x, hx, h⟩ := bind_some h
  cases h
  rw [rtwin_logs _ _ _ hx]; rfl
 ·cases h
theorem lens_ref11_Apply (a0 : TStable) (a1 : TRecord) (r : TStable × Int) (h : m_towncrierref11_Apply a0 a1 = some r) : r.1.Logs.length ≤ 4 := by
 rw [m_towncrierref11_Apply] at h
 obtain ⟨v1, hv1, g⟩ := bind_some h
 clear h
 obtain ⟨v2, hv2, h⟩ := bind_some g
 clear hv2 g
 split at h
 ·cases h; exact Nat.zero_le 4
 ·rename_i hc
  have h1 : v1 = true := by
   cases v1 with
   | true => rfl
   | false => simp at hc
  subst h1
  have h4 := (lens_ref11_May a0 hv1).1
  split at h
  ·cases h; exact Nat.zero_le 4
  ·split at h
   ·split at h
    ·cases h; exact Nat.zero_le 4
    ·obtain ⟨v3, _, h⟩ := bind_some h
     obtain ⟨⟨n1, n2, s1, n3⟩, _, h⟩ := bind_some h
     simp only at h
     split at h
     ·cases h; exact Nat.zero_le 4
     ·obtain ⟨v6, hv6, h⟩ := bind_some h
      have e := congrArg List.length (lens_ref11_Twin _ _ hv6)
      obtain ⟨v7, _, h⟩ := bind_some h
      obtain ⟨l1, hl, h⟩ := bind_some h
      cases h
      split at hl
      ·split at hl
       ·cases hl
        simp only [List.length_set]; omega
       ·cases hl
      ·cases hl
       simp only; omega
   ·cases h
end Go.Proofs
end
