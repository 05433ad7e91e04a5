/- Texts of the proof. -/
import Derived.Lib.Overlaps
import Derived.KernelRfl
import Derived.Test.YtkfipajabmhkbaaStableGoesPh
import Derived.Test.YtkfipajabmhkbaaStableGoesPg
section
namespace Go.Proofs
open Go.Tm Go.RowKit Go.WideShapes
set_option maxRecDepth 100000
set_option maxHeartbeats 4000000
set_option linter.unusedSimpArgs false
set_option linter.unusedVariables false
attribute [local go_sem] argVars runE runK isCallV stepE aop opd opdsL opds opdO ev ofVal keep List.any natbeq Bool.false_or Bool.true_or aggEq cond_true cond_false Bool.cond_false_right Bool.cond_true_left beq_true beq_false imp_self implies_true getR getL put St.app effL del nwB blt_dec Nat.lt_irrefl Nat.lt_add_one ble_dec Nat.le_refl Nat.beq_refl roomNZ appendIn capS capK mkZ_zero mkZL_zero zeroEl D.ids D.idsL bin arith sarith binT dpick Tm.part splice fillD oneD loadD storeD srcD sliceD idxOk decide_true gval dstAt D.cells List.map_cons List.map_nil List.take List.drop List.length_map List.append Int.toNat_natCast and_true true_and decide_false List.length_cons List.length_nil List.append_nil List.nil_append Bool.and_true Bool.true_and Bool.not_false Bool.not_true ne_eq not_false_eq_true BEq.rfl List.getElem?_cons_zero List.getElem?_cons_succ List.getElem?_nil Nat.zero_add List.all_cons List.all_nil List.isEmpty_cons List.isEmpty_nil Option.getD_some Option.getD_none List.any_cons List.any_nil List.drop_succ_cons List.drop_zero unfL unf okM okML low3 List.cons_append true_or or_true Nat.zero_mul Nat.zero_le findD_int findD_str  getD_int getD_str getD_bool Option.isSome_map keyD List.length_replicate List.map_replicate setEl List.length_set bytesD_map map_ub mx_len mkZ_one mkZL_one mkM mkML mk1_int mk1_str mk1_bool drop_map take_map take_map_len List.take_length Int.toNat_zero toNat_pred fpOf metIds opIds mvV mvH mvF pickL D.ren D.renL Blk.ren List.map_append List.length_append Bool.not_not Bool.or_not_self Bool.not_or_self Bool.or_true
attribute [local go_sem] Try.tm_1 Try.tm_2 Try.tm_3 Try.tm_4 Try.tm_5 Try.tm_6 Try.tm_7 Try.tm_8 Try.tm_9 Try.tm_10 Try.tm_11 Try.tm_12 Try.tm_13 Try.tm_14 Try.tm_15 Try.tm_16 Try.tm_17 Try.tm_18 Try.tm_19 Try.tm_20 Try.tm_21 Try.tm_22 Try.tm_23 Try.tm_24 Try.tm_25 Try.tm_26 Try.tm_27 Try.tm_28 Try.tm_29 Try.tm_30 Try.tm_32 Try.tm_33 Try.tm_34 Try.tm_35 Try.tm_36 Try.tm_37 Try.tm_39 Try.tm_40 Try.tm_41 Try.tm_43 Try.tm_45 Try.tm_46 Try.tm_47 Try.tm_48 Try.tm_49 Try.tm_50 Try.tm_51 Try.tm_52 Try.tm_53 Try.tm_55 Try.tm_57 Try.tm_58 Try.tm_60 Try.tm_61 Try.tm_63 Try.tm_64 Try.tm_65 Try.tm_66 Try.tm_67 Try.tm_68 Try.tm_69 Try.tm_70 Try.tm_71 Try.tm_72 Try.tm_73 Try.tm_74 Try.tm_76 Try.tm_77 Try.tm_78 Try.tm_79 Try.tm_80 Try.tm_81 Try.tm_82 Try.tm_83 Try.tm_84 Try.tm_85 Try.tm_86 Try.tm_87 Try.tm_89 Try.tm_91 Try.tm_92 Try.tm_93 Try.tm_94 Try.tm_95 Try.tm_96 Try.tm_98 Try.tm_99 Try.tm_101 Try.tm_103 Try.tm_104 Try.tm_105 Try.tm_106 Try.tm_107 Try.tm_108 Try.tm_109 Try.tm_110 Try.tm_111 Try.tm_112 Try.tm_113 Try.tm_114 Try.tm_115 Try.tm_116 Try.tm_117 Try.tm_118 Try.tm_119 Try.tm_120 Try.tm_121 Try.tm_123 Try.tm_124 Try.tm_125 Try.tm_126 Try.tm_127 Try.tm_128 Try.tm_129 Try.tm_130 Try.tm_132 Try.tm_134 Try.tm_135 Try.tm_136 Try.tm_137 Try.tm_138 Try.tm_139 Try.tm_140 Try.tm_143 Try.tm_144 Try.tm_145 Try.tm_146 Try.tm_147 Try.tm_148 Try.tm_149 Try.tm_150 Try.tm_151 dL_str nL_str TVote.d TSeen.d TStable.d TStable.n TRecord.d mk1_dL_str mk1_TVote mk1_TSeen mk1_TStable mk1_TRecord Try.f86 Try.f70 Try.f69 Try.f38 Try.f39 Try.f68 Try.f35 Try.f36 Try.f37 Try.f61 Try.f33 Try.f11 Try.f23 Try.f13 Try.f46 Try.f45 Try.f17 Try.f52 Try.f53 Try.f51 Try.f20 Try.f49 Try.f40 Try.f50 Try.f48 Try.f19 Try.f24 Try.f12 Try.f47 Try.f18 Try.f41 Try.f44 Try.f16 Try.f22 Try.f9 Try.f83 Try.f64 Try.f65 Try.f72 Try.f42 Try.f43
attribute [local go_sem] qrefs
abbrev LL := List (List (List UInt8))
def inb (ls : LL) (k : Nat) : Blk := .arr 9 1 true ((ls.getD k []).map D.str)
def outb (F : Nat) (ls : LL) : Blk := .arr 34 1 false (qrefs 1 F (ls.map List.length))
theorem hrenQ (ps : List (Nat × Nat)) (F G : Nat) (ls : LL) (h4 : ls.length ≤ 4) (hp : mvF ps F = G ∧ mvF ps (F + 1) = G + 1 ∧ mvF ps (F + 2) = G + 2 ∧ mvF ps (F + 3) = G + 3) : D.renL (mvF ps) (qrefs 1 F (ls.map List.length)) = qrefs 1 G (ls.map List.length) := by
 refine qrefs_ren 1 (mvF ps) _ F G fun i hi => ?_
 rw [List.length_map] at hi
 obtain ⟨p0, p1, p2, p3⟩ := hp
 rcases (by omega : i = 0 ∨ i = 1 ∨ i = 2 ∨ i = 3) with rfl | rfl | rfl | rfl
 ·exact p0
 ·exact p1
 ·exact p2
 ·exact p3
def Try.St_QT1 (v1 : List TSeen) (l1 : LL) : St := ⟨[(2, .ptr 20001 0), (3, .ptr 20006 0)], [(20001, .box [.imm 0 [] 0, .imm 0 [] 0]), (20003, .arr 67 5 true (v1.map TSeen.d)), (20006, .box [.ref 20007 1 0 l1.length (some unkC), .ref 20003 5 0 v1.length (some unkC)]), (20007, outb 20008 l1), (20008, inb l1 0), (20009, inb l1 1), (20010, inb l1 2), (20011, inb l1 3)], 20012⟩
attribute [local go_sem] Try.St_QT1
def Try.St_QT3 (a0 : TStable) (v1 : List TSeen) (n1 : Nat) (l2 : LL) : St := ⟨[(2, .ptr 20001 0), (3, .ptr 20006 0), (11, .imm 1 (a0.Logs.map dL_str) 4), (12, .int .i64 (a0.Logs.length : Int)), (13, .int .i64 (n1 : Int))], [(20001, .box [.imm 0 [] 0, .imm 0 [] 0]), (20003, .arr 67 5 true (v1.map TSeen.d)), (20006, .box [.ref 20007 1 0 l2.length (some unkC), .ref 20003 5 0 v1.length (some unkC)]), (20007, outb 20008 l2), (20008, inb l2 0), (20009, inb l2 1), (20010, inb l2 2), (20011, inb l2 3)], 20012⟩
attribute [local go_sem] Try.St_QT3 outb inb
theorem callH_stable_TwinQ (a0 : TStable) (r : TStable) (h4 : a0.Logs.length ≤ 4) (h : m_stable_Twin a0 = some r) : CallH Try.prog 17 [.agg [.imm 1 (a0.Logs.map dL_str) 4, .imm 5 (a0.Votes.map TSeen.d) 4]] [] (.agg [.ref 20001 1 0 r.Logs.length (some unkC), .ref 20002 5 0 r.Votes.length (some unkC)]) [(20001, some (outb 20010 r.Logs)), (20002, some (.arr 67 5 true (r.Votes.map TSeen.d))), (20010, some (inb r.Logs 0)), (20011, some (inb r.Logs 1)), (20012, some (inb r.Logs 2)), (20013, some (inb r.Logs 3))] (20000, 20060) := by
 refine callH_intro' Try.tmOk Try.func17 rfl (by decide) (Nat.le_of_ble_eq_true rfl) (by simp) ?_
 intro hwf
 unfold m_stable_Twin at h
 refine .ends 20000 (Nat.le_refl _) ?_
 refine .seq ?_
 refine .pl Try.S [0] ?_
 refine .seq ?_
 obtain ⟨v1, hv1, h⟩ := bind_some h
 refine .rg Try.S [1, 2] ?_
 refine .rn 2 ?_
 refine .ncall (r := .ref 20003 5 0 v1.length (some unkC)) (eff := [(20003, some (.arr 67 5 true (v1.map TSeen.d)))]) (nw := (20003, 20006)) [] rfl rfl rfl rfl rfl (lend2s_cons rfl lend2s_nil) rfl (callH_at 20003 (Nat.le_of_ble_eq_true rfl) (callH_slices_Clone_Seen_Seen a0.Votes v1 hv1)) (newE_cons rfl rfl (newB_arr pl0_TSeen _ _ _) newE_nil) (by intro i hi; simp [D.ids, D.idsL] at hi <;> omega) rfl ⟨Nat.le_of_ble_eq_true rfl, Nat.le_of_ble_eq_true rfl⟩ ?_
 refine .rn 3 ?_
 refine .nil ⟨nofun, ?_⟩
 obtain ⟨x1, hx1, h⟩ := bind_some h
 refine .seqM 20007 (fun (j : LL) => Try.St_QT1 v1 j) (fun j => j.length ≤ a0.Logs.length ∧ x1 = j) (Nat.le_of_ble_eq_true rfl) ?_ ?_
 ·skip
  refine .seq ?_
  refine .pl Try.S [1, 2, 3] ?_
  refine .block ?_
  refine .loopG 20007 (fun (j : Nat × LL) => Try.St_QT3 a0 v1 j.1 j.2) (fun j => j.1 ≤ a0.Logs.length ∧ j.2.length = j.1 ∧ m_stable_Twin_loop1 (a0.Logs.drop j.1) j.2 = some x1) (fun j => a0.Logs.length - j.1) (0, []) (Nat.le_of_ble_eq_true rfl) ?_ ⟨Nat.zero_le _, rfl, hx1⟩ ?_
  ·skip
   refine Goes.new0 1 34 (Nat.le_of_ble_eq_true rfl) ?_
   refine Goes.boxs 20006 _ [.ref 20007 1 0 0 (some unkC), .ref 20003 5 0 v1.length (some unkC)] rfl (.cons (.own0 20007 _ _ _ (by decide)) (.refl _)) ?_
   refine Goes.pf 20007 rfl ?_
   refine Goes.new0 1 9 (Nat.le_of_ble_eq_true rfl) ?_
   refine Goes.new0 1 9 (Nat.le_of_ble_eq_true rfl) ?_
   refine Goes.new0 1 9 (Nat.le_of_ble_eq_true rfl) ?_
   refine Goes.new0 1 9 (Nat.le_of_ble_eq_true rfl) ?_
   exact .sub [2, 3, 11, 12, 13] [20001, 20003, 20006, 20007, 20008, 20009, 20010, 20011]
  rintro ⟨n1, l2⟩ ⟨hi1, hl2, hx1⟩
  simp only [Try.St_QT3]
  simp only at hi1 hl2 hx1
  refine .wf 12 (.int .i64 (a0.Logs.length : Int)) rfl ?_
  intro hln1
  replace hln1 : (a0.Logs.length : Int) ≤ 9223372036854775807 := by omega
  refine .seq ?_
  refine .pl Try.S [2, 3, 11, 12, 13] ?_
  refine .seq ?_
  refine .cond rfl rfl (fun hc1 => ?_) (fun hc1 => ?_)
  ·skip
   have h1 : n1 < a0.Logs.length := by simpa using hc1
   have hwn1 : wr .i64 ((n1 : Int) + 1) = ((n1 + 1 : Nat) : Int) := wr_succ h1 hln1
   have hpn1 : wr .i64 ((n1 : Int) - 1) = (n1 : Int) - 1 := wr_pred h1 hln1
   rw [List.drop_eq_getElem_cons h1, m_stable_Twin_loop1_c] at hx1
   refine .skip ?_
   refine .seq ?_
   refine .block ?_
   refine .seq ?_
   have e1 := nth_map dL_str a0.Logs n1 h1
   refine .plx Try.S (And.intro e1 hwn1) [2, 3, 11, 12, 13] ?_
   obtain ⟨v2, hv2, hx1⟩ := bind_some hx1
   obtain ⟨k1, hx1⟩ := ite_ck hx1
   rcases l2 with _ | ⟨b0, _ | ⟨b1, _ | ⟨b2, _ | ⟨b3, bs⟩⟩⟩⟩
   ·skip
    refine .rg Try.S [2, 3, 5, 11, 12, 13] ?_
    refine .rdx 3 hwn1 ?_
    refine .ncall (r := .ref 20012 1 0 v2.length (some unkC)) (eff := [(20012, some (.arr 9 1 true (v2.map D.str)))]) (nw := (20012, 20015)) [] rfl rfl rfl rfl rfl (lend2s_cons rfl lend2s_nil) rfl (callH_at 20012 (Nat.le_of_ble_eq_true rfl) (callH_slices_Clone_string_string (a0.Logs[n1]) v2 hv2)) (newE_cons rfl rfl (newB_arr pl0_str _ _ _) newE_nil) (by intro i hi; simp [D.ids, D.idsL] at hi <;> omega) rfl ⟨Nat.le_of_ble_eq_true rfl, Nat.le_of_ble_eq_true rfl⟩ ?_
    refine .rdx 4 hwn1 ?_
    refine .nil ⟨fun _ => schedB_of (by kernel_rfl), ?_⟩
    refine .plx Try.S hwn1 [2, 3, 11, 12, 13] ?_
    refine ⟨(n1 + 1, _), ?_, ⟨by omega, by dsimp only; simp at hl2 ⊢; omega, hx1⟩, by dsimp only; omega⟩
    exact .m [2, 3, 11, 12, 13] [20001, 20003, 20006, 20016, 20012, 20009, 20010, 20011] [(20016, 20007), (20012, 20008)]
   ·skip
    refine .rg Try.S [2, 3, 5, 11, 12, 13] ?_
    refine .rdx 3 hwn1 ?_
    refine .ncall (r := .ref 20012 1 0 v2.length (some unkC)) (eff := [(20012, some (.arr 9 1 true (v2.map D.str)))]) (nw := (20012, 20015)) [] rfl rfl rfl rfl rfl (lend2s_cons rfl lend2s_nil) rfl (callH_at 20012 (Nat.le_of_ble_eq_true rfl) (callH_slices_Clone_string_string (a0.Logs[n1]) v2 hv2)) (newE_cons rfl rfl (newB_arr pl0_str _ _ _) newE_nil) (by intro i hi; simp [D.ids, D.idsL] at hi <;> omega) rfl ⟨Nat.le_of_ble_eq_true rfl, Nat.le_of_ble_eq_true rfl⟩ ?_
    refine .rdx 4 hwn1 ?_
    refine .nil ⟨fun _ => schedB_of (by kernel_rfl), ?_⟩
    refine .plx Try.S hwn1 [2, 3, 11, 12, 13] ?_
    refine ⟨(n1 + 1, _), ?_, ⟨by omega, by dsimp only; simp at hl2 ⊢; omega, hx1⟩, by dsimp only; omega⟩
    exact .m [2, 3, 11, 12, 13] [20001, 20003, 20006, 20016, 20008, 20012, 20010, 20011] [(20016, 20007), (20012, 20009)]
   ·skip
    refine .rg Try.S [2, 3, 5, 11, 12, 13] ?_
    refine .rdx 3 hwn1 ?_
    refine .ncall (r := .ref 20012 1 0 v2.length (some unkC)) (eff := [(20012, some (.arr 9 1 true (v2.map D.str)))]) (nw := (20012, 20015)) [] rfl rfl rfl rfl rfl (lend2s_cons rfl lend2s_nil) rfl (callH_at 20012 (Nat.le_of_ble_eq_true rfl) (callH_slices_Clone_string_string (a0.Logs[n1]) v2 hv2)) (newE_cons rfl rfl (newB_arr pl0_str _ _ _) newE_nil) (by intro i hi; simp [D.ids, D.idsL] at hi <;> omega) rfl ⟨Nat.le_of_ble_eq_true rfl, Nat.le_of_ble_eq_true rfl⟩ ?_
    refine .rdx 4 hwn1 ?_
    refine .nil ⟨fun _ => schedB_of (by kernel_rfl), ?_⟩
    refine .plx Try.S hwn1 [2, 3, 11, 12, 13] ?_
    refine ⟨(n1 + 1, _), ?_, ⟨by omega, by dsimp only; simp at hl2 ⊢; omega, hx1⟩, by dsimp only; omega⟩
    exact .m [2, 3, 11, 12, 13] [20001, 20003, 20006, 20016, 20008, 20009, 20012, 20011] [(20016, 20007), (20012, 20010)]
   ·skip
    refine .rg Try.S [2, 3, 5, 11, 12, 13] ?_
    refine .rdx 3 hwn1 ?_
    refine .ncall (r := .ref 20012 1 0 v2.length (some unkC)) (eff := [(20012, some (.arr 9 1 true (v2.map D.str)))]) (nw := (20012, 20015)) [] rfl rfl rfl rfl rfl (lend2s_cons rfl lend2s_nil) rfl (callH_at 20012 (Nat.le_of_ble_eq_true rfl) (callH_slices_Clone_string_string (a0.Logs[n1]) v2 hv2)) (newE_cons rfl rfl (newB_arr pl0_str _ _ _) newE_nil) (by intro i hi; simp [D.ids, D.idsL] at hi <;> omega) rfl ⟨Nat.le_of_ble_eq_true rfl, Nat.le_of_ble_eq_true rfl⟩ ?_
    refine .rdx 4 hwn1 ?_
    refine .nil ⟨fun _ => schedB_of (by kernel_rfl), ?_⟩
    refine .plx Try.S hwn1 [2, 3, 11, 12, 13] ?_
    refine ⟨(n1 + 1, _), ?_, ⟨by omega, by dsimp only; simp at hl2 ⊢; omega, hx1⟩, by dsimp only; omega⟩
    exact .m [2, 3, 11, 12, 13] [20001, 20003, 20006, 20016, 20008, 20009, 20010, 20012] [(20016, 20007), (20012, 20011)]
   ·exact absurd hl2 (by simp only [List.length_cons]; omega)
  ·skip
   have h2 : n1 = a0.Logs.length := by have h2b := of_decide_eq_false hc1; omega
   rw [List.drop_of_length_le (by omega), m_stable_Twin_loop1_n] at hx1
   refine .exit ?_
   refine ⟨_, ?_, by omega, (Option.some.inj hx1).symm⟩
   exact .sub [2, 3] [20001, 20003, 20006, 20007, 20008, 20009, 20010, 20011]
 ·skip
  rintro l1 ⟨hl1, hj1⟩
  subst x1
  try dsimp only at h
  simp only [Try.St_QT1]
  refine .seq ?_
  refine .pl Try.S [2, 3] ?_
  have hq := Option.some.inj h
  subst r
  have ho : ∀ F ls, outb F ls = .arr 34 1 false (qrefs 1 F (ls.map List.length)) := fun _ _ => rfl
  have h4' : l1.length ≤ 4 := by omega
  refine .ret ⟨⟨[(2, .ptr 20020 0)], [(20002, .arr 67 5 true (v1.map TSeen.d)), (20020, .box [.ref 20001 1 0 l1.length (some unkC), .ref 20002 5 0 v1.length (some unkC)]), (20001, outb 20010 l1), (20010, inb l1 0), (20011, inb l1 1), (20012, inb l1 2), (20013, inb l1 3)], 20030⟩, ?_, .inr rfl, retH [20013, 20012, 20011, 20010, 20002, 20001] ?_ ?_⟩
  ·skip
   exact .mxq (And.intro (hrenQ [(20003, 20002), (20001, 20020), (20007, 20001), (20008, 20010), (20009, 20011), (20010, 20012), (20011, 20013)] 20008 20010 l1 h4' (by decide)) (And.intro rfl rfl : (1 : Nat) = 1 ∧ (2 : Nat) = 2)) [2] [20003, 20001, 20007, 20008, 20009, 20010, 20011] [(20003, 20002), (20001, 20020), (20007, 20001), (20008, 20010), (20009, 20011), (20010, 20012), (20011, 20013)] [20003, 20001, 20007, 20008, 20009, 20010, 20011] (by intro i hi; simp only [go_sem, outb, inb, idsV, idsH, Blk.ids, D.ids, D.idsL, cond_false, cond_true, List.mem_append, List.mem_cons, List.not_mem_nil, or_false, false_or, List.nil_append, List.append_nil, List.cons_append, qrefs_mem, List.length_map, List.length_set, Nat.reduceBEq] at hi ⊢; omega)
  ·exact rsi0
  ·rfl
end Go.Proofs
end
section
namespace Go.Tm
open Go.RowKit Go.WideShapes
theorem overs_of {P : Program} {K : FuncId} {fn : Func} {t r : TypeId} (hf : P.funcs[K]? = some fn) (hname : (fn.name == "runtime.NumGoroutine") = false) (hb : fn.body.isNone = true) (hn : Extern.findNext fn = none)
  (he : Extern.find fn = some (Extern.SlicesOverlaps.overlaps #[t, t] #[r])) {ti : TI} (ht : tiChk P t ti = true) (hk : ti.kind = 3) : Overs P K := by
 intro w x y la ca lb cb cx cy Tx Ty hne hs hx hy hz
 obtain ⟨el, j, hu, hj, hj1, hj2, hj3, hj4, _, hel'⟩ := ti_slice ht hk
 subst hel'
 have hsz : ∀ w : World, (sizeOf ti.el).run P w = .ok j.size w := fun w => by simp [sizeOf, typeInfo, hj]
 obtain ⟨xb, xo, xs⟩ := x
 simp only at hs hx hne
 subst hs
 rw [run_callFunc_extern hf hname hb hn he, Go.Lib.run_overlaps_apart w t r ti.el hu j.size hsz ⟨xb, xo, none⟩ y la ca lb cb hne Tx Ty cx.size cy.size (by simp [World.shape?, hx]) (by simp [World.shape?, hy]) hz (by simp [World.frozen?, hx]) (by simp [World.frozen?, hx])]
 rfl
theorem callH_capW {P : Program} {K : FuncId} {i k s n m : Nat} {e s' : Nat} {p p' : Bool} {l l' : List D} {post : List D} {H : List (Nat × Blk)} (hE : Enters P K) (hH : getL H i = some (.arr e s p l)) (hik : i ≠ k) (hm0 : 0 < m ∨ 0 < n)
  (hin : ∀ c, capK c = true → n ≤ c → m ≤ c → CallH P K (.ref i s 0 n (some c) :: post) H (.ref i s 0 m (some c)) [(i, some (.arr e s' p' l'))] (k, k))
  (hout : ∀ c, capK c = true → n ≤ c → c < m → CallH P K (.ref i s 0 n (some c) :: post) H (.ref k s 0 m none) [(k, some (.arr e s' p' l')), (i, none)] (k, k + 1)) :
  CallH P K (.ref i s 0 n (some unkC) :: post) H (.ref k s 0 m (some unkC)) [(k, some (.arr e s' p' l')), (i, none)] (k, k + 1) := by
 refine ⟨hE, fun fr w g hp nu vs hM hHs hnw hvs => ?_⟩
 simp only [reps] at hvs
 obtain ⟨v0, vs, rfl, h0, hvs⟩ := hvs
 have h0' := h0
 simp only [rep] at h0
 obtain ⟨q1, ad, cap, rfl, q2, q3, q4, q5, q6⟩ := h0
 have hc : rep (cx w g hp) (.ref i s 0 n (some cap)) (.slice ad n cap) := by
  simp only [rep]
  exact ⟨q1, ad, cap, rfl, q2, q3, q4, ⟨fun c h _ => by cases h; rfl, fun h => by cases h⟩, q6⟩
 have hargs : reps (cx w g hp) (.ref i s 0 n (some cap) :: post) (.slice ad n cap :: vs) := by
  simp only [reps]
  exact ⟨_, _, rfl, hc, hvs⟩
 have hck : capK cap = true := Nat.ble_eq_true_of_le (by omega)
 by_cases hcase : cap < m
 ·refine ((hout cap hck q2 hcase).2 fr w g hp nu _ hM hHs hnw hargs).mono ?_
  rintro ee w' ⟨v, g', he, ha⟩
  exact ⟨v, g', he, ha.gz, ha.gs, ha.keep, ha.mem, ha.own, rep_unk ha.res rfl⟩
 ·have hq6 := q6
  rcases q6 with q6 | ⟨b1, T1, n1, z1, _, z2, z3⟩
  ·omega
  refine ((hin cap hck q2 (by omega)).2 fr w g hp nu _ hM hHs (fun id h1 h2 => by have h1 : k ≤ id := h1; have h2 : id < k := h2; omega) hargs).mono ?_
  rintro ee w' ⟨v, g', he, ha⟩
  have hki : Nat.beq k i = false := beq_ne fun e => hik e.symm
  have hnk : nu k = true := hnw k (Nat.le_refl _) (Nat.lt_succ_self _)
  have hpi : hp i = some (.arr e s p l) := hHs i _ hH
  have hni : nu i = false := by
   cases h : nu i
   ·rfl
   ·rw [(hM.nw i h).2] at hpi; cases hpi
  have hσi : g'.σ i = some (b1, 0) := (ha.gs i hni).trans z1
  let E0 : En := ⟨w', fr, fun _ => True, g', effN nu (k, k)⟩
  let F0 : FrS := ⟨fun _ => .undef, effH hp [(i, some (.arr e s' p' l'))], effN nu (k, k)⟩
  let a0 : Act := ⟨#[], []⟩
  have hR0 : Rel E0 0 F0 a0 w' g' := ⟨Nat.zero_le _, rfl, fun _ => by simp only [F0, rep], ha.mem, fun _ _ _ _ _ => .inr trivial, Keep.refl _ _, ⟨rfl, rfl⟩, fun _ _ => rfl, fun _ h => h⟩
  have hpi' : effH hp [(i, some (.arr e s' p' l'))] i = some (.arr e s' p' l') := by simp [effH, getL]
  have hnk0 : F0.nu k = true := by
   show effN nu (k, k) k = true
   simp [effN, hnk]
  obtain ⟨r1, _⟩ := Rel.made hR0 (m := k) (blk := .arr e s' p' l') (loc := some (b1, 0)) (kl := some i) (w' := w') hnk0 ((Keep.refl _ w').mono fun _ _ h => h)
   (by rintro b o h; cases h; exact .inr ⟨i, 0, rfl, by show effH hp [(i, some (.arr e s' p' l'))] i ≠ none; rw [hpi']; simp, hσi⟩)
   (by
    intro C hC hle hrf hσ
    rcases ha.mem.hd i _ hpi' with ⟨_, h⟩ | ⟨b', cs, h1, h2, h3, h4⟩
    ·have h : g'.σ i = none := h
     rw [hσi] at h; cases h
    ·have h1 : g'.σ i = some (b', 0) := h1
     rw [hσi] at h1
     simp only [Option.some.injEq, Prod.mk.injEq] at h1
     obtain ⟨rfl, _⟩ := h1
     exact .inr ⟨b1, cs, hσ, by subst hC; exact h2, h3, elems_le (C := { cx w' g' (effH hp [(i, some (.arr e s' p' l'))]) with rf := !p' }) (C' := { C with rf := !p' }) (le_rf hle rfl _ _ id) _ _ _ _ (by subst hC; rfl) h4⟩)
  have hhp : effH (effH hp [(i, some (.arr e s' p' l'))]) ((k, some (.arr e s' p' l')) :: kill (some i)) = effH hp [(k, some (.arr e s' p' l')), (i, none)] := by
   funext x
   simp only [effH, kill, getL]
   cases h1 : Nat.beq k x
   ·cases h2 : Nat.beq i x <;> simp
   ·simp
  have hnn : effN (effN nu (k, k)) (k, k + 1) = effN nu (k, k + 1) := by
   funext x
   simp only [effN]
   have : (decide (k ≤ x) && decide (x < k)) = false := by
    cases hx : decide (k ≤ x) <;> simp at hx ⊢
    omega
   rw [this]; simp
  have hmem := r1.mem
  simp only [FrS.eff, F0] at hmem
  rw [hhp, hnn] at hmem
  have hpk : effH hp [(k, some (.arr e s' p' l')), (i, none)] i = none := by simp [effH, getL, hki]
  refine ⟨v, setσ g' k (some (b1, 0)), he, ha.gz, fun id hid => ?_, ha.keep, hmem, ?_, ?_⟩
  ·have : id ≠ k := by rintro rfl; rw [hnk] at hid; cases hid
   show (if id = k then _ else g'.σ id) = g.σ id
   rw [if_neg this]
   exact ha.gs id hid
  ·rintro b0 ⟨id, o, h1, h2⟩
   have h2 : (if id = k then some (b1, 0) else g'.σ id) = some (b0, o) := h2
   by_cases hidk : id = k
   ·rw [if_pos hidk] at h2
    simp only [Option.some.injEq, Prod.mk.injEq] at h2
    obtain ⟨rfl, rfl⟩ := h2
    exact ha.own b1 ⟨i, 0, by rw [hpi']; simp, hσi⟩
   ·rw [if_neg hidk] at h2
    by_cases hidi : id = i
    ·subst hidi
     rw [hpk] at h1
     exact absurd rfl h1
    ·refine ha.own b0 ⟨id, o, ?_, h2⟩
     have a1 : Nat.beq k id = false := beq_ne fun e => hidk e.symm
     have a2 : Nat.beq i id = false := beq_ne fun e => hidi e.symm
     simp only [effH, getL, a1, a2] at h1 ⊢
     exact h1
  ·have hres := ha.res
   simp only [rep] at hres ⊢
   obtain ⟨_, ad', cap', hv, k1, k2, k3, k4, k5⟩ := hres
   have hcc := k4.1 cap rfl (Nat.ble_eq_true_of_le (by omega))
   subst hcc
   have hsh : w'.shape? b1 = some (T1, n1) := by
    have := ha.keep.shp b1 (shape_lt (w := w) z2)
    rw [this]; exact z2
   refine ⟨by simp [cx], ad', cap', hv, k1, k2, k3, ⟨(fun c h hk => by cases h; cases hk), (fun h => by cases h)⟩, ?_⟩
   rcases k5 with k5 | ⟨b, T, nn, y1, y2, y3, y4⟩
   ·exact .inl k5
   ·have y1 : g'.σ i = some (b, 0) := y1
    rw [hσi] at y1
    simp only [Option.some.injEq, Prod.mk.injEq] at y1
    obtain ⟨rfl, _⟩ := y1
    exact .inr ⟨b1, T, nn, by simp [cx, setσ], y2, y3, y4⟩
end Go.Tm
end
section
namespace Go.Proofs
open Go.Tm Go.RowKit Go.WideShapes
set_option maxRecDepth 100000
set_option linter.unusedSimpArgs false
set_option linter.unusedVariables false
attribute [local go_sem] argVars runE runK isCallV stepE aop opd opdsL opds opdO ev ofVal keep List.any natbeq Bool.false_or Bool.true_or aggEq cond_true cond_false Bool.cond_false_right Bool.cond_true_left beq_true beq_false imp_self implies_true getR getL put St.app effL del nwB blt_dec Nat.lt_irrefl Nat.lt_add_one ble_dec Nat.le_refl Nat.beq_refl roomNZ appendIn capS mkZ_zero mkZL_zero zeroEl D.ids D.idsL bin arith sarith binT dpick Tm.part splice fillD oneD loadD storeD srcD sliceD idxOk decide_true gval dstAt D.cells List.map_cons List.map_nil List.take List.drop List.length_map List.append Int.toNat_natCast and_true true_and decide_false List.length_cons List.length_nil List.append_nil List.nil_append Bool.and_true Bool.true_and Bool.not_false Bool.not_true ne_eq not_false_eq_true BEq.rfl List.getElem?_cons_zero List.getElem?_cons_succ List.getElem?_nil Nat.zero_add List.all_cons List.all_nil List.isEmpty_cons List.isEmpty_nil Option.getD_some Option.getD_none List.any_cons List.any_nil List.drop_succ_cons List.drop_zero unfL unf okM okML low3 List.cons_append true_or or_true Nat.zero_mul Nat.zero_le fpOf opIds
theorem overs84 : Overs Try.prog 84 := overs_of (r := 4) Try.func84 (by kernel_rfl) (by kernel_rfl) (by kernel_rfl) (by kernel_rfl) (Try.tmOk.1 23 (by decide)) rfl
theorem ins67e (i j k : Nat) (hij : i ≠ j) (hik : i ≠ k) (hjk : j ≠ k) (L : List D) (x : D) (P Q : Bool) (hL : L.length < 1000000) :
  CallH Try.prog 67 [.ref i 5 0 L.length (some unkC), .int .i64 (L.length : Int), .ref j 5 0 1 (some 1)] [(i, .arr 67 5 P L), (j, .arr 67 5 Q [x])] (.ref k 5 0 (L.length + 1) (some unkC)) [(k, some (.arr 67 5 (P && Q) (L ++ [x]))), (i, none)] (k, k + 1) := by
 have bij : Nat.beq i j = false := beq_ne hij
 have bik : Nat.beq i k = false := beq_ne hik
 have bjk : Nat.beq j k = false := beq_ne hjk
 have bji : Nat.beq j i = false := beq_ne (Ne.symm hij)
 have bki : Nat.beq k i = false := beq_ne (Ne.symm hik)
 have bkj : Nat.beq k j = false := beq_ne (Ne.symm hjk)
 have n10 : ¬ ((1 : Int) = 0) := by omega
 have hx : (1 : Nat) ≤ 1 := Nat.le_refl _
 refine callH_intro' Try.tmOk Try.func67 rfl (by decide) (Nat.le_of_ble_eq_true rfl) (by simp) ?_
 intro hwf
 refine .seq ?_
 refine .plain Try.tmOk Try.tmMixed [0, 1, 2] (by decide +kernel) (by intro q hq; simp only [go_sem, appendD, Nat.reduceSub, Int.reduceEq, Nat.reduceLT, Nat.reduceDiv, Nat.reduceAdd, Nat.reduceBEq, Nat.reduceLeDiff, reduceCtorEq, Nat.reduceEqDiff, Nat.reduceMod, capK, bij, bik, bjk, bji, bki, bkj]; exact hq) (by first | rfl | (simp only [go_sem, Nat.reduceLeDiff]; done) | (simp only [go_sem, Nat.reduceLeDiff]; rfl) | (simp; done) | (simp [oneD] <;> omega) | (simp_all; done) | (simp_all [oneD] <;> omega)) (by first | exact Nat.le_refl _ | exact Nat.le_of_ble_eq_true rfl | (dsimp only; omega) | (simp <;> omega)) ?_
 refine .seq ?_
 refine .plain Try.tmOk Try.tmMixed [0, 1, 2] (by decide +kernel) (by intro q hq; simp only [go_sem, appendD, Nat.reduceSub, Int.reduceEq, Nat.reduceLT, Nat.reduceDiv, Nat.reduceAdd, Nat.reduceBEq, Nat.reduceLeDiff, reduceCtorEq, Nat.reduceEqDiff, Nat.reduceMod, capK, Try.tm_23, Try.tm_3, bij, bik, bjk, bji, bki, bkj]; exact hq) (by first | rfl | (simp only [go_sem, Nat.reduceLeDiff]; done) | (simp only [go_sem, Nat.reduceLeDiff]; rfl) | (simp; done) | (simp [oneD] <;> omega) | (simp_all; done) | (simp_all [oneD] <;> omega)) (by first | exact Nat.le_refl _ | exact Nat.le_of_ble_eq_true rfl | (dsimp only; omega) | (simp <;> omega)) ?_
 refine .seq ?_
 refine .plain Try.tmOk Try.tmMixed [0, 1, 2] (by decide +kernel) (by intro q hq; simp only [go_sem, appendD, Nat.reduceSub, Int.reduceEq, Nat.reduceLT, Nat.reduceDiv, Nat.reduceAdd, Nat.reduceBEq, Nat.reduceLeDiff, reduceCtorEq, Nat.reduceEqDiff, Nat.reduceMod, capK, Try.tm_23, Try.tm_3, bij, bik, bjk, bji, bki, bkj]; exact hq) (by first | rfl | (simp only [go_sem, Nat.reduceLeDiff]; done) | (simp only [go_sem, Nat.reduceLeDiff]; rfl) | (simp; done) | (simp [oneD] <;> omega) | (simp_all; done) | (simp_all [oneD] <;> omega)) (by first | exact Nat.le_refl _ | exact Nat.le_of_ble_eq_true rfl | (dsimp only; omega) | (simp <;> omega)) ?_
 refine .seq ?_
 refine .seq ?_
 refine .plain Try.tmOk Try.tmMixed [0, 1, 2, 7] (by decide +kernel) (by intro q hq; simp only [go_sem, appendD, Nat.reduceSub, Int.reduceEq, Nat.reduceLT, Nat.reduceDiv, Nat.reduceAdd, Nat.reduceBEq, Nat.reduceLeDiff, reduceCtorEq, Nat.reduceEqDiff, Nat.reduceMod, capK, Try.tm_23, Try.tm_3]; exact hq) (by first | rfl | (simp only [go_sem, Nat.reduceLeDiff]; done) | (simp only [go_sem, Nat.reduceLeDiff]; rfl) | (simp; done) | (simp [oneD] <;> omega) | (simp_all; done) | (simp_all [oneD] <;> omega)) (by first | exact Nat.le_refl _ | exact Nat.le_of_ble_eq_true rfl | (dsimp only; omega) | (simp <;> omega)) ?_
 refine .cond rfl rfl (fun hc => by simp at hc) (fun hc => ?_)
 refine .skip ?_
 refine .seq ?_
 refine .plain Try.tmOk Try.tmMixed [0, 1, 2, 7] (by decide +kernel) (by intro q hq; simp only [go_sem, appendD, Nat.reduceSub, Int.reduceEq, Nat.reduceLT, Nat.reduceDiv, Nat.reduceAdd, Nat.reduceBEq, Nat.reduceLeDiff, reduceCtorEq, Nat.reduceEqDiff, Nat.reduceMod, capK, Try.tm_23, Try.tm_3]; exact hq) (by first | rfl | (simp only [go_sem, Nat.reduceLeDiff]; done) | (simp only [go_sem, Nat.reduceLeDiff]; rfl) | (simp; done) | (simp [oneD] <;> omega) | (simp_all; done) | (simp_all [oneD] <;> omega)) (by first | exact Nat.le_refl _ | exact Nat.le_of_ble_eq_true rfl | (dsimp only; omega) | (simp <;> omega)) ?_
 refine .seq ?_
 refine .seq ?_
 refine .plain Try.tmOk Try.tmMixed [0, 1, 2, 7, 8] (by decide +kernel) (by intro q hq; simp only [go_sem, appendD, Nat.reduceSub, Int.reduceEq, Nat.reduceLT, Nat.reduceDiv, Nat.reduceAdd, Nat.reduceBEq, Nat.reduceLeDiff, reduceCtorEq, Nat.reduceEqDiff, Nat.reduceMod, capK, Try.tm_23, Try.tm_3]; exact hq) (by first | rfl | (simp only [go_sem, Nat.reduceLeDiff]; done) | (simp only [go_sem, Nat.reduceLeDiff]; rfl) | (simp; done) | (simp [oneD] <;> omega) | (simp_all; done) | (simp_all [oneD] <;> omega)) (by first | exact Nat.le_refl _ | exact Nat.le_of_ble_eq_true rfl | (dsimp only; omega) | (simp <;> omega)) ?_
 refine .cond rfl rfl (fun hc => ?_) (fun hc => by simp at hc)
 refine .seq ?_
 refine .plain Try.tmOk Try.tmMixed [0, 2] (by decide +kernel) (by intro q hq; simp only [go_sem, appendD, Nat.reduceSub, Int.reduceEq, Nat.reduceLT, Nat.reduceDiv, Nat.reduceAdd, Nat.reduceBEq, Nat.reduceLeDiff, reduceCtorEq, Nat.reduceEqDiff, Nat.reduceMod, capK, Try.tm_23, Try.tm_3, bij, bik, bjk, bji, bki, bkj]; exact hq) (by first | rfl | (simp only [go_sem, Nat.reduceLeDiff]; done) | (simp only [go_sem, Nat.reduceLeDiff]; rfl) | (simp; done) | (simp [oneD] <;> omega) | (simp_all; done) | (simp_all [oneD] <;> omega)) (by first | exact Nat.le_refl _ | exact Nat.le_of_ble_eq_true rfl | (dsimp only; omega) | (simp <;> omega)) ?_
 refine .ret ⟨.inr rfl, retH [j, k] ?_ ?_⟩
 ·simp only [ResIs, resL, resD, resT, go_sem, appendD, Nat.reduceSub, Int.reduceEq, Nat.reduceLT, Nat.reduceDiv, Nat.reduceAdd, Nat.reduceBEq, Nat.reduceLeDiff, reduceCtorEq, Nat.reduceEqDiff, Nat.reduceMod, Try.f67]
 ·simp only [pickL, getL, effL, put, del, Nat.beq_refl, cond_true, cond_false, bij, bik, bjk, bji, bki, bkj, List.take_length]
theorem ins67g (i j k : Nat) (hij : i ≠ j) (hik : i ≠ k) (hjk : j ≠ k) (L : List D) (x : D) (P Q : Bool) (at' c : Nat) (hck : capK c = true) (hat : at' < L.length) (hL : L.length < 1000000) (h1 : L.length ≤ c) (h2 : c < L.length + 1) :
  CallH Try.prog 67 [.ref i 5 0 L.length (some c), .int .i64 (at' : Int), .ref j 5 0 1 (some 1)] [(i, .arr 67 5 P L), (j, .arr 67 5 Q [x])] (.ref k 5 0 (L.length + 1) none) [(k, some (.arr 67 5 (P && Q) (L.take at' ++ x :: L.drop at'))), (i, none)] (k, k + 1) := by
 obtain rfl : c = L.length := by omega
 have hck2 := hck
 have bij : Nat.beq i j = false := beq_ne hij
 have bik : Nat.beq i k = false := beq_ne hik
 have bjk : Nat.beq j k = false := beq_ne hjk
 have bji : Nat.beq j i = false := beq_ne (Ne.symm hij)
 have bki : Nat.beq k i = false := beq_ne (Ne.symm hik)
 have bkj : Nat.beq k j = false := beq_ne (Ne.symm hjk)
 have hw : wr .i64 ((L.length : Int) + ((1 : Nat) : Int)) = ((L.length + 1 : Nat) : Int) := wr_eq _ _ (by show (-9223372036854775808 : Int) ≤ _; omega) (by show _ ≤ (9223372036854775807 : Int); omega)
 have hw2 : wr .i64 (((L.length + 1 : Nat) : Int) - (at' : Int)) = ((L.length + 1 - at' : Nat) : Int) := by
  rw [wr_eq _ _ (by show (-9223372036854775808 : Int) ≤ _; omega) (by show _ ≤ (9223372036854775807 : Int); omega)]
  omega
 have hw3 : wr .i64 ((at' : Int) + ((1 : Nat) : Int)) = ((at' + 1 : Nat) : Int) := wr_eq _ _ (by show (-9223372036854775808 : Int) ≤ _; omega) (by show _ ≤ (9223372036854775807 : Int); omega)
 have ha : at' + (L.length + 1 - at') = L.length + 1 := by omega
 have pq : (P && Q && P) = (P && Q) := by cases P <;> cases Q <;> rfl
 have hm1 : Nat.min 1 (L.length + 1 - at') = 1 := by show min 1 (L.length + 1 - at') = 1; omega
 have hm2 : Nat.min (L.length - at') (L.length + 1 - (at' + 1)) = L.length - at' := by show min (L.length - at') (L.length + 1 - (at' + 1)) = L.length - at'; omega
 have tk : (L.take at').length = at' := by simp; omega
 have e1 : List.take at' (List.take at' L ++ List.replicate (L.length + 1 - at') (D.agg [D.int .i64 0, D.int .i64 0, D.int .i64 0, D.int .i64 0, D.str []])) = List.take at' L := by
  rw [List.take_append_of_le_length (by omega), List.take_of_length_le (by omega)]
 have e2 : List.drop (at' + 1) (List.take at' L ++ List.replicate (L.length + 1 - at') (D.agg [D.int .i64 0, D.int .i64 0, D.int .i64 0, D.int .i64 0, D.str []])) = List.replicate (L.length - at') (D.agg [D.int .i64 0, D.int .i64 0, D.int .i64 0, D.int .i64 0, D.str []]) := by
  rw [List.drop_append, List.drop_eq_nil_of_le (by omega), tk, List.nil_append, List.drop_replicate]
  congr 1; omega
 have e3 : List.take (at' + 1) (List.take at' L ++ [x] ++ List.replicate (L.length - at') (D.agg [D.int .i64 0, D.int .i64 0, D.int .i64 0, D.int .i64 0, D.str []])) = List.take at' L ++ [x] := by
  rw [List.take_append_of_le_length (by simp; omega), List.take_of_length_le (by simp; omega)]
 have e4 : List.drop (at' + 1 + (L.length - at')) (List.take at' L ++ [x] ++ List.replicate (L.length - at') (D.agg [D.int .i64 0, D.int .i64 0, D.int .i64 0, D.int .i64 0, D.str []])) = [] := List.drop_eq_nil_of_le (by simp; omega)
 have e5 : List.take (L.length - at') (List.drop at' L) = List.drop at' L := List.take_of_length_le (by simp)
 have l1 : (List.take at' L ++ List.replicate (L.length + 1 - at') (D.agg [D.int .i64 0, D.int .i64 0, D.int .i64 0, D.int .i64 0, D.str []])).length = L.length + 1 := by simp; omega
 have l2 : (List.take at' L ++ [x] ++ List.replicate (L.length - at') (D.agg [D.int .i64 0, D.int .i64 0, D.int .i64 0, D.int .i64 0, D.str []])).length = L.length + 1 := by simp; omega
 refine callH_intro' Try.tmOk Try.func67 rfl (by decide) (Nat.le_of_ble_eq_true rfl) (by simp) ?_
 intro hwf
 refine .seq ?_
 refine .plain Try.tmOk Try.tmMixed [0, 1, 2] (by decide +kernel) (by intro q hq; simp only [go_sem, appendD, Nat.reduceSub, Int.reduceEq, Nat.reduceLT, Nat.reduceDiv, Nat.reduceAdd, Nat.reduceBEq, Nat.reduceLeDiff, reduceCtorEq, Nat.reduceEqDiff, Nat.reduceMod, hck]; exact hq) (by first | rfl | (simp only [go_sem, Nat.reduceLeDiff]; done) | (simp only [go_sem, Nat.reduceLeDiff]; rfl) | (simp; done) | (simp [oneD] <;> omega) | (simp_all; done) | (simp_all [oneD] <;> omega)) (by first | exact Nat.le_refl _ | exact Nat.le_of_ble_eq_true rfl | (dsimp only; omega) | (simp <;> omega)) ?_
 refine .seq ?_
 refine .plain Try.tmOk Try.tmMixed [0, 1, 2] (by decide +kernel) (by intro q hq; simp only [go_sem, appendD, Nat.reduceSub, Int.reduceEq, Nat.reduceLT, Nat.reduceDiv, Nat.reduceAdd, Nat.reduceBEq, Nat.reduceLeDiff, reduceCtorEq, Nat.reduceEqDiff, Nat.reduceMod, Try.tm_23, Try.tm_3, hck]; exact hq) (by first | rfl | (simp only [go_sem, Nat.reduceLeDiff]; done) | (simp only [go_sem, Nat.reduceLeDiff]; rfl) | (simp; done) | (simp [oneD] <;> omega) | (simp_all; done) | (simp_all [oneD] <;> omega)) (by first | exact Nat.le_refl _ | exact Nat.le_of_ble_eq_true rfl | (dsimp only; omega) | (simp <;> omega)) ?_
 refine .seq ?_
 refine .plain Try.tmOk Try.tmMixed [0, 1, 2] (by decide +kernel) (by intro q hq; simp only [go_sem, appendD, Nat.reduceSub, Int.reduceEq, Nat.reduceLT, Nat.reduceDiv, Nat.reduceAdd, Nat.reduceBEq, Nat.reduceLeDiff, reduceCtorEq, Nat.reduceEqDiff, Nat.reduceMod, Try.tm_23, Try.tm_3, hck]; exact hq) (by first | rfl | (simp only [go_sem, Nat.reduceLeDiff]; done) | (simp only [go_sem, Nat.reduceLeDiff]; rfl) | (simp; done) | (simp [oneD] <;> omega) | (simp_all; done) | (simp_all [oneD] <;> omega)) (by first | exact Nat.le_refl _ | exact Nat.le_of_ble_eq_true rfl | (dsimp only; omega) | (simp <;> omega)) ?_
 refine .seq ?_
 refine .seq ?_
 refine .plain Try.tmOk Try.tmMixed [0, 1, 2, 7] (by decide +kernel) (by intro q hq; simp only [go_sem, appendD, Nat.reduceSub, Int.reduceEq, Nat.reduceLT, Nat.reduceDiv, Nat.reduceAdd, Nat.reduceBEq, Nat.reduceLeDiff, reduceCtorEq, Nat.reduceEqDiff, Nat.reduceMod, Try.tm_23, Try.tm_3, hck]; exact hq) (by first | rfl | (simp only [go_sem, Nat.reduceLeDiff]; done) | (simp only [go_sem, Nat.reduceLeDiff]; rfl) | (simp; done) | (simp [oneD] <;> omega) | (simp_all; done) | (simp_all [oneD] <;> omega)) (by first | exact Nat.le_refl _ | exact Nat.le_of_ble_eq_true rfl | (dsimp only; omega) | (simp <;> omega)) ?_
 refine .cond rfl rfl (fun hc => by simp at hc) (fun hc => ?_)
 refine .skip ?_
 refine .seq ?_
 refine .plain Try.tmOk Try.tmMixed [0, 1, 2, 7] (by decide +kernel) (by intro q hq; simp only [go_sem, appendD, Nat.reduceSub, Int.reduceEq, Nat.reduceLT, Nat.reduceDiv, Nat.reduceAdd, Nat.reduceBEq, Nat.reduceLeDiff, reduceCtorEq, Nat.reduceEqDiff, Nat.reduceMod, Try.tm_23, Try.tm_3, hck]; exact hq) (by first | rfl | (simp only [go_sem, Nat.reduceLeDiff]; done) | (simp only [go_sem, Nat.reduceLeDiff]; rfl) | (simp; done) | (simp [oneD] <;> omega) | (simp_all; done) | (simp_all [oneD] <;> omega)) (by first | exact Nat.le_refl _ | exact Nat.le_of_ble_eq_true rfl | (dsimp only; omega) | (simp <;> omega)) ?_
 refine .seq ?_
 refine .seq ?_
 refine .plain Try.tmOk Try.tmMixed [0, 1, 2, 7, 8] (by decide +kernel) (by intro q hq; simp only [go_sem, appendD, Nat.reduceSub, Int.reduceEq, Nat.reduceLT, Nat.reduceDiv, Nat.reduceAdd, Nat.reduceBEq, Nat.reduceLeDiff, reduceCtorEq, Nat.reduceEqDiff, Nat.reduceMod, Try.tm_23, Try.tm_3, hck]; exact hq) (by first | rfl | (simp only [go_sem, Nat.reduceLeDiff]; done) | (simp only [go_sem, Nat.reduceLeDiff]; rfl) | (simp; done) | (simp [oneD] <;> omega) | (simp_all; done) | (simp_all [oneD] <;> omega)) (by first | exact Nat.le_refl _ | exact Nat.le_of_ble_eq_true rfl | (dsimp only; omega) | (simp <;> omega)) ?_
 refine .cond rfl rfl (fun hc => by simp at hc; omega) (fun hc => ?_)
 refine .skip ?_
 refine .seq ?_
 refine .seq ?_
 refine .plain Try.tmOk Try.tmMixed [0, 1, 2, 7, 8] (by decide +kernel) (by intro q hq; simp only [go_sem, appendD, Nat.reduceSub, Int.reduceEq, Nat.reduceLT, Nat.reduceDiv, Nat.reduceAdd, Nat.reduceBEq, Nat.reduceLeDiff, reduceCtorEq, Nat.reduceEqDiff, Nat.reduceMod, Try.tm_23, Try.tm_3, hck, hw]; exact hq) (by first | rfl | (simp only [go_sem, Nat.reduceLeDiff]; done) | (simp only [go_sem, Nat.reduceLeDiff]; rfl) | (simp; done) | (simp [oneD] <;> omega) | (simp_all; done) | (simp_all [oneD] <;> omega)) (by first | exact Nat.le_refl _ | exact Nat.le_of_ble_eq_true rfl | (dsimp only; omega) | (simp <;> omega)) ?_
 refine .cond rfl rfl (fun hc => ?_) (fun hc => by simp at hc; omega)
 refine .seq ?_
 refine .plain Try.tmOk Try.tmMixed [0, 1, 2, 7, 8] (by decide +kernel) (by intro q hq; simp only [go_sem, appendD, Nat.reduceSub, Int.reduceEq, Nat.reduceLT, Nat.reduceDiv, Nat.reduceAdd, Nat.reduceBEq, Nat.reduceLeDiff, reduceCtorEq, Nat.reduceEqDiff, Nat.reduceMod, Try.tm_23, Try.tm_3, hck, hw, hw2, ha, appendZ, Int.sub_zero, Int.toNat_zero, Int.toNat_sub, bij, bik, bjk, bji, bki, bkj]; exact hq) (by first | rfl | (simp only [go_sem, Nat.reduceLeDiff]; done) | (simp only [go_sem, Nat.reduceLeDiff]; rfl) | (simp; done) | (simp [oneD] <;> omega) | (simp_all; done) | (simp_all [oneD] <;> omega)) (by first | exact Nat.le_refl _ | exact Nat.le_of_ble_eq_true rfl | (dsimp only; omega) | (simp <;> omega)) ?_
 refine .seq ?_
 refine .plain Try.tmOk Try.tmMixed [0, 1, 2, 7, 8, 9] (by decide +kernel) (by intro q hq; simp only [go_sem, appendD, Nat.reduceSub, Int.reduceEq, Nat.reduceLT, Nat.reduceDiv, Nat.reduceAdd, Nat.reduceBEq, Nat.reduceLeDiff, reduceCtorEq, Nat.reduceEqDiff, Nat.reduceMod, Try.tm_23, Try.tm_3, hck, hw, hw2, ha, appendZ, Int.sub_zero, Int.toNat_zero, Int.toNat_sub, bij, bik, bjk, bji, bki, bkj, Int.toNat_sub, hm1, e1, e2, List.take_one, List.take_succ_cons]; exact hq) (by first | rfl | (simp only [go_sem, Nat.reduceLeDiff]; done) | (simp only [go_sem, Nat.reduceLeDiff]; rfl) | (simp; done) | (simp [oneD] <;> omega) | (simp_all; done) | (simp_all [oneD] <;> omega)) (by first | exact Nat.le_refl _ | exact Nat.le_of_ble_eq_true rfl | (dsimp only; omega) | (simp <;> omega)) ?_
 refine .seq ?_
 refine .drawn Try.tmOk Try.tmMixed [0, 1, 2, 7, 8, 9] (by decide +kernel) (by intro q hq; simp only [go_sem, appendD, Nat.reduceSub, Int.reduceEq, Nat.reduceLT, Nat.reduceDiv, Nat.reduceAdd, Nat.reduceBEq, Nat.reduceLeDiff, reduceCtorEq, Nat.reduceEqDiff, Nat.reduceMod, Try.tm_23, Try.tm_3, hck, hw, hw2, hw3, ha, appendZ, capS, bij, bik, bjk, bji, bki, bkj, Int.toNat_sub, hm1, hm2, e3, e4, e5]; exact hq) (schedB_of (by kernel_rfl)) (by first | rfl | (simp only [go_sem, Nat.reduceLeDiff]; done) | (simp only [go_sem, Nat.reduceLeDiff]; rfl) | (simp; done) | (simp [oneD] <;> omega) | (simp_all; done) | (simp_all [oneD] <;> omega)) (by first | exact Nat.le_refl _ | exact Nat.le_of_ble_eq_true rfl | (dsimp only; omega) | (simp <;> omega)) ?_
 refine .seq ?_
 refine .plain Try.tmOk Try.tmMixed [9] (by decide +kernel) (by intro q hq; simp only [go_sem, appendD, Nat.reduceSub, Int.reduceEq, Nat.reduceLT, Nat.reduceDiv, Nat.reduceAdd, Nat.reduceBEq, Nat.reduceLeDiff, reduceCtorEq, Nat.reduceEqDiff, Nat.reduceMod, Try.tm_23, Try.tm_3, hck]; exact hq) (by first | rfl | (simp only [go_sem, Nat.reduceLeDiff]; done) | (simp only [go_sem, Nat.reduceLeDiff]; rfl) | (simp; done) | (simp [oneD] <;> omega) | (simp_all; done) | (simp_all [oneD] <;> omega)) (by first | exact Nat.le_refl _ | exact Nat.le_of_ble_eq_true rfl | (dsimp only; omega) | (simp <;> omega)) ?_
 refine .ret ⟨.inr rfl, retH [j, k] ?_ ?_⟩
 ·simp only [ResIs, resL, resD, resT, go_sem, appendD, Nat.reduceSub, Int.reduceEq, Nat.reduceLT, Nat.reduceDiv, Nat.reduceAdd, Nat.reduceBEq, Nat.reduceLeDiff, reduceCtorEq, Nat.reduceEqDiff, Nat.reduceMod, Try.f67]
 ·simp only [pickL, getL, effL, put, del, Nat.beq_refl, cond_true, cond_false, bij, bik, bjk, bji, bki, bkj, pq, List.append_assoc, List.singleton_append, List.append_nil]
theorem ins67r (i j k : Nat) (hij : i ≠ j) (L : List D) (x : D) (P Q : Bool) (at' c : Nat) (hck : capK c = true) (hat : at' < L.length) (hL : L.length < 1000000) (h1 : L.length + 1 ≤ c) :
  CallH Try.prog 67 [.ref i 5 0 L.length (some c), .int .i64 (at' : Int), .ref j 5 0 1 (some 1)] [(i, .arr 67 5 P L), (j, .arr 67 5 Q [x])] (.ref i 5 0 (L.length + 1) (some c)) [(i, some (.arr 67 5 (P && Q) (L.take at' ++ x :: L.drop at')))] (k, k) := by
 have bij : Nat.beq i j = false := beq_ne hij
 have bji : Nat.beq j i = false := beq_ne (Ne.symm hij)
 have hw : wr .i64 ((L.length : Int) + ((1 : Nat) : Int)) = ((L.length + 1 : Nat) : Int) := wr_eq _ _ (by show (-9223372036854775808 : Int) ≤ _; omega) (by show _ ≤ (9223372036854775807 : Int); omega)
 have hw3 : wr .i64 ((at' : Int) + ((1 : Nat) : Int)) = ((at' + 1 : Nat) : Int) := wr_eq _ _ (by show (-9223372036854775808 : Int) ≤ _; omega) (by show _ ≤ (9223372036854775807 : Int); omega)
 have hm1 : Nat.min 1 (L.length + 1 - at') = 1 := by show min 1 (L.length + 1 - at') = 1; omega
 have hm2 : Nat.min (L.length + 1 - at') (L.length + 1 - (at' + 1)) = L.length - at' := by show min (L.length + 1 - at') (L.length + 1 - (at' + 1)) = L.length - at'; omega
 have hn1 : L.length + 1 - (at' + 1) = (L.length - at' - 1) + 1 := by omega
 have tk : (L.take at').length = at' := by simp; omega
 have tk1 : (L.take (at' + 1)).length = at' + 1 := by simp; omega
 have e5 : List.take (L.length - at') (List.drop at' L) = List.drop at' L := List.take_of_length_le (by simp)
 have e4 : List.drop (at' + 1 + (L.length - at')) L = [] := List.drop_eq_nil_of_le (by omega)
 have e1 : List.take at' (List.take (at' + 1) L ++ List.drop at' L) = List.take at' L := by
  rw [List.take_append_of_le_length (by omega), List.take_take]
  congr 1; omega
 have e2 : List.drop (at' + 1) (List.take (at' + 1) L ++ List.drop at' L) = List.drop at' L := by
  rw [List.drop_append, List.drop_eq_nil_of_le (by omega), tk1, Nat.sub_self, List.drop_zero, List.nil_append]
 refine callH_intro' Try.tmOk Try.func67 rfl (by decide) (Nat.le_of_ble_eq_true rfl) (by simp) ?_
 intro hwf
 refine .seq ?_
 refine .plain Try.tmOk Try.tmMixed [0, 1, 2] (by decide +kernel) (by intro q hq; simp only [go_sem, appendD, Nat.reduceSub, Int.reduceEq, Nat.reduceLT, Nat.reduceDiv, Nat.reduceAdd, Nat.reduceBEq, Nat.reduceLeDiff, reduceCtorEq, Nat.reduceEqDiff, Nat.reduceMod, hck]; exact hq) (by first | rfl | (simp only [go_sem, Nat.reduceLeDiff]; done) | (simp only [go_sem, Nat.reduceLeDiff]; rfl) | (simp; done) | (simp [oneD] <;> omega) | (simp_all; done) | (simp_all [oneD] <;> omega)) (by first | exact Nat.le_refl _ | exact Nat.le_of_ble_eq_true rfl | (dsimp only; omega) | (simp <;> omega)) ?_
 refine .seq ?_
 refine .plain Try.tmOk Try.tmMixed [0, 1, 2] (by decide +kernel) (by intro q hq; simp only [go_sem, appendD, Nat.reduceSub, Int.reduceEq, Nat.reduceLT, Nat.reduceDiv, Nat.reduceAdd, Nat.reduceBEq, Nat.reduceLeDiff, reduceCtorEq, Nat.reduceEqDiff, Nat.reduceMod, Try.tm_23, Try.tm_3, hck]; exact hq) (by first | rfl | (simp only [go_sem, Nat.reduceLeDiff]; done) | (simp only [go_sem, Nat.reduceLeDiff]; rfl) | (simp; done) | (simp [oneD] <;> omega) | (simp_all; done) | (simp_all [oneD] <;> omega)) (by first | exact Nat.le_refl _ | exact Nat.le_of_ble_eq_true rfl | (dsimp only; omega) | (simp <;> omega)) ?_
 refine .seq ?_
 refine .plain Try.tmOk Try.tmMixed [0, 1, 2] (by decide +kernel) (by intro q hq; simp only [go_sem, appendD, Nat.reduceSub, Int.reduceEq, Nat.reduceLT, Nat.reduceDiv, Nat.reduceAdd, Nat.reduceBEq, Nat.reduceLeDiff, reduceCtorEq, Nat.reduceEqDiff, Nat.reduceMod, Try.tm_23, Try.tm_3, hck]; exact hq) (by first | rfl | (simp only [go_sem, Nat.reduceLeDiff]; done) | (simp only [go_sem, Nat.reduceLeDiff]; rfl) | (simp; done) | (simp [oneD] <;> omega) | (simp_all; done) | (simp_all [oneD] <;> omega)) (by first | exact Nat.le_refl _ | exact Nat.le_of_ble_eq_true rfl | (dsimp only; omega) | (simp <;> omega)) ?_
 refine .seq ?_
 refine .seq ?_
 refine .plain Try.tmOk Try.tmMixed [0, 1, 2, 7] (by decide +kernel) (by intro q hq; simp only [go_sem, appendD, Nat.reduceSub, Int.reduceEq, Nat.reduceLT, Nat.reduceDiv, Nat.reduceAdd, Nat.reduceBEq, Nat.reduceLeDiff, reduceCtorEq, Nat.reduceEqDiff, Nat.reduceMod, Try.tm_23, Try.tm_3, hck]; exact hq) (by first | rfl | (simp only [go_sem, Nat.reduceLeDiff]; done) | (simp only [go_sem, Nat.reduceLeDiff]; rfl) | (simp; done) | (simp [oneD] <;> omega) | (simp_all; done) | (simp_all [oneD] <;> omega)) (by first | exact Nat.le_refl _ | exact Nat.le_of_ble_eq_true rfl | (dsimp only; omega) | (simp <;> omega)) ?_
 refine .cond rfl rfl (fun hc => by simp at hc) (fun hc => ?_)
 refine .skip ?_
 refine .seq ?_
 refine .plain Try.tmOk Try.tmMixed [0, 1, 2, 7] (by decide +kernel) (by intro q hq; simp only [go_sem, appendD, Nat.reduceSub, Int.reduceEq, Nat.reduceLT, Nat.reduceDiv, Nat.reduceAdd, Nat.reduceBEq, Nat.reduceLeDiff, reduceCtorEq, Nat.reduceEqDiff, Nat.reduceMod, Try.tm_23, Try.tm_3, hck]; exact hq) (by first | rfl | (simp only [go_sem, Nat.reduceLeDiff]; done) | (simp only [go_sem, Nat.reduceLeDiff]; rfl) | (simp; done) | (simp [oneD] <;> omega) | (simp_all; done) | (simp_all [oneD] <;> omega)) (by first | exact Nat.le_refl _ | exact Nat.le_of_ble_eq_true rfl | (dsimp only; omega) | (simp <;> omega)) ?_
 refine .seq ?_
 refine .seq ?_
 refine .plain Try.tmOk Try.tmMixed [0, 1, 2, 7, 8] (by decide +kernel) (by intro q hq; simp only [go_sem, appendD, Nat.reduceSub, Int.reduceEq, Nat.reduceLT, Nat.reduceDiv, Nat.reduceAdd, Nat.reduceBEq, Nat.reduceLeDiff, reduceCtorEq, Nat.reduceEqDiff, Nat.reduceMod, Try.tm_23, Try.tm_3, hck]; exact hq) (by first | rfl | (simp only [go_sem, Nat.reduceLeDiff]; done) | (simp only [go_sem, Nat.reduceLeDiff]; rfl) | (simp; done) | (simp [oneD] <;> omega) | (simp_all; done) | (simp_all [oneD] <;> omega)) (by first | exact Nat.le_refl _ | exact Nat.le_of_ble_eq_true rfl | (dsimp only; omega) | (simp <;> omega)) ?_
 refine .cond rfl rfl (fun hc => by simp at hc; omega) (fun hc => ?_)
 refine .skip ?_
 refine .seq ?_
 refine .seq ?_
 refine .plain Try.tmOk Try.tmMixed [0, 1, 2, 7, 8] (by decide +kernel) (by intro q hq; simp only [go_sem, appendD, Nat.reduceSub, Int.reduceEq, Nat.reduceLT, Nat.reduceDiv, Nat.reduceAdd, Nat.reduceBEq, Nat.reduceLeDiff, reduceCtorEq, Nat.reduceEqDiff, Nat.reduceMod, Try.tm_23, Try.tm_3, hck, hw]; exact hq) (by first | rfl | (simp only [go_sem, Nat.reduceLeDiff]; done) | (simp only [go_sem, Nat.reduceLeDiff]; rfl) | (simp; done) | (simp [oneD] <;> omega) | (simp_all; done) | (simp_all [oneD] <;> omega)) (by first | exact Nat.le_refl _ | exact Nat.le_of_ble_eq_true rfl | (dsimp only; omega) | (simp <;> omega)) ?_
 refine .cond rfl rfl (fun hc => by simp at hc; omega) (fun hc => ?_)
 refine .skip ?_
 refine .seq ?_
 refine .plain Try.tmOk Try.tmMixed [0, 1, 2, 7, 8] (by decide +kernel) (by intro q hq; simp only [go_sem, appendD, Nat.reduceSub, Int.reduceEq, Nat.reduceLT, Nat.reduceDiv, Nat.reduceAdd, Nat.reduceBEq, Nat.reduceLeDiff, reduceCtorEq, Nat.reduceEqDiff, Nat.reduceMod, Try.tm_23, Try.tm_3, hck, hw, roomV, Option.isSome, Int.sub_zero, Int.toNat_zero, Nat.sub_zero, bij, bji]; exact hq) (by first | rfl | (simp only [go_sem, Nat.reduceLeDiff]; done) | (simp only [go_sem, Nat.reduceLeDiff]; rfl) | (simp; done) | (simp [oneD] <;> omega) | (simp_all; done) | (simp_all [oneD] <;> omega)) (by first | exact Nat.le_refl _ | exact Nat.le_of_ble_eq_true rfl | (dsimp only; omega) | (simp <;> omega)) ?_
 refine .seq ?_
 refine .seq ?_
 refine .reg Try.tmOk Try.tmMixed [0, 1, 2, 7] (by decide +kernel) ?_
 refine .R (dr := false) (.inr fun _ _ _ h => ⟨nofun, h.2⟩) (by intro q hq; simp only [go_sem, appendD, Nat.reduceSub, Int.reduceEq, Nat.reduceLT, Nat.reduceDiv, Nat.reduceAdd, Nat.reduceBEq, Nat.reduceLeDiff, reduceCtorEq, Nat.reduceEqDiff, Nat.reduceMod, Try.tm_23, Try.tm_3, hck, hw3, Int.toNat_sub, bij, bji]; exact hq) (by first | rfl | (simp only [go_sem, Nat.reduceLeDiff]; done) | (simp only [go_sem, Nat.reduceLeDiff]; rfl) | (simp; done) | (simp [oneD] <;> omega) | (simp_all; done) | (simp_all [oneD] <;> omega)) (by first | exact Nat.le_refl _ | exact Nat.le_of_ble_eq_true rfl | (dsimp only; omega) | (simp <;> omega)) ?_
 refine .overs (i := j) (j := i) rfl rfl rfl rfl rfl overs84 ⟨5, 0, 0, some 1, 5 - 1, at' + 1, L.length - at' - 1, some (c - (at' + 1)), 67, 5, Q, [x], 67, 5, P, L, by
  show [D.ref j 5 0 1 (some 1), D.ref i 5 (at' + 1) (L.length + 1 - (at' + 1)) (some (c - (at' + 1)))] = _
  rw [hn1], by simp only [getL, bij, cond_false, Nat.beq_refl, cond_true], by simp only [getL, Nat.beq_refl, cond_true], Ne.symm hij⟩ ?_
 refine .R (dr := false) (.inr fun _ _ _ h => ⟨nofun, h.2⟩) (by intro q hq; simp only [go_sem, appendD, Nat.reduceSub, Int.reduceEq, Nat.reduceLT, Nat.reduceDiv, Nat.reduceAdd, Nat.reduceBEq, Nat.reduceLeDiff, reduceCtorEq, Nat.reduceEqDiff, Nat.reduceMod, Try.tm_23, Try.tm_3, hck]; exact hq) (by first | rfl | (simp only [go_sem, Nat.reduceLeDiff]; done) | (simp only [go_sem, Nat.reduceLeDiff]; rfl) | (simp; done) | (simp [oneD] <;> omega) | (simp_all; done) | (simp_all [oneD] <;> omega)) (by first | exact Nat.le_refl _ | exact Nat.le_of_ble_eq_true rfl | (dsimp only; omega) | (simp <;> omega)) ?_
 refine .nil ⟨nofun, ?_⟩
 refine .cond rfl rfl (fun hc => ?_) (fun hc => by cases hc)
 refine .seq ?_
 refine .drawn Try.tmOk Try.tmMixed [0, 1, 2, 7] (by decide +kernel) (by intro q hq; simp only [go_sem, appendD, Nat.reduceSub, Int.reduceEq, Nat.reduceLT, Nat.reduceDiv, Nat.reduceAdd, Nat.reduceBEq, Nat.reduceLeDiff, reduceCtorEq, Nat.reduceEqDiff, Nat.reduceMod, Try.tm_23, Try.tm_3, hck, hw3, Int.toNat_sub, hm2, e4, e5, bij, bji, Bool.and_self, List.append_nil]; exact hq) (schedB_of (by kernel_rfl)) (by first | rfl | (simp only [go_sem, Nat.reduceLeDiff]; done) | (simp only [go_sem, Nat.reduceLeDiff]; rfl) | (simp; done) | (simp [oneD] <;> omega) | (simp_all; done) | (simp_all [oneD] <;> omega)) (by first | exact Nat.le_refl _ | exact Nat.le_of_ble_eq_true rfl | (dsimp only; omega) | (simp <;> omega)) ?_
 refine .seq ?_
 refine .plain Try.tmOk Try.tmMixed [0, 1, 2] (by decide +kernel) (by intro q hq; simp only [go_sem, appendD, Nat.reduceSub, Int.reduceEq, Nat.reduceLT, Nat.reduceDiv, Nat.reduceAdd, Nat.reduceBEq, Nat.reduceLeDiff, reduceCtorEq, Nat.reduceEqDiff, Nat.reduceMod, Try.tm_23, Try.tm_3, hck, Int.toNat_sub, hm1, e1, e2, bij, bji, List.take_succ_cons]; exact hq) (by first | rfl | (simp only [go_sem, Nat.reduceLeDiff]; done) | (simp only [go_sem, Nat.reduceLeDiff]; rfl) | (simp; done) | (simp [oneD] <;> omega) | (simp_all; done) | (simp_all [oneD] <;> omega)) (by first | exact Nat.le_refl _ | exact Nat.le_of_ble_eq_true rfl | (dsimp only; omega) | (simp <;> omega)) ?_
 refine .seq ?_
 refine .plain Try.tmOk Try.tmMixed [0] (by decide +kernel) (by intro q hq; simp only [go_sem, appendD, Nat.reduceSub, Int.reduceEq, Nat.reduceLT, Nat.reduceDiv, Nat.reduceAdd, Nat.reduceBEq, Nat.reduceLeDiff, reduceCtorEq, Nat.reduceEqDiff, Nat.reduceMod, Try.tm_23, Try.tm_3, hck]; exact hq) (by first | rfl | (simp only [go_sem, Nat.reduceLeDiff]; done) | (simp only [go_sem, Nat.reduceLeDiff]; rfl) | (simp; done) | (simp [oneD] <;> omega) | (simp_all; done) | (simp_all [oneD] <;> omega)) (by first | exact Nat.le_refl _ | exact Nat.le_of_ble_eq_true rfl | (dsimp only; omega) | (simp <;> omega)) ?_
 refine .ret ⟨.inr rfl, retH [i, j] ?_ ?_⟩
 ·simp only [ResIs, resL, resD, resT, go_sem, appendD, Nat.reduceSub, Int.reduceEq, Nat.reduceLT, Nat.reduceDiv, Nat.reduceAdd, Nat.reduceBEq, Nat.reduceLeDiff, reduceCtorEq, Nat.reduceEqDiff, Nat.reduceMod, Try.f67]
 ·simp only [pickL, getL, effL, put, del, Nat.beq_refl, cond_true, cond_false, bij, bji, List.append_assoc, List.singleton_append, List.append_nil]
theorem ins67 (i j k : Nat) (hij : i ≠ j) (hik : i ≠ k) (hjk : j ≠ k) (L : List D) (x : D) (P Q : Bool) (at' : Nat) (hat : at' ≤ L.length) (hL : L.length < 1000000) :
  CallH Try.prog 67 [.ref i 5 0 L.length (some unkC), .int .i64 (at' : Int), .ref j 5 0 1 (some 1)] [(i, .arr 67 5 P L), (j, .arr 67 5 Q [x])] (.ref k 5 0 (L.length + 1) (some unkC)) [(k, some (.arr 67 5 (P && Q) (L.take at' ++ x :: L.drop at'))), (i, none)] (k, k + 1) := by
 by_cases h : at' = L.length
 ·subst h
  have := ins67e i j k hij hik hjk L x P Q hL
  rw [List.take_length, List.drop_length]
  exact this
 ·exact callH_capW (l := L) (p := P) (ins67e i j k hij hik hjk L x P Q hL).1 (by simp only [getL, Nat.beq_refl, cond_true]) hik (by omega)
   (fun c hc _ h2 => ins67r i j k hij L x P Q at' c hc (by omega) hL h2)
   (fun c hc h1 h2 => ins67g i j k hij hik hjk L x P Q at' c hc (by omega) hL h1 h2)
end Go.Proofs
end
section
namespace Go.Proofs
open Go.Tm
theorem insT67 (i j k : Nat) (hij : i ≠ j) (hik : i ≠ k) (hjk : j ≠ k) (l : List TSeen) (x : TSeen) (at' : Int) (h : 0 ≤ at' ∧ at' ≤ (l.length : Int)) (hl : l.length < 1000000) :
  CallH Try.prog 67 [.ref i 5 0 l.length (some unkC), .int .i64 at', .ref j 5 0 1 (some 1)] [(i, .arr 67 5 true (l.map TSeen.d)), (j, .arr 67 5 true [x.d])] (.ref k 5 0 (l.take at'.toNat ++ x :: l.drop at'.toNat).length (some unkC)) [(k, some (.arr 67 5 true ((l.take at'.toNat ++ x :: l.drop at'.toNat).map TSeen.d))), (i, none)] (k, k + 1) := by
 have t := ins67 i j k hij hik hjk (l.map TSeen.d) x.d true true at'.toNat (by rw [List.length_map]; omega) (by rw [List.length_map]; exact hl)
 rw [Int.toNat_of_nonneg h.1, List.length_map, take_map, drop_map, ← List.map_cons, ← List.map_append] at t
 have e : l.length + 1 = (l.take at'.toNat ++ x :: l.drop at'.toNat).length := by simp; omega
 rw [e] at t
 exact t
end Go.Proofs
end
section
namespace Go.Proofs
open Go.Tm Go.RowKit Go.WideShapes
set_option maxRecDepth 100000
set_option linter.unusedSimpArgs false
set_option linter.unusedVariables false
attribute [local go_sem] argVars runE runK isCallV stepE aop opd opdsL opds opdO ev ofVal keep List.any natbeq Bool.false_or Bool.true_or aggEq cond_true cond_false Bool.cond_false_right Bool.cond_true_left beq_true beq_false imp_self implies_true getR getL put St.app effL del nwB blt_dec Nat.lt_irrefl Nat.lt_add_one ble_dec Nat.le_refl Nat.beq_refl roomNZ capS mkZ_zero mkZL_zero zeroEl D.ids D.idsL bin arith sarith binT dpick Tm.part splice fillD oneD loadD storeD srcD sliceD idxOk decide_true gval dstAt D.cells List.map_cons List.map_nil List.take List.drop List.length_map List.append Int.toNat_natCast and_true true_and decide_false List.length_cons List.length_nil List.append_nil List.nil_append Bool.and_true Bool.true_and Bool.not_false Bool.not_true ne_eq not_false_eq_true BEq.rfl List.getElem?_cons_zero List.getElem?_cons_succ List.getElem?_nil Nat.zero_add List.all_cons List.all_nil List.isEmpty_cons List.isEmpty_nil Option.getD_some Option.getD_none List.any_cons List.any_nil List.drop_succ_cons List.drop_zero unfL unf okM okML low3 List.cons_append true_or or_true Nat.zero_mul Nat.zero_le fpOf opIds
theorem del66r (i k : Nat) (L : List D) (P : Bool) (at' c : Nat) (hck : capK c = true) (hat : at' < L.length) (hL : L.length < 1000000) (h1 : L.length ≤ c) :
  CallH Try.prog 66 [.ref i 5 0 L.length (some c), .int .i64 (at' : Int), .int .i64 ((at' + 1 : Nat) : Int)] [(i, .arr 67 5 P L)] (.ref i 5 0 (L.length - 1) (some c)) [(i, some (.arr 67 5 P (L.take at' ++ L.drop (at' + 1))))] (k, k) := by
 have e5 : List.take (L.length - (at' + 1)) (List.drop (at' + 1) L) = List.drop (at' + 1) L := List.take_of_length_le (by simp)
 have hl : at' + (L.drop (at' + 1)).length = L.length - 1 := by simp; omega
 have hm : Nat.blt at' L.length = true := Nat.ble_eq_true_of_le hat
 have hcL : L.length - 1 ≤ c := by omega
 have hm2 : at' < L.length := hat
 have hne : ¬ ((at' : Int) = ((at' + 1 : Nat) : Int)) := by omega
 have ha : Nat.beq at' (at' + 1) = false := beq_ne (by omega)
 have l1 : (L.take at' ++ L.drop (at' + 1)).length = L.length - 1 := by simp; omega
 have l2 : (L.take at' ++ L.drop (at' + 1) ++ L.drop (L.length - 1)).length = L.length := by simp; omega
 have t1 : List.take (L.length - 1) (L.take at' ++ L.drop (at' + 1) ++ L.drop (L.length - 1)) = L.take at' ++ L.drop (at' + 1) := by
  rw [List.take_append_of_le_length (by omega), List.take_of_length_le (by omega)]
 have t2 : ∀ R S : List D, List.take (L.length - 1) (L.take at' ++ L.drop (at' + 1) ++ R ++ S) = L.take at' ++ L.drop (at' + 1) := fun R S => by
  rw [List.append_assoc _ R S, List.take_append_of_le_length (by omega), List.take_of_length_le (by omega)]
 have q1 : Int.toNat ((L.length : Int) - ((L.length - 1 : Nat) : Int)) = 1 := by omega
 have q2 : Int.toNat ((L.length - 1 : Nat) : Int) = L.length - 1 := by omega
 have q3 : Int.toNat (((L.length : Int)) - ((at' + 1 : Nat) : Int)) = L.length - (at' + 1) := by omega
 refine callH_intro' Try.tmOk Try.func66 rfl (by decide) (Nat.le_of_ble_eq_true rfl) (by simp) ?_
 intro hwf
 refine .seq ?_
 refine .plain Try.tmOk Try.tmMixed [0, 1, 2] (by decide +kernel) (by intro q hq; simp only [go_sem, appendD, Nat.reduceSub, Int.reduceEq, Nat.reduceLT, Nat.reduceDiv, Nat.reduceAdd, Nat.reduceBEq, Nat.reduceLeDiff, reduceCtorEq, Nat.reduceEqDiff, Nat.reduceMod, hck]; exact hq) (by first | rfl | (simp only [go_sem, Nat.reduceLeDiff]; done) | (simp only [go_sem, Nat.reduceLeDiff]; rfl) | (simp; done) | (simp [oneD] <;> omega) | (simp_all; done) | (simp_all [oneD] <;> omega)) (by first | exact Nat.le_refl _ | exact Nat.le_of_ble_eq_true rfl | (dsimp only; omega) | (simp <;> omega)) ?_
 refine .seq ?_
 refine .plain Try.tmOk Try.tmMixed [0, 1, 2] (by decide +kernel) (by intro q hq; simp only [go_sem, appendD, Nat.reduceSub, Int.reduceEq, Nat.reduceLT, Nat.reduceDiv, Nat.reduceAdd, Nat.reduceBEq, Nat.reduceLeDiff, reduceCtorEq, Nat.reduceEqDiff, Nat.reduceMod, Try.tm_23, Try.tm_3, hck, slice3D, opdO]; exact hq) (by first | rfl | (simp only [go_sem, Nat.reduceLeDiff]; done) | (simp only [go_sem, Nat.reduceLeDiff]; rfl) | (simp; done) | (simp [oneD] <;> omega) | (simp_all; done) | (simp_all [oneD] <;> omega)) (by first | exact Nat.le_refl _ | exact Nat.le_of_ble_eq_true rfl | (dsimp only; omega) | (simp <;> omega)) ?_
 refine .seq ?_
 refine .seq ?_
 refine .plain Try.tmOk Try.tmMixed [0, 1, 2] (by decide +kernel) (by intro q hq; simp only [go_sem, appendD, Nat.reduceSub, Int.reduceEq, Nat.reduceLT, Nat.reduceDiv, Nat.reduceAdd, Nat.reduceBEq, Nat.reduceLeDiff, reduceCtorEq, Nat.reduceEqDiff, Nat.reduceMod, Try.tm_23, Try.tm_3, hck]; exact hq) (by first | rfl | (simp only [go_sem, Nat.reduceLeDiff]; done) | (simp only [go_sem, Nat.reduceLeDiff]; rfl) | (simp; done) | (simp [oneD] <;> omega) | (simp_all; done) | (simp_all [oneD] <;> omega)) (by first | exact Nat.le_refl _ | exact Nat.le_of_ble_eq_true rfl | (dsimp only; omega) | (simp <;> omega)) ?_
 refine .cond rfl rfl (fun hc => by simp at hc; omega) (fun hc => ?_)
 refine .skip ?_
 refine .seq ?_
 refine .plain Try.tmOk Try.tmMixed [0, 1, 2] (by decide +kernel) (by intro q hq; simp only [go_sem, appendD, Nat.reduceSub, Int.reduceEq, Nat.reduceLT, Nat.reduceDiv, Nat.reduceAdd, Nat.reduceBEq, Nat.reduceLeDiff, reduceCtorEq, Nat.reduceEqDiff, Nat.reduceMod, Try.tm_23, Try.tm_3, hck]; exact hq) (by first | rfl | (simp only [go_sem, Nat.reduceLeDiff]; done) | (simp only [go_sem, Nat.reduceLeDiff]; rfl) | (simp; done) | (simp [oneD] <;> omega) | (simp_all; done) | (simp_all [oneD] <;> omega)) (by first | exact Nat.le_refl _ | exact Nat.le_of_ble_eq_true rfl | (dsimp only; omega) | (simp <;> omega)) ?_
 refine .seq ?_
 refine .drawn Try.tmOk Try.tmMixed [0, 1, 2, 7] (by decide +kernel) (by intro q hq; simp only [go_sem, appendD, Nat.reduceSub, Int.reduceEq, Nat.reduceLT, Nat.reduceDiv, Nat.reduceAdd, Nat.reduceBEq, Nat.reduceLeDiff, reduceCtorEq, Nat.reduceEqDiff, Nat.reduceMod, Try.tm_23, Try.tm_3, hck, hm2, hcL, e5, q3, hl, Bool.and_self, Int.sub_zero, Int.toNat_zero, Nat.sub_zero, appendIn]; exact hq) (schedB_of (by kernel_rfl)) (by first | rfl | (simp only [go_sem, Nat.reduceLeDiff]; done) | (simp only [go_sem, Nat.reduceLeDiff]; rfl) | (simp; done) | (simp [oneD] <;> omega) | (simp_all; done) | (simp_all [oneD] <;> omega)) (by first | exact Nat.le_refl _ | exact Nat.le_of_ble_eq_true rfl | (dsimp only; omega) | (simp <;> omega)) ?_
 refine .seq ?_
 refine .plain Try.tmOk Try.tmMixed [0, 7] (by decide +kernel) (by intro q hq; simp only [go_sem, appendD, Nat.reduceSub, Int.reduceEq, Nat.reduceLT, Nat.reduceDiv, Nat.reduceAdd, Nat.reduceBEq, Nat.reduceLeDiff, reduceCtorEq, Nat.reduceEqDiff, Nat.reduceMod, Try.tm_23, Try.tm_3, hck, roomV, Option.isSome, q1, q2, t1, l2, Nat.zero_add]; exact hq) (by first | rfl | (simp only [go_sem, Nat.reduceLeDiff]; done) | (simp only [go_sem, Nat.reduceLeDiff]; rfl) | (simp; done) | (simp [oneD] <;> omega) | (simp_all; done) | (simp_all [oneD] <;> omega)) (by first | exact Nat.le_refl _ | exact Nat.le_of_ble_eq_true rfl | (dsimp only; omega) | (simp <;> omega)) ?_
 refine .goes (.pre i (L.length - 1) _ (by simp only [getL, Nat.beq_refl, cond_true]; rfl) .refl) ?_
 simp only [put, Nat.beq_refl, cond_true, t2]
 refine .seq ?_
 refine .plain Try.tmOk Try.tmMixed [0] (by decide +kernel) (by intro q hq; simp only [go_sem, appendD, Nat.reduceSub, Int.reduceEq, Nat.reduceLT, Nat.reduceDiv, Nat.reduceAdd, Nat.reduceBEq, Nat.reduceLeDiff, reduceCtorEq, Nat.reduceEqDiff, Nat.reduceMod, Try.tm_23, Try.tm_3, hck]; exact hq) (by first | rfl | (simp only [go_sem, Nat.reduceLeDiff]; done) | (simp only [go_sem, Nat.reduceLeDiff]; rfl) | (simp; done) | (simp [oneD] <;> omega) | (simp_all; done) | (simp_all [oneD] <;> omega)) (by first | exact Nat.le_refl _ | exact Nat.le_of_ble_eq_true rfl | (dsimp only; omega) | (simp <;> omega)) ?_
 refine .ret ⟨.inr rfl, retH [i] ?_ ?_⟩
 ·simp only [ResIs, resL, resD, resT, go_sem, appendD, Nat.reduceSub, Int.reduceEq, Nat.reduceLT, Nat.reduceDiv, Nat.reduceAdd, Nat.reduceBEq, Nat.reduceLeDiff, reduceCtorEq, Nat.reduceEqDiff, Nat.reduceMod, Try.f66]
 ·simp only [pickL, getL, effL, put, del, Nat.beq_refl, cond_true, cond_false, List.append_assoc, List.singleton_append, List.append_nil]
theorem del66 (i k : Nat) (hik : i ≠ k) (L : List D) (P : Bool) (at' : Nat) (hat : at' < L.length) (hL : L.length < 1000000) :
  CallH Try.prog 66 [.ref i 5 0 L.length (some unkC), .int .i64 (at' : Int), .int .i64 ((at' + 1 : Nat) : Int)] [(i, .arr 67 5 P L)] (.ref k 5 0 (L.length - 1) (some unkC)) [(k, some (.arr 67 5 P (L.take at' ++ L.drop (at' + 1)))), (i, none)] (k, k + 1) := by
 exact callH_capW (l := L) (p := P) ⟨Try.f66, Try.func66, by decide, rfl⟩ (by simp only [getL, Nat.beq_refl, cond_true]) hik (.inr (by omega))
   (fun c hc h1 _ => del66r i k L P at' c hc hat hL h1)
   (fun c hc h1 h2 => by omega)
end Go.Proofs
end
section
namespace Go.Proofs
open Go.Tm
theorem delT66 (i k : Nat) (hik : i ≠ k) (l : List TSeen) (at' : Int) (h : 0 ≤ at' ∧ at' < (l.length : Int)) (hl : l.length < 1000000) :
  CallH Try.prog 66 [.ref i 5 0 l.length (some unkC), .int .i64 at', .int .i64 (wr .i64 (at' + 1))] [(i, .arr 67 5 true (l.map TSeen.d))] (.ref k 5 0 (l.eraseIdx at'.toNat).length (some unkC)) [(k, some (.arr 67 5 true ((l.eraseIdx at'.toNat).map TSeen.d))), (i, none)] (k, k + 1) := by
 have t := del66 i k hik (l.map TSeen.d) true at'.toNat (by rw [List.length_map]; omega) (by rw [List.length_map]; exact hl)
 have hw : wr .i64 (at' + 1) = ((at'.toNat + 1 : Nat) : Int) := by
  rw [wr_eq _ _ (by show (-9223372036854775808 : Int) ≤ _; omega) (by show _ ≤ (9223372036854775807 : Int); omega)]
  omega
 rw [Int.toNat_of_nonneg h.1, List.length_map, take_map, drop_map, ← List.map_append, ← List.eraseIdx_eq_take_drop_succ, ← hw] at t
 have e : l.length - 1 = (l.eraseIdx at'.toNat).length := by rw [List.length_eraseIdx_of_lt (by omega)]
 rw [e] at t
 exact t
end Go.Proofs
end
section
namespace Go.Proofs
open Go.Tm
set_option linter.unusedVariables false
def m_stable_put (a0 : TStable) (a1 : TRecord) : Option (Int × TStable) :=
 if a1.Group ≥ (a0.Logs.length : Int) then
 some (6, a0)
 else
 if (0 ≤ a1.Group ∧ a1.Group < (a0.Logs.length : Int)) then
 if (a1.Slot ≤ ((a0.Logs.getD a1.Group.toNat default).length : Int)) ∨ ((a1.Kind = 3) ∧ (¬ (a1.Slot = (wr .i64 (((a0.Logs.getD a1.Group.toNat default).length : Int) + 1))))) then
 some (8, a0)
 else
 Option.bind (m_slices_BinarySearchFunc_Seen_Seen_Seen a0.Votes (⟨a1.Group, a1.Slot, (⟨0, 0, []⟩ : TVote)⟩ : TSeen) m_stable_place) fun v1 =>
 Option.bind (α := Int × Int × Int × Int × (List UInt8)) (if v1.2 = true then
 if (0 ≤ v1.1 ∧ v1.1 < (a0.Votes.length : Int)) then
 some ((a0.Votes.getD v1.1.toNat default).Group, (a0.Votes.getD v1.1.toNat default).Slot, (a0.Votes.getD v1.1.toNat default).Vote.Promised, (a0.Votes.getD v1.1.toNat default).Vote.Ballot, (a0.Votes.getD v1.1.toNat default).Vote.Value)
 else none
 else
 some (a1.Group, a1.Slot, 0, 0, [])) fun (n1, n2, n3, n4, s1) =>
 Option.bind (α := (Int × TStable) ⊕ (Int × Int × (List UInt8) × Int)) (if a1.Kind = 1 then
 Option.bind (m_vote_Prepare (⟨n3, n4, s1⟩ : TVote) a1.Ballot) fun v2 =>
 some (.inr (v2.1.Promised, v2.1.Ballot, v2.1.Value, v2.2))
 else
 if a1.Kind = 2 then
 Option.bind (m_vote_Accept (⟨n3, n4, s1⟩ : TVote) a1.Ballot a1.Value) fun v3 =>
 some (.inr (v3.1.Promised, v3.1.Ballot, v3.1.Value, v3.2))
 else
 Option.bind (α := (List TSeen)) (if v1.2 = true then
 if 0 ≤ v1.1 ∧ v1.1 < (a0.Votes.length : Int) then
 if a0.Votes.length < 1000000 then
 some (a0.Votes.eraseIdx v1.1.toNat)
 else none
 else none
 else
 some a0.Votes) fun l1 =>
 some (.inl (0, (⟨(a0.Logs.set a1.Group.toNat ((a0.Logs.getD a1.Group.toNat default) ++ [a1.Value])), l1⟩ : TStable)))) fun z => match z with
 | (.inl r) => some r
 | (.inr (n5, n6, s2, n7)) =>
 if ¬ (n7 = 0) then
 some (n7, a0)
 else
 Option.bind (α := (List TSeen)) (if ¬ (v1.2 = true) then
 if 0 ≤ v1.1 ∧ v1.1 ≤ (a0.Votes.length : Int) then
 if a0.Votes.length < 1000000 then
 some ((a0.Votes.take v1.1.toNat) ++ ((⟨n1, n2, (⟨n5, n6, s2⟩ : TVote)⟩ : TSeen) :: (a0.Votes.drop v1.1.toNat)))
 else none
 else none
 else
 some a0.Votes) fun l2 =>
 if (0 ≤ v1.1 ∧ v1.1 < (l2.length : Int)) then
 some (0, (⟨a0.Logs, (l2.set v1.1.toNat (⟨n1, n2, (⟨n5, n6, s2⟩ : TVote)⟩ : TSeen))⟩ : TStable))
 else none
 else none
def m_stable_Apply (a0 : TStable) (a1 : TRecord) : Option (TStable × Int) :=
 Option.bind (m_stable_Check a0) fun v1 =>
 if ¬ (v1 = 0) then
 some ((⟨[], []⟩ : TStable), v1)
 else
 Option.bind (m_record_Check a1) fun v2 =>
 if ¬ (v2 = 0) then
 some ((⟨[], []⟩ : TStable), v2)
 else
 Option.bind (m_stable_Twin a0) fun v3 =>
 Option.bind (m_stable_put v3 a1) fun v4 =>
 if ¬ (v4.1 = 0) then
 some ((⟨[], []⟩ : TStable), v4.1)
 else
 some (v4.2, 0)
end Go.Proofs
end
section
namespace Go.Proofs
open Go.Tm Go.RowKit Go.WideShapes
set_option maxRecDepth 100000
set_option maxHeartbeats 4000000
set_option linter.unusedSimpArgs false
set_option linter.unusedVariables false
attribute [local go_sem] argVars runE runK isCallV stepE aop opd opdsL opds opdO ev ofVal keep List.any natbeq Bool.false_or Bool.true_or aggEq cond_true cond_false Bool.cond_false_right Bool.cond_true_left beq_true beq_false imp_self implies_true getR getL put St.app effL del nwB blt_dec Nat.lt_irrefl Nat.lt_add_one ble_dec Nat.le_refl Nat.beq_refl roomNZ appendIn capS capK mkZ_zero mkZL_zero zeroEl D.ids D.idsL bin arith sarith binT dpick Tm.part splice fillD oneD loadD storeD srcD sliceD idxOk decide_true gval dstAt D.cells List.map_cons List.map_nil List.take List.drop List.length_map List.append Int.toNat_natCast and_true true_and decide_false List.length_cons List.length_nil List.append_nil List.nil_append Bool.and_true Bool.true_and Bool.not_false Bool.not_true ne_eq not_false_eq_true BEq.rfl List.getElem?_cons_zero List.getElem?_cons_succ List.getElem?_nil Nat.zero_add List.all_cons List.all_nil List.isEmpty_cons List.isEmpty_nil Option.getD_some Option.getD_none List.any_cons List.any_nil List.drop_succ_cons List.drop_zero unfL unf okM okML low3 List.cons_append true_or or_true Nat.zero_mul Nat.zero_le findD_int findD_str  getD_int getD_str getD_bool Option.isSome_map keyD List.length_replicate List.map_replicate setEl List.length_set bytesD_map map_ub mx_len mkZ_one mkZL_one mkM mkML mk1_int mk1_str mk1_bool drop_map take_map take_map_len List.take_length Int.toNat_zero toNat_pred fpOf metIds opIds mvV mvH mvF pickL D.ren D.renL Blk.ren List.map_append List.length_append Bool.not_not Bool.or_not_self Bool.not_or_self Bool.or_true
attribute [local go_sem] Try.tm_1 Try.tm_2 Try.tm_3 Try.tm_4 Try.tm_5 Try.tm_6 Try.tm_7 Try.tm_8 Try.tm_9 Try.tm_10 Try.tm_11 Try.tm_12 Try.tm_13 Try.tm_14 Try.tm_15 Try.tm_16 Try.tm_17 Try.tm_18 Try.tm_19 Try.tm_20 Try.tm_21 Try.tm_22 Try.tm_23 Try.tm_24 Try.tm_25 Try.tm_26 Try.tm_27 Try.tm_28 Try.tm_29 Try.tm_30 Try.tm_32 Try.tm_33 Try.tm_34 Try.tm_35 Try.tm_36 Try.tm_37 Try.tm_39 Try.tm_40 Try.tm_41 Try.tm_43 Try.tm_45 Try.tm_46 Try.tm_47 Try.tm_48 Try.tm_49 Try.tm_50 Try.tm_51 Try.tm_52 Try.tm_53 Try.tm_55 Try.tm_57 Try.tm_58 Try.tm_60 Try.tm_61 Try.tm_63 Try.tm_64 Try.tm_65 Try.tm_66 Try.tm_67 Try.tm_68 Try.tm_69 Try.tm_70 Try.tm_71 Try.tm_72 Try.tm_73 Try.tm_74 Try.tm_76 Try.tm_77 Try.tm_78 Try.tm_79 Try.tm_80 Try.tm_81 Try.tm_82 Try.tm_83 Try.tm_84 Try.tm_85 Try.tm_86 Try.tm_87 Try.tm_89 Try.tm_91 Try.tm_92 Try.tm_93 Try.tm_94 Try.tm_95 Try.tm_96 Try.tm_98 Try.tm_99 Try.tm_101 Try.tm_103 Try.tm_104 Try.tm_105 Try.tm_106 Try.tm_107 Try.tm_108 Try.tm_109 Try.tm_110 Try.tm_111 Try.tm_112 Try.tm_113 Try.tm_114 Try.tm_115 Try.tm_116 Try.tm_117 Try.tm_118 Try.tm_119 Try.tm_120 Try.tm_121 Try.tm_123 Try.tm_124 Try.tm_125 Try.tm_126 Try.tm_127 Try.tm_128 Try.tm_129 Try.tm_130 Try.tm_132 Try.tm_134 Try.tm_135 Try.tm_136 Try.tm_137 Try.tm_138 Try.tm_139 Try.tm_140 Try.tm_143 Try.tm_144 Try.tm_145 Try.tm_146 Try.tm_147 Try.tm_148 Try.tm_149 Try.tm_150 Try.tm_151 dL_str nL_str TVote.d TSeen.d TStable.d TStable.n TRecord.d mk1_dL_str mk1_TVote mk1_TSeen mk1_TStable mk1_TRecord Try.f34 Try.f10
attribute [local go_sem] qrefs outb inb
theorem nl0 (a : D) (l : List D) : nth (a :: l) 0 = a := by unfold nth; rfl
theorem nl1 (a b : D) (l : List D) : nth (a :: b :: l) 1 = b := by unfold nth; rfl
theorem nl2 (a b c : D) (l : List D) : nth (a :: b :: c :: l) 2 = c := by unfold nth; rfl
theorem nl3 (a b c d : D) (l : List D) : nth (a :: b :: c :: d :: l) 3 = d := by unfold nth; rfl
theorem sl0 (a x : D) (l : List D) : setN (a :: l) 0 x = x :: l := by unfold setN; rfl
theorem sl1 (a b x : D) (l : List D) : setN (a :: b :: l) 1 x = a :: x :: l := by unfold setN; rfl
theorem sl2 (a b c x : D) (l : List D) : setN (a :: b :: c :: l) 2 x = a :: b :: x :: l := by unfold setN; rfl
theorem sl3 (a b c d x : D) (l : List D) : setN (a :: b :: c :: d :: l) 3 x = a :: b :: c :: x :: l := by unfold setN; rfl
attribute [local go_sem] nl0 nl1 nl2 nl3 sl0 sl1 sl2 sl3
def Try.St_stable_put_1 (a0 : TStable) (a1 : TRecord) (v1 : Int × Bool) (n1 : Int) (n2 : Int) (n3 : Int) (n4 : Int) (s1 : List UInt8) : St := ⟨[(0, .ptr 20000 0), (3, .ptr 20100 0), (5, .eptr 20001 1 a1.Group.toNat 0), (6, .ptr 20101 0), (7, .int .i64 v1.1), (8, .bool v1.2)], [(20000, .box [.ref 20001 1 0 a0.Logs.length (some unkC), .ref 20002 5 0 a0.Votes.length (some unkC)]), (20001, outb 20010 a0.Logs), (20010, inb a0.Logs 0), (20011, inb a0.Logs 1), (20012, inb a0.Logs 2), (20013, inb a0.Logs 3), (20002, .arr 67 5 true (a0.Votes.map TSeen.d)), (20100, .box [.int .u8 a1.Kind, .int .i64 a1.Group, .int .i64 a1.Slot, .int .i64 a1.Ballot, .str a1.Value]), (20101, .box [.int .i64 n1, .int .i64 n2, .int .i64 n3, .int .i64 n4, .str s1])], 20102⟩
attribute [local go_sem] Try.St_stable_put_1
def Try.St_stable_put_3 (a0 : TStable) (v1 : Int × Bool) (n1 : Int) (n2 : Int) (n5 : Int) (n6 : Int) (s2 : List UInt8) (n7 : Int) : St := ⟨[(0, .ptr 20000 0), (6, .ptr 20101 0), (7, .int .i64 v1.1), (8, .bool v1.2), (9, .int .i64 n7)], [(20000, .box [.ref 20001 1 0 a0.Logs.length (some unkC), .ref 20002 5 0 a0.Votes.length (some unkC)]), (20001, outb 20010 a0.Logs), (20010, inb a0.Logs 0), (20011, inb a0.Logs 1), (20012, inb a0.Logs 2), (20013, inb a0.Logs 3), (20002, .arr 67 5 true (a0.Votes.map TSeen.d)), (20101, .box [.int .i64 n1, .int .i64 n2, .int .i64 n5, .int .i64 n6, .str s2])], 20102⟩
attribute [local go_sem] Try.St_stable_put_3
def Try.St_stable_put_5 (a0 : TStable) (a1 : TRecord) (l1 : List TSeen) : St := ⟨[(0, .ptr 20000 0)], [(20000, .box [.ref 20001 1 0 ((a0.Logs.set a1.Group.toNat ((a0.Logs.getD a1.Group.toNat default) ++ [a1.Value])).length) (some unkC), .ref 20121 5 0 l1.length (some unkC)]), (20001, outb 20110 (a0.Logs.set a1.Group.toNat ((a0.Logs.getD a1.Group.toNat default) ++ [a1.Value]))), (20110, inb (a0.Logs.set a1.Group.toNat ((a0.Logs.getD a1.Group.toNat default) ++ [a1.Value])) 0), (20111, inb (a0.Logs.set a1.Group.toNat ((a0.Logs.getD a1.Group.toNat default) ++ [a1.Value])) 1), (20112, inb (a0.Logs.set a1.Group.toNat ((a0.Logs.getD a1.Group.toNat default) ++ [a1.Value])) 2), (20113, inb (a0.Logs.set a1.Group.toNat ((a0.Logs.getD a1.Group.toNat default) ++ [a1.Value])) 3), (20121, .arr 67 5 true (l1.map TSeen.d))], 20140⟩
attribute [local go_sem] Try.St_stable_put_5
def Try.St_stable_put_7 (a0 : TStable) (v1 : Int × Bool) (n1 : Int) (n2 : Int) (n5 : Int) (n6 : Int) (s2 : List UInt8) (l2 : List TSeen) : St := ⟨[(0, .ptr 20000 0), (6, .ptr 20101 0), (7, .int .i64 v1.1)], [(20000, .box [.ref 20001 1 0 a0.Logs.length (some unkC), .ref 20102 5 0 l2.length (some unkC)]), (20001, outb 20010 a0.Logs), (20010, inb a0.Logs 0), (20011, inb a0.Logs 1), (20012, inb a0.Logs 2), (20013, inb a0.Logs 3), (20101, .box [.int .i64 n1, .int .i64 n2, .int .i64 n5, .int .i64 n6, .str s2]), (20102, .arr 67 5 true (l2.map TSeen.d))], 20103⟩
attribute [local go_sem] Try.St_stable_put_7
def Try.Re_stable_put (r : Int × TStable) : St := ⟨[(0, .ptr 20000 0), (4, .int .i64 r.1)], [(20000, .box [.ref 20001 1 0 r.2.Logs.length (some unkC), .ref 20101 5 0 r.2.Votes.length (some unkC)]), (20001, outb 20110 r.2.Logs), (20110, inb r.2.Logs 0), (20111, inb r.2.Logs 1), (20112, inb r.2.Logs 2), (20113, inb r.2.Logs 3), (20101, .arr 67 5 true (r.2.Votes.map TSeen.d))], 20120⟩
attribute [local go_sem] Try.Re_stable_put
theorem callH_stable_put (a0 : TStable) (a1 : TRecord) (r : Int × TStable) (h4 : a0.Logs.length ≤ 4) (h5 : ∀ k, (a0.Logs.getD k []).length ≤ 100000) (h : m_stable_put a0 a1 = some r) : CallH Try.prog 34 [.ptr 20000 0, .agg [.int .u8 a1.Kind, .int .i64 a1.Group, .int .i64 a1.Slot, .int .i64 a1.Ballot, .str a1.Value]] [(20000, .box [.ref 20001 1 0 a0.Logs.length (some unkC), .ref 20002 5 0 a0.Votes.length (some unkC)]), (20001, outb 20010 a0.Logs), (20010, inb a0.Logs 0), (20011, inb a0.Logs 1), (20012, inb a0.Logs 2), (20013, inb a0.Logs 3), (20002, .arr 67 5 true (a0.Votes.map TSeen.d))] (.int .i64 r.1) [(20000, some (.box [.ref 20001 1 0 r.2.Logs.length (some unkC), .ref 20101 5 0 r.2.Votes.length (some unkC)])), (20001, some (outb 20110 r.2.Logs)), (20010, none), (20011, none), (20012, none), (20013, none), (20002, none), (20110, some (inb r.2.Logs 0)), (20111, some (inb r.2.Logs 1)), (20112, some (inb r.2.Logs 2)), (20113, some (inb r.2.Logs 3)), (20101, some (.arr 67 5 true (r.2.Votes.map TSeen.d)))] (20100, 20160) := by
 refine callH_intro' Try.tmOk Try.func34 rfl (by decide) (Nat.le_of_ble_eq_true rfl) (by simp) ?_
 intro hwf
 unfold m_stable_put at h
 refine .ends 20100 (Nat.le_refl _) ?_
 refine .seq ?_
 refine .pl Try.S [0, 1] ?_
 refine .seq ?_
 refine .seq ?_
 refine .dr Try.S [0, 3] ?_
 refine .cond rfl rfl (fun hc1 => ?_) (fun hc1 => ?_)
 ·skip
  replace h := ite_lc h hc1
  refine .seq ?_
  refine .pl Try.S [0] ?_
  have hq := Option.some.inj h
  subst r
  refine .ret ⟨Try.Re_stable_put (6, a0), ?_, .inr rfl, retH [20000, 20001, 20101, 20113, 20112, 20111, 20110] ?_ ?_⟩
  ·skip
   exact .mxq (hrenQ [(20002, 20101), (20010, 20110), (20011, 20111), (20012, 20112), (20013, 20113)] 20010 20110 a0.Logs h4 (by decide)) [0, 4] [20000, 20001, 20010, 20011, 20012, 20013, 20002] [(20002, 20101), (20010, 20110), (20011, 20111), (20012, 20112), (20013, 20113)] [20000, 20001, 20010, 20011, 20012, 20013, 20002] (by intro i hi; simp only [go_sem, idsV, idsH, Blk.ids, D.ids, D.idsL, cond_false, cond_true, List.mem_append, List.mem_cons, List.not_mem_nil, or_false, false_or, List.nil_append, List.append_nil, List.cons_append, qrefs_mem, List.length_map, List.length_set, Nat.reduceBEq] at hi ⊢; omega)
  ·exact rsi0
  ·rfl
 ·skip
  replace h := ite_rc h hc1
  refine .skip ?_
  refine .seq ?_
  obtain ⟨k1, h⟩ := ite_ck h
  have hq4 : (a0.Logs.map List.length).length ≤ 4 := by rw [List.length_map]; exact h4
  have hln : (qrefs 1 20010 (a0.Logs.map List.length)).length = a0.Logs.length := by rw [qrefs_len, List.length_map]
  have e1 : nth (qrefs 1 20010 (a0.Logs.map List.length)) a1.Group.toNat = .ref (20010 + a1.Group.toNat) 1 0 (a0.Logs.getD a1.Group.toNat default).length (some unkC) := by
   rw [qrefs_nth _ _ _ _ (by rw [List.length_map]; omega)]
   congr 1
   rw [List.getD_eq_getElem?_getD, List.getElem?_map, List.getD_eq_getElem?_getD]
   have h : a1.Group.toNat < a0.Logs.length := by omega
   rw [List.getElem?_eq_getElem h]
   rfl
  refine .drx Try.S e1 [0, 3] ?_
  refine .seq ?_
  refine .seq ?_
  refine .rg Try.S [0, 3, 5] ?_
  refine .rdx 6 (And.intro e1 hln) ?_
  refine .rdx 6 (And.intro e1 hln) ?_
  refine .rdx 6 (And.intro e1 hln) ?_
  refine .rdx 4 (And.intro e1 hln) ?_
  refine .nil ⟨fun _ => schedB_of (by kernel_rfl), ?_⟩
  refine .cond rfl rfl (fun hc2 => ?_) (fun hc2 => ?_)
  ·skip
   replace h := ite_lc h hc2
   refine .seq ?_
   refine .pl Try.S [0] ?_
   have hq := Option.some.inj h
   subst r
   refine .ret ⟨Try.Re_stable_put (8, a0), ?_, .inr rfl, retH [20000, 20001, 20101, 20113, 20112, 20111, 20110] ?_ ?_⟩
   ·skip
    exact .mxq (hrenQ [(20002, 20101), (20010, 20110), (20011, 20111), (20012, 20112), (20013, 20113)] 20010 20110 a0.Logs h4 (by decide)) [0, 4] [20000, 20001, 20010, 20011, 20012, 20013, 20002] [(20002, 20101), (20010, 20110), (20011, 20111), (20012, 20112), (20013, 20113)] [20000, 20001, 20010, 20011, 20012, 20013, 20002] (by intro i hi; simp only [go_sem, idsV, idsH, Blk.ids, D.ids, D.idsL, cond_false, cond_true, List.mem_append, List.mem_cons, List.not_mem_nil, or_false, false_or, List.nil_append, List.append_nil, List.cons_append, qrefs_mem, List.length_map, List.length_set, Nat.reduceBEq] at hi ⊢; omega)
   ·exact rsi0
   ·rfl
  ·skip
   replace h := ite_rc h hc2
   refine .skip ?_
   refine .seq ?_
   refine .pl Try.S [0, 3, 5] ?_
   refine .seq ?_
   obtain ⟨v1, hv1, h⟩ := bind_some h
   refine .rg Try.S [0, 3, 5, 6] ?_
   refine .rd 5 ?_
   refine .lcall (r := .tuple [.int .i64 v1.1, .bool v1.2]) [] rfl rfl rfl rfl rfl (lend2s_cons (lend2_of (lend_ref pl_TSeen (by first | rfl | (simp only [go_sem, Nat.reduceBEq]; rfl)) (by first | rfl | (simp; done) | (simp <;> omega))) trivial) (lend2s_cons rfl (lend2s_cons (lend2_fn lend2s_nil) lend2s_nil))) rfl (callP_slices_BinarySearchFunc_Seen_Seen_Seen a0.Votes (⟨a1.Group, a1.Slot, (⟨0, 0, []⟩ : TVote)⟩ : TSeen) 38 [] (fun _ => rfl) (fun _ => rfl) (fun _ => rfl) m_stable_place (fun x0 x1 y hy => callP_stable_place x0 x1 y hy) v1 hv1) ?_
   refine .rd 5 ?_
   refine .nil ⟨fun _ => schedB_of (by kernel_rfl), ?_⟩
   obtain ⟨x1, hx1, h⟩ := bind_some h
   refine .seqM 20102 (fun (j : Int × Int × Int × Int × (List UInt8)) => Try.St_stable_put_1 a0 a1 v1 j.1 j.2.1 j.2.2.1 j.2.2.2.1 j.2.2.2.2) (fun j => x1 = j) (Nat.le_of_ble_eq_true rfl) ?_ ?_
   ·skip
    refine .seq ?_
    refine .pl Try.S [0, 3, 5, 6, 7, 8] ?_
    refine .cond rfl rfl (fun hc3 => ?_) (fun hc3 => ?_)
    ·skip
     replace hx1 := ite_lc hx1 hc3
     obtain ⟨k2, hx1⟩ := ite_ck hx1
     have e2 := nth_mapI TSeen.d a0.Votes v1.1
     replace e2 := e2 k2
     refine .plx Try.S e2 [0, 3, 5, 6, 7, 8] ?_
     refine ⟨_, ?_, (Option.some.inj hx1).symm⟩
     exact .sub [0, 3, 5, 6, 7, 8] [20000, 20001, 20010, 20011, 20012, 20013, 20002, 20100, 20101]
    ·skip
     replace hx1 := ite_rc hx1 hc3
     refine .skip ?_
     refine ⟨_, ?_, (Option.some.inj hx1).symm⟩
     exact .sub [0, 3, 5, 6, 7, 8] [20000, 20001, 20010, 20011, 20012, 20013, 20002, 20100, 20101]
   ·skip
    rintro ⟨n1, n2, n3, n4, s1⟩ hj1
    subst x1
    try dsimp only at h
    simp only [Try.St_stable_put_1]
    refine .seq ?_
    refine .pl Try.S [0, 3, 5, 6, 7, 8] ?_
    obtain ⟨x2, hx2, h⟩ := bind_some h
    refine .seqM 20102 (fun (j : Int × Int × (List UInt8) × Int) => Try.St_stable_put_3 a0 v1 n1 n2 j.1 j.2.1 j.2.2.1 j.2.2.2) (fun j => x2 = (.inr j)) (Nat.le_of_ble_eq_true rfl) ?_ ?_
    ·skip
     refine .seq ?_
     refine .pl Try.S [0, 3, 5, 6, 7, 8] ?_
     refine .block ?_
     refine .seq ?_
     refine .pl Try.S [0, 3, 5, 6, 7, 8, 70] ?_
     refine .cond rfl rfl (fun hc4 => ?_) (fun hc4 => ?_)
     ·skip
      replace hx2 := ite_lc hx2 hc4
      obtain ⟨v2, hv2, hx2⟩ := bind_some hx2
      refine .rg Try.S [0, 3, 6, 7, 8] ?_
      refine .rn 4 ?_
      refine .call (r := .tuple [.agg [.int .i64 v2.1.Promised, .int .i64 v2.1.Ballot, .str v2.1.Value], .int .i64 v2.2]) rfl rfl rfl rfl rfl rfl (callP_vote_Prepare (⟨n3, n4, s1⟩ : TVote) a1.Ballot v2 hv2) ?_
      refine .rn 6 ?_
      refine .nil ⟨nofun, ?_⟩
      refine ⟨_, ?_, (Option.some.inj hx2).symm⟩
      exact .sub [0, 6, 7, 8, 9] [20000, 20001, 20010, 20011, 20012, 20013, 20002, 20101]
     ·skip
      replace hx2 := ite_rc hx2 hc4
      refine .seq ?_
      refine .pl Try.S [0, 3, 5, 6, 7, 8, 70] ?_
      refine .cond rfl rfl (fun hc5 => ?_) (fun hc5 => ?_)
      ·skip
       replace hx2 := ite_lc hx2 hc5
       obtain ⟨v3, hv3, hx2⟩ := bind_some hx2
       refine .rg Try.S [0, 3, 6, 7, 8] ?_
       refine .rn 6 ?_
       refine .call (r := .tuple [.agg [.int .i64 v3.1.Promised, .int .i64 v3.1.Ballot, .str v3.1.Value], .int .i64 v3.2]) rfl rfl rfl rfl rfl rfl (callP_vote_Accept (⟨n3, n4, s1⟩ : TVote) a1.Ballot a1.Value v3 hv3) ?_
       refine .rn 6 ?_
       refine .nil ⟨nofun, ?_⟩
       refine ⟨_, ?_, (Option.some.inj hx2).symm⟩
       exact .sub [0, 6, 7, 8, 9] [20000, 20001, 20010, 20011, 20012, 20013, 20002, 20101]
      ·skip
       replace hx2 := ite_rc hx2 hc5
       refine .seqM 20102 (fun (_ : Unit) => ⟨[(0, .ptr 20000 0), (3, .ptr 20100 0), (5, .eptr 20001 1 a1.Group.toNat 0), (7, .int .i64 v1.1), (8, .bool v1.2)], [(20000, .box [.ref 20001 1 0 a0.Logs.length (some unkC), .ref 20002 5 0 a0.Votes.length (some unkC)]), (20001, outb 20110 (a0.Logs.set a1.Group.toNat ((a0.Logs.getD a1.Group.toNat default) ++ [a1.Value]))), (20110, inb (a0.Logs.set a1.Group.toNat ((a0.Logs.getD a1.Group.toNat default) ++ [a1.Value])) 0), (20111, inb (a0.Logs.set a1.Group.toNat ((a0.Logs.getD a1.Group.toNat default) ++ [a1.Value])) 1), (20112, inb (a0.Logs.set a1.Group.toNat ((a0.Logs.getD a1.Group.toNat default) ++ [a1.Value])) 2), (20113, inb (a0.Logs.set a1.Group.toNat ((a0.Logs.getD a1.Group.toNat default) ++ [a1.Value])) 3), (20002, .arr 67 5 true (a0.Votes.map TSeen.d)), (20100, .box [.int .u8 a1.Kind, .int .i64 a1.Group, .int .i64 a1.Slot, .int .i64 a1.Ballot, .str a1.Value])], 20120⟩) (fun _ => True) (Nat.le_of_ble_eq_true rfl) ?_ (fun _ _ => ?_)
       ·skip
        have kk := k1
        clear h hx1 hx2
        obtain ⟨ls, vs⟩ := a0
        obtain ⟨kd, gr, sl, bl, vl⟩ := a1
        have hg : ∃ g : Nat, gr = (g : Int) := ⟨gr.toNat, by simp only at kk; omega⟩
        obtain ⟨g, rfl⟩ := hg
        have hgl : g < ls.length := by simp only at kk; omega
        rcases ls with _ | ⟨b0, _ | ⟨b1, _ | ⟨b2, _ | ⟨b3, _ | ⟨b4, bs⟩⟩⟩⟩⟩
        ·exact absurd hgl (Nat.not_lt_zero _)
        ·skip
         rcases g with _ | g
         ·skip
          have hb0 : b0.length ≤ 100000 := h5 0
          have hS : [b0].set 0 ([b0].getD 0 default ++ [vl]) = [b0 ++ [vl]] := rfl
          have hL : (b0 ++ [vl]).length = b0.length + 1 := by simp
          have hM : (b0 ++ [vl]).map D.str = b0.map D.str ++ [D.str vl] := by simp
          have hG : [b0 ++ [vl]].getD 0 [] = b0 ++ [vl] := rfl
          have hG0 : [b0].getD 0 [] = b0 := rfl
          have hle : (b0.length + 1) * 16 ≤ 140737488355328 := by omega
          refine .dr Try.S [0, 3, 5, 7, 8] ?_ (hv := by first | (simp [hG0, hle, nl0, nl1, nl2, nl3, oneD]; done) | (simp [hG0, nl0, nl1, nl2, nl3, oneD] <;> omega) | (dsimp only; simp only [hG0, hle, decide_true, beq_self_eq_true, Bool.and_self, Bool.true_and, Bool.and_true, Nat.reduceBEq, Bool.or_true, Bool.false_or, Bool.or_false, Bool.false_and]; done))
          refine ⟨(), ?_, trivial⟩
          exact Goes.mx (And.intro hS (And.intro hL (And.intro hM (And.intro hG hG0)))) [0, 3, 5, 7, 8] [20000, 20001, 20103, 20011, 20012, 20013, 20002, 20100] [(20103, 20110), (20011, 20111), (20012, 20112), (20013, 20113)]
         ·exact absurd hgl (by simp only [List.length_cons, List.length_nil]; omega)
        ·skip
         rcases g with _ | g
         ·skip
          have hb0 : b0.length ≤ 100000 := h5 0
          have hb1 : b1.length ≤ 100000 := h5 1
          have hS : [b0, b1].set 0 ([b0, b1].getD 0 default ++ [vl]) = [b0 ++ [vl], b1] := rfl
          have hL : (b0 ++ [vl]).length = b0.length + 1 := by simp
          have hM : (b0 ++ [vl]).map D.str = b0.map D.str ++ [D.str vl] := by simp
          have hG : [b0 ++ [vl], b1].getD 0 [] = b0 ++ [vl] := rfl
          have hG0 : [b0, b1].getD 0 [] = b0 := rfl
          have hle : (b0.length + 1) * 16 ≤ 140737488355328 := by omega
          refine .dr Try.S [0, 3, 5, 7, 8] ?_ (hv := by first | (simp [hG0, hle, nl0, nl1, nl2, nl3, oneD]; done) | (simp [hG0, nl0, nl1, nl2, nl3, oneD] <;> omega) | (dsimp only; simp only [hG0, hle, decide_true, beq_self_eq_true, Bool.and_self, Bool.true_and, Bool.and_true, Nat.reduceBEq, Bool.or_true, Bool.false_or, Bool.or_false, Bool.false_and]; done))
          refine ⟨(), ?_, trivial⟩
          exact Goes.mx (And.intro hS (And.intro hL (And.intro hM (And.intro hG hG0)))) [0, 3, 5, 7, 8] [20000, 20001, 20103, 20011, 20012, 20013, 20002, 20100] [(20103, 20110), (20011, 20111), (20012, 20112), (20013, 20113)]
         ·skip
          rcases g with _ | g
          ·skip
           have hb0 : b0.length ≤ 100000 := h5 0
           have hb1 : b1.length ≤ 100000 := h5 1
           have hS : [b0, b1].set 1 ([b0, b1].getD 1 default ++ [vl]) = [b0, b1 ++ [vl]] := rfl
           have hL : (b1 ++ [vl]).length = b1.length + 1 := by simp
           have hM : (b1 ++ [vl]).map D.str = b1.map D.str ++ [D.str vl] := by simp
           have hG : [b0, b1 ++ [vl]].getD 1 [] = b1 ++ [vl] := rfl
           have hG0 : [b0, b1].getD 1 [] = b1 := rfl
           have hle : (b1.length + 1) * 16 ≤ 140737488355328 := by omega
           refine .dr Try.S [0, 3, 5, 7, 8] ?_ (hv := by first | (simp [hG0, hle, nl0, nl1, nl2, nl3, oneD]; done) | (simp [hG0, nl0, nl1, nl2, nl3, oneD] <;> omega) | (dsimp only; simp only [hG0, hle, decide_true, beq_self_eq_true, Bool.and_self, Bool.true_and, Bool.and_true, Nat.reduceBEq, Bool.or_true, Bool.false_or, Bool.or_false, Bool.false_and]; done))
           refine ⟨(), ?_, trivial⟩
           exact Goes.mx (And.intro hS (And.intro hL (And.intro hM (And.intro hG hG0)))) [0, 3, 5, 7, 8] [20000, 20001, 20010, 20103, 20012, 20013, 20002, 20100] [(20010, 20110), (20103, 20111), (20012, 20112), (20013, 20113)]
          ·exact absurd hgl (by simp only [List.length_cons, List.length_nil]; omega)
        ·skip
         rcases g with _ | g
         ·skip
          have hb0 : b0.length ≤ 100000 := h5 0
          have hb1 : b1.length ≤ 100000 := h5 1
          have hb2 : b2.length ≤ 100000 := h5 2
          have hS : [b0, b1, b2].set 0 ([b0, b1, b2].getD 0 default ++ [vl]) = [b0 ++ [vl], b1, b2] := rfl
          have hL : (b0 ++ [vl]).length = b0.length + 1 := by simp
          have hM : (b0 ++ [vl]).map D.str = b0.map D.str ++ [D.str vl] := by simp
          have hG : [b0 ++ [vl], b1, b2].getD 0 [] = b0 ++ [vl] := rfl
          have hG0 : [b0, b1, b2].getD 0 [] = b0 := rfl
          have hle : (b0.length + 1) * 16 ≤ 140737488355328 := by omega
          refine .dr Try.S [0, 3, 5, 7, 8] ?_ (hv := by first | (simp [hG0, hle, nl0, nl1, nl2, nl3, oneD]; done) | (simp [hG0, nl0, nl1, nl2, nl3, oneD] <;> omega) | (dsimp only; simp only [hG0, hle, decide_true, beq_self_eq_true, Bool.and_self, Bool.true_and, Bool.and_true, Nat.reduceBEq, Bool.or_true, Bool.false_or, Bool.or_false, Bool.false_and]; done))
          refine ⟨(), ?_, trivial⟩
          exact Goes.mx (And.intro hS (And.intro hL (And.intro hM (And.intro hG hG0)))) [0, 3, 5, 7, 8] [20000, 20001, 20103, 20011, 20012, 20013, 20002, 20100] [(20103, 20110), (20011, 20111), (20012, 20112), (20013, 20113)]
         ·skip
          rcases g with _ | g
          ·skip
           have hb0 : b0.length ≤ 100000 := h5 0
           have hb1 : b1.length ≤ 100000 := h5 1
           have hb2 : b2.length ≤ 100000 := h5 2
           have hS : [b0, b1, b2].set 1 ([b0, b1, b2].getD 1 default ++ [vl]) = [b0, b1 ++ [vl], b2] := rfl
           have hL : (b1 ++ [vl]).length = b1.length + 1 := by simp
           have hM : (b1 ++ [vl]).map D.str = b1.map D.str ++ [D.str vl] := by simp
           have hG : [b0, b1 ++ [vl], b2].getD 1 [] = b1 ++ [vl] := rfl
           have hG0 : [b0, b1, b2].getD 1 [] = b1 := rfl
           have hle : (b1.length + 1) * 16 ≤ 140737488355328 := by omega
           refine .dr Try.S [0, 3, 5, 7, 8] ?_ (hv := by first | (simp [hG0, hle, nl0, nl1, nl2, nl3, oneD]; done) | (simp [hG0, nl0, nl1, nl2, nl3, oneD] <;> omega) | (dsimp only; simp only [hG0, hle, decide_true, beq_self_eq_true, Bool.and_self, Bool.true_and, Bool.and_true, Nat.reduceBEq, Bool.or_true, Bool.false_or, Bool.or_false, Bool.false_and]; done))
           refine ⟨(), ?_, trivial⟩
           exact Goes.mx (And.intro hS (And.intro hL (And.intro hM (And.intro hG hG0)))) [0, 3, 5, 7, 8] [20000, 20001, 20010, 20103, 20012, 20013, 20002, 20100] [(20010, 20110), (20103, 20111), (20012, 20112), (20013, 20113)]
          ·skip
           rcases g with _ | g
           ·skip
            have hb0 : b0.length ≤ 100000 := h5 0
            have hb1 : b1.length ≤ 100000 := h5 1
            have hb2 : b2.length ≤ 100000 := h5 2
            have hS : [b0, b1, b2].set 2 ([b0, b1, b2].getD 2 default ++ [vl]) = [b0, b1, b2 ++ [vl]] := rfl
            have hL : (b2 ++ [vl]).length = b2.length + 1 := by simp
            have hM : (b2 ++ [vl]).map D.str = b2.map D.str ++ [D.str vl] := by simp
            have hG : [b0, b1, b2 ++ [vl]].getD 2 [] = b2 ++ [vl] := rfl
            have hG0 : [b0, b1, b2].getD 2 [] = b2 := rfl
            have hle : (b2.length + 1) * 16 ≤ 140737488355328 := by omega
            refine .dr Try.S [0, 3, 5, 7, 8] ?_ (hv := by first | (simp [hG0, hle, nl0, nl1, nl2, nl3, oneD]; done) | (simp [hG0, nl0, nl1, nl2, nl3, oneD] <;> omega) | (dsimp only; simp only [hG0, hle, decide_true, beq_self_eq_true, Bool.and_self, Bool.true_and, Bool.and_true, Nat.reduceBEq, Bool.or_true, Bool.false_or, Bool.or_false, Bool.false_and]; done))
            refine ⟨(), ?_, trivial⟩
            exact Goes.mx (And.intro hS (And.intro hL (And.intro hM (And.intro hG hG0)))) [0, 3, 5, 7, 8] [20000, 20001, 20010, 20011, 20103, 20013, 20002, 20100] [(20010, 20110), (20011, 20111), (20103, 20112), (20013, 20113)]
           ·exact absurd hgl (by simp only [List.length_cons, List.length_nil]; omega)
        ·skip
         rcases g with _ | g
         ·skip
          have hb0 : b0.length ≤ 100000 := h5 0
          have hb1 : b1.length ≤ 100000 := h5 1
          have hb2 : b2.length ≤ 100000 := h5 2
          have hb3 : b3.length ≤ 100000 := h5 3
          have hS : [b0, b1, b2, b3].set 0 ([b0, b1, b2, b3].getD 0 default ++ [vl]) = [b0 ++ [vl], b1, b2, b3] := rfl
          have hL : (b0 ++ [vl]).length = b0.length + 1 := by simp
          have hM : (b0 ++ [vl]).map D.str = b0.map D.str ++ [D.str vl] := by simp
          have hG : [b0 ++ [vl], b1, b2, b3].getD 0 [] = b0 ++ [vl] := rfl
          have hG0 : [b0, b1, b2, b3].getD 0 [] = b0 := rfl
          have hle : (b0.length + 1) * 16 ≤ 140737488355328 := by omega
          refine .dr Try.S [0, 3, 5, 7, 8] ?_ (hv := by first | (simp [hG0, hle, nl0, nl1, nl2, nl3, oneD]; done) | (simp [hG0, nl0, nl1, nl2, nl3, oneD] <;> omega) | (dsimp only; simp only [hG0, hle, decide_true, beq_self_eq_true, Bool.and_self, Bool.true_and, Bool.and_true, Nat.reduceBEq, Bool.or_true, Bool.false_or, Bool.or_false, Bool.false_and]; done))
          refine ⟨(), ?_, trivial⟩
          exact Goes.mx (And.intro hS (And.intro hL (And.intro hM (And.intro hG hG0)))) [0, 3, 5, 7, 8] [20000, 20001, 20103, 20011, 20012, 20013, 20002, 20100] [(20103, 20110), (20011, 20111), (20012, 20112), (20013, 20113)]
         ·skip
          rcases g with _ | g
          ·skip
           have hb0 : b0.length ≤ 100000 := h5 0
           have hb1 : b1.length ≤ 100000 := h5 1
           have hb2 : b2.length ≤ 100000 := h5 2
           have hb3 : b3.length ≤ 100000 := h5 3
           have hS : [b0, b1, b2, b3].set 1 ([b0, b1, b2, b3].getD 1 default ++ [vl]) = [b0, b1 ++ [vl], b2, b3] := rfl
           have hL : (b1 ++ [vl]).length = b1.length + 1 := by simp
           have hM : (b1 ++ [vl]).map D.str = b1.map D.str ++ [D.str vl] := by simp
           have hG : [b0, b1 ++ [vl], b2, b3].getD 1 [] = b1 ++ [vl] := rfl
           have hG0 : [b0, b1, b2, b3].getD 1 [] = b1 := rfl
           have hle : (b1.length + 1) * 16 ≤ 140737488355328 := by omega
           refine .dr Try.S [0, 3, 5, 7, 8] ?_ (hv := by first | (simp [hG0, hle, nl0, nl1, nl2, nl3, oneD]; done) | (simp [hG0, nl0, nl1, nl2, nl3, oneD] <;> omega) | (dsimp only; simp only [hG0, hle, decide_true, beq_self_eq_true, Bool.and_self, Bool.true_and, Bool.and_true, Nat.reduceBEq, Bool.or_true, Bool.false_or, Bool.or_false, Bool.false_and]; done))
           refine ⟨(), ?_, trivial⟩
           exact Goes.mx (And.intro hS (And.intro hL (And.intro hM (And.intro hG hG0)))) [0, 3, 5, 7, 8] [20000, 20001, 20010, 20103, 20012, 20013, 20002, 20100] [(20010, 20110), (20103, 20111), (20012, 20112), (20013, 20113)]
          ·skip
           rcases g with _ | g
           ·skip
            have hb0 : b0.length ≤ 100000 := h5 0
            have hb1 : b1.length ≤ 100000 := h5 1
            have hb2 : b2.length ≤ 100000 := h5 2
            have hb3 : b3.length ≤ 100000 := h5 3
            have hS : [b0, b1, b2, b3].set 2 ([b0, b1, b2, b3].getD 2 default ++ [vl]) = [b0, b1, b2 ++ [vl], b3] := rfl
            have hL : (b2 ++ [vl]).length = b2.length + 1 := by simp
            have hM : (b2 ++ [vl]).map D.str = b2.map D.str ++ [D.str vl] := by simp
            have hG : [b0, b1, b2 ++ [vl], b3].getD 2 [] = b2 ++ [vl] := rfl
            have hG0 : [b0, b1, b2, b3].getD 2 [] = b2 := rfl
            have hle : (b2.length + 1) * 16 ≤ 140737488355328 := by omega
            refine .dr Try.S [0, 3, 5, 7, 8] ?_ (hv := by first | (simp [hG0, hle, nl0, nl1, nl2, nl3, oneD]; done) | (simp [hG0, nl0, nl1, nl2, nl3, oneD] <;> omega) | (dsimp only; simp only [hG0, hle, decide_true, beq_self_eq_true, Bool.and_self, Bool.true_and, Bool.and_true, Nat.reduceBEq, Bool.or_true, Bool.false_or, Bool.or_false, Bool.false_and]; done))
            refine ⟨(), ?_, trivial⟩
            exact Goes.mx (And.intro hS (And.intro hL (And.intro hM (And.intro hG hG0)))) [0, 3, 5, 7, 8] [20000, 20001, 20010, 20011, 20103, 20013, 20002, 20100] [(20010, 20110), (20011, 20111), (20103, 20112), (20013, 20113)]
           ·skip
            rcases g with _ | g
            ·skip
             have hb0 : b0.length ≤ 100000 := h5 0
             have hb1 : b1.length ≤ 100000 := h5 1
             have hb2 : b2.length ≤ 100000 := h5 2
             have hb3 : b3.length ≤ 100000 := h5 3
             have hS : [b0, b1, b2, b3].set 3 ([b0, b1, b2, b3].getD 3 default ++ [vl]) = [b0, b1, b2, b3 ++ [vl]] := rfl
             have hL : (b3 ++ [vl]).length = b3.length + 1 := by simp
             have hM : (b3 ++ [vl]).map D.str = b3.map D.str ++ [D.str vl] := by simp
             have hG : [b0, b1, b2, b3 ++ [vl]].getD 3 [] = b3 ++ [vl] := rfl
             have hG0 : [b0, b1, b2, b3].getD 3 [] = b3 := rfl
             have hle : (b3.length + 1) * 16 ≤ 140737488355328 := by omega
             refine .dr Try.S [0, 3, 5, 7, 8] ?_ (hv := by first | (simp [hG0, hle, nl0, nl1, nl2, nl3, oneD]; done) | (simp [hG0, nl0, nl1, nl2, nl3, oneD] <;> omega) | (dsimp only; simp only [hG0, hle, decide_true, beq_self_eq_true, Bool.and_self, Bool.true_and, Bool.and_true, Nat.reduceBEq, Bool.or_true, Bool.false_or, Bool.or_false, Bool.false_and]; done))
             refine ⟨(), ?_, trivial⟩
             exact Goes.mx (And.intro hS (And.intro hL (And.intro hM (And.intro hG hG0)))) [0, 3, 5, 7, 8] [20000, 20001, 20010, 20011, 20012, 20103, 20002, 20100] [(20010, 20110), (20011, 20111), (20012, 20112), (20103, 20113)]
            ·exact absurd hgl (by simp only [List.length_cons, List.length_nil]; omega)
        ·exact absurd h4 (by simp only [List.length_cons]; omega)
       obtain ⟨x3, hx3, hx2⟩ := bind_some hx2
       refine .seqM 20120 (fun (j : (List TSeen)) => Try.St_stable_put_5 a0 a1 j) (fun j => x3 = j) (Nat.le_of_ble_eq_true rfl) ?_ ?_
       ·skip
        refine .seq ?_
        refine .pl Try.S [0, 7, 8] ?_
        refine .cond rfl rfl (fun hc6 => ?_) (fun hc6 => ?_)
        ·skip
         replace hx3 := ite_lc hx3 hc6
         obtain ⟨k3, hx3⟩ := ite_ck hx3
         obtain ⟨k4, hx3⟩ := ite_ck hx3
         refine .rg Try.S [0, 7] ?_
         refine .rn 8 ?_
         refine .hcall (r := .ref 20120 5 0 ((a0.Votes.eraseIdx v1.1.toNat).length) (some unkC)) rfl rfl rfl rfl rfl (delT66 20002 20120 (by decide) a0.Votes v1.1 k3 k4) (fun id b h => getL_pick [20002] _ id b h) (by simp) (.inr ⟨Nat.le_refl _, Nat.le_of_ble_eq_true rfl⟩) ?_
         refine .rn 3 ?_
         refine .nil ⟨nofun, ?_⟩
         refine ⟨_, ?_, (Option.some.inj hx3).symm⟩
         exact .mxq (hrenQ [(20120, 20121)] 20110 20110 (a0.Logs.set a1.Group.toNat ((a0.Logs.getD a1.Group.toNat default) ++ [a1.Value])) (by rw [List.length_set]; exact h4) (by decide)) [0] [20000, 20001, 20110, 20111, 20112, 20113, 20120] [(20120, 20121)] [20000, 20001, 20110, 20111, 20112, 20113, 20120] (by intro i hi; simp only [go_sem, idsV, idsH, Blk.ids, D.ids, D.idsL, cond_false, cond_true, List.mem_append, List.mem_cons, List.not_mem_nil, or_false, false_or, List.nil_append, List.append_nil, List.cons_append, qrefs_mem, List.length_map, List.length_set, Nat.reduceBEq] at hi ⊢; omega)
        ·skip
         replace hx3 := ite_rc hx3 hc6
         refine .skip ?_
         refine ⟨_, ?_, (Option.some.inj hx3).symm⟩
         exact .mxq (hrenQ [(20002, 20121)] 20110 20110 (a0.Logs.set a1.Group.toNat ((a0.Logs.getD a1.Group.toNat default) ++ [a1.Value])) (by rw [List.length_set]; exact h4) (by decide)) [0] [20000, 20001, 20110, 20111, 20112, 20113, 20002] [(20002, 20121)] [20000, 20001, 20110, 20111, 20112, 20113, 20002] (by intro i hi; simp only [go_sem, idsV, idsH, Blk.ids, D.ids, D.idsL, cond_false, cond_true, List.mem_append, List.mem_cons, List.not_mem_nil, or_false, false_or, List.nil_append, List.append_nil, List.cons_append, qrefs_mem, List.length_map, List.length_set, Nat.reduceBEq] at hi ⊢; omega)
       ·skip
        rintro l1 hj2
        subst x3
        try dsimp only at hx2
        simp only [Try.St_stable_put_5]
        refine .seq ?_
        refine .pl Try.S [0] ?_
        have hq := Option.some.inj hx2
        subst x2
        try dsimp only at h
        have hq := Option.some.inj h
        subst r
        refine .ret ⟨Try.Re_stable_put (0, (⟨(a0.Logs.set a1.Group.toNat ((a0.Logs.getD a1.Group.toNat default) ++ [a1.Value])), l1⟩ : TStable)), ?_, .inr rfl, retH [20000, 20001, 20101, 20113, 20112, 20111, 20110] ?_ ?_⟩
        ·skip
         exact .mxq (hrenQ [(20121, 20101)] 20110 20110 (a0.Logs.set a1.Group.toNat ((a0.Logs.getD a1.Group.toNat default) ++ [a1.Value])) (by rw [List.length_set]; exact h4) (by decide)) [0, 4] [20000, 20001, 20110, 20111, 20112, 20113, 20121] [(20121, 20101)] [20000, 20001, 20110, 20111, 20112, 20113, 20121] (by intro i hi; simp only [go_sem, idsV, idsH, Blk.ids, D.ids, D.idsL, cond_false, cond_true, List.mem_append, List.mem_cons, List.not_mem_nil, or_false, false_or, List.nil_append, List.append_nil, List.cons_append, qrefs_mem, List.length_map, List.length_set, Nat.reduceBEq] at hi ⊢; omega)
        ·exact rsi0
        ·rfl
    ·skip
     rintro ⟨n5, n6, s2, n7⟩ hj3
     subst x2
     try dsimp only at h
     simp only [Try.St_stable_put_3]
     refine .seq ?_
     refine .seq ?_
     refine .pl Try.S [0, 6, 7, 8, 9] ?_
     refine .cond rfl rfl (fun hc7 => ?_) (fun hc7 => ?_)
     ·skip
      replace h := ite_lc h hc7
      refine .seq ?_
      refine .pl Try.S [0, 9] ?_
      have hq := Option.some.inj h
      subst r
      refine .ret ⟨Try.Re_stable_put (n7, a0), ?_, .inr rfl, retH [20000, 20001, 20101, 20113, 20112, 20111, 20110] ?_ ?_⟩
      ·skip
       exact .mxq (hrenQ [(20002, 20101), (20010, 20110), (20011, 20111), (20012, 20112), (20013, 20113)] 20010 20110 a0.Logs h4 (by decide)) [0, 4] [20000, 20001, 20010, 20011, 20012, 20013, 20002] [(20002, 20101), (20010, 20110), (20011, 20111), (20012, 20112), (20013, 20113)] [20000, 20001, 20010, 20011, 20012, 20013, 20002] (by intro i hi; simp only [go_sem, idsV, idsH, Blk.ids, D.ids, D.idsL, cond_false, cond_true, List.mem_append, List.mem_cons, List.not_mem_nil, or_false, false_or, List.nil_append, List.append_nil, List.cons_append, qrefs_mem, List.length_map, List.length_set, Nat.reduceBEq] at hi ⊢; omega)
      ·exact rsi0
      ·rfl
     ·skip
      replace h := ite_rc h hc7
      refine .skip ?_
      obtain ⟨x4, hx4, h⟩ := bind_some h
      refine .seqM 20102 (fun (j : (List TSeen)) => Try.St_stable_put_7 a0 v1 n1 n2 n5 n6 s2 j) (fun j => x4 = j) (Nat.le_of_ble_eq_true rfl) ?_ ?_
      ·skip
       refine .seq ?_
       refine .pl Try.S [0, 6, 7, 8] ?_
       refine .cond rfl rfl (fun hc8 => ?_) (fun hc8 => ?_)
       ·skip
        replace hx4 := ite_lc hx4 hc8
        obtain ⟨k5, hx4⟩ := ite_ck hx4
        obtain ⟨k6, hx4⟩ := ite_ck hx4
        refine .rg Try.S [0, 6, 7] ?_
        refine .rd 8 ?_
        refine .hcall (r := .ref 20103 5 0 (((a0.Votes.take v1.1.toNat) ++ ((⟨n1, n2, (⟨n5, n6, s2⟩ : TVote)⟩ : TSeen) :: (a0.Votes.drop v1.1.toNat))).length) (some unkC)) rfl rfl rfl rfl rfl (insT67 20002 20102 20103 (by decide) (by decide) (by decide) a0.Votes (⟨n1, n2, (⟨n5, n6, s2⟩ : TVote)⟩ : TSeen) v1.1 k5 k6) (fun id b h => getL_pick [20002, 20102] _ id b h) (by simp) (.inr ⟨Nat.le_refl _, Nat.le_of_ble_eq_true rfl⟩) ?_
        refine .rd 3 ?_
        refine .nil ⟨fun _ => schedB_of (by kernel_rfl), ?_⟩
        refine ⟨_, ?_, (Option.some.inj hx4).symm⟩
        exact .mxq (hrenQ [(20103, 20102)] 20010 20010 a0.Logs h4 (by decide)) [0, 6, 7] [20000, 20001, 20010, 20011, 20012, 20013, 20101, 20103] [(20103, 20102)] [20000, 20001, 20010, 20011, 20012, 20013, 20101, 20103] (by intro i hi; simp only [go_sem, idsV, idsH, Blk.ids, D.ids, D.idsL, cond_false, cond_true, List.mem_append, List.mem_cons, List.not_mem_nil, or_false, false_or, List.nil_append, List.append_nil, List.cons_append, qrefs_mem, List.length_map, List.length_set, Nat.reduceBEq] at hi ⊢; omega)
       ·skip
        replace hx4 := ite_rc hx4 hc8
        refine .skip ?_
        refine ⟨_, ?_, (Option.some.inj hx4).symm⟩
        exact .mxq (hrenQ [(20002, 20102)] 20010 20010 a0.Logs h4 (by decide)) [0, 6, 7] [20000, 20001, 20010, 20011, 20012, 20013, 20101, 20002] [(20002, 20102)] [20000, 20001, 20010, 20011, 20012, 20013, 20101, 20002] (by intro i hi; simp only [go_sem, idsV, idsH, Blk.ids, D.ids, D.idsL, cond_false, cond_true, List.mem_append, List.mem_cons, List.not_mem_nil, or_false, false_or, List.nil_append, List.append_nil, List.cons_append, qrefs_mem, List.length_map, List.length_set, Nat.reduceBEq] at hi ⊢; omega)
      ·skip
       rintro l2 hj4
       subst x4
       try dsimp only at h
       simp only [Try.St_stable_put_7]
       refine .seq ?_
       obtain ⟨k7, h⟩ := ite_ck h
       have e3 := nth_mapI TSeen.d l2 v1.1
       have es2 := setN_map TSeen.d l2 v1.1.toNat (⟨n1, n2, (⟨n5, n6, s2⟩ : TVote)⟩ : TSeen)
       replace e3 := e3 k7
       replace es2 : setN (l2.map TSeen.d) v1.1.toNat (.agg [.int .i64 n1, .int .i64 n2, .int .i64 n5, .int .i64 n6, .str s2]) = (l2.set v1.1.toNat (⟨n1, n2, (⟨n5, n6, s2⟩ : TVote)⟩ : TSeen)).map TSeen.d := es2
       refine .drx Try.S (And.intro e3 es2) [0, 6, 7] ?_
       refine .seq ?_
       refine .pl Try.S [0] ?_
       have hq := Option.some.inj h
       subst r
       refine .ret ⟨Try.Re_stable_put (0, (⟨a0.Logs, (l2.set v1.1.toNat (⟨n1, n2, (⟨n5, n6, s2⟩ : TVote)⟩ : TSeen))⟩ : TStable)), ?_, .inr rfl, retH [20000, 20001, 20101, 20113, 20112, 20111, 20110] ?_ ?_⟩
       ·skip
        exact .mxq (hrenQ [(20102, 20101), (20010, 20110), (20011, 20111), (20012, 20112), (20013, 20113)] 20010 20110 a0.Logs h4 (by decide)) [0, 4] [20000, 20001, 20010, 20011, 20012, 20013, 20102] [(20102, 20101), (20010, 20110), (20011, 20111), (20012, 20112), (20013, 20113)] [20000, 20001, 20010, 20011, 20012, 20013, 20102] (by intro i hi; simp only [go_sem, idsV, idsH, Blk.ids, D.ids, D.idsL, cond_false, cond_true, List.mem_append, List.mem_cons, List.not_mem_nil, or_false, false_or, List.nil_append, List.append_nil, List.cons_append, qrefs_mem, List.length_map, List.length_set, Nat.reduceBEq] at hi ⊢; omega)
       ·exact rsi0
       ·rfl
end Go.Proofs
end
