/- Texts of the proof. -/
import Derived.Test.YtbbinddkhlmlcaaDecreeLaterPg
import Derived.Test.YtbbinddkhlmlcaaDecreeLaterPh
import Derived.Test.YtbbinddkhlmlcaaDecreeLaterPk
import Derived.Test.YtbbinddkhlmlcaaDecreeLaterPl
import Derived.Test.YtbbinddkhlmlcaaDecreeLaterPf
import Derived.Test.YtbbinddkhlmlcaaDecreeLaterPi
section
namespace Go.Proofs
open Go.Tm
set_option linter.unusedVariables false
def m_towncrierlaw09_DecreeLater_loop2 (a2 : Int) (a3 : List Int) (v4 : TWorld × Int) (n1 : Int) : Nat → (List Int) → (List TVote) → (List TAttempt) → (List TMail) → (List TChoice) → Int → Option (Bool ⊕ ((List Int) × (List TVote) × (List TAttempt) × (List TMail) × (List TChoice)))
 | 0, _, _, _, _, _, _ => none
 | fu2 + 1, l16, l17, l18, l19, l20, n2 =>
  if n2 ≥ 0 then
  Option.bind (α := Bool ⊕ ((List Int) × (List TVote) × (List TAttempt) × (List TMail) × (List TChoice) × Int)) (if (0 ≤ n2 ∧ n2 < (l19.length : Int)) then
  if (((l19.getD n2.toNat default).Kind = 1) ∧ ((l19.getD n2.toNat default).From = a2)) → (0 ≤ n1 ∧ n1 < (a3.length : Int)) then
  if ((¬ ((((l19.getD n2.toNat default).Kind = 1) ∧ ((l19.getD n2.toNat default).From = a2)) ∧ ((l19.getD n2.toNat default).To = (a3.getD n1.toNat default)))) ∧ (((l19.getD n2.toNat default).Kind = 2) ∧ ((l19.getD n2.toNat default).To = a2))) → (0 ≤ n1 ∧ n1 < (a3.length : Int)) then
  if (¬ (((((l19.getD n2.toNat default).Kind = 1) ∧ ((l19.getD n2.toNat default).From = a2)) ∧ ((l19.getD n2.toNat default).To = (a3.getD n1.toNat default))) ∨ ((((l19.getD n2.toNat default).Kind = 2) ∧ ((l19.getD n2.toNat default).To = a2)) ∧ ((l19.getD n2.toNat default).From = (a3.getD n1.toNat default))))) ∨ (¬ ((l19.getD n2.toNat default).Ballot = (v4.1.Tries.getD a2.toNat default).Ballot)) then
  some (.inr (l16, l17, l18, l19, l20, n2))
  else
  Option.bind (m_towncrierlaw09_deliver n2) fun v5 =>
  Option.bind (m_decree_Do (⟨l16, l17, l18, l19, l20⟩ : TWorld) v5) fun v6 =>
  if ¬ (v6.2 = 0) then
  some (.inl false)
  else
  some (.inr (v6.1.Members, v6.1.Votes, v6.1.Tries, v6.1.Mail, v6.1.Chosen, (v6.1.Mail.length : Int)))
  else none
  else none
  else none) fun z => match z with
  | (.inl r) => some (.inl r)
  | (.inr (l21, l22, l23, l24, l25, n3)) =>
  m_towncrierlaw09_DecreeLater_loop2 a2 a3 v4 n1 fu2 l21 l22 l23 l24 l25 (wr .i64 (n3 - 1))
  else
  some (.inr (l16, l17, l18, l19, l20))
def m_towncrierlaw09_DecreeLater_loop1 (a2 : Int) (a3 : List Int) (v4 : TWorld × Int) : Nat → (List Int) → (List TVote) → (List TAttempt) → (List TMail) → (List TChoice) → Int → Option (Bool ⊕ ((List Int) × (List TVote) × (List TAttempt) × (List TMail) × (List TChoice)))
 | 0, _, _, _, _, _, _ => none
 | fu1 + 1, l6, l7, l8, l9, l10, n1 =>
  if n1 < (a3.length : Int) then
  Option.bind (α := Bool ⊕ ((List Int) × (List TVote) × (List TAttempt) × (List TMail) × (List TChoice))) (m_towncrierlaw09_DecreeLater_loop2 a2 a3 v4 n1 (l9.length * 5000 + 3000000) l6 l7 l8 l9 l10 (wr .i64 ((l9.length : Int) - 1))) fun z => match z with
  | (.inl r) => some (.inl r)
  | (.inr (l11, l12, l13, l14, l15)) =>
  m_towncrierlaw09_DecreeLater_loop1 a2 a3 v4 fu1 l11 l12 l13 l14 l15 (wr .i64 (n1 + 1))
  else
  some (.inr (l6, l7, l8, l9, l10))
def m_towncrierlaw09_DecreeLater (a0 : List Int) (a1 : List TMove) (a2 : Int) (a3 : List Int) : Option Bool :=
 Option.bind (if ¬ ((a1.length : Int) > 100) then m_towncrierlaw09_long a1 else some default) fun v1 =>
 if (((a1.length : Int) > 100) ∨ (v1 = true)) ∨ ((a3.length : Int) > 20) then
 some true
 else
 Option.bind (m_decree_Run a0 a1) fun v2 =>
 Option.bind (m_towncrierlaw09_begin a2 [108, 97, 116, 101, 114]) fun v3 =>
 Option.bind (m_decree_Do v2.1 v3) fun v4 =>
 if (((((¬ (v2.2 = 0)) ∨ (¬ (v4.2 = 0))) ∨ ((v2.1.Chosen.length : Int) = 0)) ∨ (a2 < 0)) ∨ (a2 > 5)) ∨ (¬ ((v4.1.Tries.length : Int) = 6)) then
 some true
 else
 if (0 ≤ a2 ∧ a2 < (v4.1.Tries.length : Int)) then
 Option.bind (α := Bool ⊕ ((List Int) × (List TVote) × (List TAttempt) × (List TMail) × (List TChoice))) (m_towncrierlaw09_DecreeLater_loop1 a2 a3 v4 (a3.length + 1) v4.1.Members v4.1.Votes v4.1.Tries v4.1.Mail v4.1.Chosen 0) fun z => match z with
 | (.inl r) => some r
 | (.inr (l1, l2, l3, l4, l5)) =>
 if (0 ≤ a2 ∧ a2 < (l3.length : Int)) then
 if (¬ ((l3.getD a2.toNat default).Phase < 2)) → 0 < v2.1.Chosen.length then
 some (true && ((decide ((l3.getD a2.toNat default).Phase < 2)) || ((l3.getD a2.toNat default).Value == (v2.1.Chosen.getD 0 default).Value)))
 else none
 else none
 else none
end Go.Proofs
end
section
namespace Go.Proofs
open Go.Tm Go.RowKit Go.WideShapes
set_option maxRecDepth 100000
set_option maxHeartbeats 4000000
set_option linter.unusedSimpArgs false
set_option linter.unusedVariables false
attribute [local go_sem] argVars runE runK isCallV stepE aop opd opdsL opds opdO ev ofVal keep List.any natbeq Bool.false_or Bool.true_or aggEq cond_true cond_false Bool.cond_false_right Bool.cond_true_left beq_true beq_false imp_self implies_true getR getL put St.app effL del nwB blt_dec Nat.lt_irrefl Nat.lt_add_one ble_dec Nat.le_refl Nat.beq_refl roomNZ appendIn capS capK mkZ_zero mkZL_zero zeroEl D.ids D.idsL bin arith sarith binT dpick Tm.part splice fillD oneD loadD storeD srcD sliceD idxOk decide_true gval dstAt D.cells List.map_cons List.map_nil List.take List.drop List.length_map List.append Int.toNat_natCast and_true true_and decide_false List.length_cons List.length_nil List.append_nil List.nil_append Bool.and_true Bool.true_and Bool.not_false Bool.not_true ne_eq not_false_eq_true BEq.rfl List.getElem?_cons_zero List.getElem?_cons_succ List.getElem?_nil Nat.zero_add List.all_cons List.all_nil List.isEmpty_cons List.isEmpty_nil Option.getD_some Option.getD_none List.any_cons List.any_nil List.drop_succ_cons List.drop_zero unfL unf okM okML low3 List.cons_append true_or or_true Nat.zero_mul Nat.zero_le findD_int findD_str  getD_int getD_str getD_bool Option.isSome_map keyD List.length_replicate List.map_replicate setEl List.length_set bytesD_map map_ub mx_len mkZ_one mkZL_one mkM mkML mk1_int mk1_str mk1_bool drop_map take_map take_map_len List.take_length Int.toNat_zero toNat_pred fpOf metIds opIds mvV mvH mvF pickL D.ren D.renL Blk.ren List.map_append List.length_append Bool.not_not Bool.or_not_self Bool.not_or_self Bool.or_true
attribute [local go_sem] Try.tm_1 Try.tm_2 Try.tm_3 Try.tm_4 Try.tm_5 Try.tm_6 Try.tm_7 Try.tm_8 Try.tm_9 Try.tm_10 Try.tm_11 Try.tm_12 Try.tm_13 Try.tm_14 Try.tm_15 Try.tm_16 Try.tm_17 Try.tm_18 Try.tm_19 Try.tm_20 Try.tm_21 Try.tm_22 Try.tm_23 Try.tm_24 Try.tm_25 Try.tm_26 Try.tm_27 Try.tm_28 Try.tm_29 Try.tm_30 Try.tm_31 Try.tm_32 Try.tm_34 Try.tm_35 Try.tm_36 Try.tm_37 Try.tm_38 Try.tm_39 Try.tm_40 Try.tm_41 Try.tm_42 Try.tm_43 Try.tm_44 Try.tm_45 Try.tm_46 Try.tm_47 Try.tm_48 Try.tm_49 Try.tm_50 Try.tm_51 Try.tm_52 Try.tm_53 Try.tm_54 Try.tm_55 Try.tm_56 Try.tm_57 Try.tm_59 Try.tm_60 Try.tm_61 Try.tm_62 Try.tm_63 Try.tm_64 Try.tm_65 Try.tm_66 Try.tm_67 Try.tm_68 Try.tm_69 Try.tm_70 Try.tm_71 Try.tm_72 Try.tm_73 Try.tm_74 Try.tm_75 Try.tm_76 Try.tm_77 Try.tm_78 Try.tm_79 Try.tm_80 Try.tm_81 Try.tm_82 Try.tm_83 Try.tm_84 Try.tm_85 Try.tm_87 Try.tm_89 Try.tm_91 Try.tm_92 Try.tm_93 Try.tm_94 Try.tm_95 Try.tm_96 Try.tm_97 Try.tm_99 Try.tm_100 Try.tm_101 Try.tm_102 Try.tm_103 Try.tm_104 Try.tm_105 Try.tm_106 Try.tm_107 Try.tm_108 Try.tm_109 Try.tm_110 Try.tm_111 Try.tm_112 Try.tm_113 Try.tm_114 Try.tm_115 Try.tm_116 Try.tm_117 Try.tm_118 Try.tm_119 Try.tm_120 Try.tm_121 Try.tm_122 Try.tm_123 Try.tm_126 Try.tm_127 Try.tm_128 Try.tm_129 Try.tm_130 Try.tm_131 Try.tm_132 Try.tm_133 Try.tm_134 TPromise.d TAttempt.d TAttempt.n mk1_TPromise mk1_TAttempt TVote.d TMail.d TChoice.d TWorld.d TWorld.n Tdecree_world.d Tdecree_world.n TMove.d mk1_TVote mk1_TMail mk1_TChoice mk1_TWorld mk1_Tdecree_world mk1_TMove Try.f4
def Try.St_towncrierlaw09_DecreeLater_1 (a2 : Int) (v2 : TWorld × Int) (l1 : List Int) (l2 : List TVote) (l3 : List TAttempt) (l4 : List TMail) (l5 : List TChoice) : St := ⟨[(2, .int .i64 a2), (9, .bool true), (10, .ptr 0 0), (12, .ptr 1 0)], [(0, .box [.imm 1 (v2.1.Members.map (D.int .i64)) 12, .imm 3 (v2.1.Votes.map TVote.d) 12, .imm 7 (v2.1.Tries.map TAttempt.d) 12, .imm 10 (v2.1.Mail.map TMail.d) 12, .imm 2 (v2.1.Chosen.map TChoice.d) 12]), (1, .box [.imm 1 (l1.map (D.int .i64)) 12, .imm 3 (l2.map TVote.d) 12, .imm 7 (l3.map TAttempt.d) 12, .imm 10 (l4.map TMail.d) 12, .imm 2 (l5.map TChoice.d) 12])], 2⟩
attribute [local go_sem] Try.St_towncrierlaw09_DecreeLater_1
def Try.St_towncrierlaw09_DecreeLater_3 (a2 : Int) (a3 : List Int) (v2 : TWorld × Int) (v4 : TWorld × Int) (l6 : List Int) (l7 : List TVote) (l8 : List TAttempt) (l9 : List TMail) (l10 : List TChoice) (n1 : Int) : St := ⟨[(2, .int .i64 a2), (3, .imm 1 (a3.map (D.int .i64)) 4), (9, .bool true), (10, .ptr 0 0), (12, .ptr 1 0), (14, .int .i64 ((v4.1.Tries.getD a2.toNat default).Ballot)), (15, .int .i64 n1)], [(0, .box [.imm 1 (v2.1.Members.map (D.int .i64)) 12, .imm 3 (v2.1.Votes.map TVote.d) 12, .imm 7 (v2.1.Tries.map TAttempt.d) 12, .imm 10 (v2.1.Mail.map TMail.d) 12, .imm 2 (v2.1.Chosen.map TChoice.d) 12]), (1, .box [.imm 1 (l6.map (D.int .i64)) 12, .imm 3 (l7.map TVote.d) 12, .imm 7 (l8.map TAttempt.d) 12, .imm 10 (l9.map TMail.d) 12, .imm 2 (l10.map TChoice.d) 12])], 2⟩
attribute [local go_sem] Try.St_towncrierlaw09_DecreeLater_3
def Try.St_towncrierlaw09_DecreeLater_5 (a2 : Int) (a3 : List Int) (v2 : TWorld × Int) (v4 : TWorld × Int) (n1 : Int) (l11 : List Int) (l12 : List TVote) (l13 : List TAttempt) (l14 : List TMail) (l15 : List TChoice) : St := ⟨[(2, .int .i64 a2), (3, .imm 1 (a3.map (D.int .i64)) 4), (9, .bool true), (10, .ptr 0 0), (12, .ptr 1 0), (14, .int .i64 ((v4.1.Tries.getD a2.toNat default).Ballot)), (15, .int .i64 n1)], [(0, .box [.imm 1 (v2.1.Members.map (D.int .i64)) 12, .imm 3 (v2.1.Votes.map TVote.d) 12, .imm 7 (v2.1.Tries.map TAttempt.d) 12, .imm 10 (v2.1.Mail.map TMail.d) 12, .imm 2 (v2.1.Chosen.map TChoice.d) 12]), (1, .box [.imm 1 (l11.map (D.int .i64)) 12, .imm 3 (l12.map TVote.d) 12, .imm 7 (l13.map TAttempt.d) 12, .imm 10 (l14.map TMail.d) 12, .imm 2 (l15.map TChoice.d) 12])], 2⟩
attribute [local go_sem] Try.St_towncrierlaw09_DecreeLater_5
def Try.St_towncrierlaw09_DecreeLater_7 (a2 : Int) (a3 : List Int) (v2 : TWorld × Int) (v4 : TWorld × Int) (n1 : Int) (l16 : List Int) (l17 : List TVote) (l18 : List TAttempt) (l19 : List TMail) (l20 : List TChoice) (n2 : Int) : St := ⟨[(2, .int .i64 a2), (3, .imm 1 (a3.map (D.int .i64)) 4), (9, .bool true), (10, .ptr 0 0), (12, .ptr 1 0), (14, .int .i64 ((v4.1.Tries.getD a2.toNat default).Ballot)), (15, .int .i64 n1), (16, .int .i64 n2)], [(0, .box [.imm 1 (v2.1.Members.map (D.int .i64)) 12, .imm 3 (v2.1.Votes.map TVote.d) 12, .imm 7 (v2.1.Tries.map TAttempt.d) 12, .imm 10 (v2.1.Mail.map TMail.d) 12, .imm 2 (v2.1.Chosen.map TChoice.d) 12]), (1, .box [.imm 1 (l16.map (D.int .i64)) 12, .imm 3 (l17.map TVote.d) 12, .imm 7 (l18.map TAttempt.d) 12, .imm 10 (l19.map TMail.d) 12, .imm 2 (l20.map TChoice.d) 12])], 2⟩
attribute [local go_sem] Try.St_towncrierlaw09_DecreeLater_7
def Try.St_towncrierlaw09_DecreeLater_9 (a2 : Int) (a3 : List Int) (v2 : TWorld × Int) (v4 : TWorld × Int) (n1 : Int) (l21 : List Int) (l22 : List TVote) (l23 : List TAttempt) (l24 : List TMail) (l25 : List TChoice) (n3 : Int) : St := ⟨[(2, .int .i64 a2), (3, .imm 1 (a3.map (D.int .i64)) 4), (9, .bool true), (10, .ptr 0 0), (12, .ptr 1 0), (14, .int .i64 ((v4.1.Tries.getD a2.toNat default).Ballot)), (15, .int .i64 n1), (16, .int .i64 n3)], [(0, .box [.imm 1 (v2.1.Members.map (D.int .i64)) 12, .imm 3 (v2.1.Votes.map TVote.d) 12, .imm 7 (v2.1.Tries.map TAttempt.d) 12, .imm 10 (v2.1.Mail.map TMail.d) 12, .imm 2 (v2.1.Chosen.map TChoice.d) 12]), (1, .box [.imm 1 (l21.map (D.int .i64)) 12, .imm 3 (l22.map TVote.d) 12, .imm 7 (l23.map TAttempt.d) 12, .imm 10 (l24.map TMail.d) 12, .imm 2 (l25.map TChoice.d) 12])], 2⟩
attribute [local go_sem] Try.St_towncrierlaw09_DecreeLater_9
theorem callP_towncrierlaw09_DecreeLater (a0 : List Int) (a1 : List TMove) (a2 : Int) (a3 : List Int) (r : Bool) (h : m_towncrierlaw09_DecreeLater a0 a1 a2 a3 = some r) : CallP Try.prog 4 [.imm 1 (a0.map (D.int .i64)) 4, .imm 4 (a1.map TMove.d) 4, .int .i64 a2, .imm 1 (a3.map (D.int .i64)) 4] (.bool r) := by
 refine callP_intro Try.tmOk 6 Try.func4 rfl (by decide) rfl rfl (Nat.le_of_ble_eq_true rfl) ?_
 intro hwf
 unfold m_towncrierlaw09_DecreeLater at h
 refine .seq ?_
 refine .pl Try.S [0, 1, 2, 3] ?_
 refine .seq ?_
 refine .rg Try.S [0, 1, 2, 3] ?_
 refine .call (r := .bool true) rfl rfl rfl rfl rfl rfl Try.namesKD ?_
 refine .rn 1 ?_
 refine .nil ⟨nofun, ?_⟩
 refine .seq ?_
 refine .seq ?_
 refine .pl Try.S [0, 1, 2, 3, 9] ?_
 refine .cond rfl rfl (fun hc => by cases hc) (fun hc => ?_)
 refine .skip ?_
 refine .seq ?_
 refine .seq ?_
 obtain ⟨v1, hv1, h⟩ := bind_some h
 refine .rg Try.S [0, 1, 2, 3, 9] ?_
 refine .rn 5 ?_
 refine .gcall (r := .bool v1) rfl rfl rfl rfl rfl (fun hg => ⟨[], [.imm 4 (a1.map TMove.d) 4], _, rfl, gd hg, rfl, (callP_towncrierlaw09_long a1 v1 (ite_lc hv1 hg))⟩) ?_
 refine .rn 6 ?_
 refine .nil ⟨nofun, ?_⟩
 refine .cond rfl rfl (fun hc1 => ?_) (fun hc1 => ?_)
 ·skip
  replace h := ite_lc h hc1
  refine .seq ?_
  refine .pl Try.S [9] ?_
  have hq := Option.some.inj h
  subst r
  exact .ret ⟨.inr rfl, rsi⟩
 ·skip
  replace h := ite_rc h hc1
  refine .skip ?_
  refine .seq ?_
  obtain ⟨v2, hv2, h⟩ := bind_some h
  refine .rg Try.S [0, 1, 2, 3, 9] ?_
  refine .rn 2 ?_
  refine .call (r := .tuple [.agg [.imm 1 (v2.1.Members.map (D.int .i64)) 12, .imm 3 (v2.1.Votes.map TVote.d) 12, .imm 7 (v2.1.Tries.map TAttempt.d) 12, .imm 10 (v2.1.Mail.map TMail.d) 12, .imm 2 (v2.1.Chosen.map TChoice.d) 12], .int .i64 v2.2]) rfl rfl rfl rfl rfl rfl (callP_decree_Run a0 a1 v2 hv2) ?_
  refine .rn 6 ?_
  refine .nil ⟨nofun, ?_⟩
  refine .seq ?_
  obtain ⟨v3, hv3, h⟩ := bind_some h
  obtain ⟨v4, hv4, h⟩ := bind_some h
  refine .rg Try.S [2, 3, 9, 10, 11] ?_
  refine .rd 2 ?_
  refine .call (r := .agg [.int .u8 v3.Kind, .int .i64 v3.Node, .int .i64 v3.At, .str v3.Value]) rfl rfl rfl rfl rfl rfl (callP_towncrierlaw09_begin a2 [108, 97, 116, 101, 114] v3 hv3) ?_
  refine .rd 0 ?_
  refine .call (r := .tuple [.agg [.imm 1 (v4.1.Members.map (D.int .i64)) 12, .imm 3 (v4.1.Votes.map TVote.d) 12, .imm 7 (v4.1.Tries.map TAttempt.d) 12, .imm 10 (v4.1.Mail.map TMail.d) 12, .imm 2 (v4.1.Chosen.map TChoice.d) 12], .int .i64 v4.2]) rfl rfl rfl rfl rfl rfl (callP_decree_Do v2.1 v3 v4 hv4) ?_
  refine .rd 6 ?_
  refine .nil ⟨fun _ => schedB_of (by kernel_rfl), ?_⟩
  refine .seq ?_
  refine .seq ?_
  refine .rg Try.S [2, 3, 9, 10, 11, 12, 13] ?_
  refine .rn 6 ?_
  refine .rn 6 ?_
  refine .rn 6 ?_
  refine .rn 8 ?_
  refine .nil ⟨nofun, ?_⟩
  refine .cond rfl rfl (fun hc2 => ?_) (fun hc2 => ?_)
  ·skip
   replace h := ite_lc h hc2
   refine .seq ?_
   refine .pl Try.S [9] ?_
   have hq := Option.some.inj h
   subst r
   exact .ret ⟨.inr rfl, rsi⟩
  ·skip
   replace h := ite_rc h hc2
   refine .skip ?_
   refine .seq ?_
   obtain ⟨k1, h⟩ := ite_ck h
   have e1 := nth_mapI TAttempt.d v4.1.Tries a2
   replace e1 := e1 k1
   refine .plx Try.S e1 [2, 3, 9, 10, 12] ?_
   obtain ⟨x1, hx1, h⟩ := bind_some h
   refine .seqM 2 (fun (j : (List Int) × (List TVote) × (List TAttempt) × (List TMail) × (List TChoice)) => Try.St_towncrierlaw09_DecreeLater_1 a2 v2 j.1 j.2.1 j.2.2.1 j.2.2.2.1 j.2.2.2.2) (fun j => x1 = (.inr j)) (Nat.le_of_ble_eq_true rfl) ?_ ?_
   ·skip
    refine .seq ?_
    refine .pl Try.S [2, 3, 9, 10, 12, 14] ?_
    refine .block ?_
    refine .loopG 2 (fun (j : Nat × (List Int) × (List TVote) × (List TAttempt) × (List TMail) × (List TChoice) × Int) => Try.St_towncrierlaw09_DecreeLater_3 a2 a3 v2 v4 j.2.1 j.2.2.1 j.2.2.2.1 j.2.2.2.2.1 j.2.2.2.2.2.1 j.2.2.2.2.2.2) (fun j => m_towncrierlaw09_DecreeLater_loop1 a2 a3 v4 j.1 j.2.1 j.2.2.1 j.2.2.2.1 j.2.2.2.2.1 j.2.2.2.2.2.1 j.2.2.2.2.2.2 = some x1) (fun j => j.1) (a3.length + 1, v4.1.Members, v4.1.Votes, v4.1.Tries, v4.1.Mail, v4.1.Chosen, 0) (Nat.le_of_ble_eq_true rfl) ?_ hx1 ?_
    ·skip
     exact .m [2, 3, 9, 10, 12, 14, 15] [0, 1] []
    rintro ⟨fu1, l6, l7, l8, l9, l10, n1⟩ hx1
    simp only [Try.St_towncrierlaw09_DecreeLater_3]
    try simp only at hx1
    obtain ⟨fu1, rfl⟩ : ∃ k, fu1 = k + 1 := by cases fu1 with | zero => (rw [m_towncrierlaw09_DecreeLater_loop1] at hx1; cases hx1) | succ k => exact ⟨k, rfl⟩
    rw [m_towncrierlaw09_DecreeLater_loop1] at hx1
    refine .seq ?_
    refine .seq ?_
    refine .pl Try.S [2, 3, 9, 10, 12, 14, 15] ?_
    refine .cond rfl rfl (fun hc3 => ?_) (fun hc3 => ?_)
    ·skip
     replace hx1 := ite_lc hx1 hc3
     refine .skip ?_
     obtain ⟨x2, hx2, hx1⟩ := bind_some hx1
     refine .seqM 2 (fun (j : (List Int) × (List TVote) × (List TAttempt) × (List TMail) × (List TChoice)) => Try.St_towncrierlaw09_DecreeLater_5 a2 a3 v2 v4 n1 j.1 j.2.1 j.2.2.1 j.2.2.2.1 j.2.2.2.2) (fun j => x2 = (.inr j)) (Nat.le_of_ble_eq_true rfl) ?_ ?_
     ·skip
      refine .block ?_
      refine .seq ?_
      refine .pl Try.S [2, 3, 9, 10, 12, 14, 15] ?_
      refine .block ?_
      refine .loopG 2 (fun (j : Nat × (List Int) × (List TVote) × (List TAttempt) × (List TMail) × (List TChoice) × Int) => Try.St_towncrierlaw09_DecreeLater_7 a2 a3 v2 v4 n1 j.2.1 j.2.2.1 j.2.2.2.1 j.2.2.2.2.1 j.2.2.2.2.2.1 j.2.2.2.2.2.2) (fun j => m_towncrierlaw09_DecreeLater_loop2 a2 a3 v4 n1 j.1 j.2.1 j.2.2.1 j.2.2.2.1 j.2.2.2.2.1 j.2.2.2.2.2.1 j.2.2.2.2.2.2 = some x2) (fun j => j.1) (l9.length * 5000 + 3000000, l6, l7, l8, l9, l10, (wr .i64 ((l9.length : Int) - 1))) (Nat.le_of_ble_eq_true rfl) ?_ hx2 ?_
      ·skip
       exact .m [2, 3, 9, 10, 12, 14, 15, 16] [0, 1] []
      rintro ⟨fu2, l16, l17, l18, l19, l20, n2⟩ hx2
      simp only [Try.St_towncrierlaw09_DecreeLater_7]
      try simp only at hx2
      obtain ⟨fu2, rfl⟩ : ∃ k, fu2 = k + 1 := by cases fu2 with | zero => (rw [m_towncrierlaw09_DecreeLater_loop2] at hx2; cases hx2) | succ k => exact ⟨k, rfl⟩
      rw [m_towncrierlaw09_DecreeLater_loop2] at hx2
      refine .seq ?_
      refine .seq ?_
      refine .pl Try.S [2, 3, 9, 10, 12, 14, 15, 16] ?_
      refine .cond rfl rfl (fun hc4 => ?_) (fun hc4 => ?_)
      ·skip
       replace hx2 := ite_lc hx2 hc4
       refine .skip ?_
       obtain ⟨x3, hx3, hx2⟩ := bind_some hx2
       refine .seqM 2 (fun (j : (List Int) × (List TVote) × (List TAttempt) × (List TMail) × (List TChoice) × Int) => Try.St_towncrierlaw09_DecreeLater_9 a2 a3 v2 v4 n1 j.1 j.2.1 j.2.2.1 j.2.2.2.1 j.2.2.2.2.1 j.2.2.2.2.2) (fun j => x3 = (.inr j)) (Nat.le_of_ble_eq_true rfl) ?_ ?_
       ·skip
        refine .block ?_
        refine .seq ?_
        obtain ⟨k2, hx3⟩ := ite_ck hx3
        have e2 := nth_mapI TMail.d l19 n2
        replace e2 := e2 k2
        refine .plx Try.S e2 [2, 3, 9, 10, 12, 14, 15, 16] ?_
        obtain ⟨k3, hx3⟩ := ite_ck hx3
        obtain ⟨k4, hx3⟩ := ite_ck hx3
        refine .seqM 3 (fun (_ : Unit) => ⟨[(2, .int .i64 a2), (3, .imm 1 (a3.map (D.int .i64)) 4), (9, .bool true), (10, .ptr 0 0), (12, .ptr 1 0), (14, .int .i64 ((v4.1.Tries.getD a2.toNat default).Ballot)), (15, .int .i64 n1), (16, .int .i64 n2), (17, .ptr 2 0), (18, .bool (((((l19.getD n2.toNat default).Kind == 1) && ((l19.getD n2.toNat default).From == a2)) && ((l19.getD n2.toNat default).To == (a3.getD n1.toNat default))) || ((((l19.getD n2.toNat default).Kind == 2) && ((l19.getD n2.toNat default).To == a2)) && ((l19.getD n2.toNat default).From == (a3.getD n1.toNat default)))))], [(0, .box [.imm 1 (v2.1.Members.map (D.int .i64)) 12, .imm 3 (v2.1.Votes.map TVote.d) 12, .imm 7 (v2.1.Tries.map TAttempt.d) 12, .imm 10 (v2.1.Mail.map TMail.d) 12, .imm 2 (v2.1.Chosen.map TChoice.d) 12]), (1, .box [.imm 1 (l16.map (D.int .i64)) 12, .imm 3 (l17.map TVote.d) 12, .imm 7 (l18.map TAttempt.d) 12, .imm 10 (l19.map TMail.d) 12, .imm 2 (l20.map TChoice.d) 12]), (2, .box [.int .i64 ((l19.getD n2.toNat default).From), .int .i64 ((l19.getD n2.toNat default).To), .int .u8 ((l19.getD n2.toNat default).Kind), .int .i64 ((l19.getD n2.toNat default).Group), .int .i64 ((l19.getD n2.toNat default).Slot), .int .i64 ((l19.getD n2.toNat default).Ballot), .int .i64 ((l19.getD n2.toNat default).Prior), .str ((l19.getD n2.toNat default).Value), .int .i64 ((l19.getD n2.toNat default).Id), .int .i64 ((l19.getD n2.toNat default).Time)])], 3⟩) (fun _ => True) (Nat.le_of_ble_eq_true rfl) ?_ (fun _ _ => ?_)
        ·skip
         by_cases hgd : ((l19.getD n2.toNat default).Kind = 1) ∧ ((l19.getD n2.toNat default).From = a2)
         ·skip
          have eg10 := nth_mapI (D.int .i64) a3 n1 (k3 hgd)
          have hgp : (((l19.getD n2.toNat default).Kind == 1) && ((l19.getD n2.toNat default).From == a2)) = true := by simp only [hgd, beq_self_eq_true, Bool.and_self]
          have hgc : (((l19.getD n2.toNat default).Kind == 2) && ((l19.getD n2.toNat default).To == a2)) = false := by rw [hgd.1]; rfl
          refine .rg Try.S [2, 3, 9, 10, 12, 14, 15, 16, 17] ?_
          refine .rdx 6 (And.intro eg10 (And.intro hgp hgc)) ?_
          refine .rdx 6 (And.intro eg10 (And.intro hgp hgc)) ?_
          refine .rdx 6 (And.intro eg10 (And.intro hgp hgc)) ?_
          refine .rdx 6 (And.intro eg10 (And.intro hgp hgc)) ?_
          refine .rdx 6 (And.intro eg10 (And.intro hgp hgc)) ?_
          refine .rdx 6 (And.intro eg10 (And.intro hgp hgc)) ?_
          refine .rdx 3 (And.intro eg10 (And.intro hgp hgc)) ?_
          refine .nil ⟨fun _ => schedB_of (by kernel_rfl), ?_⟩
          refine ⟨(), ?_, trivial⟩
          exact .mx (And.intro hgp (And.intro hgc Bool.or_false)) [2, 3, 9, 10, 12, 14, 15, 16, 17, 18] [0, 1, 2] []
         ·skip
          have hgf1 : (((l19.getD n2.toNat default).Kind == 1) && ((l19.getD n2.toNat default).From == a2)) = false := by first | simpa using hgd | (simp at hgd ⊢; omega) | grind
          by_cases hgd2 : ((l19.getD n2.toNat default).Kind = 2) ∧ ((l19.getD n2.toNat default).To = a2)
          ·skip
           have eg10 := nth_mapI (D.int .i64) a3 n1 (k4 ⟨fun h => hgd h.1, hgd2⟩)
           have hgc : (((l19.getD n2.toNat default).Kind == 2) && ((l19.getD n2.toNat default).To == a2)) = true := by simp only [hgd2, beq_self_eq_true, Bool.and_self]
           refine .rg Try.S [2, 3, 9, 10, 12, 14, 15, 16, 17] ?_
           refine .rdx 6 (And.intro eg10 (And.intro hgf1 hgc)) ?_
           refine .rdx 6 (And.intro eg10 (And.intro hgf1 hgc)) ?_
           refine .rdx 6 (And.intro eg10 (And.intro hgf1 hgc)) ?_
           refine .rdx 6 (And.intro eg10 (And.intro hgf1 hgc)) ?_
           refine .rdx 6 (And.intro eg10 (And.intro hgf1 hgc)) ?_
           refine .rdx 6 (And.intro eg10 (And.intro hgf1 hgc)) ?_
           refine .rdx 3 (And.intro eg10 (And.intro hgf1 hgc)) ?_
           refine .nil ⟨fun _ => schedB_of (by kernel_rfl), ?_⟩
           refine ⟨(), ?_, trivial⟩
           exact .mx (And.intro hgf1 (And.intro hgc Bool.or_false)) [2, 3, 9, 10, 12, 14, 15, 16, 17, 18] [0, 1, 2] []
          ·skip
           have hgc : (((l19.getD n2.toNat default).Kind == 2) && ((l19.getD n2.toNat default).To == a2)) = false := by first | simpa using hgd2 | (simp at hgd2 ⊢; omega) | grind
           rcases nth_or (D.int .i64) a3 n1.toNat with eg10 | eg10
           ·skip
            refine .rg Try.S [2, 3, 9, 10, 12, 14, 15, 16, 17] ?_
            refine .rdx 6 (And.intro eg10 (And.intro hgf1 hgc)) ?_
            refine .rdx 6 (And.intro eg10 (And.intro hgf1 hgc)) ?_
            refine .rdx 6 (And.intro eg10 (And.intro hgf1 hgc)) ?_
            refine .rdx 6 (And.intro eg10 (And.intro hgf1 hgc)) ?_
            refine .rdx 6 (And.intro eg10 (And.intro hgf1 hgc)) ?_
            refine .rdx 6 (And.intro eg10 (And.intro hgf1 hgc)) ?_
            refine .rdx 3 (And.intro eg10 (And.intro hgf1 hgc)) ?_
            refine .nil ⟨fun _ => schedB_of (by kernel_rfl), ?_⟩
            refine ⟨(), ?_, trivial⟩
            exact .mx (And.intro hgf1 (And.intro hgc Bool.or_false)) [2, 3, 9, 10, 12, 14, 15, 16, 17, 18] [0, 1, 2] []
           ·skip
            refine .rg Try.S [2, 3, 9, 10, 12, 14, 15, 16, 17] ?_
            refine .rdx 6 (And.intro eg10 (And.intro hgf1 hgc)) ?_
            refine .rdx 6 (And.intro eg10 (And.intro hgf1 hgc)) ?_
            refine .rdx 6 (And.intro eg10 (And.intro hgf1 hgc)) ?_
            refine .rdx 6 (And.intro eg10 (And.intro hgf1 hgc)) ?_
            refine .rdx 6 (And.intro eg10 (And.intro hgf1 hgc)) ?_
            refine .rdx 6 (And.intro eg10 (And.intro hgf1 hgc)) ?_
            refine .rdx 3 (And.intro eg10 (And.intro hgf1 hgc)) ?_
            refine .nil ⟨fun _ => schedB_of (by kernel_rfl), ?_⟩
            refine ⟨(), ?_, trivial⟩
            exact .mx (And.intro hgf1 (And.intro hgc Bool.or_false)) [2, 3, 9, 10, 12, 14, 15, 16, 17, 18] [0, 1, 2] []
        refine .seq ?_
        refine .seq ?_
        refine .pl Try.S [2, 3, 9, 10, 12, 14, 15, 16, 17, 18] ?_
        refine .cond rfl rfl (fun hc5 => ?_) (fun hc5 => ?_)
        ·skip
         replace hx3 := ite_lc hx3 hc5
         refine .exit ?_
         refine ⟨_, ?_, (Option.some.inj hx3).symm⟩
         exact .m [2, 3, 9, 10, 12, 14, 15, 16] [0, 1] []
        ·skip
         replace hx3 := ite_rc hx3 hc5
         refine .skip ?_
         refine .seq ?_
         obtain ⟨v5, hv5, hx3⟩ := bind_some hx3
         obtain ⟨v6, hv6, hx3⟩ := bind_some hx3
         refine .rg Try.S [2, 3, 9, 10, 12, 14, 15, 16] ?_
         refine .rd 2 ?_
         refine .call (r := .agg [.int .u8 v5.Kind, .int .i64 v5.Node, .int .i64 v5.At, .str v5.Value]) rfl rfl rfl rfl rfl rfl (callP_towncrierlaw09_deliver n2 v5 hv5) ?_
         refine .rd 0 ?_
         refine .call (r := .tuple [.agg [.imm 1 (v6.1.Members.map (D.int .i64)) 12, .imm 3 (v6.1.Votes.map TVote.d) 12, .imm 7 (v6.1.Tries.map TAttempt.d) 12, .imm 10 (v6.1.Mail.map TMail.d) 12, .imm 2 (v6.1.Chosen.map TChoice.d) 12], .int .i64 v6.2]) rfl rfl rfl rfl rfl rfl (callP_decree_Do (⟨l16, l17, l18, l19, l20⟩ : TWorld) v5 v6 hv6) ?_
         refine .rd 6 ?_
         refine .nil ⟨fun _ => schedB_of (by kernel_rfl), ?_⟩
         refine .seq ?_
         refine .seq ?_
         refine .pl Try.S [2, 3, 9, 10, 12, 14, 15, 19, 20] ?_
         refine .cond rfl rfl (fun hc6 => ?_) (fun hc6 => ?_)
         ·skip
          replace hx3 := ite_lc hx3 hc6
          refine .seq ?_
          refine .pl Try.S [] ?_
          have hq := Option.some.inj hx3
          subst x3
          try dsimp only at hx2
          have hq := Option.some.inj hx2
          subst x2
          try dsimp only at hx1
          have hq := Option.some.inj hx1
          subst x1
          try dsimp only at h
          have hq := Option.some.inj h
          subst r
          exact .ret ⟨.inr rfl, rsi⟩
         ·skip
          replace hx3 := ite_rc hx3 hc6
          refine .skip ?_
          refine .seq ?_
          refine .pl Try.S [2, 3, 9, 10, 12, 14, 15, 19] ?_
          refine .pl Try.S [2, 3, 9, 10, 12, 14, 15] ?_
          refine ⟨_, ?_, (Option.some.inj hx3).symm⟩
          exact .m [2, 3, 9, 10, 12, 14, 15, 16] [0, 1] []
       ·skip
        rintro ⟨l21, l22, l23, l24, l25, n3⟩ hj1
        subst x3
        try dsimp only at hx2
        simp only [Try.St_towncrierlaw09_DecreeLater_9]
        refine .pl Try.S [2, 3, 9, 10, 12, 14, 15, 16] ?_
        refine ⟨(fu2, _, _, _, _, _, _), ?_, hx2, by dsimp only; omega⟩
        exact .m [2, 3, 9, 10, 12, 14, 15, 16] [0, 1] []
      ·skip
       replace hx2 := ite_rc hx2 hc4
       refine .exit ?_
       refine ⟨_, ?_, (Option.some.inj hx2).symm⟩
       exact .m [2, 3, 9, 10, 12, 14, 15] [0, 1] []
     ·skip
      rintro ⟨l11, l12, l13, l14, l15⟩ hj2
      subst x2
      try dsimp only at hx1
      simp only [Try.St_towncrierlaw09_DecreeLater_5]
      refine .pl Try.S [2, 3, 9, 10, 12, 14, 15] ?_
      refine ⟨(fu1, _, _, _, _, _, _), ?_, hx1, by dsimp only; omega⟩
      exact .m [2, 3, 9, 10, 12, 14, 15] [0, 1] []
    ·skip
     replace hx1 := ite_rc hx1 hc3
     refine .exit ?_
     refine ⟨_, ?_, (Option.some.inj hx1).symm⟩
     exact .m [2, 9, 10, 12] [0, 1] []
   ·skip
    rintro ⟨l1, l2, l3, l4, l5⟩ hj3
    subst x1
    try dsimp only at h
    simp only [Try.St_towncrierlaw09_DecreeLater_1]
    refine .seq ?_
    obtain ⟨k5, h⟩ := ite_ck h
    have e3 := nth_mapI TAttempt.d l3 a2
    replace e3 := e3 k5
    refine .plx Try.S e3 [2, 9, 10, 12] ?_
    obtain ⟨k6, h⟩ := ite_ck h
    refine .seqM 3 (fun (_ : Unit) => ⟨[(8, .bool (true && ((decide ((l3.getD a2.toNat default).Phase < 2)) || ((l3.getD a2.toNat default).Value == (v2.1.Chosen.getD 0 default).Value))))], [], 3⟩) (fun _ => True) (Nat.le_of_ble_eq_true rfl) ?_ (fun _ _ => ?_)
    ·skip
     by_cases hgd : ¬ ((l3.getD a2.toNat default).Phase < 2)
     ·skip
      have eg50 := nth_mapD TChoice.d v2.1.Chosen 0 (k6 hgd)
      refine .rg Try.S [9, 10, 21] ?_
      refine .rdx 6 eg50 ?_
      refine .rdx 6 eg50 ?_
      refine .rdx 5 eg50 ?_
      refine .nil ⟨fun _ => schedB_of (by kernel_rfl), ?_⟩
      refine ⟨(), ?_, trivial⟩
      exact .m [8] [] []
     ·skip
      have hgf5 : (!(decide ((l3.getD a2.toNat default).Phase < 2))) = false := by first | simpa using hgd | (simp at hgd ⊢; omega) | grind
      have hgf5t : (decide ((l3.getD a2.toNat default).Phase < 2)) = true := by first | simpa using hgf5 | grind
      rcases nth_or TChoice.d v2.1.Chosen 0 with eg50 | eg50
      ·skip
       refine .rg Try.S [9, 10, 21] ?_
       refine .rdx 6 (And.intro eg50 (And.intro hgf5 hgf5t)) ?_
       refine .rdx 6 (And.intro eg50 (And.intro hgf5 hgf5t)) ?_
       refine .rdx 5 (And.intro eg50 (And.intro hgf5 hgf5t)) ?_
       refine .nil ⟨fun _ => schedB_of (by kernel_rfl), ?_⟩
       refine ⟨(), ?_, trivial⟩
       exact .mx (And.intro hgf5 hgf5t) [8] [] []
      ·skip
       refine .rg Try.S [9, 10, 21] ?_
       refine .rdx 6 (And.intro eg50 (And.intro hgf5 hgf5t)) ?_
       refine .rdx 6 (And.intro eg50 (And.intro hgf5 hgf5t)) ?_
       refine .rdx 5 (And.intro eg50 (And.intro hgf5 hgf5t)) ?_
       refine .nil ⟨fun _ => schedB_of (by kernel_rfl), ?_⟩
       refine ⟨(), ?_, trivial⟩
       exact .mx (And.intro hgf5 hgf5t) [8] [] []
    have hq := Option.some.inj h
    subst r
    exact .ret ⟨.inr rfl, rsi⟩
end Go.Proofs
end
section
namespace Go.Proofs
open Go.Tm
def risesP : Int → List Int → Bool
 | _, [] => true
 | last, n :: r => decide (last < n) && decide (n < 6) && risesP n r
def gen : Nat → Int → List (List Int)
 | 0, _ => [[]]
 | f + 1, lo => gen f (lo + 1) ++ (gen f (lo + 1)).map fun r => (lo + 1) :: r
theorem nil_gen : ∀ (f : Nat) (lo : Int), [] ∈ gen f lo
 | 0, _ => by simp [gen]
 | f + 1, lo => by simp only [gen, List.mem_append]; exact .inl (nil_gen f _)
theorem mem_gen : ∀ (f : Nat) (lo : Int) (l : List Int), 5 - lo ≤ f → risesP lo l = true → l ∈ gen f lo
 | f, lo, [], _, _ => nil_gen f lo
 | 0, lo, x :: r, hf, h => by
  simp only [risesP, Bool.and_eq_true, decide_eq_true_eq] at h
  omega
 | f + 1, lo, x :: r, hf, h => by
  have h' := h
  simp only [risesP, Bool.and_eq_true, decide_eq_true_eq] at h'
  simp only [gen, List.mem_append, List.mem_map]
  by_cases hx : x = lo + 1
  ·subst hx
   exact .inr ⟨r, mem_gen f (lo + 1) r (by omega) h'.2, rfl⟩
  ·refine .inl (mem_gen f (lo + 1) (x :: r) (by omega) ?_)
   simp only [risesP, Bool.and_eq_true, decide_eq_true_eq]
   exact ⟨⟨by omega, h'.1.2⟩, h'.2⟩
def setB (l : List Int) : Int := l.foldl (fun s n => bif decide (n ≥ 0) && decide (n < 6) then bitw .or .u64 s (shw true .u64 1 n) else s) 0
def hasI (l : List Int) (n : Int) : Bool := l.any fun x => x == n
end Go.Proofs
end
section
namespace Go.Proofs
open Go.Tm
def popI (n : Int) : Int :=
 let a := wr .u64 (bitw .and .u64 (shw false .u64 n 1) 6148914691236517205 + bitw .and .u64 n 6148914691236517205)
 let b := wr .u64 (bitw .and .u64 (shw false .u64 a 2) 3689348814741910323 + bitw .and .u64 a 3689348814741910323)
 let c := bitw .and .u64 (wr .u64 (shw false .u64 b 4 + b)) 1085102592571150095
 let d := wr .u64 (c + shw false .u64 c 8)
 let e := wr .u64 (d + shw false .u64 d 16)
 let f := wr .u64 (e + shw false .u64 e 32)
 bitw .and .i64 (wr .i64 f) 127
def mask (p : Int → Bool) : List Int := [0, 1, 2, 3, 4, 5].filter p
theorem mask_gen (p : Int → Bool) : mask p ∈ gen 6 (-1) := by
 refine mem_gen 6 (-1) _ (by omega) ?_
 unfold mask
 cases h0 : p 0 <;> cases h1 : p 1 <;> cases h2 : p 2 <;> cases h3 : p 3 <;> cases h4 : p 4 <;> cases h5 : p 5 <;> simp [h0, h1, h2, h3, h4, h5, risesP]
def setStep (s n : Int) : Int := bif decide (n ≥ 0) && decide (n < 6) then bitw .or .u64 s (shw true .u64 1 n) else s
theorem setB_snoc (l : List Int) (n : Int) : setB (l ++ [n]) = setStep (setB l) n := by
 unfold setB
 rw [List.foldl_append]
 rfl
theorem step_all : ((gen 6 (-1)).all fun k => [0, 1, 2, 3, 4, 5].all fun n => setStep (setB k) n == setB (mask fun x => hasI k x || x == n)) = true := by decide +kernel
theorem mask_congr {p q : Int → Bool} (h : ∀ x ∈ [(0 : Int), 1, 2, 3, 4, 5], p x = q x) : mask p = mask q := by
 unfold mask
 exact List.filter_congr h
theorem hasI_mask (p : Int → Bool) (x : Int) (hx : x ∈ [(0 : Int), 1, 2, 3, 4, 5]) : hasI (mask p) x = p x := by
 unfold hasI mask
 rw [List.any_filter]
 simp only [List.any_cons, List.any_nil]
 simp only [List.mem_cons, List.not_mem_nil, or_false] at hx
 rcases hx with rfl | rfl | rfl | rfl | rfl | rfl <;> simp
theorem hasI_snoc (l : List Int) (n x : Int) : hasI (l ++ [n]) x = (hasI l x || n == x) := by
 unfold hasI
 simp
theorem setB_mask (l : List Int) : setB l = setB (mask (hasI l)) := by
 generalize hm : l.reverse = r
 have hl : l = r.reverse := by rw [← hm, List.reverse_reverse]
 clear hm
 subst hl
 induction r with
 | nil => decide +kernel
 | cons n r ih =>
  rw [List.reverse_cons, setB_snoc, ih]
  by_cases hn : n ∈ [(0 : Int), 1, 2, 3, 4, 5]
  ·have h := List.all_eq_true.1 (List.all_eq_true.1 step_all _ (mask_gen (hasI r.reverse))) n hn
   rw [eq_of_beq h]
   congr 1
   refine mask_congr fun x hx => ?_
   rw [hasI_mask _ x hx, hasI_snoc]
   congr 1
   rw [Bool.eq_iff_iff, beq_iff_eq, beq_iff_eq]
   exact eq_comm
  ·have h1 : setStep (setB (mask (hasI r.reverse))) n = setB (mask (hasI r.reverse)) := by
    unfold setStep
    have : (decide (n ≥ 0) && decide (n < 6)) = false := by
     rw [Bool.eq_false_iff]
     intro hh
     simp only [Bool.and_eq_true, decide_eq_true_eq] at hh
     exact hn (by simp only [List.mem_cons, List.not_mem_nil, or_false]; omega)
    rw [this]; rfl
   rw [h1]
   congr 1
   refine mask_congr fun x hx => ?_
   rw [hasI_snoc]
   have : (n == x) = false := by
    rw [Bool.eq_false_iff]
    intro hh
    rw [eq_of_beq hh] at hn
    exact hn hx
   rw [this, Bool.or_false]
theorem pop_all : ((gen 6 (-1)).all fun m => (gen 6 (-1)).all fun k => popI (bitw .and .u64 (setB m) (setB k)) == ((m.filter (hasI k)).length : Int)) = true := by decide +kernel
theorem rises_mem {m : List Int} (hm : risesP (-1) m = true) : ∀ x ∈ m, x ∈ [(0 : Int), 1, 2, 3, 4, 5] := by
 have key : ∀ (l : List Int) (k : Int), risesP k l = true → ∀ x ∈ l, k < x ∧ x < 6 := by
  intro l
  induction l with
  | nil => intro _ _ x hx; cases hx
  | cons y l ih =>
   intro k h x hx
   simp only [risesP, Bool.and_eq_true, decide_eq_true_eq] at h
   rcases List.mem_cons.1 hx with rfl | hx
   ·exact h.1
   ·have := ih y h.2 x hx
    omega
 intro x hx
 have := key m (-1) hm x hx
 simp only [List.mem_cons, List.not_mem_nil, or_false]
 omega
theorem pop_count {m : List Int} (hm : risesP (-1) m = true) (s : List Int) : popI (bitw .and .u64 (setB m) (setB s)) = ((m.filter (hasI s)).length : Int) := by
 rw [setB_mask s]
 have h := List.all_eq_true.1 (List.all_eq_true.1 pop_all m (mem_gen 6 (-1) m (by omega) hm)) _ (mask_gen (hasI s))
 rw [eq_of_beq h]
 congr 2
 exact List.filter_congr fun x hx => hasI_mask _ x (rises_mem hm x hx)
end Go.Proofs
end
section
namespace Go.Proofs
open Go.Tm
set_option linter.unusedSimpArgs false
theorem nodes_loop (l : List TPromise) : ∀ acc : List Int, acc.length + l.length < 1000000 → m_attempt_nodes_loop1 l acc = some (acc ++ l.map TPromise.Node) := by
 induction l with
 | nil => intro acc _; simp [m_attempt_nodes_loop1]
 | cons y l ih =>
  intro acc h
  simp only [List.length_cons] at h
  rw [m_attempt_nodes_loop1, if_pos (by simp; omega), ih _ (by simp; omega)]
  simp
theorem nodes_eq (l : List TPromise) (h : l.length < 1000000) : m_attempt_nodes l = some (l.map TPromise.Node) := by
 rw [m_attempt_nodes, nodes_loop l [] (by simpa using h)]; rfl
def bestS : List TPromise → List UInt8 → Int → List UInt8
 | [], s, _ => s
 | y :: l, s, n => if y.Ballot > n then bestS l y.Value y.Ballot else bestS l s n
theorem best_loop (l : List TPromise) : ∀ s n, m_attempt_Best_loop1 l s n = some (bestS l s n) := by
 induction l with
 | nil => intro s n; rfl
 | cons y l ih =>
  intro s n
  rw [m_attempt_Best_loop1, bestS]
  split <;> simp only [Option.bind_some] <;> exact ih _ _
theorem best_eq (l : List TPromise) (w : List UInt8) : m_attempt_Best l w = some (bestS l w 0) := by
 rw [m_attempt_Best, best_loop]; rfl
theorem index_loop (v : Int) (l : List Int) : ∀ n : Nat, (v ∈ l → ∃ k : Nat, m_slices_Index_int_int_loop1 v l n = some (.inl (k : Int))) ∧ (v ∉ l → m_slices_Index_int_int_loop1 v l n = some (.inr ())) := by
 induction l with
 | nil => intro n; exact ⟨(fun h => by cases h), fun _ => rfl⟩
 | cons y l ih =>
  intro n
  rw [m_slices_Index_int_int_loop1]
  by_cases h : v = y
  ·rw [if_pos h]
   exact ⟨fun _ => ⟨n, rfl⟩, fun hn => absurd (h ▸ List.mem_cons_self) hn⟩
  ·rw [if_neg h]
   refine ⟨fun hv => (ih (n + 1)).1 ?_, fun hv => (ih (n + 1)).2 fun hh => hv (List.mem_cons_of_mem _ hh)⟩
   rcases List.mem_cons.1 hv with hv | hv
   ·exact absurd hv h
   ·exact hv
theorem has_eq (l : List Int) (v : Int) : m_quorum_Has l v = some (decide (v ∈ l)) := by
 rw [m_quorum_Has, m_slices_Contains_int_int, m_slices_Index_int_int]
 by_cases h : v ∈ l
 ·obtain ⟨k, hk⟩ := (index_loop v l 0).1 h
  rw [hk]
  simp [h]
 ·rw [(index_loop v l 0).2 h]
  simp [h]
end Go.Proofs
end
section
namespace Go.Proofs
open Go.Tm
set_option linter.unusedSimpArgs false
theorem rises_lt : ∀ (l : List Int) (k : Int), risesP k l = true → ∀ x ∈ l, k < x ∧ x < 6 := by
 intro l
 induction l with
 | nil => intro _ _ x hx; cases hx
 | cons y l ih =>
  intro k h x hx
  simp only [risesP, Bool.and_eq_true, decide_eq_true_eq] at h
  rcases List.mem_cons.1 hx with rfl | hx
  ·exact h.1
  ·have := ih y h.2 x hx
   omega
theorem qcheck_loop (l : List Int) : ∀ n, m_quorum_Check_loop1 l n = some (if risesP n l = true then .inr (l.getLastD n) else .inl 60) := by
 induction l with
 | nil => intro n; simp [m_quorum_Check_loop1, risesP]
 | cons y l ih =>
  intro n
  rw [m_quorum_Check_loop1]
  by_cases h : (y ≤ n) ∨ (y ≥ 6)
  ·rw [if_pos h, if_neg (by simp only [risesP, Bool.and_eq_true, decide_eq_true_eq]; omega)]
  ·rw [if_neg h, ih]
   have : risesP n (y :: l) = risesP y l := by
    simp only [risesP]
    have h1 : decide (n < y) = true := by simp; omega
    have h2 : decide (y < 6) = true := by simp; omega
    simp [h1, h2]
   rw [this, List.getLastD_cons]
def QOk (l : List Int) : Prop := l.length ≤ 6 ∧ risesP (-1) l = true ∧ l ≠ []
instance (l : List Int) : Decidable (QOk l) := by unfold QOk; infer_instance
theorem qcheck_eq (l : List Int) : m_quorum_Check l = some (if l.length > 6 then 4 else if risesP (-1) l = true ∧ l ≠ [] then 0 else 60) := by
 rw [m_quorum_Check]
 by_cases h : (l.length : Int) > 6
 ·rw [if_pos h, if_pos (by omega)]
 ·rw [if_neg h, if_neg (by omega), qcheck_loop]
  by_cases hr : risesP (-1) l = true
  ·rw [if_pos hr]
   cases l with
   | nil => simp
   | cons y l =>
    have hl := (rises_lt (y :: l) (-1) hr ((y :: l).getLastD (-1)) (by rw [List.getLastD_eq_getLast?, List.getLast?_eq_some_getLast (by simp)]; exact List.getLast_mem (by simp))).1
    simp only [Option.bind_some, ne_eq, reduceCtorEq, not_false_eq_true, and_true, if_pos hr]
    rw [if_neg (by omega)]
  ·rw [if_neg hr]
   simp [hr]
theorem qok_iff (l : List Int) : m_quorum_Check l = some 0 ↔ QOk l := by
 rw [qcheck_eq]
 unfold QOk
 by_cases h : l.length > 6
 ·rw [if_pos h]; simp; omega
 ·rw [if_neg h]
  by_cases h2 : risesP (-1) l = true ∧ l ≠ []
  ·rw [if_pos h2]; simp only [true_iff]; exact ⟨by omega, h2⟩
  ·rw [if_neg h2]; simp; intro _ h3; exact Classical.byContradiction fun h4 => h2 ⟨h3, h4⟩
end Go.Proofs
end
section
namespace Go.Proofs
open Go.Tm
set_option linter.unusedSimpArgs false
def BOk (b : Int) : Prop := ¬ (wr .i64 (b.tdiv 8) < 1 ∨ wr .i64 (b.tdiv 8) > 1048576) ∧ b.tmod 8 ≥ 0 ∧ b.tmod 8 < 6
instance (b : Int) : Decidable (BOk b) := by unfold BOk; infer_instance
theorem bcheck_eq (b : Int) : m_ballot_Check b = some (if BOk b then 0 else 50) := by
 rw [m_ballot_Check, m_ballot_Of, m_ballot_node]
 unfold BOk
 by_cases h : wr .i64 (b.tdiv 8) < 1 ∨ wr .i64 (b.tdiv 8) > 1048576
 ·simp [h]
 ·by_cases h1 : b.tmod 8 ≥ 0 <;> by_cases h2 : b.tmod 8 < 6 <;> simp [h, h1, h2]
def MayS (p : TPromise) (b : Int) : Prop := if p.Ballot = 0 then p.Value = [] else BOk p.Ballot ∧ p.Ballot < b ∧ p.Value.length ≤ 1024
instance (p : TPromise) (b : Int) : Decidable (MayS p b) := by unfold MayS; infer_instance
theorem may_eq (p : TPromise) (b : Int) : m_attempt_may p b = some (decide (MayS p b)) := by
 rw [m_attempt_may, bcheck_eq]
 by_cases h : p.Ballot = 0
 ·have e : MayS p b ↔ p.Value = [] := by unfold MayS; rw [if_pos h]
  have e2 : decide (MayS p b) = decide (p.Value = []) := decide_eq_decide.2 e
  rw [if_pos h, e2]
  congr 1
  rw [Bool.eq_iff_iff]
  simp
 ·have e : MayS p b ↔ (BOk p.Ballot ∧ p.Ballot < b ∧ p.Value.length ≤ 1024) := by unfold MayS; rw [if_neg h]
  have e2 : decide (MayS p b) = decide (BOk p.Ballot ∧ p.Ballot < b ∧ p.Value.length ≤ 1024) := decide_eq_decide.2 e
  rw [if_neg h, e2]
  by_cases h1 : BOk p.Ballot <;> simp [h1]
  rw [Bool.eq_iff_iff]
  simp
  intro _
  omega
end Go.Proofs
end
section
namespace Go.Proofs
open Go.Tm
set_option linter.unusedSimpArgs false
def riseS (m : List Int) : Option Int → List Int → Bool
 | _, [] => true
 | k, y :: l => (match k with | none => true | some k => decide (k < y)) && decide (y ∈ m) && riseS m (some y) l
theorem rising_loop (m a0 : List Int) : ∀ (l : List Int) (n : Nat), a0.drop n = l → m_attempt_rising_loop1 a0 m l n = some (if riseS m (if n = 0 then none else some (a0.getD (n - 1) default)) l = true then .inr () else .inl false) := by
 intro l
 induction l with
 | nil => intro n _; simp [m_attempt_rising_loop1, riseS]
 | cons y l ih =>
  intro n h
  have hn : n < a0.length := by
   rcases Nat.lt_or_ge n a0.length with h1 | h1
   ·exact h1
   ·rw [List.drop_eq_nil_of_le h1] at h; cases h
  have hy : a0.getD n default = y := by
   have := List.drop_eq_getElem_cons hn
   rw [h] at this
   simp only [List.cons.injEq] at this
   simp [List.getD, List.getElem?_eq_getElem hn, this.1]
  have hl : a0.drop (n + 1) = l := by
   have := List.drop_eq_getElem_cons hn
   rw [h] at this
   simp only [List.cons.injEq] at this
   exact this.2.symm
  rw [m_attempt_rising_loop1, has_eq]
  have key := ih (n + 1) hl
  rw [if_neg (show ¬ (n + 1 = 0) by omega), show n + 1 - 1 = n from rfl, hy] at key
  by_cases h0 : n = 0
  ·subst h0
   by_cases hm : y ∈ m
   ·simp [hm, key, riseS]
   ·simp [hm, riseS]
  ·have hp : (n : Int) > 0 := by omega
   rw [if_neg h0]
   generalize a0.getD (n - 1) default = z
   by_cases hle : y ≤ z
   ·have : ¬ (z < y) := by omega
    have hn0 : 0 < n := by omega
    simp [hle, riseS, this, h0, hn0]
   ·have : z < y := by omega
    by_cases hm : y ∈ m
    ·simp [hle, riseS, this, hm, key]
    ·simp [hle, riseS, this, hm]
theorem rising_eq (l m : List Int) : m_attempt_rising l m = some (riseS m none l) := by
 rw [m_attempt_rising, rising_loop m l l 0 (by simp)]
 rw [if_pos rfl]
 cases h : riseS m none l <;> simp
end Go.Proofs
end
section
namespace Go.Proofs
open Go.Tm
set_option linter.unusedSimpArgs false
theorem set_loop (l : List Int) : ∀ s, m_quorum_set_loop1 l s = some (l.foldl (fun s n => bif decide (n ≥ 0) && decide (n < 6) then bitw .or .u64 s (shw true .u64 1 n) else s) s) := by
 induction l with
 | nil => intro s; rfl
 | cons y l ih =>
  intro s
  rw [m_quorum_set_loop1, List.foldl_cons]
  by_cases h0 : y ≥ 0
  ·by_cases h6 : y < 6
   ·have : 0 ≤ y := h0
    simp [h0, h6, this, ih]
   ·simp [h0, h6, ih]
  ·simp [h0, ih]
theorem set_eq (l : List Int) : m_quorum_set l = some (setB l) := by
 rw [m_quorum_set, set_loop]; rfl
theorem ones_eq (n : Int) : m_math_bits_OnesCount n = some (popI n) := by
 rw [m_math_bits_OnesCount, m_math_bits_OnesCount64]
 rfl
def mostS (m l : List Int) : Bool := decide (((m.filter (hasI l)).length : Int) ≥ (m.length / 2 + 1 : Nat))
theorem most_eq (m l : List Int) (hm : QOk m) (hl : l.length ≤ 1000) : m_quorum_Most m l = some (mostS m l, 0) := by
 have hn : wr .i64 (wr .i64 ((m.length : Int).tdiv 2) + 1) = ((m.length / 2 + 1 : Nat) : Int) := by
  have h6 := hm.1
  generalize m.length = k at h6
  match k, h6 with
  | 0, _ => decide +kernel
  | 1, _ => decide +kernel
  | 2, _ => decide +kernel
  | 3, _ => decide +kernel
  | 4, _ => decide +kernel
  | 5, _ => decide +kernel
  | 6, _ => decide +kernel
  | k + 7, h => omega
 rw [m_quorum_Most, m_quorum_Need, (qok_iff m).2 hm]
 simp only [Option.bind_some, not_true_eq_false, if_false, hn]
 rw [if_neg (by omega), set_eq, set_eq]
 simp only [Option.bind_some, ones_eq, pop_count hm.2.1 l]
 rfl
end Go.Proofs
end
section
namespace Go.Proofs
open Go.Tm
set_option linter.unusedSimpArgs false
theorem indexFunc_loop (f : TPromise → Option Bool) (g : TPromise → Bool) (hf : ∀ x, f x = some (g x)) (l : List TPromise) : ∀ n : Nat, (l.any g = true → ∃ k : Nat, m_slices_IndexFunc_Promise_Promise_loop1 f l n = some (.inl (k : Int))) ∧ (l.any g = false → m_slices_IndexFunc_Promise_Promise_loop1 f l n = some (.inr ())) := by
 induction l with
 | nil => intro n; exact ⟨(fun h => by cases h), fun _ => rfl⟩
 | cons y l ih =>
  intro n
  rw [m_slices_IndexFunc_Promise_Promise_loop1, hf, List.any_cons]
  cases hg : g y with
  | true => exact ⟨fun _ => ⟨n, by simp⟩, fun h => by cases h⟩
  | false => simpa using ih (n + 1)
theorem containsFunc_eq (f : TPromise → Option Bool) (g : TPromise → Bool) (hf : ∀ x, f x = some (g x)) (l : List TPromise) : m_slices_ContainsFunc_Promise_Promise l f = some (l.any g) := by
 rw [m_slices_ContainsFunc_Promise_Promise, m_slices_IndexFunc_Promise_Promise]
 cases h : l.any g with
 | true => obtain ⟨k, hk⟩ := (indexFunc_loop f g hf l 0).1 h; rw [hk]; simp
 | false => rw [(indexFunc_loop f g hf l 0).2 h]; simp
theorem equal_loop (b : List Int) : ∀ (l : List Int) (n : Nat), n + l.length = b.length → m_slices_Equal_int_int_loop1 b l n = some (if l = b.drop n then .inr () else .inl false) := by
 intro l
 induction l with
 | nil => intro n h; simp [m_slices_Equal_int_int_loop1]; simp at h; omega
 | cons y l ih =>
  intro n h
  simp only [List.length_cons] at h
  have hn : n < b.length := by omega
  have hg : b.getD n default = b[n] := by simp [List.getD, List.getElem?_eq_getElem hn]
  have hd := List.drop_eq_getElem_cons hn
  rw [m_slices_Equal_int_int_loop1, if_pos hn, hg]
  generalize b[n] = z at hd
  rw [hd]
  by_cases hy : y = z
  ·rw [if_neg (by simpa using hy), ih (n + 1) (by omega)]
   simp only [hy, List.cons.injEq, true_and]
  ·rw [if_pos hy]
   simp only [hy, List.cons.injEq, false_and, if_false]
theorem equal_eq (a b : List Int) : m_slices_Equal_int_int a b = some (decide (a = b)) := by
 rw [m_slices_Equal_int_int]
 by_cases h : (a.length : Int) = (b.length : Int)
 ·rw [if_neg (by simpa using h), equal_loop b a 0 (by omega), List.drop_zero]
  by_cases hab : a = b <;> simp [hab]
 ·rw [if_pos h]
  have : a ≠ b := fun hh => h (by rw [hh])
  simp [this]
theorem equalP_loop (b : List TPromise) : ∀ (l : List TPromise) (n : Nat), n + l.length = b.length → m_slices_Equal_Promise_Promise_loop1 b l n = some (if l = b.drop n then .inr () else .inl false) := by
 intro l
 induction l with
 | nil => intro n h; simp [m_slices_Equal_Promise_Promise_loop1]; simp at h; omega
 | cons y l ih =>
  intro n h
  simp only [List.length_cons] at h
  have hn : n < b.length := by omega
  have hg : b.getD n default = b[n] := by simp [List.getD, List.getElem?_eq_getElem hn]
  have hd := List.drop_eq_getElem_cons hn
  rw [m_slices_Equal_Promise_Promise_loop1, if_pos hn, hg]
  generalize b[n] = z at hd
  rw [hd]
  have e : (y.Node = z.Node ∧ y.Ballot = z.Ballot ∧ y.Value = z.Value) ↔ y = z := by cases y; cases z; simp
  by_cases hy : y = z
  ·rw [if_neg (by simpa using e.2 hy), ih (n + 1) (by omega)]
   simp only [hy, List.cons.injEq, true_and]
  ·rw [if_pos (fun hh => hy (e.1 hh))]
   simp only [hy, List.cons.injEq, false_and, if_false]
theorem equalP_eq (a b : List TPromise) : m_slices_Equal_Promise_Promise a b = some (decide (a = b)) := by
 rw [m_slices_Equal_Promise_Promise]
 by_cases h : (a.length : Int) = (b.length : Int)
 ·rw [if_neg (by simpa using h), equalP_loop b a 0 (by omega), List.drop_zero]
  by_cases hab : a = b <;> simp [hab]
 ·rw [if_pos h]
  have : a ≠ b := fun hh => h (by rw [hh])
  simp [this]
theorem same_eq (a b : TAttempt) : m_attempt_Same a b = some (decide (a = b)) := by
 obtain ⟨p, bl, m, w, v, pr, ac⟩ := a
 obtain ⟨p', bl', m', w', v', pr', ac'⟩ := b
 simp only [m_attempt_Same, equal_eq, equalP_eq, TAttempt.mk.injEq]
 by_cases h1 : p = p' <;> by_cases h2 : bl = bl' <;> by_cases h3 : m = m' <;> by_cases h4 : w = w' <;> by_cases h5 : v = v' <;> by_cases h6 : pr = pr' <;> simp [h1, h2, h3, h4, h5, h6]
end Go.Proofs
end
section
namespace Go.Proofs
open Go.Tm
set_option linter.unusedSimpArgs false
structure Kept (a : TAttempt) : Prop where
 ballot : BOk a.Ballot
 members : QOk a.Members
 wish : a.Wish.length ≤ 1024
 nodes : riseS a.Members none (a.Promises.map TPromise.Node) = true
 accepted : riseS a.Members none a.Accepted = true
 may : ∀ p ∈ a.Promises, MayS p a.Ballot
 most : mostS a.Members (a.Promises.map TPromise.Node) = decide (a.Phase > 1)
 chosen : mostS a.Members a.Accepted = (a.Phase == 3)
 value : a.Phase = 1 ∨ a.Value = bestS a.Promises a.Wish 0
def Valid (a : TAttempt) : Prop :=
 if a.Phase = 0 then a = ⟨0, 0, [], [], [], [], []⟩
 else ((a.Phase = 1 ∧ a.Value = [] ∧ a.Accepted = []) ∨ a.Phase = 2 ∨ a.Phase = 3) ∧ Kept a
theorem any_may (l : List TPromise) (b : Int) : (l.any fun x => !decide (MayS x b)) = true ↔ ¬ ∀ p ∈ l, MayS p b := by
 simp
theorem risesP_len : ∀ (l : List Int) (k : Int), risesP k l = true → k < 6 → (l.length : Int) ≤ 5 - k := by
 intro l
 induction l with
 | nil => intro k _ h; simp; omega
 | cons y l ih =>
  intro k h hk
  simp only [risesP, Bool.and_eq_true, decide_eq_true_eq] at h
  have := ih y h.2 h.1.2
  simp only [List.length_cons]
  omega
theorem riseS_risesP {m : List Int} (hm : QOk m) : ∀ (l : List Int) (k : Int), riseS m (some k) l = true → risesP k l = true := by
 intro l
 induction l with
 | nil => intro _ _; rfl
 | cons y l ih =>
  intro k h
  simp only [riseS, Bool.and_eq_true, decide_eq_true_eq] at h
  have := (rises_lt m (-1) hm.2.1 y h.1.2).2
  simp only [risesP, Bool.and_eq_true, decide_eq_true_eq]
  exact ⟨⟨h.1.1, this⟩, ih y h.2⟩
theorem riseS_none {m : List Int} (hm : QOk m) (l : List Int) (h : riseS m none l = true) : risesP (-1) l = true := by
 cases l with
 | nil => rfl
 | cons y l =>
  simp only [riseS, Bool.and_eq_true, decide_eq_true_eq, true_and] at h
  have := rises_lt m (-1) hm.2.1 y h.1
  simp only [risesP, Bool.and_eq_true, decide_eq_true_eq]
  exact ⟨this, riseS_risesP hm l y h.2⟩
theorem riseS_len {m : List Int} (hm : QOk m) (l : List Int) (h : riseS m none l = true) : l.length ≤ 6 := by
 have := risesP_len l (-1) (riseS_none hm l h) (by omega)
 omega
theorem amost_eq (m l : List Int) (hm : QOk m) (hl : l.length ≤ 1000) : m_attempt_most m l = some (mostS m l) := by
 rw [m_attempt_most, most_eq m l hm hl]; rfl
theorem check1_eq (x : TPromise) (a : TAttempt) : m_attempt_Check_1 x a = some (!decide (MayS x a.Ballot)) := by
 rw [m_attempt_Check_1, may_eq]; rfl
theorem qcheck_ne {m : List Int} (h : ¬ QOk m) : ∃ e, m_quorum_Check m = some e ∧ e ≠ 0 := by
 have h2 : m_quorum_Check m ≠ some 0 := fun hh => h ((qok_iff m).1 hh)
 rw [qcheck_eq] at h2 ⊢
 exact ⟨_, rfl, fun hh => h2 (by rw [hh])⟩
theorem kept_iff (a : TAttempt) : Kept a ↔ BOk a.Ballot ∧ QOk a.Members ∧ a.Wish.length ≤ 1024 ∧ riseS a.Members none (a.Promises.map TPromise.Node) = true ∧ riseS a.Members none a.Accepted = true ∧ (∀ p ∈ a.Promises, MayS p a.Ballot) ∧ mostS a.Members (a.Promises.map TPromise.Node) = decide (a.Phase > 1) ∧ mostS a.Members a.Accepted = (a.Phase == 3) ∧ (a.Phase = 1 ∨ a.Value = bestS a.Promises a.Wish 0) :=
 ⟨fun h => ⟨h.1, h.2, h.3, h.4, h.5, h.6, h.7, h.8, h.9⟩, fun ⟨h1, h2, h3, h4, h5, h6, h7, h8, h9⟩ => ⟨h1, h2, h3, h4, h5, h6, h7, h8, h9⟩⟩
def checkTail (a0 : TAttempt) (b2 : Bool) : Option Bool :=
 Option.bind (if b2 = true then m_ballot_Check a0.Ballot else some default) fun v2 =>
 Option.bind (if (b2 = true) ∧ (v2 = 0) then m_quorum_Check a0.Members else some default) fun v3 =>
 Option.bind (if (((b2 = true) ∧ (v2 = 0)) ∧ (v3 = 0)) ∧ ((a0.Wish.length : Int) ≤ 1024) then m_attempt_nodes a0.Promises else some default) fun v4 =>
 Option.bind (if (((b2 = true) ∧ (v2 = 0)) ∧ (v3 = 0)) ∧ ((a0.Wish.length : Int) ≤ 1024) then m_attempt_rising v4 a0.Members else some default) fun v5 =>
 Option.bind (if ((((b2 = true) ∧ (v2 = 0)) ∧ (v3 = 0)) ∧ ((a0.Wish.length : Int) ≤ 1024)) ∧ (v5 = true) then m_attempt_rising a0.Accepted a0.Members else some default) fun v6 =>
 Option.bind (if (((((b2 = true) ∧ (v2 = 0)) ∧ (v3 = 0)) ∧ ((a0.Wish.length : Int) ≤ 1024)) ∧ (v5 = true)) ∧ (v6 = true) then m_slices_ContainsFunc_Promise_Promise a0.Promises (fun x0 => m_attempt_Check_1 x0 a0) else some default) fun v7 =>
 Option.bind (if ((((((b2 = true) ∧ (v2 = 0)) ∧ (v3 = 0)) ∧ ((a0.Wish.length : Int) ≤ 1024)) ∧ (v5 = true)) ∧ (v6 = true)) ∧ (¬ (v7 = true)) then m_attempt_nodes a0.Promises else some default) fun v8 =>
 Option.bind (if ((((((b2 = true) ∧ (v2 = 0)) ∧ (v3 = 0)) ∧ ((a0.Wish.length : Int) ≤ 1024)) ∧ (v5 = true)) ∧ (v6 = true)) ∧ (¬ (v7 = true)) then m_attempt_most a0.Members v8 else some default) fun v9 =>
 Option.bind (if (((((((b2 = true) ∧ (v2 = 0)) ∧ (v3 = 0)) ∧ ((a0.Wish.length : Int) ≤ 1024)) ∧ (v5 = true)) ∧ (v6 = true)) ∧ (¬ (v7 = true))) ∧ ((v9 == (decide (a0.Phase > 1))) = true) then m_attempt_most a0.Members a0.Accepted else some default) fun v10 =>
 Option.bind (if (((((((((b2 = true) ∧ (v2 = 0)) ∧ (v3 = 0)) ∧ ((a0.Wish.length : Int) ≤ 1024)) ∧ (v5 = true)) ∧ (v6 = true)) ∧ (¬ (v7 = true))) ∧ ((v9 == (decide (a0.Phase > 1))) = true)) ∧ ((v10 == (a0.Phase == 3)) = true)) ∧ (¬ (a0.Phase = 1)) then m_attempt_Best a0.Promises a0.Wish else some default) fun v11 =>
 some (((((((((b2 && (v2 == 0)) && (v3 == 0)) && (decide ((a0.Wish.length : Int) ≤ 1024))) && v5) && v6) && (!v7)) && (v9 == (decide (a0.Phase > 1)))) && (v10 == (a0.Phase == 3))) && ((a0.Phase == 1) || (a0.Value == v11)))
theorem tail_eq (a : TAttempt) (hl : a.Promises.length < 1000000) (b2 : Bool) : ∃ r, checkTail a b2 = some r ∧ (r = true ↔ b2 = true ∧ Kept a) := by
 unfold checkTail
 rw [kept_iff]
 cases b2 with
 | false => simp
 | true =>
  rw [bcheck_eq]
  by_cases hb : BOk a.Ballot
  ·by_cases hq : QOk a.Members
   ·have hq0 := (qok_iff _).2 hq
    by_cases hw : a.Wish.length ≤ 1024
    ·have hw' : (a.Wish.length : Int) ≤ 1024 := by omega
     simp only [hb, hq0, hw', if_true, and_self, Option.bind_some, nodes_eq _ hl, rising_eq]
     by_cases h5 : riseS a.Members none (a.Promises.map TPromise.Node) = true
     ·by_cases h6 : riseS a.Members none a.Accepted = true
      ·have l1 := riseS_len hq _ h5
       have l2 := riseS_len hq _ h6
       rw [containsFunc_eq _ (fun x => !decide (MayS x a.Ballot)) (fun x => check1_eq x a)]
       simp only [h5, h6, and_self, if_true, Option.bind_some]
       by_cases h7 : ∀ p ∈ a.Promises, MayS p a.Ballot
       ·have h7' : (a.Promises.any fun x => !decide (MayS x a.Ballot)) = false := by
         rw [Bool.eq_false_iff]; intro hh; exact (any_may _ _).1 hh h7
        simp only [h7', Bool.false_eq_true, not_false_eq_true, and_self, if_true, Option.bind_some, amost_eq _ _ hq (Nat.le_trans l1 (by omega)), amost_eq _ _ hq (Nat.le_trans l2 (by omega)), best_eq]
        by_cases h9 : mostS a.Members (a.Promises.map TPromise.Node) = decide (a.Phase > 1)
        ·by_cases h10 : mostS a.Members a.Accepted = (a.Phase == 3)
         ·by_cases h11 : a.Phase = 1
          ·simp [h9, h10, h11, hq, hw]
           exact h7
          ·simp [h9, h10, h11, hq, hw]
           exact fun _ => h7
         ·simp [h9, h10]
        ·simp [h9]
       ·have h7' := (any_may _ _).2 h7
        simp [h7', h7]
      ·simp [h5, h6]
     ·simp [h5]
    ·have hw' : ¬ (a.Wish.length : Int) ≤ 1024 := by omega
     simp [hb, hq0, hw, hw']
   ·obtain ⟨e, he, hne⟩ := qcheck_ne hq
    simp [hb, he, hne, hq]
  ·simp [hb]
theorem check_eq (a : TAttempt) (hl : a.Promises.length < 1000000) : ∃ e, m_attempt_Check a = some e ∧ (e = 0 ↔ Valid a) := by
 unfold Valid
 rw [m_attempt_Check]
 by_cases h0 : a.Phase = 0
 ·rw [if_pos h0, if_pos h0, same_eq]
  by_cases hz : a = ⟨0, 0, [], [], [], [], []⟩ <;> simp [hz]
 ·rw [if_neg h0, if_neg h0]
  have key : ∀ b2 : Bool, ∃ e, (Option.bind (checkTail a b2) fun b1 => if ¬ (b1 = true) then some (8 : Int) else some 0) = some e ∧ (e = 0 ↔ b2 = true ∧ Kept a) := by
   intro b2
   obtain ⟨r, h1, h2⟩ := tail_eq a hl b2
   rw [h1, ← h2]
   cases r <;> simp
  by_cases h1 : a.Phase = 1
  ·rw [if_pos h1]
   obtain ⟨e, he, h2⟩ := key ((a.Value == []) && ((a.Accepted.length : Int) == 0))
   refine ⟨e, he, ?_⟩
   rw [h2]
   simp [h1]
  ·rw [if_neg h1]
   by_cases h2 : a.Phase = 2
   ·obtain ⟨e, he, h3⟩ := key true
    refine ⟨e, ?_, ?_⟩
    ·have hb : (a.Phase == 2) = true := by simp [h2]
     rw [if_pos h2, hb]
     exact he
    ·rw [h3]
     simp [h2]
   ·by_cases h3 : a.Phase = 3
    ·obtain ⟨e, he, h4⟩ := key true
     refine ⟨e, ?_, ?_⟩
     ·have hb : (a.Phase == 3) = true := by simp [h3]
      rw [if_neg h2]
      refine Eq.trans ?_ he
      show Option.bind (Option.bind (Option.bind (some (a.Phase == 3)) _) _) _ = _
      generalize hg : (a.Phase == 3) = q at hb
      subst hb
      unfold checkTail
      rw [hg]
      rfl
     ·rw [h4]
      simp [h3]
    ·exact ⟨8, by simp [h2, h3], by simp [h1, h2, h3]⟩
end Go.Proofs
end
section
namespace Go.Proofs
open Go.Tm
set_option linter.unusedSimpArgs false
theorem half_eq (i j : Nat) (h : i + j < 4000000) : wr .i64 (shw false .u64 (wr .u64 (wr .i64 ((i : Int) + (j : Int)))) 1) = (((i + j) / 2 : Nat) : Int) := by
 have e1 : wr .i64 ((i : Int) + (j : Int)) = (i : Int) + (j : Int) := wr_eq _ _ (by show (-9223372036854775808 : Int) ≤ _; omega) (by show _ ≤ (9223372036854775807 : Int); omega)
 have e2 : wr .u64 ((i : Int) + (j : Int)) = (i : Int) + (j : Int) := wr_eq _ _ (by show (0 : Int) ≤ _; omega) (by show _ ≤ (18446744073709551615 : Int); omega)
 have e3 : shw false .u64 ((i : Int) + (j : Int)) 1 = (((i + j) / 2 : Nat) : Int) := by
  unfold shw
  show Int.fdiv ((i : Int) + (j : Int)) 2 = _
  rw [Int.fdiv_eq_ediv_of_nonneg _ (by omega)]
  omega
 rw [e1, e2, e3]
 exact wr_eq _ _ (by show (-9223372036854775808 : Int) ≤ _; omega) (by show _ ≤ (9223372036854775807 : Int); omega)
theorem search_loop (f : Int → Option Bool) (K n : Nat) (hn : n < 1000000) (hf : ∀ x : Nat, x < n → f (x : Int) = some (decide (K ≤ x))) : ∀ (fu i j : Nat), j - i < fu → i ≤ K → K ≤ j → j ≤ n → m_sort_Search_loop1 f fu (i : Int) (j : Int) = some (K : Int) := by
 intro fu
 induction fu with
 | zero => intro i j h; omega
 | succ fu ih =>
  intro i j h h1 h2 h3
  rw [m_sort_Search_loop1]
  by_cases hij : i < j
  ·rw [if_pos (by omega), half_eq i j (by omega), hf _ (by omega)]
   simp only [Option.bind_some]
   by_cases hk : K ≤ (i + j) / 2
   ·rw [if_neg (by simpa using hk)]
    exact ih i ((i + j) / 2) (by omega) h1 hk (by omega)
   ·rw [if_pos (by simpa using hk)]
    have e : wr .i64 ((((i + j) / 2 : Nat) : Int) + 1) = (((i + j) / 2 + 1 : Nat) : Int) := wr_eq _ _ (by show (-9223372036854775808 : Int) ≤ _; omega) (by show _ ≤ (9223372036854775807 : Int); omega)
    rw [e]
    exact ih _ j (by omega) (by omega) h2 h3
  ·rw [if_neg (by omega)]
   congr 2
   omega
theorem search_eq (f : Int → Option Bool) (K n : Nat) (hn : n < 1000000) (hK : K ≤ n) (hf : ∀ x : Nat, x < n → f (x : Int) = some (decide (K ≤ x))) : m_sort_Search (n : Int) f = some (K : Int) := by
 rw [m_sort_Search]
 have h := search_loop f K n hn hf ((n : Int).toNat + 1) 0 n (by simp) (by omega) hK (by omega)
 rw [show ((0 : Nat) : Int) = 0 from rfl] at h
 rw [h]
 rfl
end Go.Proofs
end
section
namespace Go.Proofs
open Go.Tm
set_option linter.unusedSimpArgs false
section
variable {α : Type} (key : α → Int)
def insK (p : α) : List α → List α
 | [] => [p]
 | y :: l => if key y < key p then y :: insK p l else p :: y :: l
def plc (v : Int) : List α → Nat
 | [] => 0
 | y :: l => if key y < v then plc v l + 1 else 0
theorem plc_le (v : Int) : ∀ l : List α, plc key v l ≤ l.length := by
 intro l
 induction l with
 | nil => exact Nat.le_refl _
 | cons y l ih =>
  simp only [plc, List.length_cons]
  split <;> omega
theorem plc_test [Inhabited α] (v : Int) : ∀ (l : List α), (l.map key).Pairwise (· < ·) → ∀ x, x < l.length → (key (l.getD x default) ≥ v ↔ plc key v l ≤ x) := by
 intro l
 induction l with
 | nil => intro _ x hx; cases hx
 | cons y l ih =>
  intro h x hx
  simp only [List.map_cons, List.pairwise_cons] at h
  simp only [plc]
  cases x with
  | zero =>
   simp only [List.getD_cons_zero]
   by_cases hy : key y < v
   ·rw [if_pos hy]
    omega
   ·rw [if_neg hy]
    omega
  | succ x =>
   simp only [List.getD_cons_succ]
   simp only [List.length_cons] at hx
   by_cases hy : key y < v
   ·rw [if_pos hy, ih h.2 x (by omega)]
    omega
   ·rw [if_neg hy]
    have hm : l.getD x default ∈ l := by
     rw [List.getD_eq_getElem?_getD, List.getElem?_eq_getElem (by omega)]
     exact List.getElem_mem _
    have := h.1 _ (List.mem_map_of_mem hm)
    omega
theorem plc_has [Inhabited α] (v : Int) : ∀ (l : List α), (l.map key).Pairwise (· < ·) → ((plc key v l < l.length ∧ key (l.getD (plc key v l) default) = v) ↔ v ∈ l.map key) := by
 intro l
 induction l with
 | nil => intro _; simp [plc]
 | cons y l ih =>
  intro h
  simp only [List.map_cons, List.pairwise_cons] at h
  simp only [plc]
  by_cases hy : key y < v
  ·rw [if_pos hy, List.getD_cons_succ, List.map_cons, List.mem_cons, ← ih h.2]
   simp only [List.length_cons]
   have : v ≠ key y := by omega
   simp only [this, false_or]
   omega
  ·rw [if_neg hy, List.getD_cons_zero, List.map_cons, List.mem_cons]
   simp only [List.length_cons]
   constructor
   ·intro hh; exact .inl hh.2.symm
   ·rintro (hh | hh)
    ·exact ⟨by omega, hh.symm⟩
    ·have := h.1 _ hh
     omega
theorem ins_take (p : α) : ∀ l : List α, l.take (plc key (key p) l) ++ p :: l.drop (plc key (key p) l) = insK key p l := by
 intro l
 induction l with
 | nil => rfl
 | cons y l ih =>
  simp only [plc, insK]
  split
  ·simp only [List.take_succ_cons, List.drop_succ_cons, List.cons_append, ih]
  ·rfl
theorem ins_mem (p : α) (x : α) : ∀ l : List α, x ∈ insK key p l ↔ x = p ∨ x ∈ l := by
 intro l
 induction l with
 | nil => simp [insK]
 | cons y l ih =>
  simp only [insK]
  split
  ·simp only [List.mem_cons, ih]
   constructor
   ·rintro (h | h | h) <;> simp [h]
   ·rintro (h | h | h) <;> simp [h]
  ·simp only [List.mem_cons]
theorem ins_len (p : α) : ∀ l : List α, (insK key p l).length = l.length + 1 := by
 intro l
 induction l with
 | nil => rfl
 | cons y l ih =>
  simp only [insK]
  split <;> simp [ih]
theorem ins_keys (p : α) (v : Int) (l : List α) : v ∈ (insK key p l).map key ↔ v = key p ∨ v ∈ l.map key := by
 simp only [List.mem_map, ins_mem]
 constructor
 ·rintro ⟨x, rfl | hx, rfl⟩
  ·exact .inl rfl
  ·exact .inr ⟨x, hx, rfl⟩
 ·rintro (rfl | ⟨x, hx, rfl⟩)
  ·exact ⟨p, .inl rfl, rfl⟩
  ·exact ⟨x, .inr hx, rfl⟩
theorem ins_rise (m : List Int) (p : α) (hp : key p ∈ m) : ∀ (l : List α) (k : Option Int), (match k with | none => True | some k => k < key p) → key p ∉ l.map key → riseS m k (l.map key) = true → riseS m k ((insK key p l).map key) = true := by
 intro l
 induction l with
 | nil =>
  intro k hk _ _
  cases k with
  | none => simp [insK, riseS, hp]
  | some k =>
   have : k < key p := hk
   simp [insK, riseS, hp, this]
 | cons y l ih =>
  intro k hk hn h
  simp only [List.map_cons, List.mem_cons, not_or] at hn
  simp only [List.map_cons, riseS, Bool.and_eq_true] at h
  simp only [insK]
  by_cases hy : key y < key p
  ·rw [if_pos hy]
   simp only [List.map_cons, riseS, Bool.and_eq_true]
   exact ⟨h.1, ih (some (key y)) hy hn.2 h.2⟩
  ·rw [if_neg hy]
   have hlt : key p < key y := by omega
   simp only [List.map_cons, riseS, Bool.and_eq_true]
   refine ⟨⟨?_, by simpa using hp⟩, ⟨⟨by simpa using hlt, h.1.2⟩, h.2⟩⟩
   cases k with
   | none => rfl
   | some k => simpa using hk
end
theorem rise_lt {m : List Int} : ∀ (l : List Int) (k : Int), riseS m (some k) l = true → ∀ x ∈ l, k < x := by
 intro l
 induction l with
 | nil => intro _ _ x hx; cases hx
 | cons y l ih =>
  intro k h x hx
  simp only [riseS, Bool.and_eq_true, decide_eq_true_eq] at h
  rcases List.mem_cons.1 hx with rfl | hx
  ·exact h.1.1
  ·have := ih y h.2 x hx; omega
theorem rise_pw {m : List Int} : ∀ (l : List Int) (k : Option Int), riseS m k l = true → l.Pairwise (· < ·) := by
 intro l
 induction l with
 | nil => intro _ _; exact .nil
 | cons y l ih =>
  intro k h
  simp only [riseS, Bool.and_eq_true] at h
  exact .cons (rise_lt l y h.2) (ih _ h.2)
theorem searchK {α : Type} [Inhabited α] (key : α → Int) (l : List α) (v : Int) (f : Int → Option Bool) (hl : l.length < 1000000) (hs : (l.map key).Pairwise (· < ·)) (hf : ∀ x : Nat, x < l.length → f (x : Int) = some (decide (key (l.getD x default) ≥ v))) : m_sort_Search (l.length : Int) f = some (plc key v l : Int) :=
 search_eq f _ _ hl (plc_le key v l) fun x hx => by rw [hf x hx, decide_eq_decide.2 (plc_test key v l hs x hx)]
theorem searchInts_eq (l : List Int) (v : Int) (hl : l.length < 1000000) (hs : l.Pairwise (· < ·)) : m_sort_SearchInts l v = some (plc (fun x => x) v l : Int) := by
 rw [m_sort_SearchInts, searchK (fun x => x) l v _ hl (by simpa using hs)]
 ·rfl
 ·intro x hx
  rw [m_sort_SearchInts_1, if_pos (by omega)]
  rfl
theorem filter_le {α : Type} (p q : α → Bool) (h : ∀ x, p x = true → q x = true) : ∀ l : List α, (l.filter p).length ≤ (l.filter q).length := by
 intro l
 induction l with
 | nil => exact Nat.le_refl _
 | cons y l ih =>
  simp only [List.filter_cons]
  cases hp : p y with
  | true => rw [h y hp]; simp only [if_true, List.length_cons]; omega
  | false => cases hq : q y <;> simp <;> omega
theorem most_mono {m l l' : List Int} (h : ∀ x, x ∈ l → x ∈ l') (hm : mostS m l = true) : mostS m l' = true := by
 unfold mostS at hm ⊢
 simp only [decide_eq_true_eq] at hm ⊢
 have := filter_le (hasI l) (hasI l') (fun x hx => by
  unfold hasI at hx ⊢
  simp only [List.any_eq_true, beq_iff_eq, exists_eq_right] at hx ⊢
  exact h x hx) m
 omega
theorem most_nil (m : List Int) : mostS m [] = false := by
 unfold mostS
 have : m.filter (hasI []) = [] := by
  rw [List.filter_eq_nil_iff]
  intro x _; simp [hasI]
 rw [this]
 simp
 omega
end Go.Proofs
end
section
namespace Go.Proofs
open Go.Tm
set_option linter.unusedSimpArgs false
abbrev insN := insK TPromise.Node
abbrev insI := insK (fun x : Int => x)
theorem insI_keys (v x : Int) (l : List Int) : x ∈ insI v l ↔ x = v ∨ x ∈ l := ins_mem _ v x l
def withP (a : TAttempt) (l : List TPromise) : TAttempt :=
 if mostS a.Members (l.map TPromise.Node) = true then { a with Phase := 2, Value := bestS l a.Wish 0, Promises := l } else { a with Promises := l }
def promisedS (a : TAttempt) (p : TPromise) : TAttempt :=
 if p.Node ∈ a.Promises.map TPromise.Node then a else withP a (insN p a.Promises)
def CanP (a : TAttempt) (b : Int) (p : TPromise) : Prop := Valid a ∧ a.Phase = 1 ∧ b = a.Ballot ∧ p.Node ∈ a.Members ∧ MayS p b
theorem Valid.kept {a : TAttempt} (h : Valid a) (h0 : a.Phase ≠ 0) : Kept a := by
 unfold Valid at h
 rw [if_neg h0] at h
 exact h.2
theorem twin_eq (a : TAttempt) (h1 : a.Members.length < 1000000) (h2 : a.Promises.length < 1000000) (h3 : a.Accepted.length < 1000000) : m_attempt_Twin a = some a := by
 rw [m_attempt_Twin, m_slices_Clone_int_int, m_slices_Clone_Promise_Promise, m_slices_Clone_int_int, if_pos (by omega), if_pos (by omega), if_pos (by omega)]
 rfl
theorem Kept.lens {a : TAttempt} (h : Kept a) : a.Members.length ≤ 6 ∧ a.Promises.length ≤ 6 ∧ a.Accepted.length ≤ 6 := by
 have h1 := riseS_len h.members _ h.nodes
 rw [List.length_map] at h1
 exact ⟨h.members.1, h1, riseS_len h.members _ h.accepted⟩
theorem promised1_eq (a : TAttempt) (p : TPromise) (x : Nat) (hx : x < a.Promises.length) : m_attempt_Promised_1 (x : Int) a p = some (decide ((a.Promises.getD x default).Node ≥ p.Node)) := by
 rw [m_attempt_Promised_1, if_pos (by omega)]
 rfl
theorem promised_eq (a : TAttempt) (b : Int) (p : TPromise) (hl : a.Promises.length < 1000000) : ∃ r, m_attempt_Promised a b p = some r ∧ (r.2 = 0 ↔ CanP a b p) ∧ (r.2 = 0 → r.1 = promisedS a p) := by
 rw [m_attempt_Promised]
 obtain ⟨e, he, hv⟩ := check_eq a hl
 rw [he]
 simp only [Option.bind_some]
 by_cases hva : Valid a
 ·have h0 := hv.2 hva
  subst h0
  rw [if_neg (by simp)]
  by_cases h1 : a.Phase = 1 ∧ b = a.Ballot
  ·obtain ⟨h1, h2⟩ := h1
   rw [if_pos (by simp [h1, h2]), has_eq]
   simp only [Option.bind_some]
   by_cases h3 : p.Node ∈ a.Members
   ·rw [if_neg (by simp [h1, h2, h3]), may_eq]
    simp only [Option.bind_some]
    by_cases h4 : MayS p b
    ·rw [if_neg (by simp [h4])]
     have hk := hva.kept (by omega)
     obtain ⟨l1, l2, l3⟩ := hk.lens
     rw [twin_eq a (by omega) (by omega) (by omega)]
     simp only [Option.bind_some]
     have hpw : (a.Promises.map TPromise.Node).Pairwise (· < ·) := rise_pw _ _ hk.nodes
     rw [searchK TPromise.Node a.Promises p.Node _ (by omega) hpw (fun x hx => promised1_eq a p x hx)]
     simp only [Option.bind_some, Int.toNat_natCast]
     have hle := plc_le TPromise.Node p.Node a.Promises
     have hhas := plc_has TPromise.Node p.Node a.Promises hpw
     have htake := ins_take TPromise.Node p a.Promises
     have hkeys := ins_keys TPromise.Node p
     have hlen := ins_len TPromise.Node p a.Promises
     have hrise := ins_rise TPromise.Node a.Members p h3 a.Promises none trivial
     generalize plc TPromise.Node p.Node a.Promises = K at *
     rw [if_pos (by omega)]
     have hcan : CanP a b p := ⟨hva, h1, h2, h3, h4⟩
     by_cases hin : p.Node ∈ a.Promises.map TPromise.Node
     ·rw [if_pos (by have := hhas.2 hin; exact ⟨by omega, this.2⟩)]
      refine ⟨_, rfl, by simp [hcan], fun _ => ?_⟩
      unfold promisedS
      rw [if_pos hin]
     ·rw [if_neg (fun hh => hin (hhas.1 ⟨by omega, hh.2⟩)), if_pos (by omega), if_pos (by omega), htake, nodes_eq _ (by omega)]
      have hr := hrise hin hk.nodes
      have hln := riseS_len hk.members _ hr
      simp only [Option.bind_some, amost_eq _ _ hk.members (Nat.le_trans hln (by omega)), best_eq]
      unfold promisedS
      rw [if_neg hin]
      unfold withP
      cases hm : mostS a.Members ((insK TPromise.Node p a.Promises).map TPromise.Node) with
      | true => exact ⟨_, rfl, by simp [hcan], fun _ => rfl⟩
      | false => exact ⟨_, rfl, by simp [hcan], fun _ => rfl⟩
    ·rw [if_pos (by simp [h4])]
     exact ⟨_, rfl, by simp [CanP, h4], by simp⟩
   ·rw [if_pos (by simp [h3])]
    exact ⟨_, rfl, by simp [CanP, h3], by simp⟩
  ·have h2 : (¬ (a.Phase = 1)) ∨ (¬ (b = a.Ballot)) := by
    by_cases h : a.Phase = 1
    ·exact .inr fun hh => h1 ⟨h, hh⟩
    ·exact .inl h
   rw [if_neg (fun h => h h2)]
   simp only [Option.bind_some]
   rw [if_pos (.inl h2)]
   exact ⟨_, rfl, ⟨fun h => by simp at h, fun h => absurd ⟨h.2.1, h.2.2.1⟩ h1⟩, by simp⟩
 ·have h0 : e ≠ 0 := fun h => hva (hv.1 h)
  rw [if_pos h0]
  exact ⟨_, rfl, ⟨fun h => absurd h h0, fun h => absurd h.1 hva⟩, fun h => absurd h h0⟩
theorem promised_kept {a : TAttempt} {p : TPromise} (h : CanP a a.Ballot p) : Valid (promisedS a p) := by
 obtain ⟨hv, h1, _, h3, h4⟩ := h
 unfold promisedS
 split
 ·exact hv
 ·rename_i hin
  have hk := hv.kept (by omega)
  have hacc : a.Value = [] ∧ a.Accepted = [] := by
   unfold Valid at hv
   rw [if_neg (by omega)] at hv
   rcases hv.1 with h | h | h
   ·exact h.2
   ·omega
   ·omega
  have hr := ins_rise TPromise.Node a.Members p h3 a.Promises none trivial hin hk.nodes
  have hmay : ∀ q ∈ insN p a.Promises, MayS q a.Ballot := by
   intro q hq
   rcases (ins_mem TPromise.Node p q a.Promises).1 hq with rfl | hq
   ·exact h4
   ·exact hk.may q hq
  unfold withP
  split
  ·rename_i hm
   unfold Valid
   rw [if_neg (by simp)]
   exact ⟨.inr (.inl rfl), ⟨hk.ballot, hk.members, hk.wish, hr, hk.accepted, hmay, by simpa using hm, by rw [hk.chosen, h1]; rfl, .inr rfl⟩⟩
  ·rename_i hm
   unfold Valid
   rw [if_neg (by simp [h1])]
   exact ⟨.inl ⟨h1, hacc⟩, ⟨hk.ballot, hk.members, hk.wish, hr, hk.accepted, hmay, by simpa [h1] using hm, hk.chosen, .inl h1⟩⟩
def acceptedS (a : TAttempt) (n : Int) : TAttempt :=
 let l := if n ∈ a.Accepted then a.Accepted else insI n a.Accepted
 {a with Accepted := l, Phase := if mostS a.Members l = true then 3 else a.Phase }
def CanA (a : TAttempt) (b : Int) (n : Int) : Prop := Valid a ∧ 2 ≤ a.Phase ∧ b = a.Ballot ∧ n ∈ a.Members
theorem accepted_eq (a : TAttempt) (b n : Int) (hl : a.Promises.length < 1000000) : ∃ r, m_attempt_Accepted a b n = some r ∧ (r.2 = 0 ↔ CanA a b n) ∧ (r.2 = 0 → r.1 = acceptedS a n) := by
 rw [m_attempt_Accepted]
 obtain ⟨e, he, hv⟩ := check_eq a hl
 rw [he]
 simp only [Option.bind_some]
 by_cases hva : Valid a
 ·have h0 := hv.2 hva
  subst h0
  rw [if_neg (by simp)]
  by_cases h1 : 2 ≤ a.Phase ∧ b = a.Ballot
  ·obtain ⟨h1, h2⟩ := h1
   have h1' : ¬ a.Phase < 2 := by omega
   rw [if_pos (by simp [h1', h2]), has_eq]
   simp only [Option.bind_some]
   by_cases h3 : n ∈ a.Members
   ·rw [if_neg (by simp [h1', h2, h3])]
    have hk := hva.kept (by omega)
    obtain ⟨l1, l2, l3⟩ := hk.lens
    rw [twin_eq a (by omega) (by omega) (by omega)]
    simp only [Option.bind_some]
    have hpw : a.Accepted.Pairwise (· < ·) := rise_pw _ _ hk.accepted
    rw [searchInts_eq a.Accepted n (by omega) hpw]
    simp only [Option.bind_some, Int.toNat_natCast]
    have hle := plc_le (fun x : Int => x) n a.Accepted
    have hhas := plc_has (fun x : Int => x) n a.Accepted (by simpa using hpw)
    have htake := ins_take (fun x : Int => x) n a.Accepted
    have hlen := ins_len (fun x : Int => x) n a.Accepted
    have hrise := ins_rise (fun x : Int => x) a.Members n h3 a.Accepted none trivial
    simp only [List.map_id'] at hhas hrise
    generalize plc (fun x : Int => x) n a.Accepted = K at *
    rw [if_pos (by omega)]
    have hcan : CanA a b n := ⟨hva, h1, h2, h3⟩
    have hfin : ∀ l : List Int, l.length ≤ 6 → (if n ∈ a.Accepted then a.Accepted else insI n a.Accepted) = l → ∃ r, (Option.bind (α := Int) (Option.bind (m_attempt_most a.Members l) fun v5 => if v5 = true then some 3 else some a.Phase) fun n1 => some ((⟨n1, a.Ballot, a.Members, a.Wish, a.Value, a.Promises, l⟩ : TAttempt), (0 : Int))) = some r ∧ (r.2 = 0 ↔ CanA a b n) ∧ (r.2 = 0 → r.1 = acceptedS a n) := by
     intro l hl hh
     rw [amost_eq _ _ hk.members (by omega)]
     unfold acceptedS
     rw [hh]
     simp only [Option.bind_some]
     cases hm : mostS a.Members l with
     | true => exact ⟨_, rfl, by simp [hcan], fun _ => rfl⟩
     | false => exact ⟨_, rfl, by simp [hcan], fun _ => rfl⟩
    by_cases hin : n ∈ a.Accepted
    ·have := hhas.2 hin
     rw [if_neg (by
      rintro (hh | hh)
      ·omega
      ·exact hh this.2)]
     simp only [Option.bind_some]
     exact hfin _ l3 (if_pos hin)
    ·rw [if_pos (by
      by_cases hK : K = a.Accepted.length
      ·exact .inl (by omega)
      ·exact .inr fun hh => hin (hhas.1 ⟨by omega, hh⟩)), if_pos (by omega), if_pos (by omega), htake]
     simp only [Option.bind_some]
     have hr := hrise hin hk.accepted
     exact hfin _ (riseS_len hk.members _ hr) (if_neg hin)
   ·rw [if_pos (by simp [h3])]
    exact ⟨_, rfl, by simp [CanA, h3], by simp⟩
  ·have h2 : (a.Phase < 2) ∨ (¬ (b = a.Ballot)) := by
    by_cases h : a.Phase < 2
    ·exact .inl h
    ·exact .inr fun hh => h1 ⟨by omega, hh⟩
   rw [if_neg (fun h => h h2)]
   simp only [Option.bind_some]
   rw [if_pos (.inl h2)]
   exact ⟨_, rfl, ⟨fun h => by simp at h, fun h => absurd ⟨h.2.1, h.2.2.1⟩ h1⟩, by simp⟩
 ·have h0 : e ≠ 0 := fun h => hva (hv.1 h)
  rw [if_pos h0]
  exact ⟨_, rfl, ⟨fun h => absurd h h0, fun h => absurd h.1 hva⟩, fun h => absurd h h0⟩
theorem acc_mem (a : TAttempt) (n x : Int) : x ∈ (acceptedS a n).Accepted ↔ x = n ∨ x ∈ a.Accepted := by
 unfold acceptedS
 dsimp only
 split
 ·rename_i h
  constructor
  ·exact .inr
  ·rintro (rfl | h2)
   ·exact h
   ·exact h2
 ·exact insI_keys n x _
theorem accepted_kept {a : TAttempt} {n : Int} (h : CanA a a.Ballot n) : Valid (acceptedS a n) ∧ a.Phase ≤ (acceptedS a n).Phase := by
 obtain ⟨hv, h1, _, h3⟩ := h
 have hk := hv.kept (by omega)
 have hph : a.Phase = 2 ∨ a.Phase = 3 := by
  unfold Valid at hv
  rw [if_neg (by omega)] at hv
  rcases hv.1 with h | h | h
  ·omega
  ·exact .inl h
  ·exact .inr h
 have hval : a.Value = bestS a.Promises a.Wish 0 := by
  rcases hk.value with h | h
  ·omega
  ·exact h
 have hmem := acc_mem a n
 have hrise : riseS a.Members none (acceptedS a n).Accepted = true := by
  unfold acceptedS
  dsimp only
  split
  ·exact hk.accepted
  ·rename_i hin
   have := ins_rise (fun x : Int => x) a.Members n h3 a.Accepted none trivial (by simpa using hin)
   simp only [List.map_id'] at this
   exact this hk.accepted
 have hmono : a.Phase = 3 → mostS a.Members (acceptedS a n).Accepted = true := by
  intro h
  refine most_mono (l := a.Accepted) (fun x hx => (hmem x).2 (.inr hx)) ?_
  rw [hk.chosen, h]; rfl
 have hphase : (acceptedS a n).Phase = if mostS a.Members (acceptedS a n).Accepted = true then 3 else a.Phase := rfl
 have hp2 : (acceptedS a n).Phase = 2 ∨ (acceptedS a n).Phase = 3 := by
  rw [hphase]
  split
  ·exact .inr rfl
  ·exact hph
 have hmost : mostS a.Members (acceptedS a n).Accepted = ((acceptedS a n).Phase == 3) := by
  rw [hphase]
  cases hm : mostS a.Members (acceptedS a n).Accepted with
  | true => simp
  | false =>
   have : a.Phase ≠ 3 := fun h => by rw [hmono h] at hm; cases hm
   simp [this]
 refine ⟨?_, ?_⟩
 ·unfold Valid
  rw [if_neg (by omega)]
  refine ⟨.inr hp2, ⟨hk.ballot, hk.members, hk.wish, hk.nodes, hrise, hk.may, ?_, hmost, .inr hval⟩⟩
  show mostS a.Members (a.Promises.map TPromise.Node) = _
  rw [hk.most]
  rw [decide_eq_decide]
  omega
 ·rw [hphase]
  split <;> omega
end Go.Proofs
end
section
namespace Go.Proofs
open Go.Tm
set_option linter.unusedSimpArgs false
structure Px where
 acc : Nat → Int → List UInt8 → Prop
 told : Int → List UInt8 → Prop
 vt : Nat → TVote
 tr : Nat → TAttempt
 mailP : Nat → Int → Int → List UInt8 → Prop
 mailA : Int → List UInt8 → Prop
 mailT : Nat → Int → Prop
 ch : List UInt8 → Prop
def ownB (b : Int) : Nat := (b.tmod 8).toNat
def upd {α : Type} (f : Nat → α) (n : Nat) (v : α) : Nat → α := fun i => if i = n then v else f i
def PromOK (x : Px) (i : Nat) (b p : Int) (v : List UInt8) : Prop :=
 b ≤ (x.vt i).Promised ∧ (∀ c u, x.acc i c u → c < b → c ≤ p) ∧ (p ≠ 0 → x.acc i p v)
def Safe (ms : List Int) (x : Px) (b : Int) (v : List UInt8) : Prop :=
 ∃ (Q : List Int) (p : Int), mostS ms Q = true ∧ (∀ i ∈ Q, b ≤ (x.vt i.toNat).Promised ∧ ∀ c u, x.acc i.toNat c u → c < b → c ≤ p) ∧ (p ≠ 0 → p < b ∧ x.told p v)
structure TryOK (ms : List Int) (W : List UInt8 → Prop) (x : Px) (n : Nat) (a : TAttempt) : Prop where
 own : ownB a.Ballot = n
 pos : 0 < a.Ballot
 le : a.Ballot ≤ (x.vt n).Promised
 wish : W a.Wish
 mem : a.Members = ms
 prom : ∀ p ∈ a.Promises, PromOK x p.Node.toNat a.Ballot p.Ballot p.Value
 acc : ∀ i ∈ a.Accepted, ∃ v, x.acc i.toNat a.Ballot v
 ask : a.Phase = 1 → ∀ v, ¬ x.told a.Ballot v
 tell : a.Phase ≠ 1 → x.told a.Ballot a.Value
structure Inv (ms : List Int) (W : List UInt8 → Prop) (x : Px) : Prop where
 acc : ∀ i b v, x.acc i b v → x.told b v
 one : ∀ b v u, x.told b v → x.told b u → v = u
 pos : ∀ b v, x.told b v → 0 < b
 top : ∀ i b v, x.acc i b v → b ≤ (x.vt i).Ballot
 prom : ∀ i, (x.vt i).Ballot ≤ (x.vt i).Promised
 last : ∀ i, (x.vt i).Ballot ≠ 0 → x.acc i (x.vt i).Ballot (x.vt i).Value
 own : ∀ b v, x.told b v → b ≤ (x.vt (ownB b)).Promised
 safe : ∀ b v, x.told b v → Safe ms x b v
 wish : ∀ b v, x.told b v → W v
 mailP : ∀ i b p v, x.mailP i b p v → PromOK x i b p v
 mailA : ∀ b v, x.mailA b v → x.told b v
 mailT : ∀ i b, x.mailT i b → ∃ v, x.acc i b v
 tries : ∀ n, (x.tr n).Phase ≠ 0 → TryOK ms W x n (x.tr n)
 ch : ∀ v, x.ch v → ∃ (b : Int) (Q : List Int), mostS ms Q = true ∧ x.told b v ∧ ∀ i ∈ Q, x.acc i.toNat b v
theorem filter_sum {α : Type} (p q : α → Bool) (l : List α) : (l.filter p).length + (l.filter q).length ≤ l.length + (l.filter fun x => p x && q x).length := by
 induction l with
 | nil => simp
 | cons y l ih =>
  simp only [List.filter_cons, List.length_cons]
  cases p y <;> cases q y <;> simp <;> omega
theorem most_meet {ms Q R : List Int} (h1 : mostS ms Q = true) (h2 : mostS ms R = true) : ∃ i, i ∈ Q ∧ i ∈ R := by
 unfold mostS at h1 h2
 have h1 := of_decide_eq_true h1
 have h2 := of_decide_eq_true h2
 have h3 := filter_sum (hasI Q) (hasI R) ms
 have h4 : 0 < (ms.filter fun x => hasI Q x && hasI R x).length := by omega
 obtain ⟨i, hi⟩ := List.exists_mem_of_length_pos h4
 have h5 := (List.mem_filter.1 hi).2
 rw [Bool.and_eq_true] at h5
 exact ⟨i, by simpa [hasI] using h5.1, by simpa [hasI] using h5.2⟩
theorem Inv.later {ms W x} (h : Inv ms W x) {b v} {Q : List Int} (hQ : mostS ms Q = true) (hA : ∀ i ∈ Q, x.acc i.toNat b v) : ∀ (k : Nat) (c : Int) u, c.toNat ≤ k → b < c → x.told c u → u = v := by
 intro k
 induction k with
 | zero =>
  intro c u hk _ ht
  have := h.pos c u ht
  omega
 | succ k ih =>
  intro c u hk hbc ht
  obtain ⟨R, p, hR, hi, hp⟩ := h.safe c u ht
  obtain ⟨i, hiQ, hiR⟩ := most_meet hQ hR
  have ha := hA i hiQ
  have hb := h.pos b v (h.acc _ _ _ ha)
  have hbp := (hi i hiR).2 b v ha hbc
  have hp := hp (by omega)
  have htb := h.acc _ _ _ ha
  by_cases e : b = p
  ·exact h.one p u v hp.2 (e ▸ htb)
  ·exact ih p u (by omega) (by omega) hp.2
theorem Inv.chosen {ms W x} (h : Inv ms W x) {u v} (hu : x.ch u) (hv : x.ch v) : u = v := by
 obtain ⟨b, Q, hQ, hb, hA⟩ := h.ch u hu
 obtain ⟨c, R, hR, hc, hB⟩ := h.ch v hv
 rcases Int.lt_trichotomy b c with hlt | rfl | hlt
 ·exact (h.later hQ hA c.toNat c v (Nat.le_refl _) hlt hc).symm
 ·exact h.one b u v hb hc
 ·exact h.later hR hB b.toNat b u (Nat.le_refl _) hlt hb
structure Grow (x y : Px) : Prop where
 prom : ∀ i, (x.vt i).Promised ≤ (y.vt i).Promised
 acc : ∀ i b v, x.acc i b v → y.acc i b v
 told : ∀ b v, x.told b v → y.told b v
 new : ∀ i b v, y.acc i b v → x.acc i b v ∨ (x.vt i).Promised ≤ b
theorem Grow.promOK {x y} (g : Grow x y) {i b p v} (h : PromOK x i b p v) : PromOK y i b p v := by
 refine ⟨Int.le_trans h.1 (g.prom i), fun c u hc hlt => ?_, fun hp => g.acc _ _ _ (h.2.2 hp)⟩
 rcases g.new i c u hc with h1 | h1
 ·exact h.2.1 c u h1 hlt
 ·have := h.1
  omega
theorem Grow.safe {ms x y} (g : Grow x y) {b v} (h : Safe ms x b v) : Safe ms y b v := by
 obtain ⟨Q, p, hQ, hi, hp⟩ := h
 refine ⟨Q, p, hQ, fun i hq => ⟨Int.le_trans (hi i hq).1 (g.prom _), fun c u hc hlt => ?_⟩, fun h0 => ⟨(hp h0).1, g.told _ _ (hp h0).2⟩⟩
 rcases g.new _ c u hc with h1 | h1
 ·exact (hi i hq).2 c u h1 hlt
 ·have := (hi i hq).1
  omega
theorem Grow.tryOK {ms W x y} (g : Grow x y) {n a} (ht : ∀ b v, y.told b v → x.told b v) (h : TryOK ms W x n a) : TryOK ms W y n a :=
 ⟨h.own, h.pos, Int.le_trans h.le (g.prom n), h.wish, h.mem, fun p hp => g.promOK (h.prom p hp), fun i hi => let ⟨v, hv⟩ := h.acc i hi; ⟨v, g.acc _ _ _ hv⟩, fun e v hv => h.ask e v (ht _ _ hv), fun e => g.told _ _ (h.tell e)⟩
theorem Inv.mail {ms W x} (h : Inv ms W x) {P : Nat → Int → Int → List UInt8 → Prop} {A : Int → List UInt8 → Prop} {T : Nat → Int → Prop} (hP : ∀ i b p v, P i b p v → x.mailP i b p v ∨ PromOK x i b p v) (hA : ∀ b v, A b v → x.mailA b v ∨ x.told b v) (hT : ∀ i b, T i b → x.mailT i b ∨ ∃ v, x.acc i b v) : Inv ms W { x with mailP := P, mailA := A, mailT := T } where
 acc := h.acc
 one := h.one
 pos := h.pos
 top := h.top
 prom := h.prom
 last := h.last
 own := h.own
 safe := h.safe
 wish := h.wish
 mailP i b p v hm := by
  rcases hP i b p v hm with h1 | h1
  ·exact h.mailP _ _ _ _ h1
  ·exact h1
 mailA b v hm := by
  rcases hA b v hm with h1 | h1
  ·exact h.mailA _ _ h1
  ·exact h1
 mailT i b hm := by
  rcases hT i b hm with h1 | h1
  ·exact h.mailT _ _ h1
  ·exact h1
 tries n hn := let t := h.tries n hn; ⟨t.own, t.pos, t.le, t.wish, t.mem, t.prom, t.acc, t.ask, t.tell⟩
 ch := h.ch
theorem Inv.try_ {ms W x} (h : Inv ms W x) (n : Nat) (a : TAttempt) (ha : a.Phase ≠ 0 → TryOK ms W x n a) : Inv ms W { x with tr := upd x.tr n a } where
 acc := h.acc
 one := h.one
 pos := h.pos
 top := h.top
 prom := h.prom
 last := h.last
 own := h.own
 safe := h.safe
 wish := h.wish
 mailP := h.mailP
 mailA := h.mailA
 mailT := h.mailT
 tries i hi := by
  by_cases e : i = n
  ·subst e
   simp only [upd, if_pos] at hi ⊢
   let t := ha hi
   exact ⟨t.own, t.pos, t.le, t.wish, t.mem, t.prom, t.acc, t.ask, t.tell⟩
  ·simp only [upd, if_neg e] at hi ⊢
   let t := h.tries i hi
   exact ⟨t.own, t.pos, t.le, t.wish, t.mem, t.prom, t.acc, t.ask, t.tell⟩
 ch := h.ch
theorem Inv.choose {ms W x} (h : Inv ms W x) {C : List UInt8 → Prop} (hC : ∀ v, C v → x.ch v ∨ ∃ (b : Int) (Q : List Int), mostS ms Q = true ∧ x.told b v ∧ ∀ i ∈ Q, x.acc i.toNat b v) : Inv ms W { x with ch := C } where
 acc := h.acc
 one := h.one
 pos := h.pos
 top := h.top
 prom := h.prom
 last := h.last
 own := h.own
 safe := h.safe
 wish := h.wish
 mailP := h.mailP
 mailA := h.mailA
 mailT := h.mailT
 tries n hn := let t := h.tries n hn; ⟨t.own, t.pos, t.le, t.wish, t.mem, t.prom, t.acc, t.ask, t.tell⟩
 ch v hv := by
  rcases hC v hv with h1 | h1
  ·exact h.ch _ h1
  ·exact h1
theorem Inv.prepare {ms W x} (h : Inv ms W x) (n : Nat) (b : Int) (hb : (x.vt n).Promised ≤ b) : Inv ms W { x with vt := upd x.vt n { x.vt n with Promised := b } } := by
 have g : Grow x { x with vt := upd x.vt n { x.vt n with Promised := b } } := by
  refine ⟨fun i => ?_, fun _ _ _ h => h, fun _ _ h => h, fun _ _ _ h => .inl h⟩
  by_cases e : i = n
  ·subst e; simp only [upd, if_pos]; exact hb
  ·simp only [upd, if_neg e]; exact Int.le_refl _
 have hB : ∀ i, (upd x.vt n { x.vt n with Promised := b } i).Ballot = (x.vt i).Ballot ∧ (upd x.vt n { x.vt n with Promised := b } i).Value = (x.vt i).Value := by
  intro i
  by_cases e : i = n
  ·subst e; simp only [upd, if_pos]; exact ⟨trivial, trivial⟩
  ·simp only [upd, if_neg e]; exact ⟨trivial, trivial⟩
 exact {
     acc := h.acc, one := h.one, pos := h.pos
     top := fun i c v hc => (hB i).1.symm ▸ h.top i c v hc
     prom := fun i => (hB i).1.symm ▸ Int.le_trans (h.prom i) (g.prom i)
     last := fun i hi => by
      have e := hB i
      show x.acc i (upd x.vt n { x.vt n with Promised := b } i).Ballot (upd x.vt n { x.vt n with Promised := b } i).Value
      rw [e.1, e.2]
      exact h.last i (fun h0 => hi (e.1.trans h0))
     own := fun c v hc => Int.le_trans (h.own c v hc) (g.prom _)
     safe := fun c v hc => g.safe (h.safe c v hc)
     wish := h.wish
     mailP := fun i c p v hm => g.promOK (h.mailP i c p v hm)
     mailA := h.mailA, mailT := h.mailT
     tries := fun i hi => g.tryOK (fun _ _ h => h) (h.tries i hi)
     ch := h.ch }
theorem Inv.accept {ms W x} (h : Inv ms W x) (n : Nat) (b : Int) (v : List UInt8) (hb : (x.vt n).Promised ≤ b) (ht : x.told b v) : Inv ms W { x with vt := upd x.vt n ⟨b, b, v⟩, acc := fun i c u => x.acc i c u ∨ (i = n ∧ c = b ∧ u = v) } := by
 have g : Grow x { x with vt := upd x.vt n ⟨b, b, v⟩, acc := fun i c u => x.acc i c u ∨ (i = n ∧ c = b ∧ u = v) } := by
  refine ⟨fun i => ?_, fun _ _ _ h => .inl h, fun _ _ h => h, fun i c u h => ?_⟩
  ·by_cases e : i = n
   ·subst e; simp only [upd, if_pos]; exact hb
   ·simp only [upd, if_neg e]; exact Int.le_refl _
  ·rcases h with h | ⟨rfl, rfl, rfl⟩
   ·exact .inl h
   ·exact .inr hb
 exact {
     acc := fun i c u hc => by
      rcases hc with hc | ⟨_, rfl, rfl⟩
      ·exact h.acc _ _ _ hc
      ·exact ht
     one := h.one, pos := h.pos
     top := fun i c u hc => by
      by_cases e : i = n
      ·subst e
       simp only [upd, if_pos]
       rcases hc with hc | ⟨_, rfl, rfl⟩
       ·have := h.top _ _ _ hc; have := h.prom i; omega
       ·exact Int.le_refl _
      ·simp only [upd, if_neg e]
       rcases hc with hc | ⟨rfl, _⟩
       ·exact h.top _ _ _ hc
       ·exact absurd rfl e
     prom := fun i => by
      by_cases e : i = n
      ·subst e; simp only [upd, if_pos]; exact Int.le_refl _
      ·simp only [upd, if_neg e]; exact h.prom i
     last := fun i hi => by
      by_cases e : i = n
      ·subst e; simp only [upd, if_pos]; exact .inr ⟨trivial, trivial, trivial⟩
      ·simp only [upd, if_neg e] at hi ⊢; exact .inl (h.last i hi)
     own := fun c u hc => Int.le_trans (h.own c u hc) (g.prom _)
     safe := fun c u hc => g.safe (h.safe c u hc)
     wish := h.wish
     mailP := fun i c p u hm => g.promOK (h.mailP i c p u hm)
     mailA := h.mailA
     mailT := fun i c hm => let ⟨u, hu⟩ := h.mailT i c hm; ⟨u, .inl hu⟩
     tries := fun i hi => g.tryOK (fun _ _ h => h) (h.tries i hi)
     ch := fun u hu => let ⟨c, Q, hQ, hc, hA⟩ := h.ch u hu; ⟨c, Q, hQ, hc, fun i hi => .inl (hA i hi)⟩ }
theorem Inv.tell {ms W x} (h : Inv ms W x) (n : Nat) (b : Int) (v : List UInt8) (a : TAttempt) (hnt : ∀ u, ¬ x.told b u) (hs : Safe ms x b v) (hw : W v) (hv : a.Value = v) (hb : a.Ballot = b) (ha1 : a.Phase ≠ 1) (hown : ownB b = n) (hpos : 0 < b) (hle : b ≤ (x.vt n).Promised) (hwish : W a.Wish) (hmem : a.Members = ms) (hprom : ∀ p ∈ a.Promises, PromOK x p.Node.toNat b p.Ballot p.Value) (hacc : ∀ i ∈ a.Accepted, ∃ u, x.acc i.toNat b u) : Inv ms W { x with told := fun c u => x.told c u ∨ (c = b ∧ u = v), tr := upd x.tr n a } := by
 have g : Grow x { x with told := fun c u => x.told c u ∨ (c = b ∧ u = v), tr := upd x.tr n a } := ⟨fun _ => Int.le_refl _, fun _ _ _ h => h, fun _ _ h => .inl h, fun _ _ _ h => .inl h⟩
 exact {
     acc := fun i c u hc => .inl (h.acc i c u hc)
     one := fun c u t hu ht => by
      rcases hu with hu | ⟨rfl, rfl⟩ <;> rcases ht with ht | ⟨ht1, ht2⟩
      ·exact h.one _ _ _ hu ht
      ·exact absurd (ht1 ▸ hu) (hnt _)
      ·exact absurd ht (hnt _)
      ·exact ht2.symm
     pos := fun c u hc => by
      rcases hc with hc | ⟨rfl, rfl⟩
      ·exact h.pos _ _ hc
      ·exact hpos
     top := h.top, prom := h.prom, last := h.last
     own := fun c u hc => by
      rcases hc with hc | ⟨rfl, rfl⟩
      ·exact h.own _ _ hc
      ·show c ≤ (x.vt (ownB c)).Promised
       rw [hown]; exact hle
     safe := fun c u hc => by
      rcases hc with hc | ⟨rfl, rfl⟩
      ·exact g.safe (h.safe _ _ hc)
      ·exact g.safe hs
     wish := fun c u hc => by
      rcases hc with hc | ⟨rfl, rfl⟩
      ·exact h.wish _ _ hc
      ·exact hw
     mailP := fun i c p u hm => g.promOK (h.mailP i c p u hm)
     mailA := fun c u hm => .inl (h.mailA c u hm)
     mailT := h.mailT
     tries := fun i hi => by
      by_cases e : i = n
      ·subst e
       simp only [upd, if_pos] at hi ⊢
       subst hb
       exact ⟨hown, hpos, hle, hwish, hmem, fun p hp => g.promOK (hprom p hp), hacc, fun h1 => absurd h1 ha1, fun _ => .inr ⟨rfl, hv⟩⟩
      ·simp only [upd, if_neg e] at hi ⊢
       have t := h.tries i hi
       refine ⟨t.own, t.pos, t.le, t.wish, t.mem, fun p hp => g.promOK (t.prom p hp), t.acc, fun h1 u hu => ?_, fun h1 => .inl (t.tell h1)⟩
       rcases hu with hu | ⟨hu, _⟩
       ·exact t.ask h1 u hu
       ·exact e (t.own.symm.trans ((congrArg ownB hu).trans hown))
     ch := fun u hu => let ⟨c, Q, hQ, hc, hA⟩ := h.ch u hu; ⟨c, Q, hQ, .inl hc, hA⟩ }
theorem best_spec (l : List TPromise) : ∀ (s : List UInt8) (n : Int), ∃ p, n ≤ p ∧ (∀ q ∈ l, q.Ballot ≤ p) ∧ ((p = n ∧ bestS l s n = s) ∨ (n < p ∧ ∃ q ∈ l, q.Ballot = p ∧ bestS l s n = q.Value)) := by
 induction l with
 | nil => exact fun s n => ⟨n, Int.le_refl _, by simp, .inl ⟨rfl, rfl⟩⟩
 | cons y l ih =>
  intro s n
  by_cases e : y.Ballot > n
  ·obtain ⟨p, h1, h2, h3⟩ := ih y.Value y.Ballot
   refine ⟨p, by omega, fun q hq => ?_, .inr ⟨by omega, ?_⟩⟩
   ·rcases List.mem_cons.1 hq with rfl | hq
    ·exact h1
    ·exact h2 q hq
   ·rw [bestS, if_pos e]
    rcases h3 with ⟨rfl, h3⟩ | ⟨_, q, hq, h4, h5⟩
    ·exact ⟨y, List.mem_cons_self .., rfl, h3⟩
    ·exact ⟨q, List.mem_cons_of_mem _ hq, h4, h5⟩
  ·obtain ⟨p, h1, h2, h3⟩ := ih s n
   refine ⟨p, h1, fun q hq => ?_, ?_⟩
   ·rcases List.mem_cons.1 hq with rfl | hq
    ·omega
    ·exact h2 q hq
   ·rw [bestS, if_neg e]
    rcases h3 with h3 | ⟨h0, q, hq, h4⟩
    ·exact .inl h3
    ·exact .inr ⟨h0, q, List.mem_cons_of_mem _ hq, h4⟩
theorem Inv.best {ms W x} (h : Inv ms W x) (b : Int) (l : List TPromise) (wish : List UInt8) (hm : mostS ms (l.map TPromise.Node) = true) (hp : ∀ p ∈ l, PromOK x p.Node.toNat b p.Ballot p.Value) (hy : ∀ p ∈ l, MayS p b) (hw : W wish) : Safe ms x b (bestS l wish 0) ∧ W (bestS l wish 0) := by
 obtain ⟨p, h1, h2, h3⟩ := best_spec l wish 0
 have hQ : ∀ i ∈ l.map TPromise.Node, b ≤ (x.vt i.toNat).Promised ∧ ∀ c u, x.acc i.toNat c u → c < b → c ≤ p := by
  intro i hi
  obtain ⟨q, hq, rfl⟩ := List.mem_map.1 hi
  have t := hp q hq
  exact ⟨t.1, fun c u hc hlt => Int.le_trans (t.2.1 c u hc hlt) (h2 q hq)⟩
 rcases h3 with ⟨rfl, h3⟩ | ⟨h0, q, hq, h4, h5⟩
 ·rw [h3]
  exact ⟨⟨_, 0, hm, hQ, fun h => absurd rfl h⟩, hw⟩
 ·have ha := (hp q hq).2.2 (by omega)
  have ht := h.acc _ _ _ ha
  have hb := hy q hq
  unfold MayS at hb
  rw [if_neg (by omega)] at hb
  rw [h5]
  exact ⟨⟨_, p, hm, hQ, fun _ => ⟨by omega, h4 ▸ ht⟩⟩, h.wish _ _ ht⟩
end Go.Proofs
end
section
namespace Go.Proofs
open Go.Tm
set_option linter.unusedSimpArgs false
def VOk (v : TVote) : Prop := (v.Promised = 0 ∨ BOk v.Promised) ∧ (if v.Ballot = 0 then v.Value = [] else BOk v.Ballot ∧ v.Ballot ≤ v.Promised ∧ v.Value.length ≤ 1024)
instance (v : TVote) : Decidable (VOk v) := by unfold VOk; infer_instance
def AskedS (v : TVote) (b : Int) (t : List UInt8) : Prop := VOk v ∧ BOk b ∧ t.length ≤ 1024 ∧ v.Promised ≤ b
instance (v : TVote) (b : Int) (t : List UInt8) : Decidable (AskedS v b t) := by unfold AskedS; infer_instance
noncomputable instance (a : TAttempt) : Decidable (Valid a) := Classical.propDecidable _
noncomputable instance (a : TAttempt) (b : Int) (p : TPromise) : Decidable (CanP a b p) := Classical.propDecidable _
noncomputable instance (a : TAttempt) (b n : Int) : Decidable (CanA a b n) := Classical.propDecidable _
def tellS (w : TWorld) (m : TMail) : TWorld := { w with Mail := w.Mail ++ (w.Members.filter fun to => decide (to ≠ m.From)).map fun to => { m with To := to } }
abbrev vtW (w : TWorld) (n : Int) : TVote := w.Votes.getD n.toNat default
abbrev trW (w : TWorld) (n : Int) : TAttempt := w.Tries.getD n.toNat default
noncomputable def takenW (w : TWorld) (n b q : Int) : TWorld :=
 if CanA (trW w n) b q then { w with Chosen := if (acceptedS (trW w n) q).Phase = 3 ∧ (trW w n).Phase ≠ 3 then w.Chosen ++ [⟨n, (acceptedS (trW w n) q).Value⟩] else w.Chosen, Tries := w.Tries.set n.toNat (acceptedS (trW w n) q) } else w
noncomputable def ownVote (w : TWorld) (n b : Int) (v : List UInt8) : TWorld :=
 if n ∈ w.Members ∧ AskedS (vtW w n) b v then takenW { w with Votes := w.Votes.set n.toNat ⟨b, b, v⟩ } n b n else w
noncomputable def promisedW (w : TWorld) (n b : Int) (p : TPromise) : TWorld :=
 if CanP (trW w n) b p then
  if (promisedS (trW w n) p).Phase = 1 then { w with Tries := w.Tries.set n.toNat (promisedS (trW w n) p) }
  else ownVote (tellS { w with Tries := w.Tries.set n.toNat (promisedS (trW w n) p) } ⟨n, 0, 3, 0, 0, b, 0, (promisedS (trW w n) p).Value, 0, 0⟩) n b (promisedS (trW w n) p).Value
 else w
noncomputable def beginW (w : TWorld) (n b : Int) (t : List UInt8) : TWorld :=
 promisedW (tellS { w with Votes := w.Votes.set n.toNat { vtW w n with Promised := b }, Tries := w.Tries.set n.toNat ⟨1, b, w.Members, t, [], [], []⟩ } ⟨n, 0, 1, 0, 0, b, 0, [], 0, 0⟩) n b ⟨n, (vtW w n).Ballot, (vtW w n).Value⟩
def addMail (w : TWorld) (m : TMail) : TWorld := { w with Mail := w.Mail ++ [m] }
noncomputable def comeW (w : TWorld) (m : TMail) : TWorld :=
 if m.Kind = 2 then promisedW w m.To m.Ballot ⟨m.From, m.Prior, m.Value⟩
 else if m.Kind = 4 then takenW w m.To m.Ballot m.From
 else if m.Kind = 5 then w
 else if m.Kind = 1 then
  if AskedS (vtW w m.To) m.Ballot [] then addMail { w with Votes := w.Votes.set m.To.toNat { vtW w m.To with Promised := m.Ballot } } ⟨m.To, m.From, 2, 0, 0, m.Ballot, (vtW w m.To).Ballot, (vtW w m.To).Value, 0, 0⟩
  else addMail w ⟨m.To, m.From, 5, 0, 0, m.Ballot, (vtW w m.To).Promised, [], 0, 0⟩
 else if AskedS (vtW w m.To) m.Ballot m.Value then addMail { w with Votes := w.Votes.set m.To.toNat ⟨m.Ballot, m.Ballot, m.Value⟩ } ⟨m.To, m.From, 4, 0, 0, m.Ballot, 0, [], 0, 0⟩
 else addMail w ⟨m.To, m.From, 5, 0, 0, m.Ballot, (vtW w m.To).Promised, [], 0, 0⟩
def pxOf (w : TWorld) (acc : Nat → Int → List UInt8 → Prop) (told : Int → List UInt8 → Prop) : Px where
 acc := acc
 told := told
 vt := fun i => w.Votes.getD i default
 tr := fun i => w.Tries.getD i default
 mailP := fun i b p v => ∃ m ∈ w.Mail, m.Kind = 2 ∧ m.From.toNat = i ∧ m.Ballot = b ∧ m.Prior = p ∧ m.Value = v
 mailA := fun b v => ∃ m ∈ w.Mail, m.Kind = 3 ∧ m.Ballot = b ∧ m.Value = v
 mailT := fun i b => ∃ m ∈ w.Mail, m.Kind = 4 ∧ m.From.toNat = i ∧ m.Ballot = b
 ch := fun v => ∃ c ∈ w.Chosen, c.Value = v
theorem getD_upd {α : Type} (l : List α) (n : Nat) (a d : α) (h : n < l.length) : (fun i => (l.set n a).getD i d) = upd (fun i => l.getD i d) n a := by
 funext i
 unfold upd
 by_cases e : i = n
 ·subst e
  rw [if_pos rfl]
  simp [List.getD, h]
 ·rw [if_neg e]
  simp [List.getD, List.getElem?_set_ne (Ne.symm e)]
theorem px_try (w : TWorld) (acc told) (n : Nat) (a : TAttempt) (h : n < w.Tries.length) : pxOf { w with Tries := w.Tries.set n a } acc told = { pxOf w acc told with tr := upd (pxOf w acc told).tr n a } := by
 unfold pxOf
 simp only [getD_upd _ _ _ _ h]
theorem px_vote (w : TWorld) (acc told) (n : Nat) (a : TVote) (h : n < w.Votes.length) : pxOf { w with Votes := w.Votes.set n a } acc told = { pxOf w acc told with vt := upd (pxOf w acc told).vt n a } := by
 unfold pxOf
 simp only [getD_upd _ _ _ _ h]
structure Hist (ms : List Int) (W : List UInt8 → Prop) (w : TWorld) (acc : Nat → Int → List UInt8 → Prop) (told : Int → List UInt8 → Prop) : Prop where
 mem : w.Members = ms
 vts : w.Votes.length = 6
 trs : w.Tries.length = 6
 inv : Inv ms W (pxOf w acc told)
def Lives (ms : List Int) (W : List UInt8 → Prop) (w : TWorld) : Prop := ∃ acc told, Hist ms W w acc told
theorem Hist.mails {ms W w acc told} (h : Hist ms W w acc told) (M : List TMail) (hM : ∀ m ∈ M, m ∈ w.Mail ∨ ((m.Kind = 2 → PromOK (pxOf w acc told) m.From.toNat m.Ballot m.Prior m.Value) ∧ (m.Kind = 3 → told m.Ballot m.Value) ∧ (m.Kind = 4 → ∃ v, acc m.From.toNat m.Ballot v))) : Hist ms W { w with Mail := M } acc told := by
 refine ⟨h.mem, h.vts, h.trs, h.inv.mail (x := pxOf w acc told) ?_ ?_ ?_⟩
 ·rintro i b p v ⟨m, hm, h1, rfl, rfl, rfl, rfl⟩
  rcases hM m hm with h2 | h2
  ·exact .inl ⟨m, h2, h1, rfl, rfl, rfl, rfl⟩
  ·exact .inr (h2.1 h1)
 ·rintro b v ⟨m, hm, h1, rfl, rfl⟩
  rcases hM m hm with h2 | h2
  ·exact .inl ⟨m, h2, h1, rfl, rfl⟩
  ·exact .inr (h2.2.1 h1)
 ·rintro i b ⟨m, hm, h1, rfl, rfl⟩
  rcases hM m hm with h2 | h2
  ·exact .inl ⟨m, h2, h1, rfl, rfl⟩
  ·exact .inr (h2.2.2 h1)
theorem Hist.tell {ms W w acc told} (h : Hist ms W w acc told) (m : TMail) (h2 : m.Kind ≠ 2) (h3 : m.Kind = 3 → told m.Ballot m.Value) (h4 : m.Kind ≠ 4) : Hist ms W (tellS w m) acc told := by
 refine h.mails _ fun k hk => ?_
 rcases List.mem_append.1 hk with hk | hk
 ·exact .inl hk
 ·obtain ⟨to, _, rfl⟩ := List.mem_map.1 hk
  exact .inr ⟨fun h => absurd h h2, h3, fun h => absurd h h4⟩
theorem Hist.taken {ms W w acc told} (h : Hist ms W w acc told) (n b q : Int) (hn : 0 ≤ n ∧ n < 6) (ha : ∃ v, acc q.toNat b v) : Hist ms W (takenW w n b q) acc told := by
 unfold takenW
 split
 case isFalse => exact h
 rename_i hc
 have hlt : n.toNat < w.Tries.length := by rw [h.trs]; omega
 have hph : (trW w n).Phase ≠ 0 := by have := hc.2.1; omega
 have t : TryOK ms W (pxOf w acc told) n.toNat (trW w n) := h.inv.tries n.toNat hph
 have hb : b = (trW w n).Ballot := hc.2.2.1
 have hk := accepted_kept (a := trW w n) (n := q) ⟨hc.1, hc.2.1, rfl, hc.2.2.2⟩
 have htold := t.tell (by have := hc.2.1; omega)
 have e1 : (acceptedS (trW w n) q).Ballot = (trW w n).Ballot := rfl
 have e2 : (acceptedS (trW w n) q).Value = (trW w n).Value := rfl
 have hacc : ∀ i ∈ (acceptedS (trW w n) q).Accepted, acc i.toNat b (trW w n).Value := by
  intro i hi
  have : ∃ v, acc i.toNat b v := by
   rcases (acc_mem _ _ _).1 hi with rfl | hi
   ·exact ha
   ·rw [hb]; exact t.acc i hi
  obtain ⟨v, hv⟩ := this
  have := h.inv.one b v (trW w n).Value (h.inv.acc _ _ _ hv) (by rw [hb]; exact htold)
  rw [← this]; exact hv
 have t2 : TryOK ms W (pxOf w acc told) n.toNat (acceptedS (trW w n) q) := by
  refine ⟨t.own, t.pos, t.le, t.wish, t.mem, t.prom, fun i hi => ⟨(trW w n).Value, ?_⟩, fun h1 => ?_, fun _ => htold⟩
  ·rw [e1, ← hb]; exact hacc i hi
  ·have := hk.2
   have := hc.2.1
   omega
 have i1 := h.inv.try_ n.toNat (acceptedS (trW w n) q) fun _ => t2
 rw [← px_try w acc told _ _ hlt] at i1
 refine ⟨h.mem, h.vts, by simpa using h.trs, ?_⟩
 refine i1.choose ?_
 rintro v ⟨c, hcm, rfl⟩
 split at hcm
 ·rename_i h3
  rcases List.mem_append.1 hcm with hcm | hcm
  ·exact .inl ⟨c, hcm, rfl⟩
  ·rw [List.mem_singleton] at hcm
   subst hcm
   refine .inr ⟨b, (acceptedS (trW w n) q).Accepted, ?_, ?_, fun i hi => hacc i hi⟩
   ·have hv := hk.1.kept (by rw [h3.1]; decide)
    have := hv.chosen
    rw [h3.1] at this
    have e3 : (acceptedS (trW w n) q).Members = ms := t2.mem
    rw [e3] at this
    exact this
   ·rw [hb]; exact htold
 ·exact .inl ⟨c, hcm, rfl⟩
theorem Hist.ownVote {ms W w acc told} (h : Hist ms W w acc told) (n b : Int) (v : List UInt8) (hn : 0 ≤ n ∧ n < 6) (ht : told b v) : ∃ acc2, Hist ms W (ownVote w n b v) acc2 told := by
 unfold Go.Proofs.ownVote
 split
 case isFalse => exact ⟨acc, h⟩
 rename_i hc
 have hlt : n.toNat < w.Votes.length := by rw [h.vts]; omega
 have i1 := h.inv.accept n.toNat b v hc.2.2.2.2 ht
 have h2 : Hist ms W { w with Votes := w.Votes.set n.toNat ⟨b, b, v⟩ } (fun i c u => acc i c u ∨ (i = n.toNat ∧ c = b ∧ u = v)) told := by
  refine ⟨h.mem, by simpa using h.vts, h.trs, ?_⟩
  rw [px_vote w _ told _ _ hlt]
  exact i1
 exact ⟨_, h2.taken n b n hn ⟨v, .inr ⟨rfl, rfl, rfl⟩⟩⟩
theorem promisedS_in {a : TAttempt} {p : TPromise} (x : TPromise) (hx : x ∈ (promisedS a p).Promises) : x = p ∨ x ∈ a.Promises := by
 unfold promisedS withP at hx
 split at hx
 ·exact .inr hx
 ·split at hx
  ·exact (ins_mem _ p x _).1 hx
  ·exact (ins_mem _ p x _).1 hx
theorem promisedS_same (a : TAttempt) (p : TPromise) : (promisedS a p).Ballot = a.Ballot ∧ (promisedS a p).Members = a.Members ∧ (promisedS a p).Wish = a.Wish ∧ (promisedS a p).Accepted = a.Accepted := by
 unfold promisedS withP
 split
 ·exact ⟨rfl, rfl, rfl, rfl⟩
 ·split <;> exact ⟨rfl, rfl, rfl, rfl⟩
theorem Hist.promised {ms W w acc told} (h : Hist ms W w acc told) (n b : Int) (p : TPromise) (hn : 0 ≤ n ∧ n < 6) (hp : PromOK (pxOf w acc told) p.Node.toNat b p.Ballot p.Value) : Lives ms W (promisedW w n b p) := by
 unfold promisedW
 split
 case isFalse => exact ⟨acc, told, h⟩
 rename_i hc
 obtain ⟨hv, h1, hb, hpm, hmay⟩ := hc
 have hlt : n.toNat < w.Tries.length := by rw [h.trs]; omega
 have hph : (trW w n).Phase ≠ 0 := by omega
 have t : TryOK ms W (pxOf w acc told) n.toNat (trW w n) := h.inv.tries n.toNat hph
 have hk := promised_kept (a := trW w n) (p := p) ⟨hv, h1, rfl, hpm, hb ▸ hmay⟩
 obtain ⟨e1, e2, e3, e4⟩ := promisedS_same (trW w n) p
 have hprom : ∀ q ∈ (promisedS (trW w n) p).Promises, PromOK (pxOf w acc told) q.Node.toNat b q.Ballot q.Value := by
  intro q hq
  rcases promisedS_in q hq with rfl | hq
  ·exact hp
  ·rw [hb]; exact t.prom q hq
 split
 ·rename_i h2
  have t2 : TryOK ms W (pxOf w acc told) n.toNat (promisedS (trW w n) p) := by
   refine ⟨e1 ▸ t.own, e1 ▸ t.pos, e1 ▸ t.le, e3 ▸ t.wish, e2.trans t.mem, fun q hq => ?_, fun i hi => ?_, fun _ => e1 ▸ t.ask h1, fun h3 => absurd h2 h3⟩
   ·rw [e1, ← hb]; exact hprom q hq
   ·rw [e1]; exact t.acc i (e4 ▸ hi)
  have i1 := h.inv.try_ n.toNat _ fun _ => t2
  rw [← px_try w acc told _ _ hlt] at i1
  exact ⟨acc, told, h.mem, h.vts, by simpa using h.trs, i1⟩
 ·rename_i h2
  have hne : (promisedS (trW w n) p).Phase ≠ 0 := by
   unfold promisedS withP
   split
   ·omega
   ·split
    ·simp
    ·simpa using hph
  have k := hk.kept hne
  have hval : (promisedS (trW w n) p).Value = bestS (promisedS (trW w n) p).Promises (promisedS (trW w n) p).Wish 0 := by
   rcases k.value with h3 | h3
   ·exact absurd h3 h2
   ·exact h3
  have hmost : mostS ms ((promisedS (trW w n) p).Promises.map TPromise.Node) = true := by
   have := k.most
   rw [e2, show (trW w n).Members = ms from t.mem] at this
   rw [this]
   have h3 : (promisedS (trW w n) p).Phase = 2 ∨ (promisedS (trW w n) p).Phase = 1 ∨ (promisedS (trW w n) p).Phase = 0 ∨ (promisedS (trW w n) p).Phase = 3 := by
    unfold Valid at hk
    rw [if_neg hne] at hk
    rcases hk.1 with h | h | h
    ·exact .inr (.inl h.1)
    ·exact .inl h
    ·exact .inr (.inr (.inr h))
   rcases h3 with h3 | h3 | h3 | h3
   ·rw [h3]; rfl
   ·exact absurd h3 h2
   ·exact absurd h3 hne
   ·rw [h3]; rfl
  have hs := h.inv.best b (promisedS (trW w n) p).Promises (promisedS (trW w n) p).Wish hmost hprom (fun q hq => by have := k.may q hq; rw [e1, ← hb] at this; exact this) (e3 ▸ t.wish)
  rw [← hval] at hs
  have i1 := h.inv.tell n.toNat b (promisedS (trW w n) p).Value (promisedS (trW w n) p) (hb ▸ t.ask h1) hs.1 hs.2 rfl (by rw [e1, hb]) h2 (hb ▸ t.own) (hb ▸ t.pos) (hb ▸ t.le) (e3 ▸ t.wish) (e2.trans t.mem) hprom (fun i hi => by rw [hb]; exact t.acc i (e4 ▸ hi))
  have h3 : Hist ms W { w with Tries := w.Tries.set n.toNat (promisedS (trW w n) p) } acc (fun c u => told c u ∨ (c = b ∧ u = (promisedS (trW w n) p).Value)) := by
   refine ⟨h.mem, h.vts, by simpa using h.trs, ?_⟩
   rw [px_try w acc _ _ _ hlt]
   exact i1
  have h4 := h3.tell ⟨n, 0, 3, 0, 0, b, 0, (promisedS (trW w n) p).Value, 0, 0⟩ (by simp) (fun _ => .inr ⟨rfl, rfl⟩) (by simp)
  obtain ⟨acc2, h5⟩ := h4.ownVote n b _ hn (.inr ⟨rfl, rfl⟩)
  exact ⟨acc2, _, h5⟩
theorem Hist.begin_ {ms W w acc told} (h : Hist ms W w acc told) (n b : Int) (v : List UInt8) (hn : 0 ≤ n ∧ n < 6) (hb : 0 < b) (ho : ownB b = n.toNat) (hlt : (vtW w n).Promised < b) (hW : W v) : Lives ms W (beginW w n b v) := by
 unfold beginW
 have l1 : n.toNat < w.Votes.length := by rw [h.vts]; omega
 have l2 : n.toNat < w.Tries.length := by rw [h.trs]; omega
 have hnew : ∀ u, ¬ told b u := by
  intro u hu
  have h1 := h.inv.own b u hu
  rw [ho] at h1
  have h2 : (vtW w n).Promised = ((pxOf w acc told).vt n.toNat).Promised := rfl
  omega
 have i1 := h.inv.prepare n.toNat b (Int.le_of_lt hlt)
 rw [← px_vote w acc told _ _ l1] at i1
 have hvt : ((pxOf { w with Votes := w.Votes.set n.toNat { vtW w n with Promised := b } } acc told).vt n.toNat).Promised = b := by
  rw [px_vote w acc told _ _ l1]
  simp [upd]
 have i2 := i1.try_ n.toNat ⟨1, b, w.Members, v, [], [], []⟩ fun _ => ⟨ho, hb, Int.le_of_eq hvt.symm, hW, h.mem, fun p hp => absurd hp (by simp), fun i hi => absurd hi (by simp), fun _ => hnew, fun h => absurd rfl h⟩
 have h3 : Hist ms W { w with Votes := w.Votes.set n.toNat { vtW w n with Promised := b }, Tries := w.Tries.set n.toNat ⟨1, b, w.Members, v, [], [], []⟩ } acc told := by
  refine ⟨h.mem, by simpa using h.vts, by simpa using h.trs, ?_⟩
  have := px_try { w with Votes := w.Votes.set n.toNat { vtW w n with Promised := b } } acc told n.toNat ⟨1, b, w.Members, v, [], [], []⟩ l2
  rw [this]
  exact i2
 have h4 := h3.tell ⟨n, 0, 1, 0, 0, b, 0, [], 0, 0⟩ (by simp) (fun h => absurd h (by simp)) (by simp)
 refine h4.promised n b _ hn ?_
 have e : ∀ i, (pxOf (tellS { w with Votes := w.Votes.set n.toNat { vtW w n with Promised := b }, Tries := w.Tries.set n.toNat ⟨1, b, w.Members, v, [], [], []⟩ } ⟨n, 0, 1, 0, 0, b, 0, [], 0, 0⟩) acc told).vt i = (pxOf { w with Votes := w.Votes.set n.toNat { vtW w n with Promised := b } } acc told).vt i := fun _ => rfl
 refine ⟨?_, fun c u hc _ => ?_, fun hp => ?_⟩
 ·rw [e]; exact Int.le_of_eq hvt.symm
 ·exact h.inv.top _ _ _ hc
 ·exact h.inv.last n.toNat hp
theorem Hist.come {ms W w acc told} (h : Hist ms W w acc told) (m : TMail) (hto : 0 ≤ m.To ∧ m.To < 6) (hk : m.Kind = 1 ∨ m.Kind = 2 ∨ m.Kind = 3 ∨ m.Kind = 4 ∨ m.Kind = 5) (hP : m.Kind = 2 → PromOK (pxOf w acc told) m.From.toNat m.Ballot m.Prior m.Value) (hA : m.Kind = 3 → told m.Ballot m.Value) (hT : m.Kind = 4 → ∃ v, acc m.From.toNat m.Ballot v) : Lives ms W (comeW w m) := by
 unfold comeW
 have l1 : m.To.toNat < w.Votes.length := by rw [h.vts]; omega
 have hno : ∀ (w2 : TWorld) (a2 t2) (k : TMail), Hist ms W w2 a2 t2 → k.Kind = 5 → Hist ms W (addMail w2 k) a2 t2 := by
  intro w2 a2 t2 k h2 h5
  refine h2.mails _ fun x hx => ?_
  rcases List.mem_append.1 hx with hx | hx
  ·exact .inl hx
  ·rw [List.mem_singleton] at hx
   subst hx
   exact .inr ⟨fun h => absurd h (by omega), fun h => absurd h (by omega), fun h => absurd h (by omega)⟩
 split
 ·rename_i h2
  exact h.promised _ _ _ hto (hP h2)
 split
 ·rename_i h4
  exact ⟨acc, told, h.taken _ _ _ hto (hT h4)⟩
 split
 ·exact ⟨acc, told, h⟩
 split
 ·split
  ·rename_i hc
   have i1 := h.inv.prepare m.To.toNat m.Ballot hc.2.2.2
   rw [← px_vote w acc told _ _ l1] at i1
   have hvt : ((pxOf { w with Votes := w.Votes.set m.To.toNat { vtW w m.To with Promised := m.Ballot } } acc told).vt m.To.toNat).Promised = m.Ballot := by
    rw [px_vote w acc told _ _ l1]
    simp [upd]
   have h3 : Hist ms W { w with Votes := w.Votes.set m.To.toNat { vtW w m.To with Promised := m.Ballot } } acc told := ⟨h.mem, by simpa using h.vts, h.trs, i1⟩
   refine ⟨acc, told, h3.mails _ fun x hx => ?_⟩
   rcases List.mem_append.1 hx with hx | hx
   ·exact .inl hx
   ·rw [List.mem_singleton] at hx
    subst hx
    refine .inr ⟨fun _ => ⟨Int.le_of_eq hvt.symm, fun c u hc _ => h.inv.top _ _ _ hc, fun hp => h.inv.last m.To.toNat hp⟩, fun h => absurd h (by simp), fun h => absurd h (by simp)⟩
  ·exact ⟨acc, told, hno _ _ _ _ h rfl⟩
 split
 ·rename_i h2 h4 h5 h1 hc
  have h3 : m.Kind = 3 := by omega
  have i1 := h.inv.accept m.To.toNat m.Ballot m.Value hc.2.2.2 (hA h3)
  have h6 : Hist ms W { w with Votes := w.Votes.set m.To.toNat ⟨m.Ballot, m.Ballot, m.Value⟩ } (fun i c u => acc i c u ∨ (i = m.To.toNat ∧ c = m.Ballot ∧ u = m.Value)) told := by
   refine ⟨h.mem, by simpa using h.vts, h.trs, ?_⟩
   rw [px_vote w _ told _ _ l1]
   exact i1
  refine ⟨_, told, h6.mails _ fun x hx => ?_⟩
  rcases List.mem_append.1 hx with hx | hx
  ·exact .inl hx
  ·rw [List.mem_singleton] at hx
   subst hx
   exact .inr ⟨fun h => absurd h (by simp), fun h => absurd h (by simp), fun _ => ⟨m.Value, .inr ⟨rfl, rfl, rfl⟩⟩⟩
 ·exact ⟨acc, told, hno _ _ _ _ h rfl⟩
end Go.Proofs
end
