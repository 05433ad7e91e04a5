/- Texts of the proof. -/
import Derived.Test.YtdoegejmepcmpaaSkeenDoesPf
import Derived.Test.YtdoegejmepcmpaaSkeenDoesPg
import Derived.Test.YtdoegejmepcmpaaSkeenDoesPh
import Derived.Test.YtdoegejmepcmpaaSkeenDoesPi
section
namespace Go.Proofs
open Go.Tm
set_option linter.unusedVariables false
def m_towncrierref15_with_w_loop1 (a0 : List TWait) (a1 : TWait) : Nat → (List TWait) → Int → Option ((List TWait))
 | 0, _, _ => none
 | fu1 + 1, l2, n1 =>
  if n1 < (a0.length : Int) then
  Option.bind (α := (List TWait)) (if (0 ≤ n1 ∧ n1 < (a0.length : Int)) then
  if (a0.getD n1.toNat default).Message.Id < a1.Message.Id then
  if (0 ≤ n1 ∧ n1 < (a0.length : Int)) then
  if l2.length + [(a0.getD n1.toNat default)].length < 1000000 then
  some (l2 ++ [(a0.getD n1.toNat default)])
  else none
  else none
  else
  some l2
  else none) fun l3 =>
  m_towncrierref15_with_w_loop1 a0 a1 fu1 l3 (wr .i64 (n1 + 1))
  else
  some l2
def m_towncrierref15_with_w_loop2 (a0 : List TWait) (a1 : TWait) : Nat → (List TWait) → Int → Option ((List TWait))
 | 0, _, _ => none
 | fu2 + 1, l5, n2 =>
  if n2 < (a0.length : Int) then
  Option.bind (α := (List TWait)) (if (0 ≤ n2 ∧ n2 < (a0.length : Int)) then
  if (a0.getD n2.toNat default).Message.Id > a1.Message.Id then
  if (0 ≤ n2 ∧ n2 < (a0.length : Int)) then
  if l5.length + [(a0.getD n2.toNat default)].length < 1000000 then
  some (l5 ++ [(a0.getD n2.toNat default)])
  else none
  else none
  else
  some l5
  else none) fun l6 =>
  m_towncrierref15_with_w_loop2 a0 a1 fu2 l6 (wr .i64 (n2 + 1))
  else
  some l5
def m_towncrierref15_with_w (a0 : List TWait) (a1 : TWait) : Option ((List TWait)) :=
 Option.bind (α := (List TWait)) (m_towncrierref15_with_w_loop1 a0 a1 (a0.length + 1) [] 0) fun l1 =>
 if l1.length + [a1].length < 1000000 then
 Option.bind (α := (List TWait)) (m_towncrierref15_with_w_loop2 a0 a1 (a0.length + 1) (l1 ++ [a1]) 0) fun l4 =>
 some l4
 else none
def m_towncrierref15_without_w_loop1 (a0 : List TWait) (a1 : Int) : Nat → (List TWait) → Int → Option ((List TWait))
 | 0, _, _ => none
 | fu1 + 1, l2, n1 =>
  if n1 < (a0.length : Int) then
  Option.bind (α := (List TWait)) (if ¬ (n1 = a1) then
  if (0 ≤ n1 ∧ n1 < (a0.length : Int)) then
  if l2.length + [(a0.getD n1.toNat default)].length < 1000000 then
  some (l2 ++ [(a0.getD n1.toNat default)])
  else none
  else none
  else
  some l2) fun l3 =>
  m_towncrierref15_without_w_loop1 a0 a1 fu1 l3 (wr .i64 (n1 + 1))
  else
  some l2
def m_towncrierref15_without_w (a0 : List TWait) (a1 : Int) : Option ((List TWait)) :=
 Option.bind (α := (List TWait)) (m_towncrierref15_without_w_loop1 a0 a1 (a0.length + 1) [] 0) fun l1 =>
 some l1
def m_towncrierref15_Put_loop1 : Nat → (List TWait) → (List TStamp) → (List TMessage) → Option ((List TWait) × (List TStamp) × (List TMessage))
 | 0, _, _, _ => none
 | fu1 + 1, l6, l7, l8 =>
  if (l6.length : Int) > 0 then
  Option.bind (m_towncrierref15_least l6) fun v7 =>
  if (0 ≤ v7 ∧ v7 < (l6.length : Int)) then
  if ¬ ((l6.getD v7.toNat default).Final = true) then
  some (l6, l7, l8)
  else
  if (0 ≤ v7 ∧ v7 < (l6.length : Int)) then
  Option.bind (m_towncrierref15_Stamp (l6.getD v7.toNat default)) fun v8 =>
  if l7.length + [v8].length < 1000000 then
  if (0 ≤ v7 ∧ v7 < (l6.length : Int)) then
  if l8.length + [(l6.getD v7.toNat default).Message].length < 1000000 then
  Option.bind (m_towncrierref15_without_w l6 v7) fun v9 =>
  m_towncrierref15_Put_loop1 fu1 v9 (l7 ++ [v8]) (l8 ++ [(l6.getD v7.toNat default).Message])
  else none
  else none
  else none
  else none
  else none
  else
  some (l6, l7, l8)
def m_towncrierref15_Put (a0 : TSkeen) (a1 : Int) (a2 : TCommand) : Option (TSkeen × (List TMessage) × Bool) :=
 Option.bind (α := (TSkeen × (List TMessage) × Bool) ⊕ (Int × (List TWait))) (Option.bind (if a2.Kind = 1 then m_towncrierref15_waits a0 a2.Message.Id else some default) fun v1 =>
 Option.bind (if (a2.Kind = 1) ∧ (v1 < 0) then m_towncrierref15_done a0 a2.Message.Id else some default) fun v2 =>
 Option.bind (if ((a2.Kind = 1) ∧ (v1 < 0)) ∧ (¬ (v2 = true)) then m_towncrierref06_Has a2.Message.Groups a1 else some default) fun v3 =>
 if (((a2.Kind = 1) ∧ (v1 < 0)) ∧ (¬ (v2 = true))) ∧ (v3 = true) then
 if (a0.Clock = 1073741824) ∨ ((a0.Waits.length : Int) = 200) then
 some (.inl (a0, [], false))
 else
 Option.bind (m_towncrierref15_TwinMessage a2.Message) fun v4 =>
 Option.bind (m_towncrierref15_with_w a0.Waits (⟨v4, (wr .i64 (a0.Clock + 1)), false⟩ : TWait)) fun v5 =>
 some (.inr ((wr .i64 (a0.Clock + 1)), v5))
 else
 some (.inr (a0.Clock, a0.Waits))) fun z => match z with
 | (.inl r) => some r
 | (.inr (n1, l1)) =>
 Option.bind (m_towncrierref15_waits (⟨n1, l1, a0.Done⟩ : TSkeen) a2.Id) fun v6 =>
 Option.bind (α := Int × (List TWait)) (if ((a2.Kind = 2) ∧ (v6 ≥ 0)) → (0 ≤ v6 ∧ v6 < (l1.length : Int)) then
 if (((a2.Kind = 2) ∧ (v6 ≥ 0)) ∧ (¬ ((l1.getD v6.toNat default).Final = true))) → (0 ≤ v6 ∧ v6 < (l1.length : Int)) then
 if (((a2.Kind = 2) ∧ (v6 ≥ 0)) ∧ (¬ ((l1.getD v6.toNat default).Final = true))) ∧ (a2.Time ≥ (l1.getD v6.toNat default).Time) then
 if (0 ≤ v6 ∧ v6 < (l1.length : Int)) then
 if (0 ≤ v6 ∧ v6 < ((l1.set v6.toNat (⟨(l1.getD v6.toNat default).Message, a2.Time, (l1.getD v6.toNat default).Final⟩ : TWait)).length : Int)) then
 some ((max n1 a2.Time), ((l1.set v6.toNat (⟨(l1.getD v6.toNat default).Message, a2.Time, (l1.getD v6.toNat default).Final⟩ : TWait)).set v6.toNat (⟨((l1.set v6.toNat (⟨(l1.getD v6.toNat default).Message, a2.Time, (l1.getD v6.toNat default).Final⟩ : TWait)).getD v6.toNat default).Message, ((l1.set v6.toNat (⟨(l1.getD v6.toNat default).Message, a2.Time, (l1.getD v6.toNat default).Final⟩ : TWait)).getD v6.toNat default).Time, true⟩ : TWait)))
 else none
 else none
 else
 some (n1, l1)
 else none
 else none) fun (n2, l2) =>
 Option.bind (α := (List TWait) × (List TStamp) × (List TMessage)) (m_towncrierref15_Put_loop1 (a0.Waits.length + 2) l2 a0.Done []) fun (l3, l4, l5) =>
 some ((⟨n2, l3, l4⟩ : TSkeen), l5, (decide ((l4.length : Int) ≤ 200)))
def m_towncrierref15_Apply (a0 : TSkeen) (a1 : Int) (a2 : TCommand) : Option (TSkeen × (List TMessage) × Int) :=
 Option.bind (m_towncrierref15_May a0) fun v1 =>
 if ¬ (v1 = true) then
 some ((⟨0, [], []⟩ : TSkeen), [], 8)
 else
 if (a1 < 0) ∨ (a1 ≥ 4) then
 some ((⟨0, [], []⟩ : TSkeen), [], 2)
 else
 Option.bind (m_towncrierref12_May a2) fun v2 =>
 if ¬ (v2 = true) then
 some ((⟨0, [], []⟩ : TSkeen), [], 120)
 else
 Option.bind (m_towncrierref15_Twin a0) fun v3 =>
 Option.bind (m_towncrierref15_Put v3 a1 a2) fun v4 =>
 if ¬ (v4.2.2 = true) then
 some ((⟨0, [], []⟩ : TSkeen), [], 9)
 else
 some (v4.1, v4.2.1, 0)
end Go.Proofs
end
section
namespace Go.Proofs
open Go.Tm Go.RowKit Go.WideShapes
set_option maxRecDepth 100000
set_option maxHeartbeats 4000000
set_option linter.unusedSimpArgs false
set_option linter.unusedVariables false
attribute [local go_sem] argVars runE runK isCallV stepE aop opd opdsL opds opdO ev ofVal keep List.any natbeq Bool.false_or Bool.true_or aggEq cond_true cond_false Bool.cond_false_right Bool.cond_true_left beq_true beq_false imp_self implies_true getR getL put St.app effL del nwB blt_dec Nat.lt_irrefl Nat.lt_add_one ble_dec Nat.le_refl Nat.beq_refl roomNZ appendIn capS capK mkZ_zero mkZL_zero zeroEl D.ids D.idsL bin arith sarith binT dpick Tm.part splice fillD oneD loadD storeD srcD sliceD idxOk decide_true gval dstAt D.cells List.map_cons List.map_nil List.take List.drop List.length_map List.append Int.toNat_natCast and_true true_and decide_false List.length_cons List.length_nil List.append_nil List.nil_append Bool.and_true Bool.true_and Bool.not_false Bool.not_true ne_eq not_false_eq_true BEq.rfl List.getElem?_cons_zero List.getElem?_cons_succ List.getElem?_nil Nat.zero_add List.all_cons List.all_nil List.isEmpty_cons List.isEmpty_nil Option.getD_some Option.getD_none List.any_cons List.any_nil List.drop_succ_cons List.drop_zero unfL unf okM okML low3 List.cons_append true_or or_true Nat.zero_mul Nat.zero_le findD_int findD_str  getD_int getD_str getD_bool Option.isSome_map keyD List.length_replicate List.map_replicate setEl List.length_set bytesD_map map_ub mx_len mkZ_one mkZL_one mkM mkML mk1_int mk1_str mk1_bool drop_map take_map take_map_len List.take_length Int.toNat_zero toNat_pred fpOf metIds opIds mvV mvH mvF pickL D.ren D.renL Blk.ren List.map_append List.length_append Bool.not_not Bool.or_not_self Bool.not_or_self Bool.or_true
attribute [local go_sem] Try.tm_1 Try.tm_2 Try.tm_3 Try.tm_4 Try.tm_5 Try.tm_6 Try.tm_7 Try.tm_8 Try.tm_9 Try.tm_10 Try.tm_11 Try.tm_12 Try.tm_13 Try.tm_14 Try.tm_15 Try.tm_16 Try.tm_17 Try.tm_18 Try.tm_19 Try.tm_20 Try.tm_21 Try.tm_22 Try.tm_23 Try.tm_24 Try.tm_25 Try.tm_26 Try.tm_27 Try.tm_28 Try.tm_29 Try.tm_30 Try.tm_31 Try.tm_32 Try.tm_33 Try.tm_34 Try.tm_35 Try.tm_37 Try.tm_39 Try.tm_41 Try.tm_43 Try.tm_44 Try.tm_45 Try.tm_46 Try.tm_47 Try.tm_48 Try.tm_49 Try.tm_50 Try.tm_51 Try.tm_52 Try.tm_53 Try.tm_54 Try.tm_55 Try.tm_56 Try.tm_57 Try.tm_58 Try.tm_59 Try.tm_60 Try.tm_61 Try.tm_63 Try.tm_65 Try.tm_66 Try.tm_67 Try.tm_68 Try.tm_69 Try.tm_70 Try.tm_71 Try.tm_72 Try.tm_73 Try.tm_74 Try.tm_75 Try.tm_76 Try.tm_77 Try.tm_78 Try.tm_79 Try.tm_80 Try.tm_81 Try.tm_82 Try.tm_83 Try.tm_84 Try.tm_85 Try.tm_86 Try.tm_87 Try.tm_89 Try.tm_90 Try.tm_91 Try.tm_92 Try.tm_93 Try.tm_94 Try.tm_95 Try.tm_96 Try.tm_97 Try.tm_98 Try.tm_99 Try.tm_100 Try.tm_101 Try.tm_102 Try.tm_103 Try.tm_104 Try.tm_105 Try.tm_106 Try.tm_107 Try.tm_108 Try.tm_109 Try.tm_110 Try.tm_111 Try.tm_112 Try.tm_113 Try.tm_114 Try.tm_117 Try.tm_118 Try.tm_119 Try.tm_120 Try.tm_121 Try.tm_122 Try.tm_123 Try.tm_124 Try.tm_125 Try.tm_126 TMessage.d TMessage.n TWait.d TWait.n TStamp.d TSkeen.d TSkeen.n TCommand.d TCommand.n Tskeen_clock.d Tskeen_clock.n mk1_TStamp Try.f61 Try.f62 Try.f26 Try.f8
def Try.St_towncrierref15_with_w_1 (a0 : List TWait) (a1 : TWait) (l1 : List TWait) : St := ⟨[(0, .ref 20000 7 0 a0.length (some unkC)), (3, .ptr 20100 0), (5, .ref 20101 7 0 l1.length (some unkC))], [(20000, .arr 52 7 true (a0.map TWait.n)), (20100, .box [.int .i64 a1.Message.Id, .imm 1 (a1.Message.Groups.map (D.int .i64)) 13, .int .i64 a1.Message.Topic, .str a1.Message.Key, .str a1.Message.Body, .int .i64 a1.Time, .bool a1.Final]), (20101, .arr 52 7 true (l1.map TWait.n))], 20102⟩
attribute [local go_sem] Try.St_towncrierref15_with_w_1
def Try.St_towncrierref15_with_w_3 (a0 : List TWait) (a1 : TWait) (l2 : List TWait) (n1 : Int) : St := ⟨[(0, .ref 20000 7 0 a0.length (some unkC)), (3, .ptr 20100 0), (5, .ref 20101 7 0 l2.length (some unkC)), (6, .int .i64 n1)], [(20000, .arr 52 7 true (a0.map TWait.n)), (20100, .box [.int .i64 a1.Message.Id, .imm 1 (a1.Message.Groups.map (D.int .i64)) 13, .int .i64 a1.Message.Topic, .str a1.Message.Key, .str a1.Message.Body, .int .i64 a1.Time, .bool a1.Final]), (20101, .arr 52 7 true (l2.map TWait.n))], 20102⟩
attribute [local go_sem] Try.St_towncrierref15_with_w_3
def Try.St_towncrierref15_with_w_5 (a0 : List TWait) (a1 : TWait) (n1 : Int) (l3 : List TWait) : St := ⟨[(0, .ref 20000 7 0 a0.length (some unkC)), (3, .ptr 20100 0), (5, .ref 20102 7 0 l3.length (some unkC)), (6, .int .i64 n1)], [(20000, .arr 52 7 true (a0.map TWait.n)), (20100, .box [.int .i64 a1.Message.Id, .imm 1 (a1.Message.Groups.map (D.int .i64)) 13, .int .i64 a1.Message.Topic, .str a1.Message.Key, .str a1.Message.Body, .int .i64 a1.Time, .bool a1.Final]), (20102, .arr 52 7 true (l3.map TWait.n))], 20103⟩
attribute [local go_sem] Try.St_towncrierref15_with_w_5
def Try.St_towncrierref15_with_w_7 (l4 : List TWait) : St := ⟨[(5, .ref 20104 7 0 l4.length (some unkC))], [(20104, .arr 52 7 true (l4.map TWait.n))], 20105⟩
attribute [local go_sem] Try.St_towncrierref15_with_w_7
def Try.St_towncrierref15_with_w_9 (a0 : List TWait) (a1 : TWait) (l5 : List TWait) (n2 : Int) : St := ⟨[(0, .ref 20000 7 0 a0.length (some unkC)), (3, .ptr 20100 0), (5, .ref 20104 7 0 l5.length (some unkC)), (7, .int .i64 n2)], [(20000, .arr 52 7 true (a0.map TWait.n)), (20100, .box [.int .i64 a1.Message.Id, .imm 1 (a1.Message.Groups.map (D.int .i64)) 13, .int .i64 a1.Message.Topic, .str a1.Message.Key, .str a1.Message.Body, .int .i64 a1.Time, .bool a1.Final]), (20104, .arr 52 7 true (l5.map TWait.n))], 20105⟩
attribute [local go_sem] Try.St_towncrierref15_with_w_9
def Try.St_towncrierref15_with_w_11 (a0 : List TWait) (a1 : TWait) (n2 : Int) (l6 : List TWait) : St := ⟨[(0, .ref 20000 7 0 a0.length (some unkC)), (3, .ptr 20100 0), (5, .ref 20105 7 0 l6.length (some unkC)), (7, .int .i64 n2)], [(20000, .arr 52 7 true (a0.map TWait.n)), (20100, .box [.int .i64 a1.Message.Id, .imm 1 (a1.Message.Groups.map (D.int .i64)) 13, .int .i64 a1.Message.Topic, .str a1.Message.Key, .str a1.Message.Body, .int .i64 a1.Time, .bool a1.Final]), (20105, .arr 52 7 true (l6.map TWait.n))], 20106⟩
attribute [local go_sem] Try.St_towncrierref15_with_w_11
def Try.Re_towncrierref15_with_w (r : (List TWait)) : St := ⟨[(4, .ref 20100 7 0 r.length (some unkC))], [(20100, .arr 52 7 true (r.map TWait.n))], 20101⟩
attribute [local go_sem] Try.Re_towncrierref15_with_w
theorem callH_towncrierref15_with_w (a0 : List TWait) (a1 : TWait) (r : (List TWait)) (h : m_towncrierref15_with_w a0 a1 = some r) : CallH Try.prog 61 [.ref 20000 7 0 a0.length (some unkC), .agg [.int .i64 a1.Message.Id, .imm 1 (a1.Message.Groups.map (D.int .i64)) 13, .int .i64 a1.Message.Topic, .str a1.Message.Key, .str a1.Message.Body, .int .i64 a1.Time, .bool a1.Final]] [(20000, .arr 52 7 true (a0.map TWait.n))] (.ref 20100 7 0 r.length (some unkC)) [(20000, none), (20100, some (.arr 52 7 true (r.map TWait.n)))] (20100, 20109) := by
 refine callH_intro' Try.tmOk Try.func61 rfl (by decide) (Nat.le_of_ble_eq_true rfl) (by simp) ?_
 intro hwf
 unfold m_towncrierref15_with_w at h
 refine .ends 20100 (Nat.le_refl _) ?_
 refine .seq ?_
 refine .pl Try.S [0, 1] ?_
 refine .seq ?_
 refine .pl Try.S [0, 3] ?_
 obtain ⟨x1, hx1, h⟩ := bind_some h
 refine .seqM 20101 (fun (j : (List TWait)) => Try.St_towncrierref15_with_w_1 a0 a1 j) (fun j => x1 = j) (Nat.le_of_ble_eq_true rfl) ?_ ?_
 ·skip
  refine .seq ?_
  refine .pl Try.S [0, 3, 5] ?_
  refine .block ?_
  refine .loopG 20101 (fun (j : Nat × (List TWait) × Int) => Try.St_towncrierref15_with_w_3 a0 a1 j.2.1 j.2.2) (fun j => m_towncrierref15_with_w_loop1 a0 a1 j.1 j.2.1 j.2.2 = some x1) (fun j => j.1) (a0.length + 1, [], 0) (Nat.le_of_ble_eq_true rfl) ?_ hx1 ?_
  ·skip
   refine Goes.new0 7 52 (Nat.le_of_ble_eq_true rfl) ?_
   refine Goes.wk 5 _ (.ref 20101 7 0 0 (some unkC)) rfl (.own0 20101 _ _ _ (by decide)) ?_
   exact .m [0, 3, 5, 6] [20000, 20100, 20101] []
  rintro ⟨fu1, l2, n1⟩ hx1
  simp only [Try.St_towncrierref15_with_w_3]
  try simp only at hx1
  obtain ⟨fu1, rfl⟩ : ∃ k, fu1 = k + 1 := by cases fu1 with | zero => (rw [m_towncrierref15_with_w_loop1] at hx1; cases hx1) | succ k => exact ⟨k, rfl⟩
  rw [m_towncrierref15_with_w_loop1] at hx1
  refine .seq ?_
  refine .seq ?_
  refine .pl Try.S [0, 3, 5, 6] ?_
  refine .cond rfl rfl (fun hc1 => ?_) (fun hc1 => ?_)
  ·skip
   replace hx1 := ite_lc hx1 hc1
   refine .skip ?_
   obtain ⟨x2, hx2, hx1⟩ := bind_some hx1
   refine .seqM 20102 (fun (j : (List TWait)) => Try.St_towncrierref15_with_w_5 a0 a1 n1 j) (fun j => x2 = j) (Nat.le_of_ble_eq_true rfl) ?_ ?_
   ·skip
    refine .block ?_
    refine .seq ?_
    obtain ⟨k1, hx2⟩ := ite_ck hx2
    have e1 := nth_mapI TWait.n a0 n1
    replace e1 := e1 k1
    refine .rg Try.S [0, 3, 5, 6] ?_
    refine .rdx 6 e1 ?_
    refine .rdx 4 e1 ?_
    refine .nil ⟨fun _ => schedB_of (by kernel_rfl), ?_⟩
    refine .cond rfl rfl (fun hc2 => ?_) (fun hc2 => ?_)
    ·skip
     replace hx2 := ite_lc hx2 hc2
     obtain ⟨k2, hx2⟩ := ite_ck hx2
     obtain ⟨k3, hx2⟩ := ite_ck hx2
     have e2 := nth_mapI TWait.n a0 n1
     replace e2 := e2 k2
     refine .plx Try.S e2 [0, 3, 5, 6] ?_
     refine ⟨_, ?_, (Option.some.inj hx2).symm⟩
     exact .m [0, 3, 5, 6] [20000, 20100, 20103] [(20103, 20102)]
    ·skip
     replace hx2 := ite_rc hx2 hc2
     refine .skip ?_
     refine ⟨_, ?_, (Option.some.inj hx2).symm⟩
     exact .m [0, 3, 5, 6] [20000, 20100, 20101] [(20101, 20102)]
   ·skip
    rintro l3 hj1
    subst x2
    try dsimp only at hx1
    simp only [Try.St_towncrierref15_with_w_5]
    refine .pl Try.S [0, 3, 5, 6] ?_
    refine ⟨(fu1, _, _), ?_, hx1, by dsimp only; omega⟩
    exact .m [0, 3, 5, 6] [20000, 20100, 20102] [(20102, 20101)]
  ·skip
   replace hx1 := ite_rc hx1 hc1
   refine .exit ?_
   refine ⟨_, ?_, (Option.some.inj hx1).symm⟩
   exact .m [0, 3, 5] [20000, 20100, 20101] []
 ·skip
  rintro l1 hj2
  subst x1
  try dsimp only at h
  simp only [Try.St_towncrierref15_with_w_1]
  refine .seq ?_
  obtain ⟨k4, h⟩ := ite_ck h
  refine .pl Try.S [0, 3, 5] ?_
  obtain ⟨x3, hx3, h⟩ := bind_some h
  refine .seqM 20104 (fun (j : (List TWait)) => Try.St_towncrierref15_with_w_7 j) (fun j => x3 = j) (Nat.le_of_ble_eq_true rfl) ?_ ?_
  ·skip
   refine .seq ?_
   refine .pl Try.S [0, 3, 5] ?_
   refine .block ?_
   refine .loopG 20104 (fun (j : Nat × (List TWait) × Int) => Try.St_towncrierref15_with_w_9 a0 a1 j.2.1 j.2.2) (fun j => m_towncrierref15_with_w_loop2 a0 a1 j.1 j.2.1 j.2.2 = some x3) (fun j => j.1) (a0.length + 1, (l1 ++ [a1]), 0) (Nat.le_of_ble_eq_true rfl) ?_ hx3 ?_
   ·skip
    exact .m [0, 3, 5, 7] [20000, 20100, 20103] [(20103, 20104)]
   rintro ⟨fu2, l5, n2⟩ hx3
   simp only [Try.St_towncrierref15_with_w_9]
   try simp only at hx3
   obtain ⟨fu2, rfl⟩ : ∃ k, fu2 = k + 1 := by cases fu2 with | zero => (rw [m_towncrierref15_with_w_loop2] at hx3; cases hx3) | succ k => exact ⟨k, rfl⟩
   rw [m_towncrierref15_with_w_loop2] at hx3
   refine .seq ?_
   refine .seq ?_
   refine .pl Try.S [0, 3, 5, 7] ?_
   refine .cond rfl rfl (fun hc3 => ?_) (fun hc3 => ?_)
   ·skip
    replace hx3 := ite_lc hx3 hc3
    refine .skip ?_
    obtain ⟨x4, hx4, hx3⟩ := bind_some hx3
    refine .seqM 20105 (fun (j : (List TWait)) => Try.St_towncrierref15_with_w_11 a0 a1 n2 j) (fun j => x4 = j) (Nat.le_of_ble_eq_true rfl) ?_ ?_
    ·skip
     refine .block ?_
     refine .seq ?_
     obtain ⟨k5, hx4⟩ := ite_ck hx4
     have e3 := nth_mapI TWait.n a0 n2
     replace e3 := e3 k5
     refine .rg Try.S [0, 3, 5, 7] ?_
     refine .rdx 6 e3 ?_
     refine .rdx 4 e3 ?_
     refine .nil ⟨fun _ => schedB_of (by kernel_rfl), ?_⟩
     refine .cond rfl rfl (fun hc4 => ?_) (fun hc4 => ?_)
     ·skip
      replace hx4 := ite_lc hx4 hc4
      obtain ⟨k6, hx4⟩ := ite_ck hx4
      obtain ⟨k7, hx4⟩ := ite_ck hx4
      have e4 := nth_mapI TWait.n a0 n2
      replace e4 := e4 k6
      refine .plx Try.S e4 [0, 3, 5, 7] ?_
      refine ⟨_, ?_, (Option.some.inj hx4).symm⟩
      exact .m [0, 3, 5, 7] [20000, 20100, 20106] [(20106, 20105)]
     ·skip
      replace hx4 := ite_rc hx4 hc4
      refine .skip ?_
      refine ⟨_, ?_, (Option.some.inj hx4).symm⟩
      exact .m [0, 3, 5, 7] [20000, 20100, 20104] [(20104, 20105)]
    ·skip
     rintro l6 hj3
     subst x4
     try dsimp only at hx3
     simp only [Try.St_towncrierref15_with_w_11]
     refine .pl Try.S [0, 3, 5, 7] ?_
     refine ⟨(fu2, _, _), ?_, hx3, by dsimp only; omega⟩
     exact .m [0, 3, 5, 7] [20000, 20100, 20105] [(20105, 20104)]
   ·skip
    replace hx3 := ite_rc hx3 hc3
    refine .exit ?_
    refine ⟨_, ?_, (Option.some.inj hx3).symm⟩
    exact .m [5] [20104] []
  ·skip
   rintro l4 hj4
   subst x3
   try dsimp only at h
   simp only [Try.St_towncrierref15_with_w_7]
   refine .seq ?_
   refine .pl Try.S [5] ?_
   have hq := Option.some.inj h
   subst r
   refine .ret ⟨Try.Re_towncrierref15_with_w l4, ?_, .inr rfl, retH [20100] ?_ ?_⟩
   ·skip
    exact .m [4] [20104] [(20104, 20100)]
   ·exact rsi0
   ·rfl
def Try.St_towncrierref15_without_w_1 (l1 : List TWait) : St := ⟨[(5, .ref 20100 7 0 l1.length (some unkC))], [(20100, .arr 52 7 true (l1.map TWait.n))], 20101⟩
attribute [local go_sem] Try.St_towncrierref15_without_w_1
def Try.St_towncrierref15_without_w_3 (a0 : List TWait) (a1 : Int) (l2 : List TWait) (n1 : Int) : St := ⟨[(0, .ref 20000 7 0 a0.length (some unkC)), (1, .int .i64 a1), (5, .ref 20100 7 0 l2.length (some unkC)), (6, .int .i64 n1)], [(20000, .arr 52 7 true (a0.map TWait.n)), (20100, .arr 52 7 true (l2.map TWait.n))], 20101⟩
attribute [local go_sem] Try.St_towncrierref15_without_w_3
def Try.St_towncrierref15_without_w_5 (a0 : List TWait) (a1 : Int) (n1 : Int) (l3 : List TWait) : St := ⟨[(0, .ref 20000 7 0 a0.length (some unkC)), (1, .int .i64 a1), (5, .ref 20101 7 0 l3.length (some unkC)), (6, .int .i64 n1)], [(20000, .arr 52 7 true (a0.map TWait.n)), (20101, .arr 52 7 true (l3.map TWait.n))], 20102⟩
attribute [local go_sem] Try.St_towncrierref15_without_w_5
def Try.Re_towncrierref15_without_w (r : (List TWait)) : St := ⟨[(4, .ref 20100 7 0 r.length (some unkC))], [(20100, .arr 52 7 true (r.map TWait.n))], 20101⟩
attribute [local go_sem] Try.Re_towncrierref15_without_w
theorem callH_towncrierref15_without_w (a0 : List TWait) (a1 : Int) (r : (List TWait)) (h : m_towncrierref15_without_w a0 a1 = some r) : CallH Try.prog 62 [.ref 20000 7 0 a0.length (some unkC), .int .i64 a1] [(20000, .arr 52 7 true (a0.map TWait.n))] (.ref 20100 7 0 r.length (some unkC)) [(20000, none), (20100, some (.arr 52 7 true (r.map TWait.n)))] (20100, 20105) := by
 refine callH_intro' Try.tmOk Try.func62 rfl (by decide) (Nat.le_of_ble_eq_true rfl) (by simp) ?_
 intro hwf
 unfold m_towncrierref15_without_w at h
 refine .ends 20100 (Nat.le_refl _) ?_
 refine .seq ?_
 refine .pl Try.S [0, 1] ?_
 refine .seq ?_
 refine .pl Try.S [0, 1] ?_
 obtain ⟨x1, hx1, h⟩ := bind_some h
 refine .seqM 20100 (fun (j : (List TWait)) => Try.St_towncrierref15_without_w_1 j) (fun j => x1 = j) (Nat.le_of_ble_eq_true rfl) ?_ ?_
 ·skip
  refine .seq ?_
  refine .pl Try.S [0, 1, 5] ?_
  refine .block ?_
  refine .loopG 20100 (fun (j : Nat × (List TWait) × Int) => Try.St_towncrierref15_without_w_3 a0 a1 j.2.1 j.2.2) (fun j => m_towncrierref15_without_w_loop1 a0 a1 j.1 j.2.1 j.2.2 = some x1) (fun j => j.1) (a0.length + 1, [], 0) (Nat.le_of_ble_eq_true rfl) ?_ hx1 ?_
  ·skip
   refine Goes.new0 7 52 (Nat.le_of_ble_eq_true rfl) ?_
   refine Goes.wk 5 _ (.ref 20100 7 0 0 (some unkC)) rfl (.own0 20100 _ _ _ (by decide)) ?_
   exact .m [0, 1, 5, 6] [20000, 20100] []
  rintro ⟨fu1, l2, n1⟩ hx1
  simp only [Try.St_towncrierref15_without_w_3]
  try simp only at hx1
  obtain ⟨fu1, rfl⟩ : ∃ k, fu1 = k + 1 := by cases fu1 with | zero => (rw [m_towncrierref15_without_w_loop1] at hx1; cases hx1) | succ k => exact ⟨k, rfl⟩
  rw [m_towncrierref15_without_w_loop1] at hx1
  refine .seq ?_
  refine .seq ?_
  refine .pl Try.S [0, 1, 5, 6] ?_
  refine .cond rfl rfl (fun hc1 => ?_) (fun hc1 => ?_)
  ·skip
   replace hx1 := ite_lc hx1 hc1
   refine .skip ?_
   obtain ⟨x2, hx2, hx1⟩ := bind_some hx1
   refine .seqM 20101 (fun (j : (List TWait)) => Try.St_towncrierref15_without_w_5 a0 a1 n1 j) (fun j => x2 = j) (Nat.le_of_ble_eq_true rfl) ?_ ?_
   ·skip
    refine .block ?_
    refine .seq ?_
    refine .pl Try.S [0, 1, 5, 6] ?_
    refine .cond rfl rfl (fun hc2 => ?_) (fun hc2 => ?_)
    ·skip
     replace hx2 := ite_lc hx2 hc2
     obtain ⟨k1, hx2⟩ := ite_ck hx2
     obtain ⟨k2, hx2⟩ := ite_ck hx2
     have e1 := nth_mapI TWait.n a0 n1
     replace e1 := e1 k1
     refine .plx Try.S e1 [0, 1, 5, 6] ?_
     refine ⟨_, ?_, (Option.some.inj hx2).symm⟩
     exact .m [0, 1, 5, 6] [20000, 20102] [(20102, 20101)]
    ·skip
     replace hx2 := ite_rc hx2 hc2
     refine .skip ?_
     refine ⟨_, ?_, (Option.some.inj hx2).symm⟩
     exact .m [0, 1, 5, 6] [20000, 20100] [(20100, 20101)]
   ·skip
    rintro l3 hj1
    subst x2
    try dsimp only at hx1
    simp only [Try.St_towncrierref15_without_w_5]
    refine .pl Try.S [0, 1, 5, 6] ?_
    refine ⟨(fu1, _, _), ?_, hx1, by dsimp only; omega⟩
    exact .m [0, 1, 5, 6] [20000, 20101] [(20101, 20100)]
  ·skip
   replace hx1 := ite_rc hx1 hc1
   refine .exit ?_
   refine ⟨_, ?_, (Option.some.inj hx1).symm⟩
   exact .m [5] [20100] []
 ·skip
  rintro l1 hj2
  subst x1
  try dsimp only at h
  simp only [Try.St_towncrierref15_without_w_1]
  refine .seq ?_
  refine .pl Try.S [5] ?_
  have hq := Option.some.inj h
  subst r
  refine .ret ⟨Try.Re_towncrierref15_without_w l1, ?_, .inr rfl, retH [20100] ?_ ?_⟩
  ·skip
   exact .m [4] [20100] []
  ·exact rsi0
  ·rfl
def Try.St_towncrierref15_Put_1 (a0 : TSkeen) (a2 : TCommand) (n1 : Int) (l1 : List TWait) : St := ⟨[(3, .ptr 20100 0), (5, .ptr 20101 0), (6, .ptr 20102 0)], [(20001, .arr 70 2 true (a0.Done.map TStamp.d)), (20100, .box [.int .i64 n1, .ref 20103 7 0 l1.length (some unkC), .ref 20001 2 0 a0.Done.length (some unkC)]), (20101, .box [.int .u8 a2.Kind, .int .i64 a2.Message.Id, .imm 1 (a2.Message.Groups.map (D.int .i64)) 4, .int .i64 a2.Message.Topic, .str a2.Message.Key, .str a2.Message.Body, .int .i64 a2.Id, .int .i64 a2.Time, .imm 1 (a2.Members.map (D.int .i64)) 4, .int .i64 a2.Topic, .int .i64 a2.Who, .int .i64 a2.N]), (20102, .box [.int .i64 0, .imm 0 [] 0, .imm 0 [] 0]), (20103, .arr 52 7 true (l1.map TWait.n))], 20104⟩
attribute [local go_sem] Try.St_towncrierref15_Put_1
def Try.St_towncrierref15_Put_3 (a0 : TSkeen) (n2 : Int) (l2 : List TWait) : St := ⟨[(3, .ptr 20100 0), (6, .ptr 20102 0)], [(20001, .arr 70 2 true (a0.Done.map TStamp.d)), (20100, .box [.int .i64 n2, .ref 20104 7 0 l2.length (some unkC), .ref 20001 2 0 a0.Done.length (some unkC)]), (20102, .box [.int .i64 0, .imm 0 [] 0, .imm 0 [] 0]), (20104, .arr 52 7 true (l2.map TWait.n))], 20105⟩
attribute [local go_sem] Try.St_towncrierref15_Put_3
def Try.St_towncrierref15_Put_5 (n2 : Int) (l3 : List TWait) (l4 : List TStamp) (l5 : List TMessage) : St := ⟨[(3, .ptr 20100 0), (6, .ptr 20102 0), (10, .ref 20107 5 0 l5.length (some unkC))], [(20100, .box [.int .i64 n2, .ref 20105 7 0 l3.length (some unkC), .ref 20106 2 0 l4.length (some unkC)]), (20102, .box [.int .i64 0, .imm 0 [] 0, .imm 0 [] 0]), (20105, .arr 52 7 true (l3.map TWait.n)), (20106, .arr 70 2 true (l4.map TStamp.d)), (20107, .arr 28 5 true (l5.map TMessage.n))], 20108⟩
attribute [local go_sem] Try.St_towncrierref15_Put_5
def Try.St_towncrierref15_Put_7 (n2 : Int) (l6 : List TWait) (l7 : List TStamp) (l8 : List TMessage) : St := ⟨[(3, .ptr 20100 0), (6, .ptr 20102 0), (10, .ref 20107 5 0 l8.length (some unkC))], [(20100, .box [.int .i64 n2, .ref 20105 7 0 l6.length (some unkC), .ref 20106 2 0 l7.length (some unkC)]), (20102, .box [.int .i64 0, .imm 0 [] 0, .imm 0 [] 0]), (20105, .arr 52 7 true (l6.map TWait.n)), (20106, .arr 70 2 true (l7.map TStamp.d)), (20107, .arr 28 5 true (l8.map TMessage.n))], 20108⟩
attribute [local go_sem] Try.St_towncrierref15_Put_7
def Try.Re_towncrierref15_Put (r : TSkeen × (List TMessage) × Bool) : St := ⟨[(6, .ptr 20103 0), (7, .ref 20102 5 0 r.2.1.length (some unkC)), (8, .bool r.2.2)], [(20100, .arr 52 7 true (r.1.Waits.map TWait.n)), (20101, .arr 70 2 true (r.1.Done.map TStamp.d)), (20102, .arr 28 5 true (r.2.1.map TMessage.n)), (20103, .box [.int .i64 r.1.Clock, .ref 20100 7 0 r.1.Waits.length (some unkC), .ref 20101 2 0 r.1.Done.length (some unkC)])], 20104⟩
attribute [local go_sem] Try.Re_towncrierref15_Put
theorem callH_towncrierref15_Put (a0 : TSkeen) (a1 : Int) (a2 : TCommand) (r : TSkeen × (List TMessage) × Bool) (h : m_towncrierref15_Put a0 a1 a2 = some r) : CallH Try.prog 26 [.agg [.int .i64 a0.Clock, .ref 20000 7 0 a0.Waits.length (some unkC), .ref 20001 2 0 a0.Done.length (some unkC)], .int .i64 a1, .agg [.int .u8 a2.Kind, .int .i64 a2.Message.Id, .imm 1 (a2.Message.Groups.map (D.int .i64)) 4, .int .i64 a2.Message.Topic, .str a2.Message.Key, .str a2.Message.Body, .int .i64 a2.Id, .int .i64 a2.Time, .imm 1 (a2.Members.map (D.int .i64)) 4, .int .i64 a2.Topic, .int .i64 a2.Who, .int .i64 a2.N]] [(20000, .arr 52 7 true (a0.Waits.map TWait.n)), (20001, .arr 70 2 true (a0.Done.map TStamp.d))] (.tuple [.agg [.int .i64 r.1.Clock, .ref 20100 7 0 r.1.Waits.length (some unkC), .ref 20101 2 0 r.1.Done.length (some unkC)], .ref 20102 5 0 r.2.1.length (some unkC), .bool r.2.2]) [(20000, none), (20001, none), (20100, some (.arr 52 7 true (r.1.Waits.map TWait.n))), (20101, some (.arr 70 2 true (r.1.Done.map TStamp.d))), (20102, some (.arr 28 5 true (r.2.1.map TMessage.n)))] (20100, 20120) := by
 refine callH_intro' Try.tmOk Try.func26 rfl (by decide) (Nat.le_of_ble_eq_true rfl) (by simp) ?_
 intro hwf
 unfold m_towncrierref15_Put at h
 refine .ends 20100 (Nat.le_refl _) ?_
 refine .seq ?_
 refine .pl Try.S [0, 1, 2] ?_
 obtain ⟨x1, hx1, h⟩ := bind_some h
 refine .seqM 20103 (fun (j : Int × (List TWait)) => Try.St_towncrierref15_Put_1 a0 a2 j.1 j.2) (fun j => x1 = (.inr j)) (Nat.le_of_ble_eq_true rfl) ?_ ?_
 ·skip
  refine .seq ?_
  obtain ⟨v1, hv1, hx1⟩ := bind_some hx1
  obtain ⟨v2, hv2, hx1⟩ := bind_some hx1
  obtain ⟨v3, hv3, hx1⟩ := bind_some hx1
  refine .rg Try.S [1, 3, 5, 6] ?_
  refine .rn 8 ?_
  refine .glcall (r := .int .i64 v1) [] rfl rfl rfl rfl rfl (fun hg => ⟨[], [.agg [.int .i64 a0.Clock, .ref 20000 7 0 a0.Waits.length (some unkC), .ref 20001 2 0 a0.Done.length (some unkC)], .int .i64 a2.Message.Id], _, rfl, gd hg, (lend2s_cons (lend2_of (lend_agg (lends_cons rfl (lends_cons (lend_refN pln_TWait (by first | rfl | (simp only [go_sem, Nat.reduceBEq]; rfl)) (by first | rfl | (simp; done) | (simp <;> omega))) (lends_cons (lend_ref pl_TStamp (by first | rfl | (simp only [go_sem, Nat.reduceBEq]; rfl)) (by first | rfl | (simp; done) | (simp <;> omega))) lends_nil)))) trivial) (lend2s_cons rfl lend2s_nil)), rfl, (callP_towncrierref15_waits a0 a2.Message.Id v1 (ite_lc hv1 hg))⟩) ?_
  refine .rn 7 ?_
  refine .glcall (r := .bool v2) [] rfl rfl rfl rfl rfl (fun hg => ⟨[], [.agg [.int .i64 a0.Clock, .ref 20000 7 0 a0.Waits.length (some unkC), .ref 20001 2 0 a0.Done.length (some unkC)], .int .i64 a2.Message.Id], _, rfl, gd hg, (lend2s_cons (lend2_of (lend_agg (lends_cons rfl (lends_cons (lend_refN pln_TWait (by first | rfl | (simp only [go_sem, Nat.reduceBEq]; rfl)) (by first | rfl | (simp; done) | (simp <;> omega))) (lends_cons (lend_ref pl_TStamp (by first | rfl | (simp only [go_sem, Nat.reduceBEq]; rfl)) (by first | rfl | (simp; done) | (simp <;> omega))) lends_nil)))) trivial) (lend2s_cons rfl lend2s_nil)), rfl, (callP_towncrierref15_done a0 a2.Message.Id v2 (ite_lc hv2 hg))⟩) ?_
  refine .rn 7 ?_
  refine .gcall (r := .bool v3) rfl rfl rfl rfl rfl (fun hg => ⟨[], [.imm 1 (a2.Message.Groups.map (D.int .i64)) 4, .int .i64 a1], _, rfl, gd hg, rfl, (callP_towncrierref06_Has a2.Message.Groups a1 v3 (ite_lc hv3 hg))⟩) ?_
  refine .rn 1 ?_
  refine .nil ⟨nofun, ?_⟩
  refine .cond rfl rfl (fun hc1 => ?_) (fun hc1 => ?_)
  ·skip
   replace hx1 := ite_lc hx1 hc1
   refine .seq ?_
   refine .seq ?_
   refine .rg Try.S [3, 5, 6] ?_
   refine .rn 6 ?_
   refine .rn 3 ?_
   refine .nil ⟨nofun, ?_⟩
   refine .cond rfl rfl (fun hc2 => ?_) (fun hc2 => ?_)
   ·skip
    replace hx1 := ite_lc hx1 hc2
    refine .seq ?_
    refine .pl Try.S [3, 6] ?_
    have hq := Option.some.inj hx1
    subst x1
    try dsimp only at h
    have hq := Option.some.inj h
    subst r
    refine .ret ⟨Try.Re_towncrierref15_Put (a0, [], false), ?_, .inr rfl, retH [20102, 20101, 20100] ?_ ?_⟩
    ·skip
     refine Goes.new0 5 28 (Nat.le_of_ble_eq_true rfl) ?_
     refine Goes.wk 7 _ (.ref 20103 5 0 0 (some unkC)) rfl (.own0 20103 _ _ _ (by decide)) ?_
     exact .m [6, 7, 8] [20000, 20001, 20103, 20102] [(20000, 20100), (20001, 20101), (20103, 20102), (20102, 20103)]
    ·exact rsi0
    ·rfl
   ·skip
    replace hx1 := ite_rc hx1 hc2
    refine .skip ?_
    refine .seq ?_
    refine .pl Try.S [3, 5, 6] ?_
    obtain ⟨v4, hv4, hx1⟩ := bind_some hx1
    obtain ⟨v5, hv5, hx1⟩ := bind_some hx1
    refine .rg Try.S [3, 5, 6] ?_
    refine .rd 4 ?_
    refine .call (r := .agg [.int .i64 v4.Id, .imm 1 (v4.Groups.map (D.int .i64)) 13, .int .i64 v4.Topic, .str v4.Key, .str v4.Body]) rfl rfl rfl rfl rfl rfl (callP_towncrierref15_TwinMessage a2.Message v4 hv4) ?_
    refine .rd 3 ?_
    refine .hcall (H := [(20000, .arr 52 7 true (a0.Waits.map TWait.n))]) (eff := [(20000, none), (20109, some (.arr 52 7 true (v5.map TWait.n)))]) (nw := (20109, 20118)) (r := .ref 20109 7 0 v5.length (some unkC)) rfl rfl rfl rfl rfl (callH_sw 20000 20000 (callH_bsw2 20109 (callH_towncrierref15_with_w a0.Waits (⟨v4, (wr .i64 (a0.Clock + 1)), false⟩ : TWait) v5 hv5))) (fun id b h => getL_pick [20000] _ id b h) (by simp) (.inr ⟨Nat.le_of_ble_eq_true rfl, Nat.le_of_ble_eq_true rfl⟩) ?_
    refine .rd 2 ?_
    refine .nil ⟨fun _ => schedB_of (by kernel_rfl), ?_⟩
    refine ⟨_, ?_, (Option.some.inj hx1).symm⟩
    exact .m [3, 5, 6] [20001, 20100, 20101, 20102, 20109] [(20109, 20103)]
  ·skip
   replace hx1 := ite_rc hx1 hc1
   refine .skip ?_
   refine ⟨_, ?_, (Option.some.inj hx1).symm⟩
   exact .m [3, 5, 6] [20001, 20100, 20101, 20102, 20000] [(20000, 20103)]
 ·skip
  rintro ⟨n1, l1⟩ hj1
  subst x1
  try dsimp only at h
  simp only [Try.St_towncrierref15_Put_1]
  refine .seq ?_
  obtain ⟨v6, hv6, h⟩ := bind_some h
  refine .rg Try.S [3, 5, 6] ?_
  refine .rn 3 ?_
  refine .lcall (r := .int .i64 v6) [] rfl rfl rfl rfl rfl (lend2s_cons (lend2_of (lend_agg (lends_cons rfl (lends_cons (lend_refN pln_TWait (by first | rfl | (simp only [go_sem, Nat.reduceBEq]; rfl)) (by first | rfl | (simp; done) | (simp <;> omega))) (lends_cons (lend_ref pl_TStamp (by first | rfl | (simp only [go_sem, Nat.reduceBEq]; rfl)) (by first | rfl | (simp; done) | (simp <;> omega))) lends_nil)))) trivial) (lend2s_cons rfl lend2s_nil)) rfl (callP_towncrierref15_waits (⟨n1, l1, a0.Done⟩ : TSkeen) a2.Id v6 hv6) ?_
  refine .rn 1 ?_
  refine .nil ⟨nofun, ?_⟩
  obtain ⟨x2, hx2, h⟩ := bind_some h
  refine .seqM 20104 (fun (j : Int × (List TWait)) => Try.St_towncrierref15_Put_3 a0 j.1 j.2) (fun j => x2 = j) (Nat.le_of_ble_eq_true rfl) ?_ ?_
  ·skip
   obtain ⟨k1, hx2⟩ := ite_ck hx2
   obtain ⟨k2, hx2⟩ := ite_ck hx2
   refine .seqM 20104 (fun (_ : Unit) => ⟨[(3, .ptr 20100 0), (5, .ptr 20101 0), (6, .ptr 20102 0), (9, .int .i64 v6), (92, .bool ((((a2.Kind == 2) && (decide (v6 ≥ 0))) && (!(l1.getD v6.toNat default).Final)) && (decide (a2.Time ≥ (l1.getD v6.toNat default).Time))))], [(20001, .arr 70 2 true (a0.Done.map TStamp.d)), (20100, .box [.int .i64 n1, .ref 20103 7 0 l1.length (some unkC), .ref 20001 2 0 a0.Done.length (some unkC)]), (20101, .box [.int .u8 a2.Kind, .int .i64 a2.Message.Id, .imm 1 (a2.Message.Groups.map (D.int .i64)) 4, .int .i64 a2.Message.Topic, .str a2.Message.Key, .str a2.Message.Body, .int .i64 a2.Id, .int .i64 a2.Time, .imm 1 (a2.Members.map (D.int .i64)) 4, .int .i64 a2.Topic, .int .i64 a2.Who, .int .i64 a2.N]), (20102, .box [.int .i64 0, .imm 0 [] 0, .imm 0 [] 0]), (20103, .arr 52 7 true (l1.map TWait.n))], 20104⟩) (fun _ => True) (Nat.le_of_ble_eq_true rfl) ?_ (fun _ _ => ?_)
   ·skip
    by_cases hgd : (a2.Kind = 2) ∧ (v6 ≥ 0)
    ·skip
     have eg10 := nth_mapI TWait.n l1 v6 (k1 hgd)
     by_cases hgd : ((a2.Kind = 2) ∧ (v6 ≥ 0)) ∧ (¬ ((l1.getD v6.toNat default).Final = true))
     ·skip
      have eg20 := nth_mapI TWait.n l1 v6 (k2 hgd)
      refine .rg Try.S [3, 5, 6, 9] ?_
      refine .rdx 6 (And.intro eg10 eg20) ?_
      refine .rdx 6 (And.intro eg10 eg20) ?_
      refine .rdx 6 (And.intro eg10 eg20) ?_
      refine .rdx 6 (And.intro eg10 eg20) ?_
      refine .rdx 3 (And.intro eg10 eg20) ?_
      refine .nil ⟨fun _ => schedB_of (by kernel_rfl), ?_⟩
      refine ⟨(), ?_, trivial⟩
      exact .m [3, 5, 6, 9, 92] [20001, 20100, 20101, 20102, 20103] []
     ·skip
      have hgf2 : (((a2.Kind == 2) && (decide (v6 ≥ 0))) && (!(l1.getD v6.toNat default).Final)) = false := by first | simpa using hgd | (simp at hgd ⊢; omega) | grind
      rcases nth_or TWait.n l1 v6.toNat with eg20 | eg20
      ·skip
       refine .rg Try.S [3, 5, 6, 9] ?_
       refine .rdx 6 (And.intro eg10 (And.intro eg20 hgf2)) ?_
       refine .rdx 6 (And.intro eg10 (And.intro eg20 hgf2)) ?_
       refine .rdx 6 (And.intro eg10 (And.intro eg20 hgf2)) ?_
       refine .rdx 6 (And.intro eg10 (And.intro eg20 hgf2)) ?_
       refine .rdx 3 (And.intro eg10 (And.intro eg20 hgf2)) ?_
       refine .nil ⟨fun _ => schedB_of (by kernel_rfl), ?_⟩
       refine ⟨(), ?_, trivial⟩
       exact .mx hgf2 [3, 5, 6, 9, 92] [20001, 20100, 20101, 20102, 20103] []
      ·skip
       refine .rg Try.S [3, 5, 6, 9] ?_
       refine .rdx 6 (And.intro eg10 (And.intro eg20 hgf2)) ?_
       refine .rdx 6 (And.intro eg10 (And.intro eg20 hgf2)) ?_
       refine .rdx 6 (And.intro eg10 (And.intro eg20 hgf2)) ?_
       refine .rdx 6 (And.intro eg10 (And.intro eg20 hgf2)) ?_
       refine .rdx 3 (And.intro eg10 (And.intro eg20 hgf2)) ?_
       refine .nil ⟨fun _ => schedB_of (by kernel_rfl), ?_⟩
       refine ⟨(), ?_, trivial⟩
       exact .mx hgf2 [3, 5, 6, 9, 92] [20001, 20100, 20101, 20102, 20103] []
    ·skip
     have hgf1 : ((a2.Kind == 2) && (decide (v6 ≥ 0))) = false := by first | simpa using hgd | (simp at hgd ⊢; omega) | grind
     rcases nth_or TWait.n l1 v6.toNat with eg10 | eg10
     ·skip
      by_cases hgd : ((a2.Kind = 2) ∧ (v6 ≥ 0)) ∧ (¬ ((l1.getD v6.toNat default).Final = true))
      ·skip
       have eg30 := nth_mapI TWait.n l1 v6 (k2 hgd)
       refine .rg Try.S [3, 5, 6, 9] ?_
       refine .rdx 6 (And.intro eg10 (And.intro hgf1 eg30)) ?_
       refine .rdx 6 (And.intro eg10 (And.intro hgf1 eg30)) ?_
       refine .rdx 6 (And.intro eg10 (And.intro hgf1 eg30)) ?_
       refine .rdx 6 (And.intro eg10 (And.intro hgf1 eg30)) ?_
       refine .rdx 3 (And.intro eg10 (And.intro hgf1 eg30)) ?_
       refine .nil ⟨fun _ => schedB_of (by kernel_rfl), ?_⟩
       refine ⟨(), ?_, trivial⟩
       exact .mx hgf1 [3, 5, 6, 9, 92] [20001, 20100, 20101, 20102, 20103] []
      ·skip
       have hgf3 : (((a2.Kind == 2) && (decide (v6 ≥ 0))) && (!(l1.getD v6.toNat default).Final)) = false := by first | simpa using hgd | (simp at hgd ⊢; omega) | grind
       rcases nth_or TWait.n l1 v6.toNat with eg30 | eg30
       ·skip
        refine .rg Try.S [3, 5, 6, 9] ?_
        refine .rdx 6 (And.intro eg10 (And.intro hgf1 (And.intro eg30 hgf3))) ?_
        refine .rdx 6 (And.intro eg10 (And.intro hgf1 (And.intro eg30 hgf3))) ?_
        refine .rdx 6 (And.intro eg10 (And.intro hgf1 (And.intro eg30 hgf3))) ?_
        refine .rdx 6 (And.intro eg10 (And.intro hgf1 (And.intro eg30 hgf3))) ?_
        refine .rdx 3 (And.intro eg10 (And.intro hgf1 (And.intro eg30 hgf3))) ?_
        refine .nil ⟨fun _ => schedB_of (by kernel_rfl), ?_⟩
        refine ⟨(), ?_, trivial⟩
        exact .mx (And.intro hgf1 hgf3) [3, 5, 6, 9, 92] [20001, 20100, 20101, 20102, 20103] []
       ·skip
        refine .rg Try.S [3, 5, 6, 9] ?_
        refine .rdx 6 (And.intro eg10 (And.intro hgf1 (And.intro eg30 hgf3))) ?_
        refine .rdx 6 (And.intro eg10 (And.intro hgf1 (And.intro eg30 hgf3))) ?_
        refine .rdx 6 (And.intro eg10 (And.intro hgf1 (And.intro eg30 hgf3))) ?_
        refine .rdx 6 (And.intro eg10 (And.intro hgf1 (And.intro eg30 hgf3))) ?_
        refine .rdx 3 (And.intro eg10 (And.intro hgf1 (And.intro eg30 hgf3))) ?_
        refine .nil ⟨fun _ => schedB_of (by kernel_rfl), ?_⟩
        refine ⟨(), ?_, trivial⟩
        exact .mx (And.intro hgf1 hgf3) [3, 5, 6, 9, 92] [20001, 20100, 20101, 20102, 20103] []
     ·skip
      by_cases hgd : ((a2.Kind = 2) ∧ (v6 ≥ 0)) ∧ (¬ ((l1.getD v6.toNat default).Final = true))
      ·skip
       have eg40 := nth_mapI TWait.n l1 v6 (k2 hgd)
       refine .rg Try.S [3, 5, 6, 9] ?_
       refine .rdx 6 (And.intro eg10 (And.intro hgf1 eg40)) ?_
       refine .rdx 6 (And.intro eg10 (And.intro hgf1 eg40)) ?_
       refine .rdx 6 (And.intro eg10 (And.intro hgf1 eg40)) ?_
       refine .rdx 6 (And.intro eg10 (And.intro hgf1 eg40)) ?_
       refine .rdx 3 (And.intro eg10 (And.intro hgf1 eg40)) ?_
       refine .nil ⟨fun _ => schedB_of (by kernel_rfl), ?_⟩
       refine ⟨(), ?_, trivial⟩
       exact .mx hgf1 [3, 5, 6, 9, 92] [20001, 20100, 20101, 20102, 20103] []
      ·skip
       have hgf4 : (((a2.Kind == 2) && (decide (v6 ≥ 0))) && (!(l1.getD v6.toNat default).Final)) = false := by first | simpa using hgd | (simp at hgd ⊢; omega) | grind
       rcases nth_or TWait.n l1 v6.toNat with eg40 | eg40
       ·skip
        refine .rg Try.S [3, 5, 6, 9] ?_
        refine .rdx 6 (And.intro eg10 (And.intro hgf1 (And.intro eg40 hgf4))) ?_
        refine .rdx 6 (And.intro eg10 (And.intro hgf1 (And.intro eg40 hgf4))) ?_
        refine .rdx 6 (And.intro eg10 (And.intro hgf1 (And.intro eg40 hgf4))) ?_
        refine .rdx 6 (And.intro eg10 (And.intro hgf1 (And.intro eg40 hgf4))) ?_
        refine .rdx 3 (And.intro eg10 (And.intro hgf1 (And.intro eg40 hgf4))) ?_
        refine .nil ⟨fun _ => schedB_of (by kernel_rfl), ?_⟩
        refine ⟨(), ?_, trivial⟩
        exact .mx (And.intro hgf1 hgf4) [3, 5, 6, 9, 92] [20001, 20100, 20101, 20102, 20103] []
       ·skip
        refine .rg Try.S [3, 5, 6, 9] ?_
        refine .rdx 6 (And.intro eg10 (And.intro hgf1 (And.intro eg40 hgf4))) ?_
        refine .rdx 6 (And.intro eg10 (And.intro hgf1 (And.intro eg40 hgf4))) ?_
        refine .rdx 6 (And.intro eg10 (And.intro hgf1 (And.intro eg40 hgf4))) ?_
        refine .rdx 6 (And.intro eg10 (And.intro hgf1 (And.intro eg40 hgf4))) ?_
        refine .rdx 3 (And.intro eg10 (And.intro hgf1 (And.intro eg40 hgf4))) ?_
        refine .nil ⟨fun _ => schedB_of (by kernel_rfl), ?_⟩
        refine ⟨(), ?_, trivial⟩
        exact .mx (And.intro hgf1 hgf4) [3, 5, 6, 9, 92] [20001, 20100, 20101, 20102, 20103] []
   refine .cond rfl rfl (fun hc3 => ?_) (fun hc3 => ?_)
   ·skip
    replace hx2 := ite_lc hx2 hc3
    refine .seq ?_
    obtain ⟨k3, hx2⟩ := ite_ck hx2
    have e1 := nth_mapI TWait.n l1 v6
    have es1 := setN_map TWait.n l1 v6.toNat (⟨(l1.getD v6.toNat default).Message, a2.Time, (l1.getD v6.toNat default).Final⟩ : TWait)
    replace e1 := e1 k3
    replace es1 : setN (l1.map TWait.n) v6.toNat (.agg [.int .i64 ((l1.getD v6.toNat default).Message.Id), .imm 1 (((l1.getD v6.toNat default).Message.Groups).map (D.int .i64)) 13, .int .i64 ((l1.getD v6.toNat default).Message.Topic), .str ((l1.getD v6.toNat default).Message.Key), .str ((l1.getD v6.toNat default).Message.Body), .int .i64 a2.Time, .bool ((l1.getD v6.toNat default).Final)]) = (l1.set v6.toNat (⟨(l1.getD v6.toNat default).Message, a2.Time, (l1.getD v6.toNat default).Final⟩ : TWait)).map TWait.n := es1
    refine .plx Try.S (And.intro e1 es1) [3, 5, 6, 9] ?_
    refine .seq ?_
    obtain ⟨k4, hx2⟩ := ite_ck hx2
    have e2 := nth_mapI TWait.n (l1.set v6.toNat (⟨(l1.getD v6.toNat default).Message, a2.Time, (l1.getD v6.toNat default).Final⟩ : TWait)) v6
    have es2 := setN_map TWait.n (l1.set v6.toNat (⟨(l1.getD v6.toNat default).Message, a2.Time, (l1.getD v6.toNat default).Final⟩ : TWait)) v6.toNat (⟨((l1.set v6.toNat (⟨(l1.getD v6.toNat default).Message, a2.Time, (l1.getD v6.toNat default).Final⟩ : TWait)).getD v6.toNat default).Message, ((l1.set v6.toNat (⟨(l1.getD v6.toNat default).Message, a2.Time, (l1.getD v6.toNat default).Final⟩ : TWait)).getD v6.toNat default).Time, true⟩ : TWait)
    replace e2 := e2 k4
    replace es2 : setN ((l1.set v6.toNat (⟨(l1.getD v6.toNat default).Message, a2.Time, (l1.getD v6.toNat default).Final⟩ : TWait)).map TWait.n) v6.toNat (.agg [.int .i64 (((l1.set v6.toNat (⟨(l1.getD v6.toNat default).Message, a2.Time, (l1.getD v6.toNat default).Final⟩ : TWait)).getD v6.toNat default).Message.Id), .imm 1 ((((l1.set v6.toNat (⟨(l1.getD v6.toNat default).Message, a2.Time, (l1.getD v6.toNat default).Final⟩ : TWait)).getD v6.toNat default).Message.Groups).map (D.int .i64)) 13, .int .i64 (((l1.set v6.toNat (⟨(l1.getD v6.toNat default).Message, a2.Time, (l1.getD v6.toNat default).Final⟩ : TWait)).getD v6.toNat default).Message.Topic), .str (((l1.set v6.toNat (⟨(l1.getD v6.toNat default).Message, a2.Time, (l1.getD v6.toNat default).Final⟩ : TWait)).getD v6.toNat default).Message.Key), .str (((l1.set v6.toNat (⟨(l1.getD v6.toNat default).Message, a2.Time, (l1.getD v6.toNat default).Final⟩ : TWait)).getD v6.toNat default).Message.Body), .int .i64 (((l1.set v6.toNat (⟨(l1.getD v6.toNat default).Message, a2.Time, (l1.getD v6.toNat default).Final⟩ : TWait)).getD v6.toNat default).Time), .bool true]) = ((l1.set v6.toNat (⟨(l1.getD v6.toNat default).Message, a2.Time, (l1.getD v6.toNat default).Final⟩ : TWait)).set v6.toNat (⟨((l1.set v6.toNat (⟨(l1.getD v6.toNat default).Message, a2.Time, (l1.getD v6.toNat default).Final⟩ : TWait)).getD v6.toNat default).Message, ((l1.set v6.toNat (⟨(l1.getD v6.toNat default).Message, a2.Time, (l1.getD v6.toNat default).Final⟩ : TWait)).getD v6.toNat default).Time, true⟩ : TWait)).map TWait.n := es2
    refine .plx Try.S (And.intro e2 es2) [3, 5, 6, 9] ?_
    refine .pl Try.S [3, 5, 6] ?_
    refine ⟨_, ?_, (Option.some.inj hx2).symm⟩
    exact .m [3, 6] [20001, 20100, 20102, 20103] [(20103, 20104)]
   ·skip
    replace hx2 := ite_rc hx2 hc3
    refine .skip ?_
    refine ⟨_, ?_, (Option.some.inj hx2).symm⟩
    exact .m [3, 6] [20001, 20100, 20102, 20103] [(20103, 20104)]
  ·skip
   rintro ⟨n2, l2⟩ hj2
   subst x2
   try dsimp only at h
   simp only [Try.St_towncrierref15_Put_3]
   refine .seq ?_
   refine .pl Try.S [3, 6] ?_
   obtain ⟨x3, hx3, h⟩ := bind_some h
   refine .seqM 20105 (fun (j : (List TWait) × (List TStamp) × (List TMessage)) => Try.St_towncrierref15_Put_5 n2 j.1 j.2.1 j.2.2) (fun j => x3 = j) (Nat.le_of_ble_eq_true rfl) ?_ ?_
   ·skip
    refine .block ?_
    refine .loopG 20105 (fun (j : Nat × (List TWait) × (List TStamp) × (List TMessage)) => Try.St_towncrierref15_Put_7 n2 j.2.1 j.2.2.1 j.2.2.2) (fun j => m_towncrierref15_Put_loop1 j.1 j.2.1 j.2.2.1 j.2.2.2 = some x3) (fun j => j.1) (a0.Waits.length + 2, l2, a0.Done, []) (Nat.le_of_ble_eq_true rfl) ?_ hx3 ?_
    ·skip
     refine Goes.new0 5 28 (Nat.le_of_ble_eq_true rfl) ?_
     refine Goes.wk 10 _ (.ref 20105 5 0 0 (some unkC)) rfl (.own0 20105 _ _ _ (by decide)) ?_
     exact .m [3, 6, 10] [20100, 20102, 20104, 20001, 20105] [(20104, 20105), (20001, 20106), (20105, 20107)]
    rintro ⟨fu1, l6, l7, l8⟩ hx3
    simp only [Try.St_towncrierref15_Put_7]
    try simp only at hx3
    obtain ⟨fu1, rfl⟩ : ∃ k, fu1 = k + 1 := by cases fu1 with | zero => (rw [m_towncrierref15_Put_loop1] at hx3; cases hx3) | succ k => exact ⟨k, rfl⟩
    rw [m_towncrierref15_Put_loop1] at hx3
    refine .seq ?_
    refine .seq ?_
    refine .pl Try.S [3, 6, 10] ?_
    refine .cond rfl rfl (fun hc4 => ?_) (fun hc4 => ?_)
    ·skip
     replace hx3 := ite_lc hx3 hc4
     refine .skip ?_
     refine .block ?_
     refine .seq ?_
     obtain ⟨v7, hv7, hx3⟩ := bind_some hx3
     refine .rg Try.S [3, 6, 10] ?_
     refine .rn 2 ?_
     refine .lcall (r := .int .i64 v7) [] rfl rfl rfl rfl rfl (lend2s_cons (lend2_of (lend_refN pln_TWait (by first | rfl | (simp only [go_sem, Nat.reduceBEq]; rfl)) (by first | rfl | (simp; done) | (simp <;> omega))) trivial) lend2s_nil) rfl (callP_towncrierref15_least l6 v7 hv7) ?_
     refine .rn 1 ?_
     refine .nil ⟨nofun, ?_⟩
     refine .seq ?_
     refine .seq ?_
     obtain ⟨k5, hx3⟩ := ite_ck hx3
     have e3 := nth_mapI TWait.n l6 v7
     replace e3 := e3 k5
     refine .plx Try.S e3 [3, 6, 10, 11] ?_
     refine .cond rfl rfl (fun hc5 => ?_) (fun hc5 => ?_)
     ·skip
      replace hx3 := ite_lc hx3 hc5
      refine .exit ?_
      refine ⟨_, ?_, (Option.some.inj hx3).symm⟩
      exact .m [3, 6, 10] [20100, 20102, 20105, 20106, 20107] []
     ·skip
      replace hx3 := ite_rc hx3 hc5
      refine .skip ?_
      refine .seq ?_
      obtain ⟨k6, hx3⟩ := ite_ck hx3
      obtain ⟨v8, hv8, hx3⟩ := bind_some hx3
      obtain ⟨k7, hx3⟩ := ite_ck hx3
      have e4 := nth_mapI TWait.n l6 v7
      replace e4 := e4 k6
      refine .rg Try.S [3, 6, 10, 11] ?_
      refine .rdx 7 e4 ?_
      refine .call (r := .agg [.int .i64 v8.Time, .int .i64 v8.Id]) rfl rfl rfl rfl rfl rfl (callP_wk (WkL.cons (Wk.agg (WkL.cons (Wk.refl _) (WkL.cons (Wk.imm4 _ _ (by decide)) (WkL.cons (Wk.refl _) (WkL.cons (Wk.refl _) (WkL.cons (Wk.refl _) (WkL.cons (Wk.refl _) (WkL.cons (Wk.refl _) (WkL.refl _))))))))) (WkL.refl _)) (callP_towncrierref15_Stamp (l6.getD v7.toNat default) v8 hv8)) ?_
      refine .rdx 4 e4 ?_
      refine .nil ⟨fun _ => schedB_of (by kernel_rfl), ?_⟩
      refine .seq ?_
      obtain ⟨k8, hx3⟩ := ite_ck hx3
      obtain ⟨k9, hx3⟩ := ite_ck hx3
      have e5 := nth_mapI TWait.n l6 v7
      replace e5 := e5 k8
      refine .rg Try.S [3, 6, 10, 11] ?_
      refine .rnx 6 e5 ?_
      refine .rnx 4 e5 ?_
      refine .nil ⟨nofun, ?_⟩
      obtain ⟨v9, hv9, hx3⟩ := bind_some hx3
      refine .rg Try.S [3, 6, 10, 11] ?_
      refine .rn 3 ?_
      refine .hcall (H := [(20105, .arr 52 7 true (l6.map TWait.n))]) (eff := [(20105, none), (20112, some (.arr 52 7 true (v9.map TWait.n)))]) (nw := (20112, 20117)) (r := .ref 20112 7 0 v9.length (some unkC)) rfl rfl rfl rfl rfl (callH_sw 20000 20105 (callH_bsw2 20112 (callH_towncrierref15_without_w l6 v7 v9 hv9))) (fun id b h => getL_pick [20105] _ id b h) (by simp) (.inr ⟨Nat.le_of_ble_eq_true rfl, Nat.le_of_ble_eq_true rfl⟩) ?_
      refine .rn 2 ?_
      refine .nil ⟨nofun, ?_⟩
      refine ⟨(fu1, _, _, _), ?_, hx3, by dsimp only; omega⟩
      exact .m [3, 6, 10] [20100, 20102, 20112, 20109, 20111] [(20112, 20105), (20109, 20106), (20111, 20107)]
    ·skip
     replace hx3 := ite_rc hx3 hc4
     refine .exit ?_
     refine ⟨_, ?_, (Option.some.inj hx3).symm⟩
     exact .m [3, 6, 10] [20100, 20102, 20105, 20106, 20107] []
   ·skip
    rintro ⟨l3, l4, l5⟩ hj3
    subst x3
    try dsimp only at h
    simp only [Try.St_towncrierref15_Put_5]
    refine .seq ?_
    refine .rg Try.S [3, 6, 10] ?_
    refine .rd 6 ?_
    refine .rd 3 ?_
    refine .nil ⟨fun _ => schedB_of (by kernel_rfl), ?_⟩
    have hq := Option.some.inj h
    subst r
    refine .ret ⟨Try.Re_towncrierref15_Put ((⟨n2, l3, l4⟩ : TSkeen), l5, (decide ((l4.length : Int) ≤ 200))), ?_, .inr rfl, retH [20102, 20101, 20100] ?_ ?_⟩
    ·skip
     exact .m [6, 7, 8] [20105, 20106, 20107, 20102] [(20105, 20100), (20106, 20101), (20107, 20102), (20102, 20103)]
    ·exact rsi0
    ·rfl
def Try.Re_towncrierref15_Apply (r : TSkeen × (List TMessage) × Int) : St := ⟨[(6, .ptr 3 0), (7, .ref 2 5 0 r.2.1.length (some unkC)), (8, .int .i64 r.2.2)], [(0, .arr 52 7 true (r.1.Waits.map TWait.n)), (1, .arr 70 2 true (r.1.Done.map TStamp.d)), (2, .arr 28 5 true (r.2.1.map TMessage.n)), (3, .box [.int .i64 r.1.Clock, .ref 0 7 0 r.1.Waits.length (some unkC), .ref 1 2 0 r.1.Done.length (some unkC)])], 4⟩
attribute [local go_sem] Try.Re_towncrierref15_Apply
theorem callH_towncrierref15_Apply (a0 : TSkeen) (a1 : Int) (a2 : TCommand) (r : TSkeen × (List TMessage) × Int) (h : m_towncrierref15_Apply a0 a1 a2 = some r) : CallH Try.prog 8 [.agg [.int .i64 a0.Clock, .imm 7 (a0.Waits.map TWait.d) 4, .imm 2 (a0.Done.map TStamp.d) 4], .int .i64 a1, .agg [.int .u8 a2.Kind, .int .i64 a2.Message.Id, .imm 1 (a2.Message.Groups.map (D.int .i64)) 4, .int .i64 a2.Message.Topic, .str a2.Message.Key, .str a2.Message.Body, .int .i64 a2.Id, .int .i64 a2.Time, .imm 1 (a2.Members.map (D.int .i64)) 4, .int .i64 a2.Topic, .int .i64 a2.Who, .int .i64 a2.N]] [] (.tuple [.agg [.int .i64 r.1.Clock, .ref 0 7 0 r.1.Waits.length (some unkC), .ref 1 2 0 r.1.Done.length (some unkC)], .ref 2 5 0 r.2.1.length (some unkC), .int .i64 r.2.2]) [(0, some (.arr 52 7 true (r.1.Waits.map TWait.n))), (1, some (.arr 70 2 true (r.1.Done.map TStamp.d))), (2, some (.arr 28 5 true (r.2.1.map TMessage.n)))] (0, 46) := by
 refine callH_intro' Try.tmOk Try.func8 rfl (by decide) (Nat.le_of_ble_eq_true rfl) (by simp) ?_
 intro hwf
 unfold m_towncrierref15_Apply at h
 refine .ends 0 (Nat.le_refl _) ?_
 refine .seq ?_
 refine .pl Try.S [0, 1, 2] ?_
 refine .seq ?_
 refine .seq ?_
 obtain ⟨v1, hv1, h⟩ := bind_some h
 refine .rg Try.S [1, 3, 5, 6] ?_
 refine .rn 1 ?_
 refine .call (r := .bool v1) rfl rfl rfl rfl rfl rfl (callP_towncrierref15_May a0 v1 hv1) ?_
 refine .rn 1 ?_
 refine .nil ⟨nofun, ?_⟩
 refine .cond rfl rfl (fun hc1 => ?_) (fun hc1 => ?_)
 ·skip
  replace h := ite_lc h hc1
  refine .seq ?_
  refine .pl Try.S [6] ?_
  have hq := Option.some.inj h
  subst r
  refine .ret ⟨Try.Re_towncrierref15_Apply ((⟨0, [], []⟩ : TSkeen), [], 8), ?_, .inr rfl, retH [2, 1, 0] ?_ ?_⟩
  ·skip
   refine Goes.new0 7 52 (Nat.le_of_ble_eq_true rfl) ?_
   refine Goes.new0 2 70 (Nat.le_of_ble_eq_true rfl) ?_
   refine Goes.new0 5 28 (Nat.le_of_ble_eq_true rfl) ?_
   refine Goes.boxs 2 _ [.int .i64 0, .ref 3 7 0 0 (some unkC), .ref 4 2 0 0 (some unkC)] rfl (.keep (.cons (.own0 3 _ _ _ (by decide)) (.cons (.own0 4 _ _ _ (by decide)) (.refl _)))) ?_
   refine Goes.wk 7 _ (.ref 5 5 0 0 (some unkC)) rfl (.own0 5 _ _ _ (by decide)) ?_
   exact .m [6, 7, 8] [3, 4, 5, 2] [(3, 0), (4, 1), (5, 2), (2, 3)]
  ·exact rsi0
  ·rfl
 ·skip
  replace h := ite_rc h hc1
  refine .skip ?_
  refine .seq ?_
  refine .seq ?_
  refine .pl Try.S [1, 3, 5, 6] ?_
  refine .cond rfl rfl (fun hc2 => ?_) (fun hc2 => ?_)
  ·skip
   replace h := ite_lc h hc2
   refine .seq ?_
   refine .pl Try.S [6] ?_
   have hq := Option.some.inj h
   subst r
   refine .ret ⟨Try.Re_towncrierref15_Apply ((⟨0, [], []⟩ : TSkeen), [], 2), ?_, .inr rfl, retH [2, 1, 0] ?_ ?_⟩
   ·skip
    refine Goes.new0 7 52 (Nat.le_of_ble_eq_true rfl) ?_
    refine Goes.new0 2 70 (Nat.le_of_ble_eq_true rfl) ?_
    refine Goes.new0 5 28 (Nat.le_of_ble_eq_true rfl) ?_
    refine Goes.boxs 2 _ [.int .i64 0, .ref 3 7 0 0 (some unkC), .ref 4 2 0 0 (some unkC)] rfl (.keep (.cons (.own0 3 _ _ _ (by decide)) (.cons (.own0 4 _ _ _ (by decide)) (.refl _)))) ?_
    refine Goes.wk 7 _ (.ref 5 5 0 0 (some unkC)) rfl (.own0 5 _ _ _ (by decide)) ?_
    exact .m [6, 7, 8] [3, 4, 5, 2] [(3, 0), (4, 1), (5, 2), (2, 3)]
   ·exact rsi0
   ·rfl
  ·skip
   replace h := ite_rc h hc2
   refine .skip ?_
   refine .seq ?_
   refine .seq ?_
   obtain ⟨v2, hv2, h⟩ := bind_some h
   refine .rg Try.S [1, 3, 5, 6] ?_
   refine .rn 1 ?_
   refine .call (r := .bool v2) rfl rfl rfl rfl rfl rfl (callP_towncrierref12_May a2 v2 hv2) ?_
   refine .rn 1 ?_
   refine .nil ⟨nofun, ?_⟩
   refine .cond rfl rfl (fun hc3 => ?_) (fun hc3 => ?_)
   ·skip
    replace h := ite_lc h hc3
    refine .seq ?_
    refine .pl Try.S [6] ?_
    have hq := Option.some.inj h
    subst r
    refine .ret ⟨Try.Re_towncrierref15_Apply ((⟨0, [], []⟩ : TSkeen), [], 120), ?_, .inr rfl, retH [2, 1, 0] ?_ ?_⟩
    ·skip
     refine Goes.new0 7 52 (Nat.le_of_ble_eq_true rfl) ?_
     refine Goes.new0 2 70 (Nat.le_of_ble_eq_true rfl) ?_
     refine Goes.new0 5 28 (Nat.le_of_ble_eq_true rfl) ?_
     refine Goes.boxs 2 _ [.int .i64 0, .ref 3 7 0 0 (some unkC), .ref 4 2 0 0 (some unkC)] rfl (.keep (.cons (.own0 3 _ _ _ (by decide)) (.cons (.own0 4 _ _ _ (by decide)) (.refl _)))) ?_
     refine Goes.wk 7 _ (.ref 5 5 0 0 (some unkC)) rfl (.own0 5 _ _ _ (by decide)) ?_
     exact .m [6, 7, 8] [3, 4, 5, 2] [(3, 0), (4, 1), (5, 2), (2, 3)]
    ·exact rsi0
    ·rfl
   ·skip
    replace h := ite_rc h hc3
    refine .skip ?_
    refine .seq ?_
    obtain ⟨v3, hv3, h⟩ := bind_some h
    obtain ⟨v4, hv4, h⟩ := bind_some h
    refine .rg Try.S [1, 3, 5, 6] ?_
    refine .rd 1 ?_
    refine .ncall (r := .agg [.int .i64 v3.Clock, .ref 10 7 0 v3.Waits.length (some unkC), .ref 11 2 0 v3.Done.length (some unkC)]) (eff := [(10, some (.arr 52 7 true (v3.Waits.map TWait.n))), (11, some (.arr 70 2 true (v3.Done.map TStamp.d)))]) (nw := (10, 20)) [] rfl rfl rfl rfl rfl (lend2s_cons rfl lend2s_nil) rfl (callH_at 10 (Nat.le_of_ble_eq_true rfl) (callH_towncrierref15_Twin a0 v3 hv3)) (newE_cons rfl rfl (newB_arrN pln_TWait _ _ _) (newE_cons rfl rfl (newB_arr pl0_TStamp _ _ _) newE_nil)) (by intro i hi; simp [D.ids, D.idsL] at hi <;> omega) rfl ⟨Nat.le_of_ble_eq_true rfl, Nat.le_of_ble_eq_true rfl⟩ ?_
    refine .rd 2 ?_
    refine .hcall (H := [(10, .arr 52 7 true (v3.Waits.map TWait.n)), (11, .arr 70 2 true (v3.Done.map TStamp.d))]) (eff := [(10, none), (11, none), (20, some (.arr 52 7 true (v4.1.Waits.map TWait.n))), (21, some (.arr 70 2 true (v4.1.Done.map TStamp.d))), (22, some (.arr 28 5 true (v4.2.1.map TMessage.n)))]) (nw := (20, 40)) (r := .tuple [.agg [.int .i64 v4.1.Clock, .ref 20 7 0 v4.1.Waits.length (some unkC), .ref 21 2 0 v4.1.Done.length (some unkC)], .ref 22 5 0 v4.2.1.length (some unkC), .bool v4.2.2]) rfl rfl rfl rfl rfl (callH_bsw 20 (callH_sw 20001 11 (callH_sw 20000 10 (callH_towncrierref15_Put v3 a1 a2 v4 hv4)))) (fun id b h => getL_pick [10, 11] _ id b h) (by simp) (.inr ⟨Nat.le_of_ble_eq_true rfl, Nat.le_of_ble_eq_true rfl⟩) ?_
    refine .rd 8 ?_
    refine .nil ⟨fun _ => schedB_of (by kernel_rfl), ?_⟩
    refine .seq ?_
    refine .seq ?_
    refine .pl Try.S [6, 9, 10, 11] ?_
    refine .cond rfl rfl (fun hc4 => ?_) (fun hc4 => ?_)
    ·skip
     replace h := ite_lc h hc4
     refine .seq ?_
     refine .pl Try.S [6] ?_
     have hq := Option.some.inj h
     subst r
     refine .ret ⟨Try.Re_towncrierref15_Apply ((⟨0, [], []⟩ : TSkeen), [], 9), ?_, .inr rfl, retH [2, 1, 0] ?_ ?_⟩
     ·skip
      refine Goes.new0 7 52 (Nat.le_of_ble_eq_true rfl) ?_
      refine Goes.new0 2 70 (Nat.le_of_ble_eq_true rfl) ?_
      refine Goes.new0 5 28 (Nat.le_of_ble_eq_true rfl) ?_
      refine Goes.boxs 2 _ [.int .i64 0, .ref 41 7 0 0 (some unkC), .ref 42 2 0 0 (some unkC)] rfl (.keep (.cons (.own0 41 _ _ _ (by decide)) (.cons (.own0 42 _ _ _ (by decide)) (.refl _)))) ?_
      refine Goes.wk 7 _ (.ref 43 5 0 0 (some unkC)) rfl (.own0 43 _ _ _ (by decide)) ?_
      exact .m [6, 7, 8] [41, 42, 43, 2] [(41, 0), (42, 1), (43, 2), (2, 3)]
     ·exact rsi0
     ·rfl
    ·skip
     replace h := ite_rc h hc4
     refine .skip ?_
     refine .seq ?_
     refine .pl Try.S [6, 9, 10] ?_
     have hq := Option.some.inj h
     subst r
     refine .ret ⟨Try.Re_towncrierref15_Apply (v4.1, v4.2.1, 0), ?_, .inr rfl, retH [2, 1, 0] ?_ ?_⟩
     ·skip
      exact .m [6, 7, 8] [20, 21, 22, 2] [(20, 0), (21, 1), (22, 2), (2, 3)]
     ·exact rsi0
     ·rfl
theorem callP_towncrierref15_Apply (a0 : TSkeen) (a1 : Int) (a2 : TCommand) (r : TSkeen × (List TMessage) × Int) (h : m_towncrierref15_Apply a0 a1 a2 = some r) : CallP Try.prog 8 [.agg [.int .i64 a0.Clock, .imm 7 (a0.Waits.map TWait.d) 4, .imm 2 (a0.Done.map TStamp.d) 4], .int .i64 a1, .agg [.int .u8 a2.Kind, .int .i64 a2.Message.Id, .imm 1 (a2.Message.Groups.map (D.int .i64)) 4, .int .i64 a2.Message.Topic, .str a2.Message.Key, .str a2.Message.Body, .int .i64 a2.Id, .int .i64 a2.Time, .imm 1 (a2.Members.map (D.int .i64)) 4, .int .i64 a2.Topic, .int .i64 a2.Who, .int .i64 a2.N]] (.tuple [.agg [.int .i64 r.1.Clock, .imm 7 (r.1.Waits.map TWait.d) 13, .imm 2 (r.1.Done.map TStamp.d) 13], .imm 5 (r.2.1.map TMessage.d) 13, .int .i64 r.2.2]) :=
 callP_frz (frz_tup (frzs_cons (frz_agg (frzs_cons rfl (frzs_cons (frz_refN pln_TWait rfl rfl) (frzs_cons (frz_ref0 pl0_TStamp rfl rfl) frzs_nil)))) (frzs_cons (frz_refN pln_TMessage rfl rfl) (frzs_cons rfl frzs_nil)))) (callH_towncrierref15_Apply a0 a1 a2 r h)
end Go.Proofs
end
section
namespace Go.Proofs
open Go.Tm
set_option linter.unusedVariables false
def m_towncrierlaw15_SkeenDoes (a0 : TSkeen) (a1 : TSkeen) (a2 : Int) (a3 : TCommand) (a4 : Int) : Option Bool :=
 Option.bind (m_towncrierref15_Great a0) fun v1 =>
 Option.bind (if ¬ (v1 = true) then m_towncrierref15_Great a1 else some default) fun v2 =>
 if ((((v1 = true) ∨ (v2 = true)) ∨ ((a3.Message.Groups.length : Int) > 1000)) ∨ ((wr .i64 ((a3.Message.Key.length : Int) + (a3.Message.Body.length : Int))) > 5000)) ∨ ((a3.Members.length : Int) > 1000) then
 some true
 else
 Option.bind (m_towncrierref15_Twin a0) fun v3 =>
 Option.bind (m_towncrierref12_Twin a3) fun v4 =>
 Option.bind (m_skeen_Apply v3 a2 v4) fun v5 =>
 Option.bind (m_towncrierref15_Apply a0 a2 a3) fun v6 =>
 Option.bind (m_skeen_Local v3 a4) fun v7 =>
 Option.bind (m_towncrierref15_Local a0 a4) fun v8 =>
 Option.bind (m_skeen_Twin v3) fun v9 =>
 Option.bind (m_towncrierref15_Same v5.1 v6.1) fun v10 =>
 Option.bind (if ¬ (¬ (v10 = true)) then m_towncrierref15_SameMessages v5.2.1 v6.2.1 else some default) fun v11 =>
 Option.bind (if ¬ ((((((¬ (v10 = true)) ∨ (¬ (v11 = true))) ∨ (¬ (v5.2.2 = v6.2.2))) ∨ (¬ (v7.1 = v8.1))) ∨ ((!(v7.2.1 == v8.2.1)) = true)) ∨ (¬ (v7.2.2 = v8.2.2))) then m_towncrierref15_Same v9 a0 else some default) fun v12 =>
 Option.bind (if ¬ (((((((¬ (v10 = true)) ∨ (¬ (v11 = true))) ∨ (¬ (v5.2.2 = v6.2.2))) ∨ (¬ (v7.1 = v8.1))) ∨ ((!(v7.2.1 == v8.2.1)) = true)) ∨ (¬ (v7.2.2 = v8.2.2))) ∨ (¬ (v12 = true))) then m_skeen_Check v3 else some default) fun v13 =>
 Option.bind (if ¬ (((((((¬ (v10 = true)) ∨ (¬ (v11 = true))) ∨ (¬ (v5.2.2 = v6.2.2))) ∨ (¬ (v7.1 = v8.1))) ∨ ((!(v7.2.1 == v8.2.1)) = true)) ∨ (¬ (v7.2.2 = v8.2.2))) ∨ (¬ (v12 = true))) then m_towncrierref15_May a0 else some default) fun v14 =>
 Option.bind (if ¬ ((((((((¬ (v10 = true)) ∨ (¬ (v11 = true))) ∨ (¬ (v5.2.2 = v6.2.2))) ∨ (¬ (v7.1 = v8.1))) ∨ ((!(v7.2.1 == v8.2.1)) = true)) ∨ (¬ (v7.2.2 = v8.2.2))) ∨ (¬ (v12 = true))) ∨ ((!((v13 == 0) == v14)) = true)) then m_skeen_Same v3 a1 else some default) fun v15 =>
 Option.bind (if ¬ ((((((((¬ (v10 = true)) ∨ (¬ (v11 = true))) ∨ (¬ (v5.2.2 = v6.2.2))) ∨ (¬ (v7.1 = v8.1))) ∨ ((!(v7.2.1 == v8.2.1)) = true)) ∨ (¬ (v7.2.2 = v8.2.2))) ∨ (¬ (v12 = true))) ∨ ((!((v13 == 0) == v14)) = true)) then m_towncrierref15_Same a0 a1 else some default) fun v16 =>
 Option.bind (if ¬ (((((((((¬ (v10 = true)) ∨ (¬ (v11 = true))) ∨ (¬ (v5.2.2 = v6.2.2))) ∨ (¬ (v7.1 = v8.1))) ∨ ((!(v7.2.1 == v8.2.1)) = true)) ∨ (¬ (v7.2.2 = v8.2.2))) ∨ (¬ (v12 = true))) ∨ ((!((v13 == 0) == v14)) = true)) ∨ ((!(v15 == v16)) = true)) then m_skeen_New  else some default) fun v17 =>
 Option.bind (if ¬ (((((((((¬ (v10 = true)) ∨ (¬ (v11 = true))) ∨ (¬ (v5.2.2 = v6.2.2))) ∨ (¬ (v7.1 = v8.1))) ∨ ((!(v7.2.1 == v8.2.1)) = true)) ∨ (¬ (v7.2.2 = v8.2.2))) ∨ (¬ (v12 = true))) ∨ ((!((v13 == 0) == v14)) = true)) ∨ ((!(v15 == v16)) = true)) then m_towncrierref15_Same v17 (⟨0, [], []⟩ : TSkeen) else some default) fun v18 =>
 if (((((((((¬ (v10 = true)) ∨ (¬ (v11 = true))) ∨ (¬ (v5.2.2 = v6.2.2))) ∨ (¬ (v7.1 = v8.1))) ∨ ((!(v7.2.1 == v8.2.1)) = true)) ∨ (¬ (v7.2.2 = v8.2.2))) ∨ (¬ (v12 = true))) ∨ ((!((v13 == 0) == v14)) = true)) ∨ ((!(v15 == v16)) = true)) ∨ (¬ (v18 = true)) then
 some false
 else
 Option.bind (m_towncrierref15_Same v3 a0) fun v19 =>
 Option.bind (if v19 = true then m_towncrierref12_Same v4 a3 else some default) fun v20 =>
 some (v19 && v20)
end Go.Proofs
end
section
namespace Go.Tm
open Go.RowKit Go.WideShapes
def GvE (hp : Nat → Option Blk) (d d' : D) : Prop :=
 (∃ s l c, d = .imm s l c ∧ d' = d) ∨ ∃ j s n oc e its, d = .ref j s 0 n oc ∧ hp j = some (.arr e s true its) ∧ n = its.length ∧ plL its = true ∧ d' = .imm s its 4
def GvEs (hp : Nat → Option Blk) : List D → List D → Prop
 | [], l => l = []
 | d :: ds, l => ∃ d' ds', l = d' :: ds' ∧ GvE hp d d' ∧ GvEs hp ds ds'
theorem GvE.ok {w : World} {g : Gh} {hp hp' : Nat → Option Blk} (hs : ∀ id, hp' id ≠ none → hp id ≠ none) (hd : ∀ id blk, hp id = some blk → holds (cx w g hp) id blk) (hinj : ∀ id id' b o o', hp id ≠ none → hp id' ≠ none → g.σ id = some (b, o) → g.σ id' = some (b, o') → id = id') (ho : ∀ b, ownB g hp b → g.Z b) {d d' : D} (h : GvE hp d d') (hi : ∀ i ∈ d.ids, hp' i = none) (v : Value) (hv : rep (cx w g hp) d v) : rep { cx w g hp' with rf := false } d' v := by
 rcases h with ⟨s, l, c, rfl, rfl⟩ | ⟨j, s, n, oc, e, its, rfl, hb, rfl, hpl, rfl⟩
 ·have h1 : rep (cx w g hp') (.imm s l c) v := by
   refine rep_le (C := cx w g hp) (C' := cx w g hp') ⟨fun m _ Z' hZ' => ⟨Z', hZ', fun b k1 k2 k3 => ⟨?_, k2, .refl k3⟩⟩, fun _ _ => rfl, fun x => x, fun x => x, fun _ _ _ => rfl⟩ _ _ hv
   rintro ⟨id, o, k3, k4⟩
   exact k1 ⟨id, o, hs id k3, k4⟩
  simp only [rep] at h1 ⊢
  exact h1
 ·simp only [rep] at hv ⊢
  obtain ⟨_, ad, cap, rfl, h1, h2, h3, _, h4⟩ := hv
  refine ⟨ad, cap, rfl, h1, h2, by simp, by simp, by simp, h3, by simp, ?_⟩
  by_cases hz0 : its = []
  ·exact .inl hz0
  right
  intro Z hZ
  have hZe : Z = g.Z := by
   have : (some g.Z : Option (Nat → Prop)) = some Z := hZ
   exact (Option.some.inj this).symm
  subst hZe
  rcases h4 with h4 | ⟨b, T, nn, hσ, rfl, hsh, hn⟩
  ·exact absurd (List.length_eq_zero_iff.1 (by omega)) hz0
  rcases hd j _ hb with ⟨e', _⟩ | ⟨b', cs, hσ', hblk, hsz, hel⟩
  ·exact absurd e' hz0
  have e' := hσ'.symm.trans hσ
  simp only [Option.some.injEq, Prod.mk.injEq] at e'
  obtain ⟨rfl, _⟩ := e'
  refine ⟨_, rfl, rfl, ?_, ho _ ⟨j, 0, by rw [hb]; simp, hσ⟩, ⟨(Array.getElem?_eq_some_iff.1 hblk).1, fun h => by simp at h⟩, ?_⟩
  ·rintro ⟨id2, o2, k1, k2⟩
   have := hinj j id2 b' 0 o2 (by rw [hb]; simp) (hs id2 k1) hσ k2
   subst this
   exact k1 (hi j (by simp [D.ids]))
  ·rw [Nat.zero_mul]
   exact elems_pl (C := { cx w g hp with rf := !true }) (C' := ({ cx w g hp' with rf := false } : Cx).at g.Z) rfl its _ _ _ hpl hel
theorem GvEs.ok {w : World} {g : Gh} {hp hp' : Nat → Option Blk} (hs : ∀ id, hp' id ≠ none → hp id ≠ none) (hd : ∀ id blk, hp id = some blk → holds (cx w g hp) id blk) (hinj : ∀ id id' b o o', hp id ≠ none → hp id' ≠ none → g.σ id = some (b, o) → g.σ id' = some (b, o') → id = id') (ho : ∀ b, ownB g hp b → g.Z b) : ∀ {l l' : List D}, GvEs hp l l' → (∀ i ∈ D.idsL l, hp' i = none) → ∀ b o s, elems (cx w g hp) l b o s → elems { cx w g hp' with rf := false } l' b o s
 | [], l', h, _, b, o, s, _ => by
  obtain rfl : l' = [] := h
  simp only [elems]
 | d :: ds, l', h, hi, b, o, s, he => by
  obtain ⟨d', ds', rfl, h1, h2⟩ := h
  simp only [elems] at he ⊢
  obtain ⟨⟨v, k1, k2, k3, k4⟩, k5⟩ := he
  exact ⟨⟨v, h1.ok hs hd hinj ho (fun i hx => hi i (by simp [D.idsL, hx])) v k1, k2, k3, k4⟩, GvEs.ok hs hd hinj ho h2 (fun i hx => hi i (by simp [D.idsL, hx])) b (o + s) s k5⟩
theorem GvEs.imms {hp : Nat → Option Blk} {α : Type} (f : α → D) (hf : ∀ x, ∃ s l c, f x = .imm s l c) : ∀ l : List α, GvEs hp (l.map f) (l.map f)
 | [] => rfl
 | x :: l => ⟨_, _, rfl, .inl (by obtain ⟨s, l', c, h⟩ := hf x; exact ⟨s, l', c, h, rfl⟩), GvEs.imms f hf l⟩
theorem GvEs.setN {hp : Nat → Option Blk} {α : Type} (f : α → D) (hf : ∀ x, ∃ s l c, f x = .imm s l c) {d d' : D} (hd : GvE hp d d') : ∀ (l : List α) (k : Nat), GvEs hp (Tm.setN (l.map f) k d) (Tm.setN (l.map f) k d')
 | [], k => by simp [Tm.setN, GvEs]
 | x :: l, 0 => by
  simp only [Tm.setN, List.map_cons, List.set_cons_zero]
  exact ⟨_, _, rfl, hd, GvEs.imms f hf l⟩
 | x :: l, k + 1 => by
  have := GvEs.setN f hf hd l k
  simp only [Tm.setN, List.map_cons, List.set_cons_succ] at this ⊢
  exact ⟨_, _, rfl, .inl (by obtain ⟨s, l', c, h⟩ := hf x; exact ⟨s, l', c, h, rfl⟩), this⟩
end Go.Tm
end
section
namespace Go.Tm
open Go.RowKit Go.WideShapes
def LendR (H : List (Nat × Blk)) (d d' : D) : Prop := ∀ (fr : Nat) (w : World) (g : Gh) (hp : Nat → Option Blk) (nu : Nat → Bool), Mem fr w g hp nu → (∀ id b, getL H id = some b → hp id = some b) → ∀ v, rep (cx w g hp) d v → rep (cx0 w w.heap.size) d' v
def LendRs (H : List (Nat × Blk)) (l l' : List D) : Prop := ∀ (fr : Nat) (w : World) (g : Gh) (hp : Nat → Option Blk) (nu : Nat → Bool), Mem fr w g hp nu → (∀ id b, getL H id = some b → hp id = some b) → ∀ vs, reps (cx w g hp) l vs → reps (cx0 w w.heap.size) l' vs
theorem LendRs.nil {H : List (Nat × Blk)} : LendRs H [] [] := fun _ _ _ _ _ _ _ vs h => by simp only [reps] at h ⊢; exact h
theorem LendRs.cons {H : List (Nat × Blk)} {d d' : D} {l l' : List D} (h : LendR H d d') (hl : LendRs H l l') : LendRs H (d :: l) (d' :: l') := fun fr w g hp nu hM hH vs hv => by
 simp only [reps] at hv ⊢
 obtain ⟨v, vs', rfl, h1, h2⟩ := hv
 exact ⟨v, vs', rfl, h fr w g hp nu hM hH v h1, hl fr w g hp nu hM hH vs' h2⟩
theorem LendR.agg {H : List (Nat × Blk)} {l l' : List D} (h : LendRs H l l') : LendR H (.agg l) (.agg l') := fun fr w g hp nu hM hH v hv => by
 simp only [rep] at hv ⊢
 obtain ⟨cs, rfl, h1⟩ := hv
 exact ⟨cs, rfl, h fr w g hp nu hM hH cs h1⟩
theorem LendR.of {H : List (Nat × Blk)} {d d' : D} (h : ∀ hp, lend hp d = (d', true)) : LendR H d d' := fun fr w g hp nu hM _ v hv => by
 have hR : Rel ⟨w, fr, fun _ => True, g, nu⟩ 0 ⟨fun _ => .undef, hp, nu⟩ ⟨#[], []⟩ w g := by
  refine ⟨Nat.zero_le _, rfl, fun t => ?_, hM, fun _ _ _ _ _ => .inr trivial, ⟨rfl, rfl, rfl, Nat.le_refl _, fun _ _ _ => rfl, fun _ _ => rfl⟩, ⟨rfl, rfl⟩, fun _ _ => rfl, fun _ h => h⟩
  simp only [rep]
 have h1 : d' = (lend hp d).1 := by rw [h]
 rw [h1]
 exact lend_ok w.heap.size hR d v hv (by rw [h])
section
variable {P : Program} {tab : Nat → TI} {lim : Nat}
end
end Go.Tm
end
