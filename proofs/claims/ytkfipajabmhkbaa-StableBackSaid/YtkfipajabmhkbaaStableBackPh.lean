/- Texts of the proof. -/
import Derived.Test.YtkfipajabmhkbaaStableBackPg
section
namespace Go.Proofs
open Go.Tm
set_option linter.unusedVariables false
def m_cmp_isNaN_int (a0 : Int) : Option Bool :=
 some (a0 != a0)
def m_cmp_Compare_int (a0 : Int) (a1 : Int) : Option Int :=
 Option.bind (m_cmp_isNaN_int a0) fun v1 =>
 Option.bind (m_cmp_isNaN_int a1) fun v2 =>
 if v1 = true then
 if v2 = true then
 some 0
 else
 some (-1)
 else
 if v2 = true then
 some 1
 else
 if a0 < a1 then
 some (-1)
 else
 if a0 > a1 then
 some 1
 else
 some 0
def m_cmp_Or_int_loop1 : List Int → Option (Int ⊕ Unit)
 | [] =>
  some (.inr ())
 | y1 :: rest1 =>
  if ¬ (y1 = 0) then
  some (.inl y1)
  else
  m_cmp_Or_int_loop1 rest1 
def m_cmp_Or_int (a0 : List Int) : Option Int :=
 Option.bind (α := Int ⊕ Unit) (m_cmp_Or_int_loop1 a0 ) fun z => match z with
 | (.inl r) => some r
 | (.inr _) =>
 some 0
def m_stable_place (a0 : TSeen) (a1 : TSeen) : Option Int :=
 Option.bind (m_cmp_Compare_int a0.Group a1.Group) fun v1 =>
 Option.bind (m_cmp_Compare_int a0.Slot a1.Slot) fun v2 =>
 Option.bind (m_cmp_Or_int [v1, v2]) fun v3 =>
 some v3
def m_slices_BinarySearchFunc_Seen_Seen_Seen_loop1 (a0 : List TSeen) (a1 : TSeen) (a2 : TSeen → TSeen → Option Int) : Nat → Int → Int → Option (Int)
 | 0, _, _ => none
 | fu1 + 1, n2, n3 =>
  if n2 < n3 then
  if (0 ≤ (wr .i64 (shw false .u64 (wr .u64 (wr .i64 (n2 + n3))) 1)) ∧ (wr .i64 (shw false .u64 (wr .u64 (wr .i64 (n2 + n3))) 1)) < (a0.length : Int)) then
  Option.bind (a2 (a0.getD (wr .i64 (shw false .u64 (wr .u64 (wr .i64 (n2 + n3))) 1)).toNat default) a1) fun v1 =>
  if v1 < 0 then
  m_slices_BinarySearchFunc_Seen_Seen_Seen_loop1 a0 a1 a2 fu1 (wr .i64 ((wr .i64 (shw false .u64 (wr .u64 (wr .i64 (n2 + n3))) 1)) + 1)) n3
  else
  m_slices_BinarySearchFunc_Seen_Seen_Seen_loop1 a0 a1 a2 fu1 n2 (wr .i64 (shw false .u64 (wr .u64 (wr .i64 (n2 + n3))) 1))
  else none
  else
  some n2
def m_slices_BinarySearchFunc_Seen_Seen_Seen (a0 : List TSeen) (a1 : TSeen) (a2 : TSeen → TSeen → Option Int) : Option (Int × Bool) :=
 Option.bind (α := Int) (m_slices_BinarySearchFunc_Seen_Seen_Seen_loop1 a0 a1 a2 (a0.length + 1) 0 (a0.length : Int)) fun n1 =>
 if (n1 < (a0.length : Int)) → (0 ≤ n1 ∧ n1 < (a0.length : Int)) then
 Option.bind (if n1 < (a0.length : Int) then a2 (a0.getD n1.toNat default) a1 else some default) fun v2 =>
 some (n1, ((decide (n1 < (a0.length : Int))) && (v2 == 0)))
 else none
def m_slices_IndexFunc_string_string_loop1 (a1 : (List UInt8) → Option Bool) : List (List UInt8) → Nat → Option (Int ⊕ Unit)
 | [], n1 =>
  some (.inr ())
 | y1 :: rest1, n1 =>
  Option.bind (a1 (y1)) fun v1 =>
  if v1 = true then
  some (.inl (n1 : Int))
  else
  m_slices_IndexFunc_string_string_loop1 a1 rest1 (n1 + 1) 
def m_slices_IndexFunc_string_string (a0 : List (List UInt8)) (a1 : (List UInt8) → Option Bool) : Option Int :=
 Option.bind (α := Int ⊕ Unit) (m_slices_IndexFunc_string_string_loop1 a1 a0 0 ) fun z => match z with
 | (.inl r) => some r
 | (.inr _) =>
 some (-1)
def m_slices_ContainsFunc_string_string (a0 : List (List UInt8)) (a1 : (List UInt8) → Option Bool) : Option Bool :=
 Option.bind (m_slices_IndexFunc_string_string a0 a1) fun v1 =>
 some (decide (v1 ≥ 0))
def m_stable_Check_1 (a0 : List UInt8) : Option Bool :=
 some (decide ((a0.length : Int) > 1024))
def m_vote_Check (a0 : TVote) : Option Int :=
 Option.bind (if ¬ (a0.Promised = 0) then m_ballot_Check a0.Promised else some default) fun v1 =>
 Option.bind (α := Bool) (if a0.Ballot = 0 then
 some (((a0.Promised == 0) || (v1 == 0)) && (a0.Value == []))
 else
 Option.bind (if (a0.Promised = 0) ∨ (v1 = 0) then m_ballot_Check a0.Ballot else some default) fun v2 =>
 some (((((a0.Promised == 0) || (v1 == 0)) && (v2 == 0)) && (decide (a0.Ballot ≤ a0.Promised))) && (decide ((a0.Value.length : Int) ≤ 1024)))) fun b1 =>
 if ¬ (b1 = true) then
 some 8
 else
 some 0
def m_record_has (a0 : Int) : Option (Bool × Bool) :=
 some (((a0 == 1) || (a0 == 2)), ((a0 == 2) || (a0 == 3)))
def m_record_Check (a0 : TRecord) : Option Int :=
 Option.bind (m_record_has a0.Kind) fun v1 =>
 Option.bind (if (((((((((v1.1 = true) ∨ (v1.2 = true)) ∧ (a0.Group ≥ 0)) ∧ (a0.Group < 4)) ∧ (a0.Slot ≥ 1)) ∧ (a0.Slot ≤ 200)) ∧ ((a0.Value.length : Int) ≤ 1024)) ∧ ((v1.2 = true) ∨ (a0.Value = []))) ∧ (¬ ((¬ (v1.1 = true)) ∧ (a0.Ballot = 0)))) ∧ (v1.1 = true) then m_ballot_Check a0.Ballot else some default) fun v2 =>
 if ¬ (((((((((v1.1 = true) ∨ (v1.2 = true)) ∧ (a0.Group ≥ 0)) ∧ (a0.Group < 4)) ∧ (a0.Slot ≥ 1)) ∧ (a0.Slot ≤ 200)) ∧ ((a0.Value.length : Int) ≤ 1024)) ∧ ((v1.2 = true) ∨ (a0.Value = []))) ∧ (((¬ (v1.1 = true)) ∧ (a0.Ballot = 0)) ∨ ((v1.1 = true) ∧ (v2 = 0)))) then
 some 8
 else
 some 0
def m_stable_Check_loop1 : List (List (List UInt8)) → Option (Int ⊕ Unit)
 | [] =>
  some (.inr ())
 | y1 :: rest1 =>
  Option.bind (if ¬ (((y1).length : Int) > 200) then m_slices_ContainsFunc_string_string (y1) m_stable_Check_1 else some default) fun v1 =>
  if (((y1).length : Int) > 200) ∨ (v1 = true) then
  some (.inl 8)
  else
  m_stable_Check_loop1 rest1 
def m_stable_Check_loop2 (a0 : TStable) : List TSeen → Nat → Option (Int ⊕ Unit)
 | [], n2 =>
  some (.inr ())
 | y2 :: rest2, n2 =>
  if (¬ ((y2.Group < 0) ∨ (y2.Group ≥ (a0.Logs.length : Int)))) → (0 ≤ y2.Group ∧ y2.Group < (a0.Logs.length : Int)) then
  Option.bind (if ¬ (((((y2.Group < 0) ∨ (y2.Group ≥ (a0.Logs.length : Int))) ∨ (y2.Slot ≤ ((a0.Logs.getD (y2.Group).toNat default).length : Int))) ∨ (y2.Slot > 200)) ∨ (y2.Vote.Promised = 0)) then m_vote_Check (y2.Vote) else some default) fun v2 =>
  Option.bind (if (¬ ((((((y2.Group < 0) ∨ (y2.Group ≥ (a0.Logs.length : Int))) ∨ (y2.Slot ≤ ((a0.Logs.getD (y2.Group).toNat default).length : Int))) ∨ (y2.Slot > 200)) ∨ (y2.Vote.Promised = 0)) ∨ (¬ (v2 = 0)))) ∧ ((n2 : Int) > 0) then m_stable_place (a0.Votes.getD (n2 - 1) default) (y2) else some default) fun v3 =>
  if ((((((y2.Group < 0) ∨ (y2.Group ≥ (a0.Logs.length : Int))) ∨ (y2.Slot ≤ ((a0.Logs.getD (y2.Group).toNat default).length : Int))) ∨ (y2.Slot > 200)) ∨ (y2.Vote.Promised = 0)) ∨ (¬ (v2 = 0))) ∨ (((n2 : Int) > 0) ∧ (v3 ≥ 0)) then
  some (.inl 8)
  else
  m_stable_Check_loop2 a0 rest2 (n2 + 1) 
  else none
def m_stable_Check (a0 : TStable) : Option Int :=
 if ((a0.Logs.length : Int) < 1) ∨ ((a0.Logs.length : Int) > 4) then
 some 8
 else
 Option.bind (α := Int ⊕ Unit) (m_stable_Check_loop1 a0.Logs ) fun z => match z with
 | (.inl r) => some r
 | (.inr _) =>
 Option.bind (α := Int ⊕ Unit) (m_stable_Check_loop2 a0 a0.Votes 0 ) fun z => match z with
 | (.inl r) => some r
 | (.inr _) =>
 some 0
def m_stable_New (a0 : Int) : Option (TStable × Int) :=
 if (a0 < 1) ∨ (a0 > 4) then
 some ((⟨[], []⟩ : TStable), 2)
 else
 if (0 ≤ a0 ∧ a0 < 1000000) then
 some ((⟨((List.replicate a0.toNat []).take a0.toNat), []⟩ : TStable), 0)
 else none
def m_slices_Equal_string_string_loop1 (a1 : List (List UInt8)) : List (List UInt8) → Nat → Option (Bool ⊕ Unit)
 | [], n1 =>
  some (.inr ())
 | y1 :: rest1, n1 =>
  if n1 < a1.length then
  if ¬ (y1 = (a1.getD n1 default)) then
  some (.inl false)
  else
  m_slices_Equal_string_string_loop1 a1 rest1 (n1 + 1) 
  else none
def m_slices_Equal_string_string (a0 : List (List UInt8)) (a1 : List (List UInt8)) : Option Bool :=
 if ¬ ((a0.length : Int) = (a1.length : Int)) then
 some false
 else
 Option.bind (α := Bool ⊕ Unit) (m_slices_Equal_string_string_loop1 a1 a0 0 ) fun z => match z with
 | (.inl r) => some r
 | (.inr _) =>
 some true
def m_slices_Equal_Seen_Seen_loop1 (a1 : List TSeen) : List TSeen → Nat → Option (Bool ⊕ Unit)
 | [], n1 =>
  some (.inr ())
 | y1 :: rest1, n1 =>
  if n1 < a1.length then
  if ¬ ((y1.Group = (a1.getD n1 default).Group) ∧ (y1.Slot = (a1.getD n1 default).Slot) ∧ (y1.Vote.Promised = (a1.getD n1 default).Vote.Promised) ∧ (y1.Vote.Ballot = (a1.getD n1 default).Vote.Ballot) ∧ (y1.Vote.Value = (a1.getD n1 default).Vote.Value)) then
  some (.inl false)
  else
  m_slices_Equal_Seen_Seen_loop1 a1 rest1 (n1 + 1) 
  else none
def m_slices_Equal_Seen_Seen (a0 : List TSeen) (a1 : List TSeen) : Option Bool :=
 if ¬ ((a0.length : Int) = (a1.length : Int)) then
 some false
 else
 Option.bind (α := Bool ⊕ Unit) (m_slices_Equal_Seen_Seen_loop1 a1 a0 0 ) fun z => match z with
 | (.inl r) => some r
 | (.inr _) =>
 some true
def m_slices_EqualFunc_string_string_string_string_loop1 (a1 : List (List (List UInt8))) (a2 : (List (List UInt8)) → (List (List UInt8)) → Option Bool) : List (List (List UInt8)) → Nat → Option (Bool ⊕ Unit)
 | [], n1 =>
  some (.inr ())
 | y1 :: rest1, n1 =>
  if n1 < a1.length then
  Option.bind (a2 (y1) (a1.getD n1 default)) fun v1 =>
  if ¬ (v1 = true) then
  some (.inl false)
  else
  m_slices_EqualFunc_string_string_string_string_loop1 a1 a2 rest1 (n1 + 1) 
  else none
def m_slices_EqualFunc_string_string_string_string (a0 : List (List (List UInt8))) (a1 : List (List (List UInt8))) (a2 : (List (List UInt8)) → (List (List UInt8)) → Option Bool) : Option Bool :=
 if ¬ ((a0.length : Int) = (a1.length : Int)) then
 some false
 else
 Option.bind (α := Bool ⊕ Unit) (m_slices_EqualFunc_string_string_string_string_loop1 a1 a2 a0 0 ) fun z => match z with
 | (.inl r) => some r
 | (.inr _) =>
 some true
def m_stable_Same (a0 : TStable) (a1 : TStable) : Option Bool :=
 Option.bind (m_slices_EqualFunc_string_string_string_string a0.Logs a1.Logs m_slices_Equal_string_string) fun v1 =>
 Option.bind (if v1 = true then m_slices_Equal_Seen_Seen a0.Votes a1.Votes else some default) fun v2 =>
 some (v1 && v2)
def m_towncrierref01_Great_loop1 : List (List UInt8) → Nat → Int → Option (Int)
 | [], n3, n2 =>
  some n2
 | y1 :: rest1, n3, n2 =>
  if ((n3 : Int) < 2000) then
  m_towncrierref01_Great_loop1 rest1 (n3 + 1) (wr .i64 (n2 + (min ((y1).length : Int) 100000)))
  else
  some n2
theorem m_towncrierref01_Great_loop1_n (n3 : Nat) (n2 : Int) : m_towncrierref01_Great_loop1 [] n3 n2 =
  (some n2 : Option (Int)) := rfl
theorem m_towncrierref01_Great_loop1_c (y1 : (List UInt8)) (rest1 : List (List UInt8)) (n3 : Nat) (n2 : Int) : m_towncrierref01_Great_loop1 (y1 :: rest1) n3 n2 =
  (if ((n3 : Int) < 2000) then
  m_towncrierref01_Great_loop1 rest1 (n3 + 1) (wr .i64 (n2 + (min ((y1).length : Int) 100000)))
  else
  some n2 : Option (Int)) := rfl
def m_towncrierref01_Great (l : List (List UInt8)) : Option Bool :=
 Option.bind (α := Int) (m_towncrierref01_Great_loop1 l 0 0) fun n1 =>
 some ((decide ((l.length : Int) > 1000)) || (decide (n1 > 100000)))
def m_towncrierref11_Great_loop1 : List (List (List UInt8)) → Nat → Option (Bool ⊕ Unit)
 | [], n1 =>
  some (.inr ())
 | y1 :: rest1, n1 =>
  if ((n1 : Int) < 20) then
  Option.bind (m_towncrierref01_Great (y1)) fun v1 =>
  if v1 = true then
  some (.inl true)
  else
  m_towncrierref11_Great_loop1 rest1 (n1 + 1) 
  else
  some (.inr ())
def m_towncrierref11_Great_loop2 : List TSeen → Nat → Int → Option (Int)
 | [], n4, n3 =>
  some n3
 | y2 :: rest2, n4, n3 =>
  if ((n4 : Int) < 2000) then
  m_towncrierref11_Great_loop2 rest2 (n4 + 1) (wr .i64 (n3 + (min ((y2.Vote.Value).length : Int) 100000)))
  else
  some n3
theorem m_towncrierref11_Great_loop2_n (n4 : Nat) (n3 : Int) : m_towncrierref11_Great_loop2 [] n4 n3 =
  (some n3 : Option (Int)) := rfl
theorem m_towncrierref11_Great_loop2_c (y2 : TSeen) (rest2 : List TSeen) (n4 : Nat) (n3 : Int) : m_towncrierref11_Great_loop2 (y2 :: rest2) n4 n3 =
  (if ((n4 : Int) < 2000) then
  m_towncrierref11_Great_loop2 rest2 (n4 + 1) (wr .i64 (n3 + (min ((y2.Vote.Value).length : Int) 100000)))
  else
  some n3 : Option (Int)) := rfl
def m_towncrierref11_Great (a0 : TStable) : Option Bool :=
 Option.bind (α := Bool ⊕ Unit) (m_towncrierref11_Great_loop1 a0.Logs 0 ) fun z => match z with
 | (.inl r) => some r
 | (.inr _) =>
 Option.bind (α := Int) (m_towncrierref11_Great_loop2 a0.Votes 0 0) fun n2 =>
 some (((decide ((a0.Logs.length : Int) > 10)) || (decide ((a0.Votes.length : Int) > 1000))) || (decide (n2 > 100000)))
def m_vote_asked (a0 : TVote) (a1 : Int) (a2 : List UInt8) : Option Int :=
 Option.bind (m_vote_Check a0) fun v1 =>
 if ¬ (v1 = 0) then
 some v1
 else
 Option.bind (m_ballot_Check a1) fun v2 =>
 if ¬ (v2 = 0) then
 some v2
 else
 if (a2.length : Int) > 1024 then
 some 3
 else
 if a1 < a0.Promised then
 some 70
 else
 some 0
def m_vote_Prepare (a0 : TVote) (a1 : Int) : Option (TVote × Int) :=
 Option.bind (m_vote_asked a0 a1 []) fun v1 =>
 if ¬ (v1 = 0) then
 some ((⟨0, 0, []⟩ : TVote), v1)
 else
 some ((⟨a1, a0.Ballot, a0.Value⟩ : TVote), 0)
def m_vote_Accept (a0 : TVote) (a1 : Int) (a2 : List UInt8) : Option (TVote × Int) :=
 Option.bind (m_vote_asked a0 a1 a2) fun v1 =>
 if ¬ (v1 = 0) then
 some ((⟨0, 0, []⟩ : TVote), v1)
 else
 some ((⟨a1, a1, a2⟩ : TVote), 0)
end Go.Proofs
end
section
namespace Go.Proofs
open Go.Tm Go.RowKit Go.WideShapes
set_option maxRecDepth 100000
set_option maxHeartbeats 4000000
set_option linter.unusedSimpArgs false
set_option linter.unusedVariables false
attribute [local go_sem] argVars runE runK isCallV stepE aop opd opdsL opds opdO ev ofVal keep List.any natbeq Bool.false_or Bool.true_or aggEq cond_true cond_false Bool.cond_false_right Bool.cond_true_left beq_true beq_false imp_self implies_true getR getL put St.app effL del nwB blt_dec Nat.lt_irrefl Nat.lt_add_one ble_dec Nat.le_refl Nat.beq_refl roomNZ appendIn capS capK mkZ_zero mkZL_zero zeroEl D.ids D.idsL bin arith sarith binT dpick Tm.part splice fillD oneD loadD storeD srcD sliceD idxOk decide_true gval dstAt D.cells List.map_cons List.map_nil List.take List.drop List.length_map List.append Int.toNat_natCast and_true true_and decide_false List.length_cons List.length_nil List.append_nil List.nil_append Bool.and_true Bool.true_and Bool.not_false Bool.not_true ne_eq not_false_eq_true BEq.rfl List.getElem?_cons_zero List.getElem?_cons_succ List.getElem?_nil Nat.zero_add List.all_cons List.all_nil List.isEmpty_cons List.isEmpty_nil Option.getD_some Option.getD_none List.any_cons List.any_nil List.drop_succ_cons List.drop_zero unfL unf okM okML low3 List.cons_append true_or or_true Nat.zero_mul Nat.zero_le findD_int findD_str  getD_int getD_str getD_bool Option.isSome_map keyD List.length_replicate List.map_replicate setEl List.length_set bytesD_map map_ub mx_len mkZ_one mkZL_one mkM mkML mk1_int mk1_str mk1_bool drop_map take_map take_map_len List.take_length Int.toNat_zero toNat_pred fpOf metIds opIds mvV mvH mvF pickL D.ren D.renL Blk.ren List.map_append List.length_append Bool.not_not Bool.or_not_self Bool.not_or_self Bool.or_true
attribute [local go_sem] Try.tm_1 Try.tm_2 Try.tm_3 Try.tm_4 Try.tm_5 Try.tm_6 Try.tm_7 Try.tm_8 Try.tm_9 Try.tm_10 Try.tm_11 Try.tm_12 Try.tm_13 Try.tm_14 Try.tm_15 Try.tm_16 Try.tm_17 Try.tm_18 Try.tm_19 Try.tm_20 Try.tm_21 Try.tm_22 Try.tm_23 Try.tm_24 Try.tm_25 Try.tm_26 Try.tm_27 Try.tm_28 Try.tm_29 Try.tm_30 Try.tm_32 Try.tm_33 Try.tm_34 Try.tm_35 Try.tm_36 Try.tm_37 Try.tm_39 Try.tm_40 Try.tm_41 Try.tm_43 Try.tm_45 Try.tm_46 Try.tm_47 Try.tm_48 Try.tm_49 Try.tm_50 Try.tm_51 Try.tm_52 Try.tm_53 Try.tm_55 Try.tm_57 Try.tm_58 Try.tm_60 Try.tm_61 Try.tm_63 Try.tm_64 Try.tm_65 Try.tm_66 Try.tm_67 Try.tm_68 Try.tm_69 Try.tm_70 Try.tm_71 Try.tm_72 Try.tm_73 Try.tm_74 Try.tm_76 Try.tm_77 Try.tm_78 Try.tm_79 Try.tm_80 Try.tm_81 Try.tm_82 Try.tm_83 Try.tm_84 Try.tm_85 Try.tm_86 Try.tm_87 Try.tm_89 Try.tm_91 Try.tm_92 Try.tm_93 Try.tm_94 Try.tm_95 Try.tm_96 Try.tm_98 Try.tm_99 Try.tm_101 Try.tm_103 Try.tm_104 Try.tm_105 Try.tm_106 Try.tm_107 Try.tm_108 Try.tm_109 Try.tm_110 Try.tm_111 Try.tm_112 Try.tm_113 Try.tm_114 Try.tm_115 Try.tm_116 Try.tm_117 Try.tm_118 Try.tm_119 Try.tm_120 Try.tm_121 Try.tm_123 Try.tm_124 Try.tm_125 Try.tm_126 Try.tm_127 Try.tm_128 Try.tm_129 Try.tm_130 Try.tm_132 Try.tm_134 Try.tm_135 Try.tm_136 Try.tm_137 Try.tm_138 Try.tm_139 Try.tm_140 Try.tm_143 Try.tm_144 Try.tm_145 Try.tm_146 Try.tm_147 Try.tm_148 Try.tm_149 Try.tm_150 Try.tm_151 dL_str nL_str TVote.d TSeen.d TStable.d TStable.n TRecord.d mk1_dL_str mk1_TVote mk1_TSeen mk1_TStable mk1_TRecord Try.f86 Try.f70 Try.f69 Try.f38 Try.f39 Try.f68 Try.f35 Try.f36 Try.f37 Try.f61 Try.f33 Try.f11 Try.f23 Try.f13 Try.f46 Try.f45 Try.f17 Try.f52 Try.f53 Try.f51 Try.f20 Try.f49 Try.f40 Try.f50 Try.f48 Try.f19 Try.f24 Try.f12 Try.f47 Try.f18 Try.f41 Try.f44 Try.f16 Try.f22 Try.f9 Try.f83 Try.f64 Try.f65 Try.f72 Try.f42 Try.f43
theorem callP_cmp_isNaN_int (a0 : Int) (r : Bool) (h : m_cmp_isNaN_int a0 = some r) : CallP Try.prog 86 [.int .i64 a0] (.bool r) := by
 refine callP_intro Try.tmOk 2 Try.func86 rfl (by decide) rfl rfl (Nat.le_of_ble_eq_true rfl) ?_
 intro hwf
 unfold m_cmp_isNaN_int at h
 refine .seq ?_
 refine .pl Try.S [0] ?_
 refine .seq ?_
 refine .pl Try.S [0] ?_
 have hq := Option.some.inj h
 subst r
 exact .ret ⟨.inr rfl, rsi⟩
theorem callP_cmp_Compare_int (a0 : Int) (a1 : Int) (r : Int) (h : m_cmp_Compare_int a0 a1 = some r) : CallP Try.prog 70 [.int .i64 a0, .int .i64 a1] (.int .i64 r) := by
 refine callP_intro Try.tmOk 2 Try.func70 rfl (by decide) rfl rfl (Nat.le_of_ble_eq_true rfl) ?_
 intro hwf
 unfold m_cmp_Compare_int at h
 refine .seq ?_
 refine .pl Try.S [0, 1] ?_
 refine .seq ?_
 obtain ⟨v1, hv1, h⟩ := bind_some h
 refine .rg Try.S [0, 1] ?_
 refine .rn 1 ?_
 refine .call (r := .bool v1) rfl rfl rfl rfl rfl rfl (callP_cmp_isNaN_int a0 v1 hv1) ?_
 refine .rn 1 ?_
 refine .nil ⟨nofun, ?_⟩
 refine .seq ?_
 obtain ⟨v2, hv2, h⟩ := bind_some h
 refine .rg Try.S [0, 1, 5] ?_
 refine .rn 1 ?_
 refine .call (r := .bool v2) rfl rfl rfl rfl rfl rfl (callP_cmp_isNaN_int a1 v2 hv2) ?_
 refine .rn 1 ?_
 refine .nil ⟨nofun, ?_⟩
 refine .seq ?_
 refine .seq ?_
 refine .pl Try.S [0, 1, 5, 6] ?_
 refine .cond rfl rfl (fun hc1 => ?_) (fun hc1 => ?_)
 ·skip
  replace h := ite_lc h hc1
  refine .seq ?_
  refine .seq ?_
  refine .pl Try.S [6] ?_
  refine .cond rfl rfl (fun hc2 => ?_) (fun hc2 => ?_)
  ·skip
   replace h := ite_lc h hc2
   refine .seq ?_
   refine .pl Try.S [] ?_
   have hq := Option.some.inj h
   subst r
   exact .ret ⟨.inr rfl, rsi⟩
  ·skip
   replace h := ite_rc h hc2
   refine .skip ?_
   refine .seq ?_
   refine .pl Try.S [] ?_
   have hq := Option.some.inj h
   subst r
   exact .ret ⟨.inr rfl, rsi⟩
 ·skip
  replace h := ite_rc h hc1
  refine .skip ?_
  refine .seq ?_
  refine .seq ?_
  refine .pl Try.S [0, 1, 6] ?_
  refine .cond rfl rfl (fun hc3 => ?_) (fun hc3 => ?_)
  ·skip
   replace h := ite_lc h hc3
   refine .seq ?_
   refine .pl Try.S [] ?_
   have hq := Option.some.inj h
   subst r
   exact .ret ⟨.inr rfl, rsi⟩
  ·skip
   replace h := ite_rc h hc3
   refine .skip ?_
   refine .seq ?_
   refine .seq ?_
   refine .pl Try.S [0, 1] ?_
   refine .cond rfl rfl (fun hc4 => ?_) (fun hc4 => ?_)
   ·skip
    replace h := ite_lc h hc4
    refine .seq ?_
    refine .pl Try.S [] ?_
    have hq := Option.some.inj h
    subst r
    exact .ret ⟨.inr rfl, rsi⟩
   ·skip
    replace h := ite_rc h hc4
    refine .skip ?_
    refine .seq ?_
    refine .seq ?_
    refine .pl Try.S [0, 1] ?_
    refine .cond rfl rfl (fun hc5 => ?_) (fun hc5 => ?_)
    ·skip
     replace h := ite_lc h hc5
     refine .seq ?_
     refine .pl Try.S [] ?_
     have hq := Option.some.inj h
     subst r
     exact .ret ⟨.inr rfl, rsi⟩
    ·skip
     replace h := ite_rc h hc5
     refine .skip ?_
     refine .seq ?_
     refine .pl Try.S [] ?_
     have hq := Option.some.inj h
     subst r
     exact .ret ⟨.inr rfl, rsi⟩
def Try.St_cmp_Or_int_1 : St := ⟨[(3, .int .i64 0)], [], 0⟩
attribute [local go_sem] Try.St_cmp_Or_int_1
def Try.St_cmp_Or_int_3 (a0 : List Int) (n1 : Nat) : St := ⟨[(3, .int .i64 0), (6, .imm 1 (a0.map (D.int .i64)) 4), (7, .int .i64 (a0.length : Int)), (8, .int .i64 (n1 : Int))], [], 0⟩
attribute [local go_sem] Try.St_cmp_Or_int_3
theorem callP_cmp_Or_int (a0 : List Int) (r : Int) (h : m_cmp_Or_int a0 = some r) : CallP Try.prog 69 [.imm 1 (a0.map (D.int .i64)) 4] (.int .i64 r) := by
 refine callP_intro Try.tmOk 2 Try.func69 rfl (by decide) rfl rfl (Nat.le_of_ble_eq_true rfl) ?_
 intro hwf
 unfold m_cmp_Or_int at h
 refine .seq ?_
 refine .pl Try.S [0] ?_
 refine .seq ?_
 refine .pl Try.S [0] ?_
 obtain ⟨x1, hx1, h⟩ := bind_some h
 refine .seqM 0 (fun (j : Unit) => Try.St_cmp_Or_int_1) (fun j => x1 = (.inr j)) (Nat.le_of_ble_eq_true rfl) ?_ ?_
 ·skip
  refine .seq ?_
  refine .pl Try.S [0, 3] ?_
  refine .block ?_
  refine .loopG 0 (fun (j : Nat) => Try.St_cmp_Or_int_3 a0 j) (fun j => j ≤ a0.length ∧ m_cmp_Or_int_loop1 (a0.drop j)  = some x1) (fun j => a0.length - j) (0) (Nat.le_of_ble_eq_true rfl) ?_ ⟨Nat.zero_le _, hx1⟩ ?_
  ·skip
   exact .m [3, 6, 7, 8] [] []
  rintro n1 ⟨hi1, hx1⟩
  simp only [Try.St_cmp_Or_int_3]
  refine .wf 7 (.int .i64 (a0.length : Int)) rfl ?_
  intro hln1
  replace hln1 : (a0.length : Int) ≤ 9223372036854775807 := by simp only [wf, wfL, IntKind.max, IntKind.min, IntKind.signed, IntKind.bits, List.length_map] at hln1; first | exact hln1.2 | exact hln1.1 | (simp at hln1; omega)
  refine .seq ?_
  refine .pl Try.S [3, 6, 7, 8] ?_
  refine .seq ?_
  refine .cond rfl rfl (fun hc1 => ?_) (fun hc1 => ?_)
  ·skip
   have h1 : n1 < a0.length := by simpa using hc1
   have hwn1 : wr .i64 ((n1 : Int) + 1) = ((n1 + 1 : Nat) : Int) := wr_succ h1 hln1
   have hpn1 : wr .i64 ((n1 : Int) - 1) = (n1 : Int) - 1 := wr_pred h1 hln1
   rw [List.drop_eq_getElem_cons h1, m_cmp_Or_int_loop1] at hx1
   refine .skip ?_
   refine .seq ?_
   refine .block ?_
   refine .seq ?_
   have e1 := nth_map (D.int .i64) a0 n1 h1
   refine .plx Try.S (And.intro e1 hwn1) [3, 6, 7, 8] ?_
   refine .seq ?_
   refine .plx Try.S hwn1 [3, 5, 6, 7, 8] ?_
   refine .cond rfl rfl (fun hc2 => ?_) (fun hc2 => ?_)
   ·skip
    replace hx1 := ite_lc hx1 hc2
    refine .seq ?_
    refine .plx Try.S hwn1 [5] ?_
    have hq := Option.some.inj hx1
    subst x1
    try dsimp only at h
    have hq := Option.some.inj h
    subst r
    exact .ret ⟨.inr rfl, rsi⟩
   ·skip
    replace hx1 := ite_rc hx1 hc2
    refine .skip ?_
    refine .plx Try.S hwn1 [3, 6, 7, 8] ?_
    refine ⟨n1 + 1, ?_, ⟨by omega, hx1⟩, by dsimp only; omega⟩
    exact .m [3, 6, 7, 8] [] []
  ·skip
   have h2 : n1 = a0.length := by have h2b := of_decide_eq_false hc1; omega
   rw [List.drop_of_length_le (by omega), m_cmp_Or_int_loop1] at hx1
   refine .exit ?_
   refine ⟨_, ?_, (Option.some.inj hx1).symm⟩
   exact .m [3] [] []
 ·skip
  rintro ⟨⟩ hj1
  subst x1
  try dsimp only at h
  simp only [Try.St_cmp_Or_int_1]
  refine .seq ?_
  refine .pl Try.S [3] ?_
  have hq := Option.some.inj h
  subst r
  exact .ret ⟨.inr rfl, rsi⟩
theorem callP_stable_place (a0 : TSeen) (a1 : TSeen) (r : Int) (h : m_stable_place a0 a1 = some r) : CallP Try.prog 38 [.agg [.int .i64 a0.Group, .int .i64 a0.Slot, .int .i64 a0.Vote.Promised, .int .i64 a0.Vote.Ballot, .str a0.Vote.Value], .agg [.int .i64 a1.Group, .int .i64 a1.Slot, .int .i64 a1.Vote.Promised, .int .i64 a1.Vote.Ballot, .str a1.Vote.Value]] (.int .i64 r) := by
 refine callP_intro Try.tmOk 5 Try.func38 rfl (by decide) rfl rfl (Nat.le_of_ble_eq_true rfl) ?_
 intro hwf
 unfold m_stable_place at h
 refine .seq ?_
 refine .pl Try.S [0, 1] ?_
 refine .seq ?_
 obtain ⟨v1, hv1, h⟩ := bind_some h
 obtain ⟨v2, hv2, h⟩ := bind_some h
 obtain ⟨v3, hv3, h⟩ := bind_some h
 refine .rg Try.S [2, 3] ?_
 refine .rd 4 ?_
 refine .call (r := .int .i64 v1) rfl rfl rfl rfl rfl rfl (callP_cmp_Compare_int a0.Group a1.Group v1 hv1) ?_
 refine .rd 4 ?_
 refine .call (r := .int .i64 v2) rfl rfl rfl rfl rfl rfl (callP_cmp_Compare_int a0.Slot a1.Slot v2 hv2) ?_
 refine .rd 1 ?_
 refine .lcall (r := .int .i64 v3) [] rfl rfl rfl rfl rfl (lend2s_cons (lend2_of (lend_ref (pl_int .i64) (by first | rfl | (simp only [go_sem, Nat.reduceBEq]; rfl)) (by first | rfl | (simp; done) | (simp <;> omega))) trivial) lend2s_nil) rfl (callP_cmp_Or_int [v1, v2] v3 hv3) ?_
 refine .rd 1 ?_
 refine .nil ⟨fun _ => schedB_of (by kernel_rfl), ?_⟩
 have hq := Option.some.inj h
 subst r
 exact .ret ⟨.inr rfl, rsi⟩
def Try.St_slices_BinarySearchFunc_Seen_Seen_Seen_1 (a0 : List TSeen) (a1 : TSeen) (Ka2 : Nat) (ca2 : List D) (n1 : Int) : St := ⟨[(0, .imm 5 (a0.map TSeen.d) 4), (2, .fn (.func Ka2) ca2), (4, .ptr 0 0), (8, .int .i64 (a0.length : Int)), (9, .int .i64 n1)], [(0, .box [.int .i64 a1.Group, .int .i64 a1.Slot, .int .i64 a1.Vote.Promised, .int .i64 a1.Vote.Ballot, .str a1.Vote.Value])], 1⟩
attribute [local go_sem] Try.St_slices_BinarySearchFunc_Seen_Seen_Seen_1
def Try.St_slices_BinarySearchFunc_Seen_Seen_Seen_3 (a0 : List TSeen) (a1 : TSeen) (Ka2 : Nat) (ca2 : List D) (n2 : Int) (n3 : Int) : St := ⟨[(0, .imm 5 (a0.map TSeen.d) 4), (2, .fn (.func Ka2) ca2), (4, .ptr 0 0), (8, .int .i64 (a0.length : Int)), (9, .int .i64 n2), (10, .int .i64 n3)], [(0, .box [.int .i64 a1.Group, .int .i64 a1.Slot, .int .i64 a1.Vote.Promised, .int .i64 a1.Vote.Ballot, .str a1.Vote.Value])], 1⟩
attribute [local go_sem] Try.St_slices_BinarySearchFunc_Seen_Seen_Seen_3
theorem callP_slices_BinarySearchFunc_Seen_Seen_Seen (a0 : List TSeen) (a1 : TSeen) (Ka2 : Nat) (ca2 : List D) (hca2 : ∀ hp, lends hp ca2 = (ca2, true)) (h2a2 : ∀ hp, lend2s hp ca2 = (ca2, true)) (h3a2 : ∀ hp, ids2s hp ca2 = []) (a2 : TSeen → TSeen → Option Int) (ha2 : ∀ x0 x1 y, a2 x0 x1 = some y → CallP Try.prog Ka2 (.agg [.int .i64 x0.Group, .int .i64 x0.Slot, .int .i64 x0.Vote.Promised, .int .i64 x0.Vote.Ballot, .str x0.Vote.Value] :: .agg [.int .i64 x1.Group, .int .i64 x1.Slot, .int .i64 x1.Vote.Promised, .int .i64 x1.Vote.Ballot, .str x1.Vote.Value] :: ca2) (.int .i64 y)) (r : Int × Bool) (h : m_slices_BinarySearchFunc_Seen_Seen_Seen a0 a1 a2 = some r) : CallP Try.prog 39 [.imm 5 (a0.map TSeen.d) 4, .agg [.int .i64 a1.Group, .int .i64 a1.Slot, .int .i64 a1.Vote.Promised, .int .i64 a1.Vote.Ballot, .str a1.Vote.Value], .fn (.func Ka2) ca2] (.tuple [.int .i64 r.1, .bool r.2]) := by
 refine callP_intro Try.tmOk 3 Try.func39 rfl (by decide) rfl rfl (Nat.le_of_ble_eq_true rfl) ?_
 intro hwf
 unfold m_slices_BinarySearchFunc_Seen_Seen_Seen at h
 refine .seq ?_
 refine .pl Try.S [0, 1, 2] ?_
 refine .seq ?_
 refine .pl Try.S [0, 2, 4] ?_
 refine .seq ?_
 refine .pl Try.S [0, 2, 4, 8] ?_
 obtain ⟨x1, hx1, h⟩ := bind_some h
 refine .seqM 1 (fun (j : Int) => Try.St_slices_BinarySearchFunc_Seen_Seen_Seen_1 a0 a1 Ka2 ca2 j) (fun j => x1 = j) (Nat.le_of_ble_eq_true rfl) ?_ ?_
 ·skip
  refine .block ?_
  refine .loopG 1 (fun (j : Nat × Int × Int) => Try.St_slices_BinarySearchFunc_Seen_Seen_Seen_3 a0 a1 Ka2 ca2 j.2.1 j.2.2) (fun j => m_slices_BinarySearchFunc_Seen_Seen_Seen_loop1 a0 a1 a2 j.1 j.2.1 j.2.2 = some x1) (fun j => j.1) (a0.length + 1, 0, (a0.length : Int)) (Nat.le_of_ble_eq_true rfl) ?_ hx1 ?_
  ·skip
   refine Goes.mv [0, 2, 4, 8, 9, 10] [0] [] ?_ (Nat.le_of_ble_eq_true rfl) (Nat.le_of_ble_eq_true rfl) (by first | rfl | (simp only [idsV, idsH, pickL, getL, D.ids, Blk.ids, natbeq, Nat.reduceBEq, cond_true, cond_false, List.append_nil, List.nil_append, List.cons_append, idsL_lent hca2] <;> rfl))
   first | rfl | (simp only [go_sem, Nat.reduceBEq, Nat.reduceAdd, renL_lent hca2]; done) | (simp only [go_sem, Nat.reduceBEq, Nat.reduceAdd, renL_lent hca2]; rfl)
  rintro ⟨fu1, n2, n3⟩ hx1
  simp only [Try.St_slices_BinarySearchFunc_Seen_Seen_Seen_3]
  try simp only at hx1
  obtain ⟨fu1, rfl⟩ : ∃ k, fu1 = k + 1 := by cases fu1 with | zero => (rw [m_slices_BinarySearchFunc_Seen_Seen_Seen_loop1] at hx1; cases hx1) | succ k => exact ⟨k, rfl⟩
  rw [m_slices_BinarySearchFunc_Seen_Seen_Seen_loop1] at hx1
  refine .seq ?_
  refine .seq ?_
  refine .pl Try.S [0, 2, 4, 8, 9, 10] ?_
  refine .cond rfl rfl (fun hc1 => ?_) (fun hc1 => ?_)
  ·skip
   replace hx1 := ite_lc hx1 hc1
   refine .skip ?_
   refine .block ?_
   refine .seq ?_
   refine .pl Try.S [0, 2, 4, 8, 9, 10] ?_
   refine .seq ?_
   obtain ⟨k1, hx1⟩ := ite_ck hx1
   obtain ⟨v1, hv1, hx1⟩ := bind_some hx1
   have e1 := nth_mapI TSeen.d a0 (wr .i64 (shw false .u64 (wr .u64 (wr .i64 (n2 + n3))) 1))
   replace e1 := e1 k1
   refine .rg Try.S [0, 2, 4, 8, 9, 10, 11] ?_
   refine .rdx 6 e1 ?_
   refine .call (r := .int .i64 v1) rfl rfl rfl rfl rfl (lends_cons rfl (lends_cons rfl (hca2 _))) (ha2 _ _ v1 hv1) ?_
   refine .rdx 1 e1 ?_
   refine .nil ⟨fun _ => schedB_of (by kernel_rfl), ?_⟩
   refine .cond rfl rfl (fun hc2 => ?_) (fun hc2 => ?_)
   ·skip
    replace hx1 := ite_lc hx1 hc2
    refine .pl Try.S [0, 2, 4, 8, 10, 11] ?_
    refine ⟨(fu1, _, _), ?_, hx1, by dsimp only; omega⟩
    refine Goes.mv [0, 2, 4, 8, 9, 10] [0] [] ?_ (Nat.le_of_ble_eq_true rfl) (Nat.le_of_ble_eq_true rfl) (by first | rfl | (simp only [idsV, idsH, pickL, getL, D.ids, Blk.ids, natbeq, Nat.reduceBEq, cond_true, cond_false, List.append_nil, List.nil_append, List.cons_append, idsL_lent hca2] <;> rfl))
    first | rfl | (simp only [go_sem, Nat.reduceBEq, Nat.reduceAdd, renL_lent hca2]; done) | (simp only [go_sem, Nat.reduceBEq, Nat.reduceAdd, renL_lent hca2]; rfl)
   ·skip
    replace hx1 := ite_rc hx1 hc2
    refine .pl Try.S [0, 2, 4, 8, 9, 11] ?_
    refine ⟨(fu1, _, _), ?_, hx1, by dsimp only; omega⟩
    refine Goes.mv [0, 2, 4, 8, 9, 10] [0] [] ?_ (Nat.le_of_ble_eq_true rfl) (Nat.le_of_ble_eq_true rfl) (by first | rfl | (simp only [idsV, idsH, pickL, getL, D.ids, Blk.ids, natbeq, Nat.reduceBEq, cond_true, cond_false, List.append_nil, List.nil_append, List.cons_append, idsL_lent hca2] <;> rfl))
    first | rfl | (simp only [go_sem, Nat.reduceBEq, Nat.reduceAdd, renL_lent hca2]; done) | (simp only [go_sem, Nat.reduceBEq, Nat.reduceAdd, renL_lent hca2]; rfl)
  ·skip
   replace hx1 := ite_rc hx1 hc1
   refine .exit ?_
   refine ⟨_, ?_, (Option.some.inj hx1).symm⟩
   refine Goes.mv [0, 2, 4, 8, 9] [0] [] ?_ (Nat.le_of_ble_eq_true rfl) (Nat.le_of_ble_eq_true rfl) (by first | rfl | (simp only [idsV, idsH, pickL, getL, D.ids, Blk.ids, natbeq, Nat.reduceBEq, cond_true, cond_false, List.append_nil, List.nil_append, List.cons_append, idsL_lent hca2] <;> rfl))
   first | rfl | (simp only [go_sem, Nat.reduceBEq, Nat.reduceAdd, renL_lent hca2]; done) | (simp only [go_sem, Nat.reduceBEq, Nat.reduceAdd, renL_lent hca2]; rfl)
 ·skip
  rintro n1 hj1
  subst x1
  try dsimp only at h
  simp only [Try.St_slices_BinarySearchFunc_Seen_Seen_Seen_1]
  obtain ⟨k2, h⟩ := ite_ck h
  obtain ⟨v2, hv2, h⟩ := bind_some h
  refine .seqM 1 (fun (_ : Unit) => ⟨[(6, .int .i64 n1), (7, .bool ((decide (n1 < (a0.length : Int))) && (v2 == 0)))], [], 1⟩) (fun _ => True) (Nat.le_of_ble_eq_true rfl) ?_ (fun _ _ => ?_)
  ·skip
   by_cases hgd : n1 < (a0.length : Int)
   ·skip
    have eg10 := nth_mapI TSeen.d a0 n1 (k2 hgd)
    refine .rg Try.S [0, 2, 4, 8, 9] ?_
    refine .rdx 6 eg10 ?_
    refine .rdx 5 eg10 ?_
    refine .gcall (r := .int .i64 v2) rfl rfl rfl rfl rfl (fun hg => ⟨ca2, [.agg [.int .i64 ((a0.getD n1.toNat default).Group), .int .i64 ((a0.getD n1.toNat default).Slot), .int .i64 ((a0.getD n1.toNat default).Vote.Promised), .int .i64 ((a0.getD n1.toNat default).Vote.Ballot), .str ((a0.getD n1.toNat default).Vote.Value)], .agg [.int .i64 a1.Group, .int .i64 a1.Slot, .int .i64 a1.Vote.Promised, .int .i64 a1.Vote.Ballot, .str a1.Vote.Value]], _, gd hg, gd hg, (lends_cons rfl (lends_cons rfl (hca2 _))), ha2 _ _ v2 (ite_lc hv2 hg)⟩) ?_
    refine .rdx 4 eg10 ?_
    refine .nil ⟨fun _ => schedB_of (by kernel_rfl), ?_⟩
    refine ⟨(), ?_, trivial⟩
    refine Goes.mv [6, 7] [] [] ?_ (Nat.le_of_ble_eq_true rfl) (Nat.le_of_ble_eq_true rfl) (by first | rfl | (simp only [idsV, idsH, pickL, getL, D.ids, Blk.ids, natbeq, Nat.reduceBEq, cond_true, cond_false, List.append_nil, List.nil_append, List.cons_append, idsL_lent hca2] <;> rfl))
    first | rfl | (simp only [go_sem, Nat.reduceBEq, Nat.reduceAdd, renL_lent hca2]; done) | (simp only [go_sem, Nat.reduceBEq, Nat.reduceAdd, renL_lent hca2]; rfl)
   ·skip
    have hgf1 : (decide (n1 < (a0.length : Int))) = false := by first | simpa using hgd | (simp at hgd ⊢; omega) | grind
    rcases nth_or TSeen.d a0 n1.toNat with eg10 | eg10
    ·skip
     refine .rg Try.S [0, 2, 4, 8, 9] ?_
     refine .rdx 6 (And.intro eg10 hgf1) ?_
     refine .rdx 5 (And.intro eg10 hgf1) ?_
     refine .gcall (r := .int .i64 v2) rfl rfl rfl rfl rfl (fun hg => ⟨ca2, [.agg [.int .i64 ((a0.getD n1.toNat default).Group), .int .i64 ((a0.getD n1.toNat default).Slot), .int .i64 ((a0.getD n1.toNat default).Vote.Promised), .int .i64 ((a0.getD n1.toNat default).Vote.Ballot), .str ((a0.getD n1.toNat default).Vote.Value)], .agg [.int .i64 a1.Group, .int .i64 a1.Slot, .int .i64 a1.Vote.Promised, .int .i64 a1.Vote.Ballot, .str a1.Vote.Value]], _, gd hg, gd hg, (lends_cons rfl (lends_cons rfl (hca2 _))), ha2 _ _ v2 (ite_lc hv2 hg)⟩) ?_
     refine .rdx 4 (And.intro eg10 hgf1) ?_
     refine .nil ⟨fun _ => schedB_of (by kernel_rfl), ?_⟩
     refine ⟨(), ?_, trivial⟩
     refine Goes.mv [6, 7] [] [] ?_ (Nat.le_of_ble_eq_true rfl) (Nat.le_of_ble_eq_true rfl) (by first | rfl | (simp only [idsV, idsH, pickL, getL, D.ids, Blk.ids, natbeq, Nat.reduceBEq, cond_true, cond_false, List.append_nil, List.nil_append, List.cons_append, idsL_lent hca2] <;> rfl))
     first | rfl | (simp only [hgf1, go_sem, Nat.reduceBEq, Nat.reduceAdd, renL_lent hca2, Bool.false_and, Bool.true_or, Bool.and_false]; done) | (simp only [hgf1, go_sem, Nat.reduceBEq, Nat.reduceAdd, renL_lent hca2, Bool.false_and, Bool.true_or, Bool.and_false]; rfl)
    ·skip
     refine .rg Try.S [0, 2, 4, 8, 9] ?_
     refine .rdx 6 (And.intro eg10 hgf1) ?_
     refine .rdx 5 (And.intro eg10 hgf1) ?_
     refine .gcall (r := .int .i64 v2) rfl rfl rfl rfl rfl (fun hg => ⟨ca2, [.agg [.int .i64 ((a0.getD n1.toNat default).Group), .int .i64 ((a0.getD n1.toNat default).Slot), .int .i64 ((a0.getD n1.toNat default).Vote.Promised), .int .i64 ((a0.getD n1.toNat default).Vote.Ballot), .str ((a0.getD n1.toNat default).Vote.Value)], .agg [.int .i64 a1.Group, .int .i64 a1.Slot, .int .i64 a1.Vote.Promised, .int .i64 a1.Vote.Ballot, .str a1.Vote.Value]], _, gd hg, gd hg, (lends_cons rfl (lends_cons rfl (hca2 _))), ha2 _ _ v2 (ite_lc hv2 hg)⟩) ?_
     refine .rdx 4 (And.intro eg10 hgf1) ?_
     refine .nil ⟨fun _ => schedB_of (by kernel_rfl), ?_⟩
     refine ⟨(), ?_, trivial⟩
     refine Goes.mv [6, 7] [] [] ?_ (Nat.le_of_ble_eq_true rfl) (Nat.le_of_ble_eq_true rfl) (by first | rfl | (simp only [idsV, idsH, pickL, getL, D.ids, Blk.ids, natbeq, Nat.reduceBEq, cond_true, cond_false, List.append_nil, List.nil_append, List.cons_append, idsL_lent hca2] <;> rfl))
     first | rfl | (simp only [hgf1, go_sem, Nat.reduceBEq, Nat.reduceAdd, renL_lent hca2, Bool.false_and, Bool.true_or, Bool.and_false]; done) | (simp only [hgf1, go_sem, Nat.reduceBEq, Nat.reduceAdd, renL_lent hca2, Bool.false_and, Bool.true_or, Bool.and_false]; rfl)
  have hq := Option.some.inj h
  subst r
  exact .ret ⟨.inr rfl, rsi⟩
def Try.St_slices_IndexFunc_string_string_1 : St := ⟨[], [], 0⟩
attribute [local go_sem] Try.St_slices_IndexFunc_string_string_1
def Try.St_slices_IndexFunc_string_string_3 (a0 : List (List UInt8)) (Ka1 : Nat) (ca1 : List D) (n1 : Nat) : St := ⟨[(0, .imm 1 (a0.map D.str) 4), (1, .fn (.func Ka1) ca1), (7, .int .i64 (a0.length : Int)), (8, .int .i64 (n1 : Int))], [], 0⟩
attribute [local go_sem] Try.St_slices_IndexFunc_string_string_3
theorem callP_slices_IndexFunc_string_string (a0 : List (List UInt8)) (Ka1 : Nat) (ca1 : List D) (hca1 : ∀ hp, lends hp ca1 = (ca1, true)) (h2a1 : ∀ hp, lend2s hp ca1 = (ca1, true)) (h3a1 : ∀ hp, ids2s hp ca1 = []) (a1 : (List UInt8) → Option Bool) (ha1 : ∀ x0 y, a1 x0 = some y → CallP Try.prog Ka1 (.str x0 :: ca1) (.bool y)) (r : Int) (h : m_slices_IndexFunc_string_string a0 a1 = some r) : CallP Try.prog 68 [.imm 1 (a0.map D.str) 4, .fn (.func Ka1) ca1] (.int .i64 r) := by
 refine callP_intro Try.tmOk 2 Try.func68 rfl (by decide) rfl rfl (Nat.le_of_ble_eq_true rfl) ?_
 intro hwf
 unfold m_slices_IndexFunc_string_string at h
 refine .seq ?_
 refine .pl Try.S [0, 1] ?_
 obtain ⟨x1, hx1, h⟩ := bind_some h
 refine .seqM 0 (fun (j : Unit) => Try.St_slices_IndexFunc_string_string_1) (fun j => x1 = (.inr j)) (Nat.le_of_ble_eq_true rfl) ?_ ?_
 ·skip
  refine .seq ?_
  refine .pl Try.S [0, 1] ?_
  refine .block ?_
  refine .loopG 0 (fun (j : Nat) => Try.St_slices_IndexFunc_string_string_3 a0 Ka1 ca1 j) (fun j => j ≤ a0.length ∧ m_slices_IndexFunc_string_string_loop1 a1 (a0.drop j) j  = some x1) (fun j => a0.length - j) (0) (Nat.le_of_ble_eq_true rfl) ?_ ⟨Nat.zero_le _, hx1⟩ ?_
  ·skip
   refine Goes.mv [0, 1, 7, 8] [] [] ?_ (Nat.le_of_ble_eq_true rfl) (Nat.le_of_ble_eq_true rfl) (by first | rfl | (simp only [idsV, idsH, pickL, getL, D.ids, Blk.ids, natbeq, Nat.reduceBEq, cond_true, cond_false, List.append_nil, List.nil_append, List.cons_append, idsL_lent hca1] <;> rfl))
   first | rfl | (simp only [go_sem, Nat.reduceBEq, Nat.reduceAdd, renL_lent hca1]; done) | (simp only [go_sem, Nat.reduceBEq, Nat.reduceAdd, renL_lent hca1]; rfl)
  rintro n1 ⟨hi1, hx1⟩
  simp only [Try.St_slices_IndexFunc_string_string_3]
  refine .wf 7 (.int .i64 (a0.length : Int)) rfl ?_
  intro hln1
  replace hln1 : (a0.length : Int) ≤ 9223372036854775807 := by simp only [wf, wfL, IntKind.max, IntKind.min, IntKind.signed, IntKind.bits, List.length_map] at hln1; first | exact hln1.2 | exact hln1.1 | (simp at hln1; omega)
  refine .seq ?_
  refine .pl Try.S [0, 1, 7, 8] ?_
  refine .seq ?_
  refine .cond rfl rfl (fun hc1 => ?_) (fun hc1 => ?_)
  ·skip
   have h1 : n1 < a0.length := by simpa using hc1
   have hwn1 : wr .i64 ((n1 : Int) + 1) = ((n1 + 1 : Nat) : Int) := wr_succ h1 hln1
   have hpn1 : wr .i64 ((n1 : Int) - 1) = (n1 : Int) - 1 := wr_pred h1 hln1
   rw [List.drop_eq_getElem_cons h1, m_slices_IndexFunc_string_string_loop1] at hx1
   refine .skip ?_
   refine .seq ?_
   refine .block ?_
   refine .seq ?_
   refine .plx Try.S hwn1 [0, 1, 7, 8] ?_
   refine .seq ?_
   obtain ⟨v1, hv1, hx1⟩ := bind_some hx1
   have e1 := nth_map D.str a0 n1 h1
   refine .rg Try.S [0, 1, 5, 7, 8] ?_
   refine .rnx 5 (And.intro e1 hwn1) ?_
   refine .call (r := .bool v1) rfl rfl rfl rfl rfl (lends_cons rfl (hca1 _)) (ha1 _ v1 hv1) ?_
   refine .nil ⟨nofun, ?_⟩
   refine .cond rfl rfl (fun hc2 => ?_) (fun hc2 => ?_)
   ·skip
    replace hx1 := ite_lc hx1 hc2
    refine .seq ?_
    refine .plx Try.S hwn1 [5] ?_
    have hq := Option.some.inj hx1
    subst x1
    try dsimp only at h
    have hq := Option.some.inj h
    subst r
    exact .ret ⟨.inr rfl, rsi⟩
   ·skip
    replace hx1 := ite_rc hx1 hc2
    refine .skip ?_
    refine .plx Try.S hwn1 [0, 1, 7, 8] ?_
    refine ⟨n1 + 1, ?_, ⟨by omega, hx1⟩, by dsimp only; omega⟩
    refine Goes.mv [0, 1, 7, 8] [] [] ?_ (Nat.le_of_ble_eq_true rfl) (Nat.le_of_ble_eq_true rfl) (by first | rfl | (simp only [idsV, idsH, pickL, getL, D.ids, Blk.ids, natbeq, Nat.reduceBEq, cond_true, cond_false, List.append_nil, List.nil_append, List.cons_append, idsL_lent hca1] <;> rfl))
    first | rfl | (simp only [go_sem, Nat.reduceBEq, Nat.reduceAdd, renL_lent hca1]; done) | (simp only [go_sem, Nat.reduceBEq, Nat.reduceAdd, renL_lent hca1]; rfl)
  ·skip
   have h2 : n1 = a0.length := by have h2b := of_decide_eq_false hc1; omega
   rw [List.drop_of_length_le (by omega), m_slices_IndexFunc_string_string_loop1] at hx1
   refine .exit ?_
   refine ⟨_, ?_, (Option.some.inj hx1).symm⟩
   refine Goes.mv [] [] [] ?_ (Nat.le_of_ble_eq_true rfl) (Nat.le_of_ble_eq_true rfl) (by first | rfl | (simp only [idsV, idsH, pickL, getL, D.ids, Blk.ids, natbeq, Nat.reduceBEq, cond_true, cond_false, List.append_nil, List.nil_append, List.cons_append, idsL_lent hca1] <;> rfl))
   first | rfl | (simp only [go_sem, Nat.reduceBEq, Nat.reduceAdd, renL_lent hca1]; done) | (simp only [go_sem, Nat.reduceBEq, Nat.reduceAdd, renL_lent hca1]; rfl)
 ·skip
  rintro ⟨⟩ hj1
  subst x1
  try dsimp only at h
  simp only [Try.St_slices_IndexFunc_string_string_1]
  refine .seq ?_
  refine .pl Try.S [] ?_
  have hq := Option.some.inj h
  subst r
  exact .ret ⟨.inr rfl, rsi⟩
theorem callP_slices_ContainsFunc_string_string (a0 : List (List UInt8)) (Ka1 : Nat) (ca1 : List D) (hca1 : ∀ hp, lends hp ca1 = (ca1, true)) (h2a1 : ∀ hp, lend2s hp ca1 = (ca1, true)) (h3a1 : ∀ hp, ids2s hp ca1 = []) (a1 : (List UInt8) → Option Bool) (ha1 : ∀ x0 y, a1 x0 = some y → CallP Try.prog Ka1 (.str x0 :: ca1) (.bool y)) (r : Bool) (h : m_slices_ContainsFunc_string_string a0 a1 = some r) : CallP Try.prog 35 [.imm 1 (a0.map D.str) 4, .fn (.func Ka1) ca1] (.bool r) := by
 refine callP_intro Try.tmOk 2 Try.func35 rfl (by decide) rfl rfl (Nat.le_of_ble_eq_true rfl) ?_
 intro hwf
 unfold m_slices_ContainsFunc_string_string at h
 refine .seq ?_
 refine .pl Try.S [0, 1] ?_
 refine .seq ?_
 obtain ⟨v1, hv1, h⟩ := bind_some h
 refine .rg Try.S [0, 1] ?_
 refine .rn 2 ?_
 refine .lcall (r := .int .i64 v1) [] rfl rfl rfl rfl rfl (lend2s_cons rfl (lend2s_cons (lend2_fn (h2a1 _)) lend2s_nil)) (by show ids2s _ [.imm 1 (a0.map D.str) 4, .fn (.func Ka1) ca1] = _; simp only [ids2s, ids2, List.append_nil, List.nil_append, List.cons_append, h3a1]) (callP_slices_IndexFunc_string_string a0 Ka1 ca1 hca1 h2a1 h3a1 a1 ha1 v1 hv1) ?_
 refine .rn 2 ?_
 refine .nil ⟨nofun, ?_⟩
 have hq := Option.some.inj h
 subst r
 exact .ret ⟨.inr rfl, rsi⟩
theorem callP_stable_Check_1 (a0 : List UInt8) (r : Bool) (h : m_stable_Check_1 a0 = some r) : CallP Try.prog 36 [.str a0] (.bool r) := by
 refine callP_intro Try.tmOk 2 Try.func36 rfl (by decide) rfl rfl (Nat.le_of_ble_eq_true rfl) ?_
 intro hwf
 unfold m_stable_Check_1 at h
 refine .seq ?_
 refine .pl Try.S [0] ?_
 refine .seq ?_
 refine .pl Try.S [0] ?_
 have hq := Option.some.inj h
 subst r
 exact .ret ⟨.inr rfl, rsi⟩
def Try.St_vote_Check_1 (b1 : Bool) : St := ⟨[(3, .bool b1)], [], 1⟩
attribute [local go_sem] Try.St_vote_Check_1
theorem callP_vote_Check (a0 : TVote) (r : Int) (h : m_vote_Check a0 = some r) : CallP Try.prog 37 [.agg [.int .i64 a0.Promised, .int .i64 a0.Ballot, .str a0.Value]] (.int .i64 r) := by
 refine callP_intro Try.tmOk 3 Try.func37 rfl (by decide) rfl rfl (Nat.le_of_ble_eq_true rfl) ?_
 intro hwf
 unfold m_vote_Check at h
 refine .seq ?_
 refine .pl Try.S [0] ?_
 refine .seq ?_
 obtain ⟨v1, hv1, h⟩ := bind_some h
 refine .rg Try.S [1] ?_
 refine .rn 6 ?_
 refine .gcall (r := .int .i64 v1) rfl rfl rfl rfl rfl (fun hg => ⟨[], [.int .i64 a0.Promised], _, rfl, gd hg, rfl, (callP_ballot_Check a0.Promised v1 (ite_lc hv1 hg))⟩) ?_
 refine .rn 3 ?_
 refine .nil ⟨nofun, ?_⟩
 obtain ⟨x1, hx1, h⟩ := bind_some h
 refine .seqM 1 (fun (j : Bool) => Try.St_vote_Check_1 j) (fun j => x1 = j) (Nat.le_of_ble_eq_true rfl) ?_ ?_
 ·skip
  refine .seq ?_
  refine .pl Try.S [1, 3] ?_
  refine .cond rfl rfl (fun hc1 => ?_) (fun hc1 => ?_)
  ·skip
   replace hx1 := ite_lc hx1 hc1
   refine .pl Try.S [1, 3] ?_
   refine ⟨_, ?_, (Option.some.inj hx1).symm⟩
   exact .m [3] [] []
  ·skip
   replace hx1 := ite_rc hx1 hc1
   obtain ⟨v2, hv2, hx1⟩ := bind_some hx1
   refine .rg Try.S [1, 3] ?_
   refine .rn 4 ?_
   refine .gcall (r := .int .i64 v2) rfl rfl rfl rfl rfl (fun hg => ⟨[], [.int .i64 a0.Ballot], _, rfl, gd hg, rfl, (callP_ballot_Check a0.Ballot v2 (ite_lc hv2 hg))⟩) ?_
   refine .rn 6 ?_
   refine .rn 6 ?_
   refine .rn 4 ?_
   refine .nil ⟨nofun, ?_⟩
   refine ⟨_, ?_, (Option.some.inj hx1).symm⟩
   exact .m [3] [] []
 ·skip
  rintro b1 hj1
  subst x1
  try dsimp only at h
  simp only [Try.St_vote_Check_1]
  refine .seq ?_
  refine .seq ?_
  refine .pl Try.S [3] ?_
  refine .cond rfl rfl (fun hc2 => ?_) (fun hc2 => ?_)
  ·skip
   replace h := ite_lc h hc2
   refine .seq ?_
   refine .pl Try.S [] ?_
   have hq := Option.some.inj h
   subst r
   exact .ret ⟨.inr rfl, rsi⟩
  ·skip
   replace h := ite_rc h hc2
   refine .skip ?_
   refine .seq ?_
   refine .pl Try.S [] ?_
   have hq := Option.some.inj h
   subst r
   exact .ret ⟨.inr rfl, rsi⟩
theorem callP_record_has (a0 : Int) (r : Bool × Bool) (h : m_record_has a0 = some r) : CallP Try.prog 61 [.int .u8 a0] (.tuple [.bool r.1, .bool r.2]) := by
 refine callP_intro Try.tmOk 2 Try.func61 rfl (by decide) rfl rfl (Nat.le_of_ble_eq_true rfl) ?_
 intro hwf
 unfold m_record_has at h
 refine .seq ?_
 refine .pl Try.S [0] ?_
 refine .seq ?_
 refine .rg Try.S [0] ?_
 refine .rn 6 ?_
 refine .rn 8 ?_
 refine .nil ⟨nofun, ?_⟩
 have hq := Option.some.inj h
 subst r
 exact .ret ⟨.inr rfl, rsi⟩
theorem callP_record_Check (a0 : TRecord) (r : Int) (h : m_record_Check a0 = some r) : CallP Try.prog 33 [.agg [.int .u8 a0.Kind, .int .i64 a0.Group, .int .i64 a0.Slot, .int .i64 a0.Ballot, .str a0.Value]] (.int .i64 r) := by
 refine callP_intro Try.tmOk 3 Try.func33 rfl (by decide) rfl rfl (Nat.le_of_ble_eq_true rfl) ?_
 intro hwf
 unfold m_record_Check at h
 refine .seq ?_
 refine .pl Try.S [0] ?_
 refine .seq ?_
 obtain ⟨v1, hv1, h⟩ := bind_some h
 refine .rg Try.S [1] ?_
 refine .rn 2 ?_
 refine .call (r := .tuple [.bool v1.1, .bool v1.2]) rfl rfl rfl rfl rfl rfl (callP_record_has a0.Kind v1 hv1) ?_
 refine .rn 5 ?_
 refine .nil ⟨nofun, ?_⟩
 refine .seq ?_
 refine .rg Try.S [1, 3, 4] ?_
 refine .rn 6 ?_
 refine .rn 6 ?_
 refine .rn 6 ?_
 refine .rn 6 ?_
 refine .rn 7 ?_
 refine .nil ⟨nofun, ?_⟩
 refine .seq ?_
 obtain ⟨v2, hv2, h⟩ := bind_some h
 refine .rg Try.S [1, 3, 4, 5] ?_
 refine .rn 6 ?_
 refine .rn 6 ?_
 refine .rn 6 ?_
 refine .rn 4 ?_
 refine .gcall (r := .int .i64 v2) rfl rfl rfl rfl rfl (fun hg => ⟨[], [.int .i64 a0.Ballot], _, rfl, gd hg, rfl, (callP_ballot_Check a0.Ballot v2 (ite_lc hv2 hg))⟩) ?_
 refine .rn 5 ?_
 refine .nil ⟨nofun, ?_⟩
 refine .seq ?_
 refine .seq ?_
 refine .pl Try.S [5] ?_
 refine .cond rfl rfl (fun hc1 => ?_) (fun hc1 => ?_)
 ·skip
  replace h := ite_lc h hc1
  refine .seq ?_
  refine .pl Try.S [] ?_
  have hq := Option.some.inj h
  subst r
  exact .ret ⟨.inr rfl, rsi⟩
 ·skip
  replace h := ite_rc h hc1
  refine .skip ?_
  refine .seq ?_
  refine .pl Try.S [] ?_
  have hq := Option.some.inj h
  subst r
  exact .ret ⟨.inr rfl, rsi⟩
def Try.St_stable_Check_1 (a0 : TStable) : St := ⟨[(1, .ptr 0 0)], [(0, .box [.imm 1 (a0.Logs.map dL_str) 4, .imm 5 (a0.Votes.map TSeen.d) 4])], 1⟩
attribute [local go_sem] Try.St_stable_Check_1
def Try.St_stable_Check_3 (a0 : TStable) (n1 : Nat) : St := ⟨[(1, .ptr 0 0), (18, .imm 1 (a0.Logs.map dL_str) 4), (19, .int .i64 (a0.Logs.length : Int)), (20, .int .i64 (n1 : Int))], [(0, .box [.imm 1 (a0.Logs.map dL_str) 4, .imm 5 (a0.Votes.map TSeen.d) 4])], 1⟩
attribute [local go_sem] Try.St_stable_Check_3
def Try.St_stable_Check_5 : St := ⟨[], [], 1⟩
attribute [local go_sem] Try.St_stable_Check_5
def Try.St_stable_Check_7 (a0 : TStable) (n2 : Nat) : St := ⟨[(1, .ptr 0 0), (33, .imm 5 (a0.Votes.map TSeen.d) 4), (34, .int .i64 (a0.Votes.length : Int)), (35, .int .i64 (n2 : Int))], [(0, .box [.imm 1 (a0.Logs.map dL_str) 4, .imm 5 (a0.Votes.map TSeen.d) 4])], 1⟩
attribute [local go_sem] Try.St_stable_Check_7
theorem callP_stable_Check (a0 : TStable) (r : Int) (h : m_stable_Check a0 = some r) : CallP Try.prog 11 [.agg [.imm 1 (a0.Logs.map dL_str) 4, .imm 5 (a0.Votes.map TSeen.d) 4]] (.int .i64 r) := by
 refine callP_intro Try.tmOk 4 Try.func11 rfl (by decide) rfl rfl (Nat.le_of_ble_eq_true rfl) ?_
 intro hwf
 unfold m_stable_Check at h
 refine .seq ?_
 refine .pl Try.S [0] ?_
 refine .seq ?_
 refine .seq ?_
 refine .rg Try.S [1] ?_
 refine .rn 6 ?_
 refine .rn 4 ?_
 refine .nil ⟨nofun, ?_⟩
 refine .cond rfl rfl (fun hc1 => ?_) (fun hc1 => ?_)
 ·skip
  replace h := ite_lc h hc1
  refine .seq ?_
  refine .pl Try.S [] ?_
  have hq := Option.some.inj h
  subst r
  exact .ret ⟨.inr rfl, rsi⟩
 ·skip
  replace h := ite_rc h hc1
  refine .skip ?_
  obtain ⟨x1, hx1, h⟩ := bind_some h
  refine .seqM 1 (fun (j : Unit) => Try.St_stable_Check_1 a0) (fun j => x1 = (.inr j)) (Nat.le_of_ble_eq_true rfl) ?_ ?_
  ·skip
   refine .seq ?_
   refine .pl Try.S [1] ?_
   refine .block ?_
   refine .loopG 1 (fun (j : Nat) => Try.St_stable_Check_3 a0 j) (fun j => j ≤ a0.Logs.length ∧ m_stable_Check_loop1 (a0.Logs.drop j)  = some x1) (fun j => a0.Logs.length - j) (0) (Nat.le_of_ble_eq_true rfl) ?_ ⟨Nat.zero_le _, hx1⟩ ?_
   ·skip
    exact .m [1, 18, 19, 20] [0] []
   rintro n1 ⟨hi1, hx1⟩
   simp only [Try.St_stable_Check_3]
   refine .wf 19 (.int .i64 (a0.Logs.length : Int)) rfl ?_
   intro hln1
   replace hln1 : (a0.Logs.length : Int) ≤ 9223372036854775807 := by simp only [wf, wfL, IntKind.max, IntKind.min, IntKind.signed, IntKind.bits, List.length_map] at hln1; first | exact hln1.2 | exact hln1.1 | (simp at hln1; omega)
   refine .seq ?_
   refine .pl Try.S [1, 18, 19, 20] ?_
   refine .seq ?_
   refine .cond rfl rfl (fun hc2 => ?_) (fun hc2 => ?_)
   ·skip
    have h1 : n1 < a0.Logs.length := by simpa using hc2
    have hwn1 : wr .i64 ((n1 : Int) + 1) = ((n1 + 1 : Nat) : Int) := wr_succ h1 hln1
    have hpn1 : wr .i64 ((n1 : Int) - 1) = (n1 : Int) - 1 := wr_pred h1 hln1
    rw [List.drop_eq_getElem_cons h1, m_stable_Check_loop1] at hx1
    refine .skip ?_
    refine .seq ?_
    refine .block ?_
    refine .seq ?_
    have e1 := nth_map dL_str a0.Logs n1 h1
    refine .plx Try.S (And.intro e1 hwn1) [1, 18, 19, 20] ?_
    refine .seq ?_
    obtain ⟨v1, hv1, hx1⟩ := bind_some hx1
    refine .rg Try.S [1, 4, 18, 19, 20] ?_
    refine .rnx 5 hwn1 ?_
    refine .glcall (r := .bool v1) [] rfl rfl rfl rfl rfl (fun hg => ⟨[], [.imm 1 ((a0.Logs[n1]).map D.str) 4, .fn (.func 36) []], _, rfl, gd hg, (lend2s_cons rfl (lend2s_cons (lend2_fn lend2s_nil) lend2s_nil)), rfl, (callP_slices_ContainsFunc_string_string (a0.Logs[n1]) 36 [] (fun _ => rfl) (fun _ => rfl) (fun _ => rfl) m_stable_Check_1 (fun x0 y hy => callP_stable_Check_1 x0 y hy) v1 (ite_lc hv1 hg))⟩) ?_
    refine .rnx 1 hwn1 ?_
    refine .nil ⟨nofun, ?_⟩
    refine .cond rfl rfl (fun hc3 => ?_) (fun hc3 => ?_)
    ·skip
     replace hx1 := ite_lc hx1 hc3
     refine .seq ?_
     refine .plx Try.S hwn1 [] ?_
     have hq := Option.some.inj hx1
     subst x1
     try dsimp only at h
     have hq := Option.some.inj h
     subst r
     exact .ret ⟨.inr rfl, rsi⟩
    ·skip
     replace hx1 := ite_rc hx1 hc3
     refine .skip ?_
     refine .plx Try.S hwn1 [1, 18, 19, 20] ?_
     refine ⟨n1 + 1, ?_, ⟨by omega, hx1⟩, by dsimp only; omega⟩
     exact .m [1, 18, 19, 20] [0] []
   ·skip
    have h2 : n1 = a0.Logs.length := by have h2b := of_decide_eq_false hc2; omega
    rw [List.drop_of_length_le (by omega), m_stable_Check_loop1] at hx1
    refine .exit ?_
    refine ⟨_, ?_, (Option.some.inj hx1).symm⟩
    exact .m [1] [0] []
  ·skip
   rintro ⟨⟩ hj1
   subst x1
   try dsimp only at h
   simp only [Try.St_stable_Check_1]
   obtain ⟨x2, hx2, h⟩ := bind_some h
   refine .seqM 1 (fun (j : Unit) => Try.St_stable_Check_5) (fun j => x2 = (.inr j)) (Nat.le_of_ble_eq_true rfl) ?_ ?_
   ·skip
    refine .seq ?_
    refine .pl Try.S [1] ?_
    refine .block ?_
    refine .loopG 1 (fun (j : Nat) => Try.St_stable_Check_7 a0 j) (fun j => j ≤ a0.Votes.length ∧ m_stable_Check_loop2 a0 (a0.Votes.drop j) j  = some x2) (fun j => a0.Votes.length - j) (0) (Nat.le_of_ble_eq_true rfl) ?_ ⟨Nat.zero_le _, hx2⟩ ?_
    ·skip
     exact .m [1, 33, 34, 35] [0] []
    rintro n2 ⟨hi2, hx2⟩
    simp only [Try.St_stable_Check_7]
    refine .wf 34 (.int .i64 (a0.Votes.length : Int)) rfl ?_
    intro hln2
    replace hln2 : (a0.Votes.length : Int) ≤ 9223372036854775807 := by simp only [wf, wfL, IntKind.max, IntKind.min, IntKind.signed, IntKind.bits, List.length_map] at hln2; first | exact hln2.2 | exact hln2.1 | (simp at hln2; omega)
    refine .seq ?_
    refine .pl Try.S [1, 33, 34, 35] ?_
    refine .seq ?_
    refine .cond rfl rfl (fun hc4 => ?_) (fun hc4 => ?_)
    ·skip
     have h3 : n2 < a0.Votes.length := by simpa using hc4
     have hwn2 : wr .i64 ((n2 : Int) + 1) = ((n2 + 1 : Nat) : Int) := wr_succ h3 hln2
     have hpn2 : wr .i64 ((n2 : Int) - 1) = (n2 : Int) - 1 := wr_pred h3 hln2
     rw [List.drop_eq_getElem_cons h3, m_stable_Check_loop2] at hx2
     refine .skip ?_
     refine .seq ?_
     refine .block ?_
     refine .seq ?_
     have e2 := nth_map TSeen.d a0.Votes n2 h3
     refine .plx Try.S (And.intro e2 hwn2) [1, 33, 34, 35] ?_
     obtain ⟨k1, hx2⟩ := ite_ck hx2
     obtain ⟨v2, hv2, hx2⟩ := bind_some hx2
     obtain ⟨v3, hv3, hx2⟩ := bind_some hx2
     refine .seqM 2 (fun (_ : Unit) => ⟨[(1, .ptr 0 0), (33, .imm 5 (a0.Votes.map TSeen.d) 4), (34, .int .i64 (a0.Votes.length : Int)), (35, .int .i64 (n2 : Int)), (94, .bool (((((((decide (a0.Votes[n2].Group < 0)) || (decide (a0.Votes[n2].Group ≥ (a0.Logs.length : Int)))) || (decide (a0.Votes[n2].Slot ≤ ((a0.Logs.getD (a0.Votes[n2].Group).toNat default).length : Int)))) || (decide (a0.Votes[n2].Slot > 200))) || (a0.Votes[n2].Vote.Promised == 0)) || (v2 != 0)) || ((decide ((n2 : Int) > 0)) && (decide (v3 ≥ 0)))))], [(0, .box [.imm 1 (a0.Logs.map dL_str) 4, .imm 5 (a0.Votes.map TSeen.d) 4])], 2⟩) (fun _ => True) (Nat.le_of_ble_eq_true rfl) ?_ (fun _ _ => ?_)
     ·skip
      by_cases hgd : ¬ ((a0.Votes[n2].Group < 0) ∨ (a0.Votes[n2].Group ≥ (a0.Logs.length : Int)))
      ·skip
       have eg10 := nth_mapI dL_str a0.Logs (a0.Votes[n2].Group) (k1 hgd)
       have e3 := nth_mapD TSeen.d a0.Votes (n2 - 1) (by omega)
       refine .rg Try.S [1, 5, 6, 33, 34, 35] ?_
       refine .rdx 6 (And.intro e3 (And.intro hpn2 (And.intro eg10 hwn2))) ?_
       refine .rdx 6 (And.intro e3 (And.intro hpn2 (And.intro eg10 hwn2))) ?_
       refine .rdx 6 (And.intro e3 (And.intro hpn2 (And.intro eg10 hwn2))) ?_
       refine .rdx 6 (And.intro e3 (And.intro hpn2 (And.intro eg10 hwn2))) ?_
       refine .rdx 6 (And.intro e3 (And.intro hpn2 (And.intro eg10 hwn2))) ?_
       refine .rdx 7 (And.intro e3 (And.intro hpn2 (And.intro eg10 hwn2))) ?_
       refine .gcall (r := .int .i64 v2) rfl rfl rfl rfl rfl (fun hg => ⟨[], [.agg [.int .i64 (a0.Votes[n2].Vote.Promised), .int .i64 (a0.Votes[n2].Vote.Ballot), .str (a0.Votes[n2].Vote.Value)]], _, rfl, gd hg, rfl, (callP_vote_Check (a0.Votes[n2].Vote) v2 (ite_lc hv2 hg))⟩) ?_
       refine .rdx 6 (And.intro e3 (And.intro hpn2 (And.intro eg10 hwn2))) ?_
       refine .rdx 7 (And.intro e3 (And.intro hpn2 (And.intro eg10 hwn2))) ?_
       refine .gcall (r := .int .i64 v3) rfl rfl rfl rfl rfl (fun hg => ⟨[], [.agg [.int .i64 ((a0.Votes.getD (n2 - 1) default).Group), .int .i64 ((a0.Votes.getD (n2 - 1) default).Slot), .int .i64 ((a0.Votes.getD (n2 - 1) default).Vote.Promised), .int .i64 ((a0.Votes.getD (n2 - 1) default).Vote.Ballot), .str ((a0.Votes.getD (n2 - 1) default).Vote.Value)], .agg [.int .i64 (a0.Votes[n2].Group), .int .i64 (a0.Votes[n2].Slot), .int .i64 (a0.Votes[n2].Vote.Promised), .int .i64 (a0.Votes[n2].Vote.Ballot), .str (a0.Votes[n2].Vote.Value)]], _, rfl, gd hg, rfl, (callP_stable_place (a0.Votes.getD (n2 - 1) default) (a0.Votes[n2]) v3 (ite_lc hv3 hg))⟩) ?_
       refine .rdx 3 (And.intro e3 (And.intro hpn2 (And.intro eg10 hwn2))) ?_
       refine .nil ⟨fun _ => schedB_of (by kernel_rfl), ?_⟩
       refine ⟨(), ?_, trivial⟩
       exact .m [1, 33, 34, 35, 94] [0] []
      ·skip
       have hgf1 : (!((decide (a0.Votes[n2].Group < 0)) || (decide (a0.Votes[n2].Group ≥ (a0.Logs.length : Int))))) = false := by first | simpa using hgd | (simp at hgd ⊢; omega) | grind
       have hgf1t : ((decide (a0.Votes[n2].Group < 0)) || (decide (a0.Votes[n2].Group ≥ (a0.Logs.length : Int)))) = true := by first | simpa using hgf1 | grind
       rcases nth_or dL_str a0.Logs ((a0.Votes[n2].Group).toNat) with eg10 | eg10
       ·skip
        have e3 := nth_mapD TSeen.d a0.Votes (n2 - 1) (by omega)
        refine .rg Try.S [1, 5, 6, 33, 34, 35] ?_
        refine .rdx 6 (And.intro e3 (And.intro hpn2 (And.intro eg10 (And.intro hgf1 (And.intro hgf1t hwn2))))) ?_
        refine .rdx 6 (And.intro e3 (And.intro hpn2 (And.intro eg10 (And.intro hgf1 (And.intro hgf1t hwn2))))) ?_
        refine .rdx 6 (And.intro e3 (And.intro hpn2 (And.intro eg10 (And.intro hgf1 (And.intro hgf1t hwn2))))) ?_
        refine .rdx 6 (And.intro e3 (And.intro hpn2 (And.intro eg10 (And.intro hgf1 (And.intro hgf1t hwn2))))) ?_
        refine .rdx 6 (And.intro e3 (And.intro hpn2 (And.intro eg10 (And.intro hgf1 (And.intro hgf1t hwn2))))) ?_
        refine .rdx 7 (And.intro e3 (And.intro hpn2 (And.intro eg10 (And.intro hgf1 (And.intro hgf1t hwn2))))) ?_
        refine .gcall (r := .int .i64 v2) rfl rfl rfl rfl rfl (fun hg => ⟨[], [.agg [.int .i64 (a0.Votes[n2].Vote.Promised), .int .i64 (a0.Votes[n2].Vote.Ballot), .str (a0.Votes[n2].Vote.Value)]], _, rfl, gd hg, rfl, (callP_vote_Check (a0.Votes[n2].Vote) v2 (ite_lc hv2 hg))⟩) ?_
        refine .rdx 6 (And.intro e3 (And.intro hpn2 (And.intro eg10 (And.intro hgf1 (And.intro hgf1t hwn2))))) ?_
        refine .rdx 7 (And.intro e3 (And.intro hpn2 (And.intro eg10 (And.intro hgf1 (And.intro hgf1t hwn2))))) ?_
        refine .gcall (r := .int .i64 v3) rfl rfl rfl rfl rfl (fun hg => ⟨[], [.agg [.int .i64 ((a0.Votes.getD (n2 - 1) default).Group), .int .i64 ((a0.Votes.getD (n2 - 1) default).Slot), .int .i64 ((a0.Votes.getD (n2 - 1) default).Vote.Promised), .int .i64 ((a0.Votes.getD (n2 - 1) default).Vote.Ballot), .str ((a0.Votes.getD (n2 - 1) default).Vote.Value)], .agg [.int .i64 (a0.Votes[n2].Group), .int .i64 (a0.Votes[n2].Slot), .int .i64 (a0.Votes[n2].Vote.Promised), .int .i64 (a0.Votes[n2].Vote.Ballot), .str (a0.Votes[n2].Vote.Value)]], _, rfl, gd hg, rfl, (callP_stable_place (a0.Votes.getD (n2 - 1) default) (a0.Votes[n2]) v3 (ite_lc hv3 hg))⟩) ?_
        refine .rdx 3 (And.intro e3 (And.intro hpn2 (And.intro eg10 (And.intro hgf1 (And.intro hgf1t hwn2))))) ?_
        refine .nil ⟨fun _ => schedB_of (by kernel_rfl), ?_⟩
        refine ⟨(), ?_, trivial⟩
        exact .mx (And.intro hgf1 hgf1t) [1, 33, 34, 35, 94] [0] []
       ·skip
        have e3 := nth_mapD TSeen.d a0.Votes (n2 - 1) (by omega)
        refine .rg Try.S [1, 5, 6, 33, 34, 35] ?_
        refine .rdx 6 (And.intro e3 (And.intro hpn2 (And.intro eg10 (And.intro hgf1 (And.intro hgf1t hwn2))))) ?_
        refine .rdx 6 (And.intro e3 (And.intro hpn2 (And.intro eg10 (And.intro hgf1 (And.intro hgf1t hwn2))))) ?_
        refine .rdx 6 (And.intro e3 (And.intro hpn2 (And.intro eg10 (And.intro hgf1 (And.intro hgf1t hwn2))))) ?_
        refine .rdx 6 (And.intro e3 (And.intro hpn2 (And.intro eg10 (And.intro hgf1 (And.intro hgf1t hwn2))))) ?_
        refine .rdx 6 (And.intro e3 (And.intro hpn2 (And.intro eg10 (And.intro hgf1 (And.intro hgf1t hwn2))))) ?_
        refine .rdx 7 (And.intro e3 (And.intro hpn2 (And.intro eg10 (And.intro hgf1 (And.intro hgf1t hwn2))))) ?_
        refine .gcall (r := .int .i64 v2) rfl rfl rfl rfl rfl (fun hg => ⟨[], [.agg [.int .i64 (a0.Votes[n2].Vote.Promised), .int .i64 (a0.Votes[n2].Vote.Ballot), .str (a0.Votes[n2].Vote.Value)]], _, rfl, gd hg, rfl, (callP_vote_Check (a0.Votes[n2].Vote) v2 (ite_lc hv2 hg))⟩) ?_
        refine .rdx 6 (And.intro e3 (And.intro hpn2 (And.intro eg10 (And.intro hgf1 (And.intro hgf1t hwn2))))) ?_
        refine .rdx 7 (And.intro e3 (And.intro hpn2 (And.intro eg10 (And.intro hgf1 (And.intro hgf1t hwn2))))) ?_
        refine .gcall (r := .int .i64 v3) rfl rfl rfl rfl rfl (fun hg => ⟨[], [.agg [.int .i64 ((a0.Votes.getD (n2 - 1) default).Group), .int .i64 ((a0.Votes.getD (n2 - 1) default).Slot), .int .i64 ((a0.Votes.getD (n2 - 1) default).Vote.Promised), .int .i64 ((a0.Votes.getD (n2 - 1) default).Vote.Ballot), .str ((a0.Votes.getD (n2 - 1) default).Vote.Value)], .agg [.int .i64 (a0.Votes[n2].Group), .int .i64 (a0.Votes[n2].Slot), .int .i64 (a0.Votes[n2].Vote.Promised), .int .i64 (a0.Votes[n2].Vote.Ballot), .str (a0.Votes[n2].Vote.Value)]], _, rfl, gd hg, rfl, (callP_stable_place (a0.Votes.getD (n2 - 1) default) (a0.Votes[n2]) v3 (ite_lc hv3 hg))⟩) ?_
        refine .rdx 3 (And.intro e3 (And.intro hpn2 (And.intro eg10 (And.intro hgf1 (And.intro hgf1t hwn2))))) ?_
        refine .nil ⟨fun _ => schedB_of (by kernel_rfl), ?_⟩
        refine ⟨(), ?_, trivial⟩
        exact .mx (And.intro hgf1 hgf1t) [1, 33, 34, 35, 94] [0] []
     refine .cond rfl rfl (fun hc5 => ?_) (fun hc5 => ?_)
     ·skip
      replace hx2 := ite_lc hx2 hc5
      refine .seq ?_
      refine .plx Try.S hwn2 [] ?_
      have hq := Option.some.inj hx2
      subst x2
      try dsimp only at h
      have hq := Option.some.inj h
      subst r
      exact .ret ⟨.inr rfl, rsi⟩
     ·skip
      replace hx2 := ite_rc hx2 hc5
      refine .skip ?_
      refine .plx Try.S hwn2 [1, 33, 34, 35] ?_
      refine ⟨n2 + 1, ?_, ⟨by omega, hx2⟩, by dsimp only; omega⟩
      exact .m [1, 33, 34, 35] [0] []
    ·skip
     have h4 : n2 = a0.Votes.length := by have h4b := of_decide_eq_false hc4; omega
     rw [List.drop_of_length_le (by omega), m_stable_Check_loop2] at hx2
     refine .exit ?_
     refine ⟨_, ?_, (Option.some.inj hx2).symm⟩
     exact .m [] [] []
   ·skip
    rintro ⟨⟩ hj2
    subst x2
    try dsimp only at h
    simp only [Try.St_stable_Check_5]
    refine .seq ?_
    refine .pl Try.S [] ?_
    have hq := Option.some.inj h
    subst r
    exact .ret ⟨.inr rfl, rsi⟩
def Try.St_slices_Equal_string_string_1 : St := ⟨[], [], 0⟩
attribute [local go_sem] Try.St_slices_Equal_string_string_1
def Try.St_slices_Equal_string_string_3 (a0 : List (List UInt8)) (a1 : List (List UInt8)) (n1 : Nat) : St := ⟨[(0, .imm 1 (a0.map D.str) 4), (1, .imm 1 (a1.map D.str) 4), (12, .int .i64 (a0.length : Int)), (13, .int .i64 (n1 : Int))], [], 0⟩
attribute [local go_sem] Try.St_slices_Equal_string_string_3
theorem callP_slices_Equal_string_string (a0 : List (List UInt8)) (a1 : List (List UInt8)) (r : Bool) (h : m_slices_Equal_string_string a0 a1 = some r) : CallP Try.prog 52 [.imm 1 (a0.map D.str) 4, .imm 1 (a1.map D.str) 4] (.bool r) := by
 refine callP_intro Try.tmOk 2 Try.func52 rfl (by decide) rfl rfl (Nat.le_of_ble_eq_true rfl) ?_
 intro hwf
 unfold m_slices_Equal_string_string at h
 refine .seq ?_
 refine .pl Try.S [0, 1] ?_
 refine .seq ?_
 refine .seq ?_
 refine .pl Try.S [0, 1] ?_
 refine .cond rfl rfl (fun hc1 => ?_) (fun hc1 => ?_)
 ·skip
  replace h := ite_lc h hc1
  refine .seq ?_
  refine .pl Try.S [] ?_
  have hq := Option.some.inj h
  subst r
  exact .ret ⟨.inr rfl, rsi⟩
 ·skip
  replace h := ite_rc h hc1
  refine .skip ?_
  obtain ⟨x1, hx1, h⟩ := bind_some h
  refine .seqM 0 (fun (j : Unit) => Try.St_slices_Equal_string_string_1) (fun j => x1 = (.inr j)) (Nat.le_of_ble_eq_true rfl) ?_ ?_
  ·skip
   refine .seq ?_
   refine .pl Try.S [0, 1] ?_
   refine .block ?_
   refine .loopG 0 (fun (j : Nat) => Try.St_slices_Equal_string_string_3 a0 a1 j) (fun j => j ≤ a0.length ∧ m_slices_Equal_string_string_loop1 a1 (a0.drop j) j  = some x1) (fun j => a0.length - j) (0) (Nat.le_of_ble_eq_true rfl) ?_ ⟨Nat.zero_le _, hx1⟩ ?_
   ·skip
    exact .m [0, 1, 12, 13] [] []
   rintro n1 ⟨hi1, hx1⟩
   simp only [Try.St_slices_Equal_string_string_3]
   refine .wf 12 (.int .i64 (a0.length : Int)) rfl ?_
   intro hln1
   replace hln1 : (a0.length : Int) ≤ 9223372036854775807 := by simp only [wf, wfL, IntKind.max, IntKind.min, IntKind.signed, IntKind.bits, List.length_map] at hln1; first | exact hln1.2 | exact hln1.1 | (simp at hln1; omega)
   refine .seq ?_
   refine .pl Try.S [0, 1, 12, 13] ?_
   refine .seq ?_
   refine .cond rfl rfl (fun hc2 => ?_) (fun hc2 => ?_)
   ·skip
    have h1 : n1 < a0.length := by simpa using hc2
    have hwn1 : wr .i64 ((n1 : Int) + 1) = ((n1 + 1 : Nat) : Int) := wr_succ h1 hln1
    have hpn1 : wr .i64 ((n1 : Int) - 1) = (n1 : Int) - 1 := wr_pred h1 hln1
    rw [List.drop_eq_getElem_cons h1, m_slices_Equal_string_string_loop1] at hx1
    refine .skip ?_
    refine .seq ?_
    refine .block ?_
    refine .seq ?_
    refine .plx Try.S hwn1 [0, 1, 12, 13] ?_
    refine .seq ?_
    obtain ⟨k1, hx1⟩ := ite_ck hx1
    have e1 := nth_map D.str a0 n1 h1
    have e2 := nth_mapD D.str a1 n1
    replace e2 := e2 k1
    refine .rg Try.S [0, 1, 5, 12, 13] ?_
    refine .rdx 6 (And.intro e1 (And.intro e2 hwn1)) ?_
    refine .rdx 3 (And.intro e1 (And.intro e2 hwn1)) ?_
    refine .nil ⟨fun _ => schedB_of (by kernel_rfl), ?_⟩
    refine .cond rfl rfl (fun hc3 => ?_) (fun hc3 => ?_)
    ·skip
     replace hx1 := ite_lc hx1 hc3
     refine .seq ?_
     refine .plx Try.S hwn1 [] ?_
     have hq := Option.some.inj hx1
     subst x1
     try dsimp only at h
     have hq := Option.some.inj h
     subst r
     exact .ret ⟨.inr rfl, rsi⟩
    ·skip
     replace hx1 := ite_rc hx1 hc3
     refine .skip ?_
     refine .plx Try.S hwn1 [0, 1, 12, 13] ?_
     refine ⟨n1 + 1, ?_, ⟨by omega, hx1⟩, by dsimp only; omega⟩
     exact .m [0, 1, 12, 13] [] []
   ·skip
    have h2 : n1 = a0.length := by have h2b := of_decide_eq_false hc2; omega
    rw [List.drop_of_length_le (by omega), m_slices_Equal_string_string_loop1] at hx1
    refine .exit ?_
    refine ⟨_, ?_, (Option.some.inj hx1).symm⟩
    exact .m [] [] []
  ·skip
   rintro ⟨⟩ hj1
   subst x1
   try dsimp only at h
   simp only [Try.St_slices_Equal_string_string_1]
   refine .seq ?_
   refine .pl Try.S [] ?_
   have hq := Option.some.inj h
   subst r
   exact .ret ⟨.inr rfl, rsi⟩
def Try.St_slices_Equal_Seen_Seen_1 : St := ⟨[], [], 0⟩
attribute [local go_sem] Try.St_slices_Equal_Seen_Seen_1
def Try.St_slices_Equal_Seen_Seen_3 (a0 : List TSeen) (a1 : List TSeen) (n1 : Nat) : St := ⟨[(0, .imm 5 (a0.map TSeen.d) 4), (1, .imm 5 (a1.map TSeen.d) 4), (12, .int .i64 (a0.length : Int)), (13, .int .i64 (n1 : Int))], [], 0⟩
attribute [local go_sem] Try.St_slices_Equal_Seen_Seen_3
theorem callP_slices_Equal_Seen_Seen (a0 : List TSeen) (a1 : List TSeen) (r : Bool) (h : m_slices_Equal_Seen_Seen a0 a1 = some r) : CallP Try.prog 53 [.imm 5 (a0.map TSeen.d) 4, .imm 5 (a1.map TSeen.d) 4] (.bool r) := by
 refine callP_intro Try.tmOk 2 Try.func53 rfl (by decide) rfl rfl (Nat.le_of_ble_eq_true rfl) ?_
 intro hwf
 unfold m_slices_Equal_Seen_Seen at h
 refine .seq ?_
 refine .pl Try.S [0, 1] ?_
 refine .seq ?_
 refine .seq ?_
 refine .pl Try.S [0, 1] ?_
 refine .cond rfl rfl (fun hc1 => ?_) (fun hc1 => ?_)
 ·skip
  replace h := ite_lc h hc1
  refine .seq ?_
  refine .pl Try.S [] ?_
  have hq := Option.some.inj h
  subst r
  exact .ret ⟨.inr rfl, rsi⟩
 ·skip
  replace h := ite_rc h hc1
  refine .skip ?_
  obtain ⟨x1, hx1, h⟩ := bind_some h
  refine .seqM 0 (fun (j : Unit) => Try.St_slices_Equal_Seen_Seen_1) (fun j => x1 = (.inr j)) (Nat.le_of_ble_eq_true rfl) ?_ ?_
  ·skip
   refine .seq ?_
   refine .pl Try.S [0, 1] ?_
   refine .block ?_
   refine .loopG 0 (fun (j : Nat) => Try.St_slices_Equal_Seen_Seen_3 a0 a1 j) (fun j => j ≤ a0.length ∧ m_slices_Equal_Seen_Seen_loop1 a1 (a0.drop j) j  = some x1) (fun j => a0.length - j) (0) (Nat.le_of_ble_eq_true rfl) ?_ ⟨Nat.zero_le _, hx1⟩ ?_
   ·skip
    exact .m [0, 1, 12, 13] [] []
   rintro n1 ⟨hi1, hx1⟩
   simp only [Try.St_slices_Equal_Seen_Seen_3]
   refine .wf 12 (.int .i64 (a0.length : Int)) rfl ?_
   intro hln1
   replace hln1 : (a0.length : Int) ≤ 9223372036854775807 := by simp only [wf, wfL, IntKind.max, IntKind.min, IntKind.signed, IntKind.bits, List.length_map] at hln1; first | exact hln1.2 | exact hln1.1 | (simp at hln1; omega)
   refine .seq ?_
   refine .pl Try.S [0, 1, 12, 13] ?_
   refine .seq ?_
   refine .cond rfl rfl (fun hc2 => ?_) (fun hc2 => ?_)
   ·skip
    have h1 : n1 < a0.length := by simpa using hc2
    have hwn1 : wr .i64 ((n1 : Int) + 1) = ((n1 + 1 : Nat) : Int) := wr_succ h1 hln1
    have hpn1 : wr .i64 ((n1 : Int) - 1) = (n1 : Int) - 1 := wr_pred h1 hln1
    rw [List.drop_eq_getElem_cons h1, m_slices_Equal_Seen_Seen_loop1] at hx1
    refine .skip ?_
    refine .seq ?_
    refine .block ?_
    refine .seq ?_
    refine .plx Try.S hwn1 [0, 1, 12, 13] ?_
    refine .seq ?_
    obtain ⟨k1, hx1⟩ := ite_ck hx1
    have e1 := nth_map TSeen.d a0 n1 h1
    have e2 := nth_mapD TSeen.d a1 n1
    replace e2 := e2 k1
    refine .rg Try.S [0, 1, 5, 12, 13] ?_
    refine .rdx 6 (And.intro e1 (And.intro e2 hwn1)) ?_
    refine .rdx 3 (And.intro e1 (And.intro e2 hwn1)) ?_
    refine .nil ⟨fun _ => schedB_of (by kernel_rfl), ?_⟩
    refine .cond rfl rfl (fun hc3 => ?_) (fun hc3 => ?_)
    ·skip
     replace hx1 := ite_lc hx1 hc3
     refine .seq ?_
     refine .plx Try.S hwn1 [] ?_
     have hq := Option.some.inj hx1
     subst x1
     try dsimp only at h
     have hq := Option.some.inj h
     subst r
     exact .ret ⟨.inr rfl, rsi⟩
    ·skip
     replace hx1 := ite_rc hx1 hc3
     refine .skip ?_
     refine .plx Try.S hwn1 [0, 1, 12, 13] ?_
     refine ⟨n1 + 1, ?_, ⟨by omega, hx1⟩, by dsimp only; omega⟩
     exact .m [0, 1, 12, 13] [] []
   ·skip
    have h2 : n1 = a0.length := by have h2b := of_decide_eq_false hc2; omega
    rw [List.drop_of_length_le (by omega), m_slices_Equal_Seen_Seen_loop1] at hx1
    refine .exit ?_
    refine ⟨_, ?_, (Option.some.inj hx1).symm⟩
    exact .m [] [] []
  ·skip
   rintro ⟨⟩ hj1
   subst x1
   try dsimp only at h
   simp only [Try.St_slices_Equal_Seen_Seen_1]
   refine .seq ?_
   refine .pl Try.S [] ?_
   have hq := Option.some.inj h
   subst r
   exact .ret ⟨.inr rfl, rsi⟩
def Try.St_slices_EqualFunc_string_string_string_string_1 : St := ⟨[], [], 0⟩
attribute [local go_sem] Try.St_slices_EqualFunc_string_string_string_string_1
def Try.St_slices_EqualFunc_string_string_string_string_3 (a0 : List (List (List UInt8))) (a1 : List (List (List UInt8))) (Ka2 : Nat) (ca2 : List D) (n1 : Nat) : St := ⟨[(1, .imm 1 (a1.map dL_str) 4), (2, .fn (.func Ka2) ca2), (15, .imm 1 (a0.map dL_str) 4), (16, .int .i64 (a0.length : Int)), (17, .int .i64 (n1 : Int))], [], 0⟩
attribute [local go_sem] Try.St_slices_EqualFunc_string_string_string_string_3
theorem callP_slices_EqualFunc_string_string_string_string (a0 : List (List (List UInt8))) (a1 : List (List (List UInt8))) (Ka2 : Nat) (ca2 : List D) (hca2 : ∀ hp, lends hp ca2 = (ca2, true)) (h2a2 : ∀ hp, lend2s hp ca2 = (ca2, true)) (h3a2 : ∀ hp, ids2s hp ca2 = []) (a2 : (List (List UInt8)) → (List (List UInt8)) → Option Bool) (ha2 : ∀ x0 x1 y, a2 x0 x1 = some y → CallP Try.prog Ka2 (.imm 1 (x0.map D.str) 4 :: .imm 1 (x1.map D.str) 4 :: ca2) (.bool y)) (r : Bool) (h : m_slices_EqualFunc_string_string_string_string a0 a1 a2 = some r) : CallP Try.prog 51 [.imm 1 (a0.map dL_str) 4, .imm 1 (a1.map dL_str) 4, .fn (.func Ka2) ca2] (.bool r) := by
 refine callP_intro Try.tmOk 2 Try.func51 rfl (by decide) rfl rfl (Nat.le_of_ble_eq_true rfl) ?_
 intro hwf
 unfold m_slices_EqualFunc_string_string_string_string at h
 refine .seq ?_
 refine .pl Try.S [0, 1, 2] ?_
 refine .seq ?_
 refine .seq ?_
 refine .pl Try.S [0, 1, 2] ?_
 refine .cond rfl rfl (fun hc1 => ?_) (fun hc1 => ?_)
 ·skip
  replace h := ite_lc h hc1
  refine .seq ?_
  refine .pl Try.S [] ?_
  have hq := Option.some.inj h
  subst r
  exact .ret ⟨.inr rfl, rsi⟩
 ·skip
  replace h := ite_rc h hc1
  refine .skip ?_
  obtain ⟨x1, hx1, h⟩ := bind_some h
  refine .seqM 0 (fun (j : Unit) => Try.St_slices_EqualFunc_string_string_string_string_1) (fun j => x1 = (.inr j)) (Nat.le_of_ble_eq_true rfl) ?_ ?_
  ·skip
   refine .seq ?_
   refine .pl Try.S [0, 1, 2] ?_
   refine .block ?_
   refine .loopG 0 (fun (j : Nat) => Try.St_slices_EqualFunc_string_string_string_string_3 a0 a1 Ka2 ca2 j) (fun j => j ≤ a0.length ∧ m_slices_EqualFunc_string_string_string_string_loop1 a1 a2 (a0.drop j) j  = some x1) (fun j => a0.length - j) (0) (Nat.le_of_ble_eq_true rfl) ?_ ⟨Nat.zero_le _, hx1⟩ ?_
   ·skip
    refine Goes.mv [1, 2, 15, 16, 17] [] [] ?_ (Nat.le_of_ble_eq_true rfl) (Nat.le_of_ble_eq_true rfl) (by first | rfl | (simp only [idsV, idsH, pickL, getL, D.ids, Blk.ids, natbeq, Nat.reduceBEq, cond_true, cond_false, List.append_nil, List.nil_append, List.cons_append, idsL_lent hca2] <;> rfl))
    first | rfl | (simp only [go_sem, Nat.reduceBEq, Nat.reduceAdd, renL_lent hca2]; done) | (simp only [go_sem, Nat.reduceBEq, Nat.reduceAdd, renL_lent hca2]; rfl)
   rintro n1 ⟨hi1, hx1⟩
   simp only [Try.St_slices_EqualFunc_string_string_string_string_3]
   refine .wf 16 (.int .i64 (a0.length : Int)) rfl ?_
   intro hln1
   replace hln1 : (a0.length : Int) ≤ 9223372036854775807 := by simp only [wf, wfL, IntKind.max, IntKind.min, IntKind.signed, IntKind.bits, List.length_map] at hln1; first | exact hln1.2 | exact hln1.1 | (simp at hln1; omega)
   refine .seq ?_
   refine .pl Try.S [1, 2, 15, 16, 17] ?_
   refine .seq ?_
   refine .cond rfl rfl (fun hc2 => ?_) (fun hc2 => ?_)
   ·skip
    have h1 : n1 < a0.length := by simpa using hc2
    have hwn1 : wr .i64 ((n1 : Int) + 1) = ((n1 + 1 : Nat) : Int) := wr_succ h1 hln1
    have hpn1 : wr .i64 ((n1 : Int) - 1) = (n1 : Int) - 1 := wr_pred h1 hln1
    rw [List.drop_eq_getElem_cons h1, m_slices_EqualFunc_string_string_string_string_loop1] at hx1
    refine .skip ?_
    refine .seq ?_
    refine .block ?_
    refine .seq ?_
    have e1 := nth_map dL_str a0 n1 h1
    refine .plx Try.S (And.intro e1 hwn1) [1, 2, 15, 16, 17] ?_
    refine .seq ?_
    obtain ⟨k1, hx1⟩ := ite_ck hx1
    have e2 := nth_mapD dL_str a1 n1
    replace e2 := e2 k1
    refine .plx Try.S (And.intro e2 hwn1) [1, 2, 7, 8, 15, 16, 17] ?_
    refine .seq ?_
    obtain ⟨v1, hv1, hx1⟩ := bind_some hx1
    refine .rg Try.S [1, 2, 8, 9, 15, 16, 17] ?_
    refine .rnx 3 hwn1 ?_
    refine .call (r := .bool v1) rfl rfl rfl rfl rfl (lends_cons rfl (lends_cons rfl (hca2 _))) (ha2 _ _ v1 hv1) ?_
    refine .rnx 1 hwn1 ?_
    refine .nil ⟨nofun, ?_⟩
    refine .cond rfl rfl (fun hc3 => ?_) (fun hc3 => ?_)
    ·skip
     replace hx1 := ite_lc hx1 hc3
     refine .seq ?_
     refine .plx Try.S hwn1 [] ?_
     have hq := Option.some.inj hx1
     subst x1
     try dsimp only at h
     have hq := Option.some.inj h
     subst r
     exact .ret ⟨.inr rfl, rsi⟩
    ·skip
     replace hx1 := ite_rc hx1 hc3
     refine .skip ?_
     refine .plx Try.S hwn1 [1, 2, 15, 16, 17] ?_
     refine ⟨n1 + 1, ?_, ⟨by omega, hx1⟩, by dsimp only; omega⟩
     refine Goes.mv [1, 2, 15, 16, 17] [] [] ?_ (Nat.le_of_ble_eq_true rfl) (Nat.le_of_ble_eq_true rfl) (by first | rfl | (simp only [idsV, idsH, pickL, getL, D.ids, Blk.ids, natbeq, Nat.reduceBEq, cond_true, cond_false, List.append_nil, List.nil_append, List.cons_append, idsL_lent hca2] <;> rfl))
     first | rfl | (simp only [go_sem, Nat.reduceBEq, Nat.reduceAdd, renL_lent hca2]; done) | (simp only [go_sem, Nat.reduceBEq, Nat.reduceAdd, renL_lent hca2]; rfl)
   ·skip
    have h2 : n1 = a0.length := by have h2b := of_decide_eq_false hc2; omega
    rw [List.drop_of_length_le (by omega), m_slices_EqualFunc_string_string_string_string_loop1] at hx1
    refine .exit ?_
    refine ⟨_, ?_, (Option.some.inj hx1).symm⟩
    refine Goes.mv [] [] [] ?_ (Nat.le_of_ble_eq_true rfl) (Nat.le_of_ble_eq_true rfl) (by first | rfl | (simp only [idsV, idsH, pickL, getL, D.ids, Blk.ids, natbeq, Nat.reduceBEq, cond_true, cond_false, List.append_nil, List.nil_append, List.cons_append, idsL_lent hca2] <;> rfl))
    first | rfl | (simp only [go_sem, Nat.reduceBEq, Nat.reduceAdd, renL_lent hca2]; done) | (simp only [go_sem, Nat.reduceBEq, Nat.reduceAdd, renL_lent hca2]; rfl)
  ·skip
   rintro ⟨⟩ hj1
   subst x1
   try dsimp only at h
   simp only [Try.St_slices_EqualFunc_string_string_string_string_1]
   refine .seq ?_
   refine .pl Try.S [] ?_
   have hq := Option.some.inj h
   subst r
   exact .ret ⟨.inr rfl, rsi⟩
theorem callP_stable_Same (a0 : TStable) (a1 : TStable) (r : Bool) (h : m_stable_Same a0 a1 = some r) : CallP Try.prog 20 [.agg [.imm 1 (a0.Logs.map dL_str) 4, .imm 5 (a0.Votes.map TSeen.d) 4], .agg [.imm 1 (a1.Logs.map dL_str) 4, .imm 5 (a1.Votes.map TSeen.d) 4]] (.bool r) := by
 refine callP_intro Try.tmOk 4 Try.func20 rfl (by decide) rfl rfl (Nat.le_of_ble_eq_true rfl) ?_
 intro hwf
 unfold m_stable_Same at h
 refine .seq ?_
 refine .pl Try.S [0, 1] ?_
 refine .seq ?_
 obtain ⟨v1, hv1, h⟩ := bind_some h
 obtain ⟨v2, hv2, h⟩ := bind_some h
 refine .rg Try.S [2, 3] ?_
 refine .rn 4 ?_
 refine .lcall (r := .bool v1) [] rfl rfl rfl rfl rfl (lend2s_cons rfl (lend2s_cons rfl (lend2s_cons (lend2_fn lend2s_nil) lend2s_nil))) rfl (callP_slices_EqualFunc_string_string_string_string a0.Logs a1.Logs 52 [] (fun _ => rfl) (fun _ => rfl) (fun _ => rfl) m_slices_Equal_string_string (fun x0 x1 y hy => callP_slices_Equal_string_string x0 x1 y hy) v1 hv1) ?_
 refine .rn 5 ?_
 refine .gcall (r := .bool v2) rfl rfl rfl rfl rfl (fun hg => ⟨[], [.imm 5 (a0.Votes.map TSeen.d) 4, .imm 5 (a1.Votes.map TSeen.d) 4], _, rfl, gd hg, rfl, (callP_slices_Equal_Seen_Seen a0.Votes a1.Votes v2 (ite_lc hv2 hg))⟩) ?_
 refine .rn 2 ?_
 refine .nil ⟨nofun, ?_⟩
 have hq := Option.some.inj h
 subst r
 exact .ret ⟨.inr rfl, rsi⟩
def Try.St_towncrierref01_Great_1 (l : List (List UInt8)) (n1 : Int) : St := ⟨[(0, .imm 1 (l.map D.str) 4), (3, .int .i64 n1)], [], 0⟩
attribute [local go_sem] Try.St_towncrierref01_Great_1
def Try.St_towncrierref01_Great_3 (l : List (List UInt8)) (n3 : Nat) (n2 : Int) : St := ⟨[(0, .imm 1 (l.map D.str) 4), (3, .int .i64 n2), (4, .int .i64 (n3 : Int))], [], 0⟩
attribute [local go_sem] Try.St_towncrierref01_Great_3
theorem callP_towncrierref01_Great (l : List (List UInt8)) (r : Bool) (h : m_towncrierref01_Great l = some r) : CallP Try.prog 22 [.imm 1 (l.map D.str) 4] (.bool r) := by
 refine callP_intro Try.tmOk 2 Try.func22 rfl (by decide) rfl rfl (Nat.le_of_ble_eq_true rfl) ?_
 intro hwf
 unfold m_towncrierref01_Great at h
 refine .seq ?_
 refine .pl Try.S [0] ?_
 refine .seq ?_
 refine .pl Try.S [0] ?_
 obtain ⟨x1, hx1, h⟩ := bind_some h
 refine .seqM 0 (fun (j : Int) => Try.St_towncrierref01_Great_1 l j) (fun j => x1 = j) (Nat.le_of_ble_eq_true rfl) ?_ ?_
 ·skip
  refine .seq ?_
  refine .pl Try.S [0, 3] ?_
  refine .block ?_
  refine .loopG 0 (fun (j : Nat × Int) => Try.St_towncrierref01_Great_3 l j.1 j.2) (fun j => j.1 ≤ l.length ∧ m_towncrierref01_Great_loop1 (l.drop j.1) j.1 j.2 = some x1) (fun j => l.length - j.1) (0, 0) (Nat.le_of_ble_eq_true rfl) ?_ ⟨Nat.zero_le _, hx1⟩ ?_
  ·skip
   exact .m [0, 3, 4] [] []
  rintro ⟨n3, n2⟩ ⟨hi1, hx1⟩
  simp only [Try.St_towncrierref01_Great_3]
  simp only at hi1 hx1
  refine .wf 0 (.imm 1 (l.map D.str) 4) rfl ?_
  intro hln3
  replace hln3 : (l.length : Int) ≤ 9223372036854775807 := by simp only [wf, wfL, IntKind.max, IntKind.min, IntKind.signed, IntKind.bits, List.length_map] at hln3; first | exact hln3.2 | exact hln3.1 | (simp at hln3; omega)
  refine .seq ?_
  refine .seq ?_
  refine .pl Try.S [0, 3, 4] ?_
  refine .cond rfl rfl (fun hc1 => ?_) (fun hc1 => ?_)
  ·skip
   have h1 : n3 < l.length := by have hq := hc1; simp at hq; omega
   have hwn3 : wr .i64 ((n3 : Int) + 1) = ((n3 + 1 : Nat) : Int) := wr_succ h1 hln3
   have hpn3 : wr .i64 ((n3 : Int) - 1) = (n3 : Int) - 1 := wr_pred h1 hln3
   rw [List.drop_eq_getElem_cons h1, m_towncrierref01_Great_loop1_c] at hx1
   replace hx1 := ite_lc hx1 hc1
   refine .skip ?_
   refine .seq ?_
   refine .block ?_
   have e1 := nth_map D.str l n3 h1
   refine .rg Try.S [0, 3, 4] ?_
   refine .rnx 6 (And.intro e1 hwn3) ?_
   refine .rnx 3 (And.intro e1 hwn3) ?_
   refine .nil ⟨nofun, ?_⟩
   refine .plx Try.S hwn3 [0, 3, 4] ?_
   refine ⟨(n3 + 1, _), ?_, ⟨by omega, hx1⟩, by dsimp only; omega⟩
   exact .m [0, 3, 4] [] []
  ·skip
   by_cases h2 : n3 < l.length
   ·skip
    rw [List.drop_eq_getElem_cons h2, m_towncrierref01_Great_loop1_c] at hx1
    replace hx1 := ite_r hx1 (by have hq := hc1; simp at hq ⊢; first | exact hq (by omega) | omega | grind)
    refine .exit ?_
    refine ⟨_, ?_, (Option.some.inj hx1).symm⟩
    exact .m [0, 3] [] []
   ·skip
    rw [List.drop_of_length_le (by omega), m_towncrierref01_Great_loop1_n] at hx1
    refine .exit ?_
    refine ⟨_, ?_, (Option.some.inj hx1).symm⟩
    exact .m [0, 3] [] []
 ·skip
  rintro n1 hj1
  subst x1
  try dsimp only at h
  simp only [Try.St_towncrierref01_Great_1]
  refine .seq ?_
  refine .pl Try.S [0, 3] ?_
  have hq := Option.some.inj h
  subst r
  exact .ret ⟨.inr rfl, rsi⟩
def Try.St_towncrierref11_Great_1 (a0 : TStable) : St := ⟨[(1, .ptr 0 0), (3, .int .i64 0)], [(0, .box [.imm 1 (a0.Logs.map dL_str) 4, .imm 5 (a0.Votes.map TSeen.d) 4])], 1⟩
attribute [local go_sem] Try.St_towncrierref11_Great_1
def Try.St_towncrierref11_Great_3 (a0 : TStable) (n1 : Nat) : St := ⟨[(1, .ptr 0 0), (3, .int .i64 0), (4, .int .i64 (n1 : Int))], [(0, .box [.imm 1 (a0.Logs.map dL_str) 4, .imm 5 (a0.Votes.map TSeen.d) 4])], 1⟩
attribute [local go_sem] Try.St_towncrierref11_Great_3
def Try.St_towncrierref11_Great_5 (a0 : TStable) (n2 : Int) : St := ⟨[(1, .ptr 0 0), (3, .int .i64 n2)], [(0, .box [.imm 1 (a0.Logs.map dL_str) 4, .imm 5 (a0.Votes.map TSeen.d) 4])], 1⟩
attribute [local go_sem] Try.St_towncrierref11_Great_5
def Try.St_towncrierref11_Great_7 (a0 : TStable) (n4 : Nat) (n3 : Int) : St := ⟨[(1, .ptr 0 0), (3, .int .i64 n3), (5, .int .i64 (n4 : Int))], [(0, .box [.imm 1 (a0.Logs.map dL_str) 4, .imm 5 (a0.Votes.map TSeen.d) 4])], 1⟩
attribute [local go_sem] Try.St_towncrierref11_Great_7
theorem callP_towncrierref11_Great (a0 : TStable) (r : Bool) (h : m_towncrierref11_Great a0 = some r) : CallP Try.prog 9 [.agg [.imm 1 (a0.Logs.map dL_str) 4, .imm 5 (a0.Votes.map TSeen.d) 4]] (.bool r) := by
 refine callP_intro Try.tmOk 3 Try.func9 rfl (by decide) rfl rfl (Nat.le_of_ble_eq_true rfl) ?_
 intro hwf
 unfold m_towncrierref11_Great at h
 refine .seq ?_
 refine .pl Try.S [0] ?_
 refine .seq ?_
 refine .pl Try.S [1] ?_
 obtain ⟨x1, hx1, h⟩ := bind_some h
 refine .seqM 1 (fun (j : Unit) => Try.St_towncrierref11_Great_1 a0) (fun j => x1 = (.inr j)) (Nat.le_of_ble_eq_true rfl) ?_ ?_
 ·skip
  refine .seq ?_
  refine .pl Try.S [1, 3] ?_
  refine .block ?_
  refine .loopG 1 (fun (j : Nat) => Try.St_towncrierref11_Great_3 a0 j) (fun j => j ≤ a0.Logs.length ∧ m_towncrierref11_Great_loop1 (a0.Logs.drop j) j  = some x1) (fun j => a0.Logs.length - j) (0) (Nat.le_of_ble_eq_true rfl) ?_ ⟨Nat.zero_le _, hx1⟩ ?_
  ·skip
   exact .m [1, 3, 4] [0] []
  rintro n1 ⟨hi1, hx1⟩
  simp only [Try.St_towncrierref11_Great_3]
  refine .wfb 0 [.imm 1 (a0.Logs.map dL_str) 4, .imm 5 (a0.Votes.map TSeen.d) 4] rfl ?_
  intro hln1
  replace hln1 : (a0.Logs.length : Int) ≤ 9223372036854775807 := by simp only [wf, wfL, IntKind.max, IntKind.min, IntKind.signed, IntKind.bits, List.length_map] at hln1; first | exact hln1.2 | exact hln1.1 | (simp at hln1; omega)
  refine .seq ?_
  refine .seq ?_
  refine .rg Try.S [1, 3, 4] ?_
  refine .rn 6 ?_
  refine .rn 3 ?_
  refine .nil ⟨nofun, ?_⟩
  refine .cond rfl rfl (fun hc1 => ?_) (fun hc1 => ?_)
  ·skip
   have h1 : n1 < a0.Logs.length := by have hq := hc1; simp at hq; omega
   have hwn1 : wr .i64 ((n1 : Int) + 1) = ((n1 + 1 : Nat) : Int) := wr_succ h1 hln1
   have hpn1 : wr .i64 ((n1 : Int) - 1) = (n1 : Int) - 1 := wr_pred h1 hln1
   rw [List.drop_eq_getElem_cons h1, m_towncrierref11_Great_loop1] at hx1
   replace hx1 := ite_lc hx1 hc1
   refine .skip ?_
   refine .seq ?_
   refine .block ?_
   refine .seq ?_
   obtain ⟨v1, hv1, hx1⟩ := bind_some hx1
   have e1 := nth_map dL_str a0.Logs n1 h1
   refine .rg Try.S [1, 3, 4] ?_
   refine .rnx 5 (And.intro e1 hwn1) ?_
   refine .call (r := .bool v1) rfl rfl rfl rfl rfl rfl (callP_towncrierref01_Great (a0.Logs[n1]) v1 hv1) ?_
   refine .nil ⟨nofun, ?_⟩
   refine .cond rfl rfl (fun hc2 => ?_) (fun hc2 => ?_)
   ·skip
    replace hx1 := ite_lc hx1 hc2
    refine .seq ?_
    refine .plx Try.S hwn1 [] ?_
    have hq := Option.some.inj hx1
    subst x1
    try dsimp only at h
    have hq := Option.some.inj h
    subst r
    exact .ret ⟨.inr rfl, rsi⟩
   ·skip
    replace hx1 := ite_rc hx1 hc2
    refine .skip ?_
    refine .plx Try.S hwn1 [1, 3, 4] ?_
    refine ⟨n1 + 1, ?_, ⟨by omega, hx1⟩, by dsimp only; omega⟩
    exact .m [1, 3, 4] [0] []
  ·skip
   by_cases h2 : n1 < a0.Logs.length
   ·skip
    rw [List.drop_eq_getElem_cons h2, m_towncrierref11_Great_loop1] at hx1
    replace hx1 := ite_r hx1 (by have hq := hc1; simp at hq ⊢; first | exact hq (by omega) | omega | grind)
    refine .exit ?_
    refine ⟨_, ?_, (Option.some.inj hx1).symm⟩
    exact .m [1, 3] [0] []
   ·skip
    rw [List.drop_of_length_le (by omega), m_towncrierref11_Great_loop1] at hx1
    refine .exit ?_
    refine ⟨_, ?_, (Option.some.inj hx1).symm⟩
    exact .m [1, 3] [0] []
 ·skip
  rintro ⟨⟩ hj1
  subst x1
  try dsimp only at h
  simp only [Try.St_towncrierref11_Great_1]
  obtain ⟨x2, hx2, h⟩ := bind_some h
  refine .seqM 1 (fun (j : Int) => Try.St_towncrierref11_Great_5 a0 j) (fun j => x2 = j) (Nat.le_of_ble_eq_true rfl) ?_ ?_
  ·skip
   refine .seq ?_
   refine .pl Try.S [1, 3] ?_
   refine .block ?_
   refine .loopG 1 (fun (j : Nat × Int) => Try.St_towncrierref11_Great_7 a0 j.1 j.2) (fun j => j.1 ≤ a0.Votes.length ∧ m_towncrierref11_Great_loop2 (a0.Votes.drop j.1) j.1 j.2 = some x2) (fun j => a0.Votes.length - j.1) (0, 0) (Nat.le_of_ble_eq_true rfl) ?_ ⟨Nat.zero_le _, hx2⟩ ?_
   ·skip
    exact .m [1, 3, 5] [0] []
   rintro ⟨n4, n3⟩ ⟨hi2, hx2⟩
   simp only [Try.St_towncrierref11_Great_7]
   simp only at hi2 hx2
   refine .wfb 0 [.imm 1 (a0.Logs.map dL_str) 4, .imm 5 (a0.Votes.map TSeen.d) 4] rfl ?_
   intro hln4
   replace hln4 : (a0.Votes.length : Int) ≤ 9223372036854775807 := by simp only [wf, wfL, IntKind.max, IntKind.min, IntKind.signed, IntKind.bits, List.length_map] at hln4; first | exact hln4.2 | exact hln4.1 | (simp at hln4; omega)
   refine .seq ?_
   refine .seq ?_
   refine .rg Try.S [1, 3, 5] ?_
   refine .rn 6 ?_
   refine .rn 3 ?_
   refine .nil ⟨nofun, ?_⟩
   refine .cond rfl rfl (fun hc3 => ?_) (fun hc3 => ?_)
   ·skip
    have h3 : n4 < a0.Votes.length := by have hq := hc3; simp at hq; omega
    have hwn4 : wr .i64 ((n4 : Int) + 1) = ((n4 + 1 : Nat) : Int) := wr_succ h3 hln4
    have hpn4 : wr .i64 ((n4 : Int) - 1) = (n4 : Int) - 1 := wr_pred h3 hln4
    rw [List.drop_eq_getElem_cons h3, m_towncrierref11_Great_loop2_c] at hx2
    replace hx2 := ite_lc hx2 hc3
    refine .skip ?_
    refine .seq ?_
    refine .block ?_
    have e2 := nth_map TSeen.d a0.Votes n4 h3
    refine .rg Try.S [1, 3, 5] ?_
    refine .rnx 6 (And.intro e2 hwn4) ?_
    refine .rnx 6 (And.intro e2 hwn4) ?_
    refine .nil ⟨nofun, ?_⟩
    refine .plx Try.S hwn4 [1, 3, 5] ?_
    refine ⟨(n4 + 1, _), ?_, ⟨by omega, hx2⟩, by dsimp only; omega⟩
    exact .m [1, 3, 5] [0] []
   ·skip
    by_cases h4 : n4 < a0.Votes.length
    ·skip
     rw [List.drop_eq_getElem_cons h4, m_towncrierref11_Great_loop2_c] at hx2
     replace hx2 := ite_r hx2 (by have hq := hc3; simp at hq ⊢; first | exact hq (by omega) | omega | grind)
     refine .exit ?_
     refine ⟨_, ?_, (Option.some.inj hx2).symm⟩
     exact .m [1, 3] [0] []
    ·skip
     rw [List.drop_of_length_le (by omega), m_towncrierref11_Great_loop2_n] at hx2
     refine .exit ?_
     refine ⟨_, ?_, (Option.some.inj hx2).symm⟩
     exact .m [1, 3] [0] []
  ·skip
   rintro n2 hj2
   subst x2
   try dsimp only at h
   simp only [Try.St_towncrierref11_Great_5]
   refine .seq ?_
   refine .rg Try.S [1, 3] ?_
   refine .rn 6 ?_
   refine .rn 6 ?_
   refine .rn 3 ?_
   refine .nil ⟨nofun, ?_⟩
   have hq := Option.some.inj h
   subst r
   exact .ret ⟨.inr rfl, rsi⟩
theorem callP_vote_asked (a0 : TVote) (a1 : Int) (a2 : List UInt8) (r : Int) (h : m_vote_asked a0 a1 a2 = some r) : CallP Try.prog 83 [.agg [.int .i64 a0.Promised, .int .i64 a0.Ballot, .str a0.Value], .int .i64 a1, .str a2] (.int .i64 r) := by
 refine callP_intro Try.tmOk 3 Try.func83 rfl (by decide) rfl rfl (Nat.le_of_ble_eq_true rfl) ?_
 intro hwf
 unfold m_vote_asked at h
 refine .seq ?_
 refine .pl Try.S [0, 1, 2] ?_
 refine .seq ?_
 refine .seq ?_
 obtain ⟨v1, hv1, h⟩ := bind_some h
 refine .rg Try.S [1, 2, 3] ?_
 refine .rn 1 ?_
 refine .call (r := .int .i64 v1) rfl rfl rfl rfl rfl rfl (callP_vote_Check a0 v1 hv1) ?_
 refine .rn 1 ?_
 refine .nil ⟨nofun, ?_⟩
 refine .seq ?_
 refine .pl Try.S [1, 2, 3, 7] ?_
 refine .cond rfl rfl (fun hc1 => ?_) (fun hc1 => ?_)
 ·skip
  replace h := ite_lc h hc1
  refine .seq ?_
  refine .pl Try.S [7] ?_
  have hq := Option.some.inj h
  subst r
  exact .ret ⟨.inr rfl, rsi⟩
 ·skip
  replace h := ite_rc h hc1
  refine .skip ?_
  refine .seq ?_
  refine .seq ?_
  obtain ⟨v2, hv2, h⟩ := bind_some h
  refine .rg Try.S [1, 2, 3] ?_
  refine .rn 1 ?_
  refine .call (r := .int .i64 v2) rfl rfl rfl rfl rfl rfl (callP_ballot_Check a1 v2 hv2) ?_
  refine .rn 1 ?_
  refine .nil ⟨nofun, ?_⟩
  refine .seq ?_
  refine .pl Try.S [1, 2, 3, 8] ?_
  refine .cond rfl rfl (fun hc2 => ?_) (fun hc2 => ?_)
  ·skip
   replace h := ite_lc h hc2
   refine .seq ?_
   refine .pl Try.S [8] ?_
   have hq := Option.some.inj h
   subst r
   exact .ret ⟨.inr rfl, rsi⟩
  ·skip
   replace h := ite_rc h hc2
   refine .skip ?_
   refine .seq ?_
   refine .seq ?_
   refine .pl Try.S [1, 2, 3] ?_
   refine .cond rfl rfl (fun hc3 => ?_) (fun hc3 => ?_)
   ·skip
    replace h := ite_lc h hc3
    refine .seq ?_
    refine .pl Try.S [] ?_
    have hq := Option.some.inj h
    subst r
    exact .ret ⟨.inr rfl, rsi⟩
   ·skip
    replace h := ite_rc h hc3
    refine .skip ?_
    refine .seq ?_
    refine .seq ?_
    refine .pl Try.S [1, 3] ?_
    refine .cond rfl rfl (fun hc4 => ?_) (fun hc4 => ?_)
    ·skip
     replace h := ite_lc h hc4
     refine .seq ?_
     refine .pl Try.S [] ?_
     have hq := Option.some.inj h
     subst r
     exact .ret ⟨.inr rfl, rsi⟩
    ·skip
     replace h := ite_rc h hc4
     refine .skip ?_
     refine .seq ?_
     refine .pl Try.S [] ?_
     have hq := Option.some.inj h
     subst r
     exact .ret ⟨.inr rfl, rsi⟩
theorem callP_vote_Prepare (a0 : TVote) (a1 : Int) (r : TVote × Int) (h : m_vote_Prepare a0 a1 = some r) : CallP Try.prog 64 [.agg [.int .i64 a0.Promised, .int .i64 a0.Ballot, .str a0.Value], .int .i64 a1] (.tuple [.agg [.int .i64 r.1.Promised, .int .i64 r.1.Ballot, .str r.1.Value], .int .i64 r.2]) := by
 refine callP_intro Try.tmOk 4 Try.func64 rfl (by decide) rfl rfl (Nat.le_of_ble_eq_true rfl) ?_
 intro hwf
 unfold m_vote_Prepare at h
 refine .seq ?_
 refine .pl Try.S [0, 1] ?_
 refine .seq ?_
 refine .seq ?_
 obtain ⟨v1, hv1, h⟩ := bind_some h
 refine .rg Try.S [1, 2, 4] ?_
 refine .rn 2 ?_
 refine .call (r := .int .i64 v1) rfl rfl rfl rfl rfl rfl (callP_vote_asked a0 a1 [] v1 hv1) ?_
 refine .rn 1 ?_
 refine .nil ⟨nofun, ?_⟩
 refine .seq ?_
 refine .pl Try.S [1, 2, 4, 6] ?_
 refine .cond rfl rfl (fun hc1 => ?_) (fun hc1 => ?_)
 ·skip
  replace h := ite_lc h hc1
  refine .seq ?_
  refine .pl Try.S [4, 6] ?_
  have hq := Option.some.inj h
  subst r
  exact .ret ⟨.inr rfl, rsi⟩
 ·skip
  replace h := ite_rc h hc1
  refine .skip ?_
  refine .seq ?_
  refine .pl Try.S [1, 2, 4] ?_
  refine .seq ?_
  refine .pl Try.S [2, 4] ?_
  have hq := Option.some.inj h
  subst r
  exact .ret ⟨.inr rfl, rsi⟩
theorem callP_vote_Accept (a0 : TVote) (a1 : Int) (a2 : List UInt8) (r : TVote × Int) (h : m_vote_Accept a0 a1 a2 = some r) : CallP Try.prog 65 [.agg [.int .i64 a0.Promised, .int .i64 a0.Ballot, .str a0.Value], .int .i64 a1, .str a2] (.tuple [.agg [.int .i64 r.1.Promised, .int .i64 r.1.Ballot, .str r.1.Value], .int .i64 r.2]) := by
 refine callP_intro Try.tmOk 4 Try.func65 rfl (by decide) rfl rfl (Nat.le_of_ble_eq_true rfl) ?_
 intro hwf
 unfold m_vote_Accept at h
 refine .seq ?_
 refine .pl Try.S [0, 1, 2] ?_
 refine .seq ?_
 refine .seq ?_
 obtain ⟨v1, hv1, h⟩ := bind_some h
 refine .rg Try.S [1, 2, 3, 6] ?_
 refine .rn 3 ?_
 refine .call (r := .int .i64 v1) rfl rfl rfl rfl rfl rfl (callP_vote_asked a0 a1 a2 v1 hv1) ?_
 refine .rn 1 ?_
 refine .nil ⟨nofun, ?_⟩
 refine .seq ?_
 refine .pl Try.S [1, 2, 6, 8] ?_
 refine .cond rfl rfl (fun hc1 => ?_) (fun hc1 => ?_)
 ·skip
  replace h := ite_lc h hc1
  refine .seq ?_
  refine .pl Try.S [6, 8] ?_
  have hq := Option.some.inj h
  subst r
  exact .ret ⟨.inr rfl, rsi⟩
 ·skip
  replace h := ite_rc h hc1
  refine .skip ?_
  refine .seq ?_
  refine .pl Try.S [1, 2, 6] ?_
  have hq := Option.some.inj h
  subst r
  exact .ret ⟨.inr rfl, rsi⟩
end Go.Proofs
end
section
namespace Go.Proofs
open Go.Tm
set_option linter.unusedVariables false
def m_stable_put (a0 : TStable) (a1 : TRecord) : Option (Int × TStable) :=
 if a1.Group ≥ (a0.Logs.length : Int) then
 some (6, a0)
 else
 if (0 ≤ a1.Group ∧ a1.Group < (a0.Logs.length : Int)) then
 if (a1.Slot ≤ ((a0.Logs.getD a1.Group.toNat default).length : Int)) ∨ ((a1.Kind = 3) ∧ (¬ (a1.Slot = (wr .i64 (((a0.Logs.getD a1.Group.toNat default).length : Int) + 1))))) then
 some (8, a0)
 else
 Option.bind (m_slices_BinarySearchFunc_Seen_Seen_Seen a0.Votes (⟨a1.Group, a1.Slot, (⟨0, 0, []⟩ : TVote)⟩ : TSeen) m_stable_place) fun v1 =>
 Option.bind (α := Int × Int × Int × Int × (List UInt8)) (if v1.2 = true then
 if (0 ≤ v1.1 ∧ v1.1 < (a0.Votes.length : Int)) then
 some ((a0.Votes.getD v1.1.toNat default).Group, (a0.Votes.getD v1.1.toNat default).Slot, (a0.Votes.getD v1.1.toNat default).Vote.Promised, (a0.Votes.getD v1.1.toNat default).Vote.Ballot, (a0.Votes.getD v1.1.toNat default).Vote.Value)
 else none
 else
 some (a1.Group, a1.Slot, 0, 0, [])) fun (n1, n2, n3, n4, s1) =>
 Option.bind (α := (Int × TStable) ⊕ (Int × Int × (List UInt8) × Int)) (if a1.Kind = 1 then
 Option.bind (m_vote_Prepare (⟨n3, n4, s1⟩ : TVote) a1.Ballot) fun v2 =>
 some (.inr (v2.1.Promised, v2.1.Ballot, v2.1.Value, v2.2))
 else
 if a1.Kind = 2 then
 Option.bind (m_vote_Accept (⟨n3, n4, s1⟩ : TVote) a1.Ballot a1.Value) fun v3 =>
 some (.inr (v3.1.Promised, v3.1.Ballot, v3.1.Value, v3.2))
 else
 Option.bind (α := (List TSeen)) (if v1.2 = true then
 if 0 ≤ v1.1 ∧ v1.1 < (a0.Votes.length : Int) then
 if a0.Votes.length < 1000000 then
 some (a0.Votes.eraseIdx v1.1.toNat)
 else none
 else none
 else
 some a0.Votes) fun l1 =>
 some (.inl (0, (⟨(a0.Logs.set a1.Group.toNat ((a0.Logs.getD a1.Group.toNat default) ++ [a1.Value])), l1⟩ : TStable)))) fun z => match z with
 | (.inl r) => some r
 | (.inr (n5, n6, s2, n7)) =>
 if ¬ (n7 = 0) then
 some (n7, a0)
 else
 Option.bind (α := (List TSeen)) (if ¬ (v1.2 = true) then
 if 0 ≤ v1.1 ∧ v1.1 ≤ (a0.Votes.length : Int) then
 if a0.Votes.length < 1000000 then
 some ((a0.Votes.take v1.1.toNat) ++ ((⟨n1, n2, (⟨n5, n6, s2⟩ : TVote)⟩ : TSeen) :: (a0.Votes.drop v1.1.toNat)))
 else none
 else none
 else
 some a0.Votes) fun l2 =>
 if (0 ≤ v1.1 ∧ v1.1 < (l2.length : Int)) then
 some (0, (⟨a0.Logs, (l2.set v1.1.toNat (⟨n1, n2, (⟨n5, n6, s2⟩ : TVote)⟩ : TSeen))⟩ : TStable))
 else none
 else none
end Go.Proofs
end
section
namespace Go.Proofs
open Go.Tm
set_option linter.unusedVariables false
def m_num_in (a0 : Int) : Option Bool :=
 some ((decide (a0 ≥ 0)) && (decide (a0 ≤ 1099511627776)))
def m_num_Get_loop1 : List Int → Nat → Int → Option ((Int × Int × Int) ⊕ Unit)
 | [], n2, n1 =>
  some (.inr ())
 | y1 :: rest1, n2, n1 =>
  if (n2 : Int) > 5 then
  some (.inr ())
  else
  if 0 ≤ (wr .i64 (7 * (n2 : Int))) then
  if y1 > 127 then
  m_num_Get_loop1 rest1 (n2 + 1) (bitw .or .i64 n1 (shw true .i64 (wr .i64 (bitw .and .u8 (y1) 127)) (wr .i64 (7 * (n2 : Int)))))
  else
  Option.bind (if ¬ ((y1 = 0) ∧ ((n2 : Int) > 0)) then m_num_in (bitw .or .i64 n1 (shw true .i64 (wr .i64 (bitw .and .u8 (y1) 127)) (wr .i64 (7 * (n2 : Int))))) else some default) fun v1 =>
  if ((y1 = 0) ∧ ((n2 : Int) > 0)) ∨ (¬ (v1 = true)) then
  some (.inr ())
  else
  some (.inl ((bitw .or .i64 n1 (shw true .i64 (wr .i64 (bitw .and .u8 (y1) 127)) (wr .i64 (7 * (n2 : Int))))), (wr .i64 ((n2 : Int) + 1)), 0))
  else none
def m_num_Get (a0 : List Int) : Option (Int × Int × Int) :=
 Option.bind (α := (Int × Int × Int) ⊕ Unit) (m_num_Get_loop1 a0 0 0) fun z => match z with
 | (.inl r) => some r
 | (.inr _) =>
 some (0, 0, 8)
def m_num_GetText (a0 : List Int) : Option ((List UInt8) × Int × Int) :=
 Option.bind (m_num_Get a0) fun v1 =>
 if ((¬ (v1.2.2 = 0)) ∨ (v1.1 > 4096)) ∨ (v1.1 > (wr .i64 ((a0.length : Int) - v1.2.1))) then
 some ([], 0, 8)
 else
 if (0 ≤ v1.2.1 ∧ v1.2.1 ≤ (wr .i64 (v1.2.1 + v1.1)) ∧ (wr .i64 (v1.2.1 + v1.1)) ≤ (a0.length : Int)) then
 some ((toBytes ((a0.take (wr .i64 (v1.2.1 + v1.1)).toNat).drop v1.2.1.toNat)), (wr .i64 (v1.2.1 + v1.1)), 0)
 else none
def m_record_Read_1 (c0 : List Int) (c1 : Bool) : Option (Int × (List Int) × Bool) :=
 Option.bind (m_num_Get c0) fun v1 =>
 if (0 ≤ v1.2.1 ∧ v1.2.1 ≤ (c0.length : Int)) then
 some (v1.1, (c0.drop v1.2.1.toNat), (c1 || (v1.2.2 != 0)))
 else none
def m_record_Read (a0 : List UInt8) : Option (TRecord × Int) :=
 Option.bind (m_record_Read_1 (ofBytes a0) false) fun v1 =>
 Option.bind (m_record_Read_1 v1.2.1 v1.2.2) fun v2 =>
 Option.bind (m_record_Read_1 v2.2.1 v2.2.2) fun v3 =>
 Option.bind (m_record_has (wr .u8 (bitw .and .i64 v1.1 255))) fun v4 =>
 Option.bind (α := (List Int) × Bool × Int) (if v4.1 = true then
 Option.bind (m_record_Read_1 v3.2.1 v3.2.2) fun v5 =>
 some (v5.2.1, v5.2.2, v5.1)
 else
 some (v3.2.1, v3.2.2, 0)) fun (l1, b1, n1) =>
 Option.bind (α := (List Int) × Bool × (List UInt8)) (if (v4.2 = true) ∧ (¬ (b1 = true)) then
 Option.bind (m_num_GetText l1) fun v6 =>
 if (0 ≤ v6.2.1 ∧ v6.2.1 ≤ (l1.length : Int)) then
 some ((l1.drop v6.2.1.toNat), (v6.2.2 != 0), v6.1)
 else none
 else
 some (l1, b1, [])) fun (l2, b2, s1) =>
 Option.bind (if ¬ (((b2 = true) ∨ ((l2.length : Int) > 0)) ∨ (v1.1 > 255)) then m_record_Check (⟨(wr .u8 (bitw .and .i64 v1.1 255)), v2.1, v3.1, n1, s1⟩ : TRecord) else some default) fun v7 =>
 if (((b2 = true) ∨ ((l2.length : Int) > 0)) ∨ (v1.1 > 255)) ∨ (¬ (v7 = 0)) then
 some ((⟨0, 0, 0, 0, []⟩ : TRecord), 8)
 else
 some ((⟨(wr .u8 (bitw .and .i64 v1.1 255)), v2.1, v3.1, n1, s1⟩ : TRecord), 0)
end Go.Proofs
end
