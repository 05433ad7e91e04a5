/- Texts of the proof. -/
import Derived.Test.YtkananhhhkkpkaaGreatOrderPlaysPf
import Derived.Test.YtkananhhhkkpkaaGreatOrderPlaysPg
import Derived.Test.YtkananhhhkkpkaaGreatOrderPlaysPh
import Derived.Test.YtkananhhhkkpkaaGreatOrderPlaysPi
section
namespace Go.Proofs
open Go.Tm
set_option linter.unusedVariables false
def zcb : List Int -> Nat -> Int -> Option ((Int × Int × Int) ⊕ Unit)
 | [], n2, n1 =>
  some (.inr ())
 | y1 :: rest1, n2, n1 =>
  if (n2 : Int) > 5 then
  some (.inr ())
  else
  if 0 <= (wr .i64 (7 * (n2 : Int))) then
  if y1 > 127 then
  zcb rest1 (n2 + 1) (bitw .or .i64 n1 (shw true .i64 (wr .i64 (bitw .and .u8 (y1) 127)) (wr .i64 (7 * (n2 : Int)))))
  else
  Option.bind (if ¬ ((y1 = 0) /\ ((n2 : Int) > 0)) then zkm (bitw .or .i64 n1 (shw true .i64 (wr .i64 (bitw .and .u8 (y1) 127)) (wr .i64 (7 * (n2 : Int))))) else some default) fun v1 =>
  if ((y1 = 0) /\ ((n2 : Int) > 0)) \/ (¬ (v1 = true)) then
  some (.inr ())
  else
  some (.inl ((bitw .or .i64 n1 (shw true .i64 (wr .i64 (bitw .and .u8 (y1) 127)) (wr .i64 (7 * (n2 : Int))))), (wr .i64 ((n2 : Int) + 1)), 0))
  else none
def zes (a0 : List Int) : Option (Int × Int × Int) :=
 Option.bind (α := (Int × Int × Int) ⊕ Unit) (zcb a0 0 0) fun z => match z with
 | (.inl r) => some r
 | (.inr _) =>
 some (0, 0, 8)
def zed (a0 : List Int) : Option ((List UInt8) × Int × Int) :=
 Option.bind (zes a0) fun v1 =>
 if ((¬ (v1.2.2 = 0)) \/ (v1.1 > 4096)) \/ (v1.1 > (wr .i64 ((a0.length : Int) - v1.2.1))) then
 some ([], 0, 8)
 else
 if (0 <= v1.2.1 /\ v1.2.1 <= (wr .i64 (v1.2.1 + v1.1)) /\ (wr .i64 (v1.2.1 + v1.1)) <= (a0.length : Int)) then
 some ((toBytes ((a0.take (wr .i64 (v1.2.1 + v1.1)).toNat).drop v1.2.1.toNat)), (wr .i64 (v1.2.1 + v1.1)), 0)
 else none
def zbs (a0 : List Int) (v1 : Int × Int × Int) : Nat -> (List Int) -> Int -> Int -> Option (((List Int) × Int × Int) ⊕ ((List Int) × Int))
 | 0, _, _, _ => none
 | fu1 + 1, l2, n2, n3 =>
  if n3 < v1.1 then
  if (0 <= n2 /\ n2 <= (a0.length : Int)) then
  Option.bind (zes (a0.drop n2.toNat)) fun v2 =>
  if ¬ (v2.2.2 = 0) then
  some (.inl ([], 0, v2.2.2))
  else
  if l2.length + [v2.1].length < 1000000 then
  zbs a0 v1 fu1 (l2 ++ [v2.1]) (wr .i64 (n2 + v2.2.1)) (wr .i64 (n3 + 1))
  else none
  else none
  else
  some (.inr (l2, n2))
def zee (a0 : List Int) (a1 : Int) : Option ((List Int) × Int × Int) :=
 if (a1 < 0) \/ (a1 > 4096) then
 some ([], 0, 2)
 else
 Option.bind (zes a0) fun v1 =>
 if (¬ (v1.2.2 = 0)) \/ (v1.1 > a1) then
 some ([], 0, 8)
 else
 Option.bind (α := ((List Int) × Int × Int) ⊕ ((List Int) × Int)) (zbs a0 v1 (v1.1.toNat + 1) [] v1.2.1 0) fun z => match z with
 | (.inl r) => some r
 | (.inr (l1, n1)) =>
 some (l1, n1, 0)
def zbx (a0 : Tcommand_reader) (a1 : Int) (a2 : Int) : Option Tcommand_reader :=
 if (0 <= (min a1 (a0.fB.length : Int)) /\ (min a1 (a0.fB.length : Int)) <= (a0.fB.length : Int)) then
 some (⟨(a0.fB.drop (min a1 (a0.fB.length : Int)).toNat), (a0.fOk && (a2 == 0))⟩ : Tcommand_reader)
 else none
def zaa (a0 : Tcommand_reader) : Option (Int × Tcommand_reader) :=
 Option.bind (zes a0.fB) fun v1 =>
 Option.bind (zbx a0 v1.2.1 v1.2.2) fun v2 =>
 some (v1.1, v2)
def zc6 (a0 : Tcommand_reader) : Option ((List UInt8) × Tcommand_reader) :=
 Option.bind (zed a0.fB) fun v1 =>
 Option.bind (zbx a0 v1.2.1 v1.2.2) fun v2 =>
 some (v1.1, v2)
def zc7 (a0 : Tcommand_reader) (a1 : Int) : Option ((List Int) × Tcommand_reader) :=
 Option.bind (zee a0.fB a1) fun v1 =>
 Option.bind (zbx a0 v1.2.1 v1.2.2) fun v2 =>
 some (v1.1, v2)
def zbt (a0 : Tcommand_reader) : Option (TCommand × Tcommand_reader) :=
 Option.bind (zaa a0) fun v1 =>
 Option.bind (α := (List Int) × Bool × Int × (List Int) × Int × (List UInt8) × (List UInt8) × Int × Int × (List Int) × Int × Int × Int) (if (wr .u8 (min v1.1 255)) = 1 then
 Option.bind (zaa v1.2) fun v2 =>
 Option.bind (zc7 v2.2 4) fun v3 =>
 Option.bind (zaa v3.2) fun v4 =>
 Option.bind (zc6 v4.2) fun v5 =>
 Option.bind (zc6 v5.2) fun v6 =>
 some (v6.2.fB, v6.2.fOk, v2.1, v3.1, v4.1, v5.1, v6.1, 0, 0, [], 0, 0, 0)
 else
 if (wr .u8 (min v1.1 255)) = 2 then
 Option.bind (zaa v1.2) fun v7 =>
 Option.bind (zaa v7.2) fun v8 =>
 some (v8.2.fB, v8.2.fOk, 0, [], 0, [], [], v7.1, v8.1, [], 0, 0, 0)
 else
 if (wr .u8 (min v1.1 255)) = 3 then
 Option.bind (zc7 v1.2 6) fun v9 =>
 some (v9.2.fB, v9.2.fOk, 0, [], 0, [], [], 0, 0, v9.1, 0, 0, 0)
 else
 Option.bind (α := Bool) (if (wr .u8 (min v1.1 255)) = 4 then
 some ((wr .u8 (min v1.1 255)) == 4)
 else
 if (wr .u8 (min v1.1 255)) = 5 then
 some ((wr .u8 (min v1.1 255)) == 5)
 else
 some ((wr .u8 (min v1.1 255)) == 6)) fun b2 =>
 if b2 = true then
 Option.bind (zaa v1.2) fun v10 =>
 Option.bind (zaa v10.2) fun v11 =>
 Option.bind (α := (List Int) × Bool × Int) (if (wr .u8 (min v1.1 255)) = 4 then
 Option.bind (zaa v11.2) fun v12 =>
 some (v12.2.fB, v12.2.fOk, v12.1)
 else
 some (v11.2.fB, v11.2.fOk, 0)) fun (l4, b3, n8) =>
 Option.bind (zaa (⟨l4, b3⟩ : Tcommand_reader)) fun v13 =>
 some (v13.2.fB, v13.2.fOk, 0, [], 0, [], [], v10.1, 0, [], v11.1, n8, v13.1)
 else
 some (v1.2.fB, v1.2.fOk, 0, [], 0, [], [], 0, 0, [], 0, 0, 0)) fun (l1, b1, n1, l2, n2, s1, s2, n3, n4, l3, n5, n6, n7) =>
 some ((⟨(wr .u8 (min v1.1 255)), (⟨n1, l2, n2, s1, s2⟩ : TMessage), n3, n4, l3, n5, n6, n7⟩ : TCommand), (⟨l1, b1⟩ : Tcommand_reader))
def zc4 (a0 : List UInt8) : Option (TCommand × Int) :=
 if (a0.length : Int) > 1024 then
 some ((⟨0, (⟨0, [], 0, [], []⟩ : TMessage), 0, 0, [], 0, 0, 0⟩ : TCommand), 3)
 else
 Option.bind (zbt (⟨(zft a0), true⟩ : Tcommand_reader)) fun v1 =>
 Option.bind (if ¬ ((¬ (v1.2.fOk = true)) \/ ((v1.2.fB.length : Int) > 0)) then zbg v1.1 else some default) fun v2 =>
 if ((¬ (v1.2.fOk = true)) \/ ((v1.2.fB.length : Int) > 0)) \/ (¬ (v2 = 0)) then
 some ((⟨0, (⟨0, [], 0, [], []⟩ : TMessage), 0, 0, [], 0, 0, 0⟩ : TCommand), 8)
 else
 some (v1.1, 0)
def zcw : List (List UInt8) -> (List TCommand) -> Option (((List TCommand) × Int) ⊕ ((List TCommand)))
 | [], l2 =>
  some (.inr l2)
 | y1 :: rest1, l2 =>
  Option.bind (zc4 (y1)) fun v1 =>
  if ¬ (v1.2 = 0) then
  some (.inl ([], 8))
  else
  if l2.length + [v1.1].length < 1000000 then
  zcw rest1 (l2 ++ [v1.1])
  else none
theorem zh8 (l2 : List TCommand) : zcw [] l2 =
  (some (.inr l2) : Option (((List TCommand) × Int) ⊕ ((List TCommand)))) := rfl
theorem zh9 (y1 : (List UInt8)) (rest1 : List (List UInt8)) (l2 : List TCommand) : zcw (y1 :: rest1) l2 =
  (Option.bind (zc4 (y1)) fun v1 =>
  if ¬ (v1.2 = 0) then
  some (.inl ([], 8))
  else
  if l2.length + [v1.1].length < 1000000 then
  zcw rest1 (l2 ++ [v1.1])
  else none : Option (((List TCommand) × Int) ⊕ ((List TCommand)))) := rfl
def zev (a0 : List (List UInt8)) : Option ((List TCommand) × Int) :=
 if (a0.length : Int) > 200 then
 some ([], 4)
 else
 Option.bind (α := ((List TCommand) × Int) ⊕ ((List TCommand))) (zcw a0 []) fun z => match z with
 | (.inl r) => some r
 | (.inr l1) =>
 some (l1, 0)
def zgf (a0 : Torder_step) (c0 : List TMessage) : Option ((List TMessage)) :=
 if c0.length + a0.fOut.length < 1000000 then
 some (c0 ++ a0.fOut)
 else none
def zbl (a0 : Int) : List TCommand -> (List TMessage) -> Int -> (List TWait) -> (List TStamp) -> Option ((List TMessage) × Int × (List TWait) × (List TStamp))
 | [], l4, n2, l5, l6 =>
  some (l4, n2, l5, l6)
 | y1 :: rest1, l4, n2, l5, l6 =>
  Option.bind (zcs (⟨n2, l5, l6⟩ : TSkeen) a0 (y1)) fun v3 =>
  Option.bind (α := Int × (List TWait) × (List TStamp) × (List TMessage)) (if ¬ (v3.2.2 = 0) then
  some (n2, l5, l6, [])
  else
  some (v3.1.Clock, v3.1.Waits, v3.1.Done, v3.2.1)) fun (n4, l7, l8, l9) =>
  Option.bind (zgf (⟨y1, (⟨n2, l5, l6⟩ : TSkeen), (⟨n4, l7, l8⟩ : TSkeen), l9⟩ : Torder_step) l4) fun v4 =>
  zbl a0 rest1 v4 n4 l7 l8
def zg5 (a0 : Int) (a1 : List (List UInt8)) (a2_0 : List TMessage) : Option (TSkeen × Int × (List TMessage)) :=
 if (a0 < 0) \/ (a0 >= 4) then
 some ((⟨0, [], []⟩ : TSkeen), 2, a2_0)
 else
 Option.bind (zev a1) fun v1 =>
 if ¬ (v1.2 = 0) then
 some ((⟨0, [], []⟩ : TSkeen), v1.2, a2_0)
 else
 Option.bind (zgp ) fun v2 =>
 Option.bind (α := (List TMessage) × Int × (List TWait) × (List TStamp)) (zbl a0 v1.1 a2_0 v2.Clock v2.Waits v2.Done) fun (l1, n1, l2, l3) =>
 Option.bind (zdm (⟨n1, l2, l3⟩ : TSkeen)) fun v5 =>
 some (v5, 0, l1)
def zf9 (a0 : Int) (a1 : List (List UInt8)) : Option (TSkeen × (List TMessage) × Int) :=
 Option.bind (zg5 a0 a1 []) fun v1 =>
 some (v1.1, v1.2.2, v1.2.1)
def zfz (a0 : Torder_step) (c0 : List Torder_given) : Option ((List Torder_given)) :=
 if (a0.fAfter.Waits.length : Int) > (a0.fBefore.Waits.length : Int) then
 if c0.length + [(⟨a0.fAfter.Clock, a0.fC.Message⟩ : Torder_given)].length < 1000000 then
 some (c0 ++ [(⟨a0.fAfter.Clock, a0.fC.Message⟩ : Torder_given)])
 else none
 else
 some c0
def zba (a0 : Int) : List TCommand -> (List Torder_given) -> Int -> (List TWait) -> (List TStamp) -> Option ((List Torder_given) × Int × (List TWait) × (List TStamp))
 | [], l4, n2, l5, l6 =>
  some (l4, n2, l5, l6)
 | y1 :: rest1, l4, n2, l5, l6 =>
  Option.bind (zcs (⟨n2, l5, l6⟩ : TSkeen) a0 (y1)) fun v3 =>
  Option.bind (α := Int × (List TWait) × (List TStamp) × (List TMessage)) (if ¬ (v3.2.2 = 0) then
  some (n2, l5, l6, [])
  else
  some (v3.1.Clock, v3.1.Waits, v3.1.Done, v3.2.1)) fun (n4, l7, l8, l9) =>
  Option.bind (zfz (⟨y1, (⟨n2, l5, l6⟩ : TSkeen), (⟨n4, l7, l8⟩ : TSkeen), l9⟩ : Torder_step) l4) fun v4 =>
  zba a0 rest1 v4 n4 l7 l8
def zfv (a0 : Int) (a1 : List (List UInt8)) (a2_0 : List Torder_given) : Option (TSkeen × Int × (List Torder_given)) :=
 if (a0 < 0) \/ (a0 >= 4) then
 some ((⟨0, [], []⟩ : TSkeen), 2, a2_0)
 else
 Option.bind (zev a1) fun v1 =>
 if ¬ (v1.2 = 0) then
 some ((⟨0, [], []⟩ : TSkeen), v1.2, a2_0)
 else
 Option.bind (zgp ) fun v2 =>
 Option.bind (α := (List Torder_given) × Int × (List TWait) × (List TStamp)) (zba a0 v1.1 a2_0 v2.Clock v2.Waits v2.Done) fun (l1, n1, l2, l3) =>
 Option.bind (zdm (⟨n1, l2, l3⟩ : TSkeen)) fun v5 =>
 some (v5, 0, l1)
def zh2 (a0 : Int) (a1 : List (List UInt8)) : Option ((List Torder_given) × Int) :=
 Option.bind (zfv a0 a1 []) fun v1 =>
 some (v1.2.2, v1.2.1)
def zd8 : List Torder_given -> (List TStamp) -> Option ((List TStamp))
 | [], l2 =>
  some l2
 | y1 :: rest1, l2 =>
  if l2.length + [(⟨y1.fTime, y1.fM.Id⟩ : TStamp)].length < 1000000 then
  zd8 rest1 (l2 ++ [(⟨y1.fTime, y1.fM.Id⟩ : TStamp)])
  else none
theorem zho (l2 : List TStamp) : zd8 [] l2 =
  (some l2 : Option ((List TStamp))) := rfl
theorem zhp (y1 : Torder_given) (rest1 : List Torder_given) (l2 : List TStamp) : zd8 (y1 :: rest1) l2 =
  (if l2.length + [(⟨y1.fTime, y1.fM.Id⟩ : TStamp)].length < 1000000 then
  zd8 rest1 (l2 ++ [(⟨y1.fTime, y1.fM.Id⟩ : TStamp)])
  else none : Option ((List TStamp))) := rfl
def zer (a0 : Int) (a1 : List (List UInt8)) : Option ((List TStamp) × Int) :=
 Option.bind (zh2 a0 a1) fun v1 =>
 Option.bind (α := (List TStamp)) (zd8 v1.1 []) fun l1 =>
 some (l1, v1.2)
def zbj (a0 : List (List (List UInt8))) (n3 : Int) : Nat -> Int -> Int -> Option (Int)
 | 0, _, _ => none
 | fu2 + 1, n5, n6 =>
  if (0 <= n3 /\ n3 < (a0.length : Int)) then
  if (n6 < ((a0.getD n3.toNat default).length : Int)) /\ (n6 < 1000) then
  if (0 <= n3 /\ n3 < (a0.length : Int)) then
  if (0 <= n6 /\ n6 < ((a0.getD n3.toNat default).length : Int)) then
  zbj a0 n3 fu2 (wr .i64 ((wr .i64 (n5 + (min (((a0.getD n3.toNat default).getD n6.toNat default).length : Int) 10000))) + 100)) (wr .i64 (n6 + 1))
  else none
  else none
  else
  some n5
  else none
def zbk (a0 : List (List (List UInt8))) : Nat -> Int -> Int -> Option (Int)
 | 0, _, _ => none
 | fu1 + 1, n2, n3 =>
  if (n3 < (a0.length : Int)) /\ (n3 < 10) then
  Option.bind (α := Int) (zbj a0 n3 (1002) n2 0) fun n4 =>
  zbk a0 fu1 n4 (wr .i64 (n3 + 1))
  else
  some n2
def zdr (a0 : List (List (List UInt8))) : Option Bool :=
 Option.bind (α := Int) (zbk a0 (12) 0 0) fun n1 =>
 some ((decide ((a0.length : Int) > 6)) || (decide (n1 > 30000)))
end Go.Proofs
end
section
namespace Go.Proofs
open Go.Tm Go.RowKit Go.WideShapes
set_option maxRecDepth 100000
set_option maxHeartbeats 4000000
set_option linter.unusedSimpArgs false
set_option linter.unusedVariables false
attribute [local go_sem] zg3 runE runK zh4 stepE aop opd opdsL opds opdO ev ofVal keep List.any zem Bool.false_or Bool.true_or aggEq cond_true cond_false Bool.cond_false_right Bool.cond_true_left beq_true beq_false imp_self implies_true getR getL put St.app effL del nwB zlc Nat.lt_irrefl Nat.lt_add_one zld Nat.le_refl Nat.beq_refl zhk zfi capS capK zj9 zhm zdl D.ids D.idsL bin arith zkt binT dpick Tm.part zj8 fillD oneD loadD zjt srcD zfj idxOk decide_true gval dstAt D.cells List.map_cons List.map_nil List.take List.drop List.length_map List.append Int.toNat_natCast and_true true_and decide_false List.length_cons List.length_nil List.append_nil List.nil_append Bool.and_true Bool.true_and Bool.not_false Bool.not_true ne_eq not_false_eq_true BEq.rfl List.getElem?_cons_zero List.getElem?_cons_succ List.getElem?_nil Nat.zero_add List.all_cons List.all_nil List.isEmpty_cons List.isEmpty_nil Option.getD_some Option.getD_none List.any_cons List.any_nil List.drop_succ_cons List.drop_zero unfL unf okM okML low3 List.cons_append true_or or_true Nat.zero_mul Nat.zero_le zk2 zk1  zlq zlp zk0 Option.isSome_map keyD List.length_replicate List.map_replicate setEl List.length_set zii map_ub mx_len znd zli mkM mkML znf zne zlj zjb zi3 zgq List.take_length Int.toNat_zero zib fpOf zhn opIds mvV mvH mvF pickL D.ren D.renL Blk.ren List.map_append List.length_append Bool.not_not Bool.or_not_self Bool.not_or_self Bool.or_true
attribute [local go_sem] Tryz.tm_1 Tryz.tm_2 Tryz.tm_3 Tryz.tm_4 Tryz.tm_5 Tryz.tm_6 Tryz.tm_7 Tryz.tm_8 Tryz.tm_9 Tryz.tm_10 Tryz.tm_11 Tryz.tm_12 Tryz.tm_13 Tryz.tm_14 Tryz.tm_15 Tryz.tm_16 Tryz.tm_17 Tryz.tm_18 Tryz.tm_19 Tryz.tm_20 Tryz.tm_21 Tryz.tm_22 Tryz.tm_23 Tryz.tm_24 Tryz.tm_25 Tryz.tm_26 Tryz.tm_27 Tryz.tm_28 Tryz.tm_29 Tryz.tm_30 Tryz.tm_32 Tryz.tm_34 Tryz.tm_36 Tryz.tm_38 Tryz.tm_39 Tryz.tm_40 Tryz.tm_41 Tryz.tm_42 Tryz.tm_43 Tryz.tm_44 Tryz.tm_45 Tryz.tm_46 Tryz.tm_48 Tryz.tm_50 Tryz.tm_52 Tryz.tm_54 Tryz.tm_55 Tryz.tm_57 Tryz.tm_58 Tryz.tm_59 Tryz.tm_60 Tryz.tm_61 Tryz.tm_62 Tryz.tm_63 Tryz.tm_65 Tryz.tm_66 Tryz.tm_68 Tryz.tm_69 Tryz.tm_70 Tryz.tm_71 Tryz.tm_72 Tryz.tm_73 Tryz.tm_74 Tryz.tm_75 Tryz.tm_76 Tryz.tm_77 Tryz.tm_78 Tryz.tm_79 Tryz.tm_80 Tryz.tm_81 Tryz.tm_83 Tryz.tm_84 Tryz.tm_86 Tryz.tm_87 Tryz.tm_88 Tryz.tm_89 Tryz.tm_90 Tryz.tm_91 Tryz.tm_92 Tryz.tm_93 Tryz.tm_94 Tryz.tm_95 Tryz.tm_97 Tryz.tm_98 Tryz.tm_99 Tryz.tm_100 Tryz.tm_101 Tryz.tm_102 Tryz.tm_103 Tryz.tm_104 Tryz.tm_105 Tryz.tm_106 Tryz.tm_107 Tryz.tm_108 Tryz.tm_109 Tryz.tm_110 Tryz.tm_111 Tryz.tm_112 Tryz.tm_114 Tryz.tm_115 Tryz.tm_117 Tryz.tm_119 Tryz.tm_120 Tryz.tm_121 Tryz.tm_122 Tryz.tm_123 Tryz.tm_124 Tryz.tm_125 Tryz.tm_126 Tryz.tm_127 Tryz.tm_128 Tryz.tm_129 Tryz.tm_130 Tryz.tm_132 Tryz.tm_133 Tryz.tm_135 Tryz.tm_136 Tryz.tm_137 Tryz.tm_138 Tryz.tm_139 Tryz.tm_140 Tryz.tm_141 Tryz.tm_142 Tryz.tm_143 Tryz.tm_144 Tryz.tm_145 Tryz.tm_146 Tryz.tm_148 Tryz.tm_149 Tryz.tm_150 Tryz.tm_151 Tryz.tm_152 Tryz.tm_153 Tryz.tm_155 Tryz.tm_156 Tryz.tm_157 Tryz.tm_158 Tryz.tm_159 Tryz.tm_160 Tryz.tm_161 Tryz.tm_162 Tryz.tm_163 Tryz.tm_164 Tryz.tm_165 Tryz.tm_166 Tryz.tm_167 Tryz.tm_168 Tryz.tm_169 Tryz.tm_170 Tryz.tm_171 Tryz.tm_172 Tryz.tm_173 Tryz.tm_174 Tryz.tm_175 Tryz.tm_177 Tryz.tm_179 Tryz.tm_180 Tryz.tm_182 Tryz.tm_183 Tryz.tm_185 Tryz.tm_187 Tryz.tm_188 Tryz.tm_189 Tryz.tm_191 Tryz.tm_193 Tryz.tm_195 Tryz.tm_196 Tryz.tm_197 Tryz.tm_198 Tryz.tm_199 Tryz.tm_200 Tryz.tm_203 Tryz.tm_204 Tryz.tm_205 Tryz.tm_206 Tryz.tm_207 Tryz.tm_208 Tryz.tm_209 Tryz.tm_210 Tryz.tm_211 TMessage.d TMessage.n TWait.d TWait.n TStamp.d TSkeen.d TSkeen.n TCommand.d TCommand.n Tskeen_clock.d Tskeen_clock.n zgt zjz zid zie zgu zeo Torder_step.d Torder_step.n Torder_given.d Torder_given.n Tcommand_reader.d Tcommand_reader.n dL_str nL_str zl4 zku zir mk1_dL_str Tryz.f119 Tryz.f122 Tryz.f121 Tryz.f120 Tryz.f100 Tryz.f102 Tryz.f101 Tryz.f77 Tryz.f62 Tryz.f42 Tryz.f21 Tryz.f20 Tryz.f6 Tryz.f48 Tryz.f20 Tryz.f24 Tryz.f8 Tryz.f5
def Tryz.St_num_Get_1 : St := ⟨[], [], 0⟩
attribute [local go_sem] Tryz.St_num_Get_1
def Tryz.St_num_Get_3 (a0 : List Int) (n2 : Nat) (n1 : Int) : St := ⟨[(2, .int .i64 n1), (7, .imm 1 (a0.map (D.int .u8)) 4), (8, .int .i64 (a0.length : Int)), (9, .int .i64 (n2 : Int))], [], 0⟩
attribute [local go_sem] Tryz.St_num_Get_3
theorem zi7 (a0 : List Int) (r : Int × Int × Int) (h : zes a0 = some r) : CallP Tryz.prog 119 [.imm 1 (a0.map (D.int .u8)) 4] (.tuple [.int .i64 r.1, .int .i64 r.2.1, .int .i64 r.2.2]) := by
 refine za5 Tryz.tmOk 2 Tryz.func119 rfl (by decide) rfl rfl (Nat.le_of_ble_eq_true rfl) ?_
 intro hwf
 unfold zes at h
 refine .seq ?_
 refine .pl zS [0] ?_
 obtain ⟨x1, hx1, h⟩ := bind_some h
 refine .seqM 0 (fun (j : Unit) => Tryz.St_num_Get_1) (fun j => x1 = (.inr j)) (Nat.le_of_ble_eq_true rfl) ?_ ?_
 ·refine .seq ?_
  refine .pl zS [0, 2] ?_
  refine .block ?_
  refine .loopG 0 (fun (j : Nat × Int) => Tryz.St_num_Get_3 a0 j.1 j.2) (fun j => j.1 <= a0.length /\ zcb (a0.drop j.1) j.1 j.2 = some x1) (fun j => a0.length - j.1) (0, 0) (Nat.le_of_ble_eq_true rfl) ?_ ⟨Nat.zero_le _, hx1⟩ ?_
  ·exact .m [2, 7, 8, 9] [] []
  rintro ⟨n2, n1⟩ ⟨hi1, hx1⟩
  simp only [Tryz.St_num_Get_3]
  simp only at hi1 hx1
  refine .wf 8 (.int .i64 (a0.length : Int)) rfl ?_
  intro hln2
  replace hln2 : (a0.length : Int) <= 9223372036854775807 := by simp only [wf, wfL, IntKind.max, IntKind.min, IntKind.signed, IntKind.bits, List.length_map] at hln2; first | exact hln2.2 | exact hln2.1 | (simp at hln2; omega)
  refine .seq ?_
  refine .pl zS [2, 7, 8, 9] ?_
  refine .seq ?_
  refine .cond rfl rfl (fun hc1 => ?_) (fun hc1 => ?_)
  ·have h1 : n2 < a0.length := by simpa using hc1
   have hwn2 : wr .i64 ((n2 : Int) + 1) = ((n2 + 1 : Nat) : Int) := zd5 h1 hln2
   have hpn2 : wr .i64 ((n2 : Int) - 1) = (n2 : Int) - 1 := zd6 h1 hln2
   rw [List.drop_eq_getElem_cons h1, zcb] at hx1
   refine .skip ?_
   refine .seq ?_
   refine .block ?_
   refine .seq ?_
   have e1 := zby (D.int .u8) a0 n2 h1
   refine .plx zS (And.intro e1 hwn2) [2, 7, 8, 9] ?_
   refine .seq ?_
   refine .seq ?_
   refine .plx zS hwn2 [2, 5, 6, 7, 8, 9] ?_
   refine .cond rfl rfl (fun hc2 => ?_) (fun hc2 => ?_)
   ·replace hx1 := za0 hx1 hc2
    refine .exit ?_
    refine ⟨_, ?_, (Option.some.inj hx1).symm⟩
    exact .m [] [] []
   ·replace hx1 := za1 hx1 hc2
    refine .skip ?_
    refine .seq ?_
    obtain ⟨k1, hx1⟩ := zai hx1
    refine .rg zS [2, 5, 6, 7, 8, 9] ?_
    refine .rnx 6 hwn2 ?_
    refine .rnx 3 hwn2 ?_
    refine .nil ⟨nofun, ?_⟩
    refine .seq ?_
    refine .seq ?_
    refine .plx zS hwn2 [2, 5, 6, 7, 8, 9] ?_
    refine .cond rfl rfl (fun hc3 => ?_) (fun hc3 => ?_)
    ·replace hx1 := za0 hx1 hc3
     refine .exit ?_
     refine .plx zS hwn2 [2, 7, 8, 9] ?_
     refine ⟨(n2 + 1, _), ?_, ⟨by omega, hx1⟩, by dsimp only; omega⟩
     exact .m [2, 7, 8, 9] [] []
    ·replace hx1 := za1 hx1 hc3
     refine .skip ?_
     refine .seq ?_
     refine .seq ?_
     obtain ⟨v1, hv1, hx1⟩ := bind_some hx1
     refine .rg zS [2, 5, 6] ?_
     refine .rnx 8 hwn2 ?_
     refine .gcall (r := .bool v1) rfl rfl rfl rfl rfl (fun hg => ⟨[], [.int .i64 (bitw .or .i64 n1 (shw true .i64 (wr .i64 (bitw .and .u8 (a0[n2]) 127)) (wr .i64 (7 * (n2 : Int)))))], _, rfl, gd hg, rfl, (callP_num_in (bitw .or .i64 n1 (shw true .i64 (wr .i64 (bitw .and .u8 (a0[n2]) 127)) (wr .i64 (7 * (n2 : Int))))) v1 (za0 hv1 hg))⟩) ?_
     refine .rnx 2 hwn2 ?_
     refine .nil ⟨nofun, ?_⟩
     refine .cond rfl rfl (fun hc4 => ?_) (fun hc4 => ?_)
     ·replace hx1 := za0 hx1 hc4
      refine .exit ?_
      refine ⟨_, ?_, (Option.some.inj hx1).symm⟩
      exact .m [] [] []
     ·replace hx1 := za1 hx1 hc4
      refine .skip ?_
      refine .seq ?_
      refine .plx zS hwn2 [2, 5] ?_
      have hq := Option.some.inj hx1
      subst x1
      try dsimp only at h
      have hq := Option.some.inj h
      subst r
      rw [hwn2]
      exact .ret ⟨.inr rfl, rsi⟩
  ·have h2 : n2 = a0.length := by have h2b := of_decide_eq_false hc1; omega
   rw [List.drop_of_length_le (by omega), zcb] at hx1
   refine .exit ?_
   refine ⟨_, ?_, (Option.some.inj hx1).symm⟩
   exact .m [] [] []
 ·rintro ⟨⟩ hj1
  subst x1
  try dsimp only at h
  simp only [Tryz.St_num_Get_1]
  refine .seq ?_
  refine .pl zS [] ?_
  have hq := Option.some.inj h
  subst r
  exact .ret ⟨.inr rfl, rsi⟩
theorem znl (a0 : List Int) (r : (List UInt8) × Int × Int) (h : zed a0 = some r) : CallP Tryz.prog 122 [.imm 1 (a0.map (D.int .u8)) 4] (.tuple [.str r.1, .int .i64 r.2.1, .int .i64 r.2.2]) := by
 refine za5 Tryz.tmOk 2 Tryz.func122 rfl (by decide) rfl rfl (Nat.le_of_ble_eq_true rfl) ?_
 intro hwf
 unfold zed at h
 refine .seq ?_
 refine .pl zS [0] ?_
 refine .seq ?_
 obtain ⟨v1, hv1, h⟩ := bind_some h
 refine .rg zS [0] ?_
 refine .rn 1 ?_
 refine .call (r := .tuple [.int .i64 v1.1, .int .i64 v1.2.1, .int .i64 v1.2.2]) rfl rfl rfl rfl rfl rfl (zi7 a0 v1 hv1) ?_
 refine .rn 7 ?_
 refine .nil ⟨nofun, ?_⟩
 refine .seq ?_
 refine .seq ?_
 refine .rg zS [0, 4, 5, 6] ?_
 refine .rn 6 ?_
 refine .rn 8 ?_
 refine .nil ⟨nofun, ?_⟩
 refine .cond rfl rfl (fun hc1 => ?_) (fun hc1 => ?_)
 ·replace h := za0 h hc1
  refine .seq ?_
  refine .pl zS [] ?_
  have hq := Option.some.inj h
  subst r
  exact .ret ⟨.inr rfl, rsi⟩
 ·replace h := za1 h hc1
  refine .skip ?_
  refine .seq ?_
  obtain ⟨k1, h⟩ := zai h
  refine .rg zS [0, 5, 6] ?_
  refine .rn 6 ?_
  refine .rn 7 ?_
  refine .nil ⟨nofun, ?_⟩
  have hq := Option.some.inj h
  subst r
  exact .ret ⟨.inr rfl, rsi⟩
def Tryz.St_num_GetInts_1 (l1 : List Int) (n1 : Int) : St := ⟨[(4, .ref 0 1 0 l1.length (some uC)), (5, .int .i64 n1)], [(0, .arr 3 1 true (l1.map (D.int .i64)))], 1⟩
attribute [local go_sem] Tryz.St_num_GetInts_1
def Tryz.St_num_GetInts_3 (a0 : List Int) (v1 : Int × Int × Int) (l2 : List Int) (n2 : Int) (n3 : Int) : St := ⟨[(0, .imm 1 (a0.map (D.int .u8)) 4), (4, .ref 0 1 0 l2.length (some uC)), (5, .int .i64 n2), (30, .int .i64 v1.1), (31, .int .i64 n3)], [(0, .arr 3 1 true (l2.map (D.int .i64)))], 1⟩
attribute [local go_sem] Tryz.St_num_GetInts_3
def Tryz.Re_num_GetInts (r : (List Int) × Int × Int) : St := ⟨[(4, .ref 0 1 0 r.1.length (some uC)), (5, .int .i64 r.2.1), (6, .int .i64 r.2.2)], [(0, .arr 3 1 true (r.1.map (D.int .i64)))], 1⟩
attribute [local go_sem] Tryz.Re_num_GetInts
theorem znp (a0 : List Int) (a1 : Int) (r : (List Int) × Int × Int) (h : zee a0 a1 = some r) : CallH Tryz.prog 121 [.imm 1 (a0.map (D.int .u8)) 4, .int .i64 a1] [] (.tuple [.ref 0 1 0 r.1.length (some uC), .int .i64 r.2.1, .int .i64 r.2.2]) [(0, some (.arr 3 1 true (r.1.map (D.int .i64))))] (0, 5) := by
 refine za4 Tryz.tmOk Tryz.func121 rfl (by decide) (Nat.le_of_ble_eq_true rfl) (by simp) ?_
 intro hwf
 unfold zee at h
 refine .ends 0 (Nat.le_refl _) ?_
 refine .seq ?_
 refine .pl zS [0, 1] ?_
 refine .seq ?_
 refine .seq ?_
 refine .pl zS [0, 1, 4] ?_
 refine .cond rfl rfl (fun hc1 => ?_) (fun hc1 => ?_)
 ·replace h := za0 h hc1
  refine .seq ?_
  refine .pl zS [] ?_
  have hq := Option.some.inj h
  subst r
  refine .ret ⟨Tryz.Re_num_GetInts ([], 0, 2), ?_, .inr rfl, retH [0] ?_ ?_⟩
  ·refine Goes.new0 1 3 (Nat.le_of_ble_eq_true rfl) ?_
   refine Goes.wk 4 _ (.ref 0 1 0 0 (some uC)) rfl (.own0 0 _ _ _ (by decide)) ?_
   exact .m [4, 5, 6] [0] []
  ·exact rsi0
  ·rfl
 ·replace h := za1 h hc1
  refine .skip ?_
  refine .seq ?_
  obtain ⟨v1, hv1, h⟩ := bind_some h
  refine .rg zS [0, 1, 4] ?_
  refine .rn 1 ?_
  refine .call (r := .tuple [.int .i64 v1.1, .int .i64 v1.2.1, .int .i64 v1.2.2]) rfl rfl rfl rfl rfl rfl (zi7 a0 v1 hv1) ?_
  refine .rn 7 ?_
  refine .nil ⟨nofun, ?_⟩
  refine .seq ?_
  refine .seq ?_
  refine .pl zS [0, 1, 4, 5, 6, 7] ?_
  refine .cond rfl rfl (fun hc2 => ?_) (fun hc2 => ?_)
  ·replace h := za0 h hc2
   refine .seq ?_
   refine .pl zS [] ?_
   have hq := Option.some.inj h
   subst r
   refine .ret ⟨Tryz.Re_num_GetInts ([], 0, 8), ?_, .inr rfl, retH [0] ?_ ?_⟩
   ·refine Goes.new0 1 3 (Nat.le_of_ble_eq_true rfl) ?_
    refine Goes.wk 4 _ (.ref 0 1 0 0 (some uC)) rfl (.own0 0 _ _ _ (by decide)) ?_
    exact .m [4, 5, 6] [0] []
   ·exact rsi0
   ·rfl
  ·replace h := za1 h hc2
   refine .skip ?_
   obtain ⟨x1, hx1, h⟩ := bind_some h
   refine .seqM 0 (fun (j : (List Int) × Int) => Tryz.St_num_GetInts_1 j.1 j.2) (fun j => x1 = (.inr j)) (Nat.le_of_ble_eq_true rfl) ?_ ?_
   ·refine .seq ?_
    refine .pl zS [0, 4, 5, 7] ?_
    refine .block ?_
    refine .loopG 0 (fun (j : Nat × (List Int) × Int × Int) => Tryz.St_num_GetInts_3 a0 v1 j.2.1 j.2.2.1 j.2.2.2) (fun j => zbs a0 v1 j.1 j.2.1 j.2.2.1 j.2.2.2 = some x1) (fun j => j.1) (v1.1.toNat + 1, [], v1.2.1, 0) (Nat.le_of_ble_eq_true rfl) ?_ hx1 ?_
    ·refine Goes.new0 1 3 (Nat.le_of_ble_eq_true rfl) ?_
     refine Goes.wk 4 _ (.ref 0 1 0 0 (some uC)) rfl (.own0 0 _ _ _ (by decide)) ?_
     exact .m [0, 4, 5, 30, 31] [0] []
    rintro ⟨fu1, l2, n2, n3⟩ hx1
    simp only [Tryz.St_num_GetInts_3]
    try simp only at hx1
    obtain ⟨fu1, rfl⟩ : ∃ k, fu1 = k + 1 := by cases fu1 with | zero => (rw [zbs] at hx1; cases hx1) | succ k => exact ⟨k, rfl⟩
    rw [zbs] at hx1
    refine .seq ?_
    refine .pl zS [0, 4, 5, 30, 31] ?_
    refine .seq ?_
    refine .cond rfl rfl (fun hc3 => ?_) (fun hc3 => ?_)
    ·replace hx1 := za0 hx1 hc3
     refine .skip ?_
     refine .seq ?_
     refine .block ?_
     refine .seq ?_
     obtain ⟨k1, hx1⟩ := zai hx1
     obtain ⟨v2, hv2, hx1⟩ := bind_some hx1
     refine .rg zS [0, 4, 5, 30, 31] ?_
     refine .rn 3 ?_
     refine .call (r := .tuple [.int .i64 v2.1, .int .i64 v2.2.1, .int .i64 v2.2.2]) rfl rfl rfl rfl rfl rfl (zi7 (a0.drop n2.toNat) v2 hv2) ?_
     refine .rn 7 ?_
     refine .nil ⟨nofun, ?_⟩
     refine .seq ?_
     refine .seq ?_
     refine .pl zS [0, 4, 5, 8, 9, 10, 30, 31] ?_
     refine .cond rfl rfl (fun hc4 => ?_) (fun hc4 => ?_)
     ·replace hx1 := za0 hx1 hc4
      refine .seq ?_
      refine .pl zS [10] ?_
      have hq := Option.some.inj hx1
      subst x1
      try dsimp only at h
      have hq := Option.some.inj h
      subst r
      refine .ret ⟨Tryz.Re_num_GetInts ([], 0, v2.2.2), ?_, .inr rfl, retH [0] ?_ ?_⟩
      ·refine Goes.new0 1 3 (Nat.le_of_ble_eq_true rfl) ?_
       refine Goes.wk 4 _ (.ref 1 1 0 0 (some uC)) rfl (.own0 1 _ _ _ (by decide)) ?_
       exact .m [4, 5, 6] [1] [(1, 0)]
      ·exact rsi0
      ·rfl
     ·replace hx1 := za1 hx1 hc4
      refine .skip ?_
      refine .seq ?_
      obtain ⟨k2, hx1⟩ := zai hx1
      refine .pl zS [0, 4, 5, 8, 9, 30, 31] ?_
      refine .pl zS [0, 4, 5, 9, 30, 31] ?_
      refine .pl zS [0, 4, 5, 30, 31] ?_
      refine ⟨(fu1, _, _, _), ?_, hx1, by dsimp only; omega⟩
      exact .m [0, 4, 5, 30, 31] [2] [(2, 0)]
    ·replace hx1 := za1 hx1 hc3
     refine .exit ?_
     refine ⟨_, ?_, (Option.some.inj hx1).symm⟩
     exact .m [4, 5] [0] []
   ·rintro ⟨l1, n1⟩ hj1
    subst x1
    try dsimp only at h
    simp only [Tryz.St_num_GetInts_1]
    refine .seq ?_
    refine .pl zS [4, 5] ?_
    have hq := Option.some.inj h
    subst r
    refine .ret ⟨Tryz.Re_num_GetInts (l1, n1, 0), ?_, .inr rfl, retH [0] ?_ ?_⟩
    ·exact .m [4, 5, 6] [0] []
    ·exact rsi0
    ·rfl
def Tryz.Re_command_reader_take (r : Tcommand_reader) : St := ⟨[(0, .ptr 20000 0)], [(20000, .box [.imm 1 (r.fB.map (D.int .u8)) 12, .bool r.fOk])], 20100⟩
attribute [local go_sem] Tryz.Re_command_reader_take
theorem zew (a0 : Tcommand_reader) (a1 : Int) (a2 : Int) (r : Tcommand_reader) (h : zbx a0 a1 a2 = some r) : CallH Tryz.prog 120 [.ptr 20000 0, .int .i64 a1, .int .i64 a2] [(20000, .box [.imm 1 (a0.fB.map (D.int .u8)) 12, .bool a0.fOk])] (.tuple []) [(20000, some (.box [.imm 1 (r.fB.map (D.int .u8)) 12, .bool r.fOk]))] (20100, 20102) := by
 refine za4 Tryz.tmOk Tryz.func120 rfl (by decide) (Nat.le_of_ble_eq_true rfl) (by simp) ?_
 intro hwf
 unfold zbx at h
 refine .ends 20100 (Nat.le_refl _) ?_
 refine .seq ?_
 refine .rg zS [0, 1, 2] ?_
 refine .rn 6 ?_
 refine .rn 6 ?_
 refine .nil ⟨nofun, ?_⟩
 obtain ⟨k1, h⟩ := zai h
 refine .rg zS [0, 1] ?_
 refine .rd 6 ?_
 refine .rd 6 ?_
 refine .rd 4 ?_
 refine .nil ⟨fun _ => zab (by kernel_rfl), ?_⟩
 have hq := Option.some.inj h
 subst r
 refine ⟨Tryz.Re_command_reader_take (⟨(a0.fB.drop (min a1 (a0.fB.length : Int)).toNat), (a0.fOk && (a2 == 0))⟩ : Tcommand_reader), ?_, .inl rfl, retH [20000] ?_ ?_⟩
 ·exact .m [0] [20000] []
 ·exact rsi0
 ·rfl
def Tryz.Re_command_reader_number (r : Int × Tcommand_reader) : St := ⟨[(0, .ptr 20000 0), (2, .int .i64 r.1)], [(20000, .box [.imm 1 (r.2.fB.map (D.int .u8)) 12, .bool r.2.fOk])], 20100⟩
attribute [local go_sem] Tryz.Re_command_reader_number
theorem zav (a0 : Tcommand_reader) (r : Int × Tcommand_reader) (h : zaa a0 = some r) : CallH Tryz.prog 100 [.ptr 20000 0] [(20000, .box [.imm 1 (a0.fB.map (D.int .u8)) 12, .bool a0.fOk])] (.int .i64 r.1) [(20000, some (.box [.imm 1 (r.2.fB.map (D.int .u8)) 12, .bool r.2.fOk]))] (20100, 20106) := by
 refine za4 Tryz.tmOk Tryz.func100 rfl (by decide) (Nat.le_of_ble_eq_true rfl) (by simp) ?_
 intro hwf
 unfold zaa at h
 refine .ends 20100 (Nat.le_refl _) ?_
 refine .seq ?_
 refine .pl zS [0] ?_
 refine .seq ?_
 obtain ⟨v1, hv1, h⟩ := bind_some h
 refine .rg zS [0] ?_
 refine .rn 4 ?_
 refine .call (r := .tuple [.int .i64 v1.1, .int .i64 v1.2.1, .int .i64 v1.2.2]) rfl rfl rfl rfl rfl rfl (zi7 a0.fB v1 hv1) ?_
 refine .rn 7 ?_
 refine .nil ⟨nofun, ?_⟩
 refine .seq ?_
 obtain ⟨v2, hv2, h⟩ := bind_some h
 refine .rg zS [0, 3, 4, 5] ?_
 refine .rn 3 ?_
 refine .hcall (H := [(20000, .box [.imm 1 (a0.fB.map (D.int .u8)) 12, .bool a0.fOk])]) (eff := [(20000, some (.box [.imm 1 (v2.fB.map (D.int .u8)) 12, .bool v2.fOk]))]) (nw := (20102, 20104)) (r := .tuple []) rfl rfl rfl rfl rfl (zbm 20000 20000 (zcd 20102 (zew a0 v1.2.1 v1.2.2 v2 hv2))) (fun id b h => zae [20000] _ id b h) (by simp) (.inr ⟨Nat.le_of_ble_eq_true rfl, Nat.le_of_ble_eq_true rfl⟩) ?_
 refine .nil ⟨nofun, ?_⟩
 refine .seq ?_
 refine .pl zS [0, 3] ?_
 have hq := Option.some.inj h
 subst r
 refine .ret ⟨Tryz.Re_command_reader_number (v1.1, v2), ?_, .inr rfl, retH [20000] ?_ ?_⟩
 ·exact .m [0, 2] [20000] []
 ·exact rsi0
 ·rfl
def Tryz.Re_command_reader_text (r : (List UInt8) × Tcommand_reader) : St := ⟨[(0, .ptr 20000 0), (2, .str r.1)], [(20000, .box [.imm 1 (r.2.fB.map (D.int .u8)) 12, .bool r.2.fOk])], 20100⟩
attribute [local go_sem] Tryz.Re_command_reader_text
theorem zgk (a0 : Tcommand_reader) (r : (List UInt8) × Tcommand_reader) (h : zc6 a0 = some r) : CallH Tryz.prog 102 [.ptr 20000 0] [(20000, .box [.imm 1 (a0.fB.map (D.int .u8)) 12, .bool a0.fOk])] (.str r.1) [(20000, some (.box [.imm 1 (r.2.fB.map (D.int .u8)) 12, .bool r.2.fOk]))] (20100, 20106) := by
 refine za4 Tryz.tmOk Tryz.func102 rfl (by decide) (Nat.le_of_ble_eq_true rfl) (by simp) ?_
 intro hwf
 unfold zc6 at h
 refine .ends 20100 (Nat.le_refl _) ?_
 refine .seq ?_
 refine .pl zS [0] ?_
 refine .seq ?_
 obtain ⟨v1, hv1, h⟩ := bind_some h
 refine .rg zS [0] ?_
 refine .rn 4 ?_
 refine .call (r := .tuple [.str v1.1, .int .i64 v1.2.1, .int .i64 v1.2.2]) rfl rfl rfl rfl rfl rfl (znl a0.fB v1 hv1) ?_
 refine .rn 7 ?_
 refine .nil ⟨nofun, ?_⟩
 refine .seq ?_
 obtain ⟨v2, hv2, h⟩ := bind_some h
 refine .rg zS [0, 3, 4, 5] ?_
 refine .rn 3 ?_
 refine .hcall (H := [(20000, .box [.imm 1 (a0.fB.map (D.int .u8)) 12, .bool a0.fOk])]) (eff := [(20000, some (.box [.imm 1 (v2.fB.map (D.int .u8)) 12, .bool v2.fOk]))]) (nw := (20102, 20104)) (r := .tuple []) rfl rfl rfl rfl rfl (zbm 20000 20000 (zcd 20102 (zew a0 v1.2.1 v1.2.2 v2 hv2))) (fun id b h => zae [20000] _ id b h) (by simp) (.inr ⟨Nat.le_of_ble_eq_true rfl, Nat.le_of_ble_eq_true rfl⟩) ?_
 refine .nil ⟨nofun, ?_⟩
 refine .seq ?_
 refine .pl zS [0, 3] ?_
 have hq := Option.some.inj h
 subst r
 refine .ret ⟨Tryz.Re_command_reader_text (v1.1, v2), ?_, .inr rfl, retH [20000] ?_ ?_⟩
 ·exact .m [0, 2] [20000] []
 ·exact rsi0
 ·rfl
def Tryz.Re_command_reader_ints (r : (List Int) × Tcommand_reader) : St := ⟨[(0, .ptr 20000 0), (4, .ref 20100 1 0 r.1.length (some uC))], [(20000, .box [.imm 1 (r.2.fB.map (D.int .u8)) 12, .bool r.2.fOk]), (20100, .arr 3 1 true (r.1.map (D.int .i64)))], 20101⟩
attribute [local go_sem] Tryz.Re_command_reader_ints
theorem zgl (a0 : Tcommand_reader) (a1 : Int) (r : (List Int) × Tcommand_reader) (h : zc7 a0 a1 = some r) : CallH Tryz.prog 101 [.ptr 20000 0, .int .i64 a1] [(20000, .box [.imm 1 (a0.fB.map (D.int .u8)) 12, .bool a0.fOk])] (.ref 20100 1 0 r.1.length (some uC)) [(20000, some (.box [.imm 1 (r.2.fB.map (D.int .u8)) 12, .bool r.2.fOk])), (20100, some (.arr 3 1 true (r.1.map (D.int .i64))))] (20100, 20109) := by
 refine za4 Tryz.tmOk Tryz.func101 rfl (by decide) (Nat.le_of_ble_eq_true rfl) (by simp) ?_
 intro hwf
 unfold zc7 at h
 refine .ends 20100 (Nat.le_refl _) ?_
 refine .seq ?_
 refine .pl zS [0, 1] ?_
 refine .seq ?_
 obtain ⟨v1, hv1, h⟩ := bind_some h
 refine .rg zS [0, 1] ?_
 refine .rn 5 ?_
 refine .ncall (r := .tuple [.ref 20100 1 0 v1.1.length (some uC), .int .i64 v1.2.1, .int .i64 v1.2.2]) (eff := [(20100, some (.arr 3 1 true (v1.1.map (D.int .i64))))]) (nw := (20100, 20105)) [] rfl rfl rfl rfl rfl (za6 rfl (za6 rfl zas)) rfl (zdi 20100 (Nat.le_of_ble_eq_true rfl) (znp a0.fB a1 v1 hv1)) (zdo rfl rfl (zgm zjf _ _ _) zh0) (by intro i hi; simp [D.ids, D.idsL] at hi <;> omega) rfl ⟨Nat.le_of_ble_eq_true rfl, Nat.le_of_ble_eq_true rfl⟩ ?_
 refine .rn 7 ?_
 refine .nil ⟨nofun, ?_⟩
 refine .seq ?_
 obtain ⟨v2, hv2, h⟩ := bind_some h
 refine .rg zS [0, 5, 6, 7] ?_
 refine .rn 3 ?_
 refine .hcall (H := [(20000, .box [.imm 1 (a0.fB.map (D.int .u8)) 12, .bool a0.fOk])]) (eff := [(20000, some (.box [.imm 1 (v2.fB.map (D.int .u8)) 12, .bool v2.fOk]))]) (nw := (20105, 20107)) (r := .tuple []) rfl rfl rfl rfl rfl (zbm 20000 20000 (zcd 20105 (zew a0 v1.2.1 v1.2.2 v2 hv2))) (fun id b h => zae [20000] _ id b h) (by simp) (.inr ⟨Nat.le_of_ble_eq_true rfl, Nat.le_of_ble_eq_true rfl⟩) ?_
 refine .nil ⟨nofun, ?_⟩
 refine .seq ?_
 refine .pl zS [0, 5] ?_
 have hq := Option.some.inj h
 subst r
 refine .ret ⟨Tryz.Re_command_reader_ints (v1.1, v2), ?_, .inr rfl, retH [20000, 20100] ?_ ?_⟩
 ·exact .m [0, 4] [20000, 20100] []
 ·exact rsi0
 ·rfl
def Tryz.St_command_reader_command_1 (v1 : Int × Tcommand_reader) (l1 : List Int) (b1 : Bool) (n1 : Int) (l2 : List Int) (n2 : Int) (s1 : List UInt8) (s2 : List UInt8) (n3 : Int) (n4 : Int) (l3 : List Int) (n5 : Int) (n6 : Int) (n7 : Int) : St := ⟨[(0, .ptr 20000 0), (2, .ptr 20100 0), (4, .ptr 20112 0)], [(20000, .box [.imm 1 (l1.map (D.int .u8)) 12, .bool b1]), (20100, .box [.int .u8 0, .int .i64 0, .imm 0 [] 0, .int .i64 0, .str [], .str [], .int .i64 0, .int .i64 0, .imm 0 [] 0, .int .i64 0, .int .i64 0, .int .i64 0]), (20112, .box [.int .u8 (wr .u8 (min v1.1 255)), .int .i64 n1, .ref 20113 1 0 l2.length (some uC), .int .i64 n2, .str s1, .str s2, .int .i64 n3, .int .i64 n4, .ref 20114 1 0 l3.length (some uC), .int .i64 n5, .int .i64 n6, .int .i64 n7]), (20113, .arr 3 1 true (l2.map (D.int .i64))), (20114, .arr 3 1 true (l3.map (D.int .i64)))], 20115⟩
attribute [local go_sem] Tryz.St_command_reader_command_1
def Tryz.St_command_reader_command_3 (v1 : Int × Tcommand_reader) (b2 : Bool) : St := ⟨[(0, .ptr 20000 0), (2, .ptr 20100 0), (4, .ptr 20112 0), (48, .bool b2)], [(20000, .box [.imm 1 (v1.2.fB.map (D.int .u8)) 12, .bool v1.2.fOk]), (20100, .box [.int .u8 0, .int .i64 0, .imm 0 [] 0, .int .i64 0, .str [], .str [], .int .i64 0, .int .i64 0, .imm 0 [] 0, .int .i64 0, .int .i64 0, .int .i64 0]), (20112, .box [.int .u8 (wr .u8 (min v1.1 255)), .int .i64 0, .imm 0 [] 0, .int .i64 0, .str [], .str [], .int .i64 0, .int .i64 0, .imm 0 [] 0, .int .i64 0, .int .i64 0, .int .i64 0])], 20113⟩
attribute [local go_sem] Tryz.St_command_reader_command_3
def Tryz.St_command_reader_command_5 (v1 : Int × Tcommand_reader) (v10 : Int × Tcommand_reader) (v11 : Int × Tcommand_reader) (l4 : List Int) (b3 : Bool) (n8 : Int) : St := ⟨[(0, .ptr 20000 0), (2, .ptr 20100 0), (4, .ptr 20112 0)], [(20000, .box [.imm 1 (l4.map (D.int .u8)) 12, .bool b3]), (20100, .box [.int .u8 0, .int .i64 0, .imm 0 [] 0, .int .i64 0, .str [], .str [], .int .i64 0, .int .i64 0, .imm 0 [] 0, .int .i64 0, .int .i64 0, .int .i64 0]), (20112, .box [.int .u8 (wr .u8 (min v1.1 255)), .int .i64 0, .imm 0 [] 0, .int .i64 0, .str [], .str [], .int .i64 v10.1, .int .i64 0, .imm 0 [] 0, .int .i64 v11.1, .int .i64 n8, .int .i64 0])], 20125⟩
attribute [local go_sem] Tryz.St_command_reader_command_5
def Tryz.Re_command_reader_command (r : TCommand × Tcommand_reader) : St := ⟨[(0, .ptr 20000 0), (2, .ptr 20102 0)], [(20000, .box [.imm 1 (r.2.fB.map (D.int .u8)) 12, .bool r.2.fOk]), (20100, .arr 3 1 true (r.1.Message.Groups.map (D.int .i64))), (20101, .arr 3 1 true (r.1.Members.map (D.int .i64))), (20102, .box [.int .u8 r.1.Kind, .int .i64 r.1.Message.Id, .ref 20100 1 0 r.1.Message.Groups.length (some uC), .int .i64 r.1.Message.Topic, .str r.1.Message.Key, .str r.1.Message.Body, .int .i64 r.1.Id, .int .i64 r.1.Time, .ref 20101 1 0 r.1.Members.length (some uC), .int .i64 r.1.Topic, .int .i64 r.1.Who, .int .i64 r.1.N])], 20103⟩
attribute [local go_sem] Tryz.Re_command_reader_command
theorem zia (a0 : Tcommand_reader) (r : TCommand × Tcommand_reader) (h : zbt a0 = some r) : CallH Tryz.prog 77 [.ptr 20000 0] [(20000, .box [.imm 1 (a0.fB.map (D.int .u8)) 12, .bool a0.fOk])] (.agg [.int .u8 r.1.Kind, .int .i64 r.1.Message.Id, .ref 20100 1 0 r.1.Message.Groups.length (some uC), .int .i64 r.1.Message.Topic, .str r.1.Message.Key, .str r.1.Message.Body, .int .i64 r.1.Id, .int .i64 r.1.Time, .ref 20101 1 0 r.1.Members.length (some uC), .int .i64 r.1.Topic, .int .i64 r.1.Who, .int .i64 r.1.N]) [(20000, some (.box [.imm 1 (r.2.fB.map (D.int .u8)) 12, .bool r.2.fOk])), (20100, some (.arr 3 1 true (r.1.Message.Groups.map (D.int .i64)))), (20101, some (.arr 3 1 true (r.1.Members.map (D.int .i64))))] (20100, 20149) := by
 refine za4 Tryz.tmOk Tryz.func77 rfl (by decide) (Nat.le_of_ble_eq_true rfl) (by simp) ?_
 intro hwf
 unfold zbt at h
 refine .ends 20100 (Nat.le_refl _) ?_
 refine .seq ?_
 refine .pl zS [0] ?_
 refine .seq ?_
 obtain ⟨v1, hv1, h⟩ := bind_some h
 refine .rg zS [0, 2] ?_
 refine .rn 1 ?_
 refine .hcall (H := [(20000, .box [.imm 1 (a0.fB.map (D.int .u8)) 12, .bool a0.fOk])]) (eff := [(20000, some (.box [.imm 1 (v1.2.fB.map (D.int .u8)) 12, .bool v1.2.fOk]))]) (nw := (20106, 20112)) (r := .int .i64 v1.1) rfl rfl rfl rfl rfl (zbm 20000 20000 (zcd 20106 (zav a0 v1 hv1))) (fun id b h => zae [20000] _ id b h) (by simp) (.inr ⟨Nat.le_of_ble_eq_true rfl, Nat.le_of_ble_eq_true rfl⟩) ?_
 refine .rn 1 ?_
 refine .nil ⟨nofun, ?_⟩
 refine .seq ?_
 refine .pl zS [0, 2, 3] ?_
 obtain ⟨x1, hx1, h⟩ := bind_some h
 refine .seqM 20113 (fun (j : (List Int) × Bool × Int × (List Int) × Int × (List UInt8) × (List UInt8) × Int × Int × (List Int) × Int × Int × Int) => Tryz.St_command_reader_command_1 v1 j.1 j.2.1 j.2.2.1 j.2.2.2.1 j.2.2.2.2.1 j.2.2.2.2.2.1 j.2.2.2.2.2.2.1 j.2.2.2.2.2.2.2.1 j.2.2.2.2.2.2.2.2.1 j.2.2.2.2.2.2.2.2.2.1 j.2.2.2.2.2.2.2.2.2.2.1 j.2.2.2.2.2.2.2.2.2.2.2.1 j.2.2.2.2.2.2.2.2.2.2.2.2) (fun j => x1 = j) (Nat.le_of_ble_eq_true rfl) ?_ ?_
 ·refine .seq ?_
  refine .pl zS [0, 2, 4] ?_
  refine .block ?_
  refine .seq ?_
  refine .pl zS [0, 2, 4, 12] ?_
  refine .cond rfl rfl (fun hc1 => ?_) (fun hc1 => ?_)
  ·replace hx1 := za0 hx1 hc1
   refine .seq ?_
   obtain ⟨v2, hv2, hx1⟩ := bind_some hx1
   refine .rg zS [0, 2, 4] ?_
   refine .rn 1 ?_
   refine .hcall (H := [(20000, .box [.imm 1 (v1.2.fB.map (D.int .u8)) 12, .bool v1.2.fOk])]) (eff := [(20000, some (.box [.imm 1 (v2.2.fB.map (D.int .u8)) 12, .bool v2.2.fOk]))]) (nw := (20113, 20119)) (r := .int .i64 v2.1) rfl rfl rfl rfl rfl (zbm 20000 20000 (zcd 20113 (zav v1.2 v2 hv2))) (fun id b h => zae [20000] _ id b h) (by simp) (.inr ⟨Nat.le_of_ble_eq_true rfl, Nat.le_of_ble_eq_true rfl⟩) ?_
   refine .rn 3 ?_
   refine .nil ⟨nofun, ?_⟩
   refine .seq ?_
   obtain ⟨v3, hv3, hx1⟩ := bind_some hx1
   refine .rg zS [0, 2, 4] ?_
   refine .rn 1 ?_
   refine .hcall (H := [(20000, .box [.imm 1 (v2.2.fB.map (D.int .u8)) 12, .bool v2.2.fOk])]) (eff := [(20000, some (.box [.imm 1 (v3.2.fB.map (D.int .u8)) 12, .bool v3.2.fOk])), (20119, some (.arr 3 1 true (v3.1.map (D.int .i64))))]) (nw := (20119, 20128)) (r := .ref 20119 1 0 v3.1.length (some uC)) rfl rfl rfl rfl rfl (zbm 20000 20000 (zcd 20119 (zgl v2.2 4 v3 hv3))) (fun id b h => zae [20000] _ id b h) (by simp) (.inr ⟨Nat.le_of_ble_eq_true rfl, Nat.le_of_ble_eq_true rfl⟩) ?_
   refine .rn 3 ?_
   refine .nil ⟨nofun, ?_⟩
   refine .seq ?_
   obtain ⟨v4, hv4, hx1⟩ := bind_some hx1
   refine .rg zS [0, 2, 4] ?_
   refine .rn 1 ?_
   refine .hcall (H := [(20000, .box [.imm 1 (v3.2.fB.map (D.int .u8)) 12, .bool v3.2.fOk])]) (eff := [(20000, some (.box [.imm 1 (v4.2.fB.map (D.int .u8)) 12, .bool v4.2.fOk]))]) (nw := (20128, 20134)) (r := .int .i64 v4.1) rfl rfl rfl rfl rfl (zbm 20000 20000 (zcd 20128 (zav v3.2 v4 hv4))) (fun id b h => zae [20000] _ id b h) (by simp) (.inr ⟨Nat.le_of_ble_eq_true rfl, Nat.le_of_ble_eq_true rfl⟩) ?_
   refine .rn 3 ?_
   refine .nil ⟨nofun, ?_⟩
   refine .seq ?_
   obtain ⟨v5, hv5, hx1⟩ := bind_some hx1
   refine .rg zS [0, 2, 4] ?_
   refine .rn 1 ?_
   refine .hcall (H := [(20000, .box [.imm 1 (v4.2.fB.map (D.int .u8)) 12, .bool v4.2.fOk])]) (eff := [(20000, some (.box [.imm 1 (v5.2.fB.map (D.int .u8)) 12, .bool v5.2.fOk]))]) (nw := (20134, 20140)) (r := .str v5.1) rfl rfl rfl rfl rfl (zbm 20000 20000 (zcd 20134 (zgk v4.2 v5 hv5))) (fun id b h => zae [20000] _ id b h) (by simp) (.inr ⟨Nat.le_of_ble_eq_true rfl, Nat.le_of_ble_eq_true rfl⟩) ?_
   refine .rn 3 ?_
   refine .nil ⟨nofun, ?_⟩
   obtain ⟨v6, hv6, hx1⟩ := bind_some hx1
   refine .rg zS [0, 2, 4] ?_
   refine .rn 1 ?_
   refine .hcall (H := [(20000, .box [.imm 1 (v5.2.fB.map (D.int .u8)) 12, .bool v5.2.fOk])]) (eff := [(20000, some (.box [.imm 1 (v6.2.fB.map (D.int .u8)) 12, .bool v6.2.fOk]))]) (nw := (20140, 20146)) (r := .str v6.1) rfl rfl rfl rfl rfl (zbm 20000 20000 (zcd 20140 (zgk v5.2 v6 hv6))) (fun id b h => zae [20000] _ id b h) (by simp) (.inr ⟨Nat.le_of_ble_eq_true rfl, Nat.le_of_ble_eq_true rfl⟩) ?_
   refine .rn 3 ?_
   refine .nil ⟨nofun, ?_⟩
   refine ⟨_, ?_, (Option.some.inj hx1).symm⟩
   refine Goes.new0 1 3 (Nat.le_of_ble_eq_true rfl) ?_
   refine Goes.boxs 20112 _ [.int .u8 (wr .u8 (min v1.1 255)), .int .i64 v2.1, .ref 20119 1 0 v3.1.length (some uC), .int .i64 v4.1, .str v5.1, .str v6.1, .int .i64 0, .int .i64 0, .ref 20146 1 0 0 (some uC), .int .i64 0, .int .i64 0, .int .i64 0] rfl (.keep (.keep (.keep (.keep (.keep (.keep (.keep (.keep (.cons (.own0 20146 _ _ _ (by decide)) (.refl _)))))))))) ?_
   exact .m [0, 2, 4] [20000, 20100, 20112, 20119, 20146] [(20119, 20113), (20146, 20114)]
  ·replace hx1 := za1 hx1 hc1
   refine .seq ?_
   refine .pl zS [0, 2, 4, 12] ?_
   refine .cond rfl rfl (fun hc2 => ?_) (fun hc2 => ?_)
   ·replace hx1 := za0 hx1 hc2
    refine .seq ?_
    obtain ⟨v7, hv7, hx1⟩ := bind_some hx1
    refine .rg zS [0, 2, 4] ?_
    refine .rn 1 ?_
    refine .hcall (H := [(20000, .box [.imm 1 (v1.2.fB.map (D.int .u8)) 12, .bool v1.2.fOk])]) (eff := [(20000, some (.box [.imm 1 (v7.2.fB.map (D.int .u8)) 12, .bool v7.2.fOk]))]) (nw := (20113, 20119)) (r := .int .i64 v7.1) rfl rfl rfl rfl rfl (zbm 20000 20000 (zcd 20113 (zav v1.2 v7 hv7))) (fun id b h => zae [20000] _ id b h) (by simp) (.inr ⟨Nat.le_of_ble_eq_true rfl, Nat.le_of_ble_eq_true rfl⟩) ?_
    refine .rn 2 ?_
    refine .nil ⟨nofun, ?_⟩
    obtain ⟨v8, hv8, hx1⟩ := bind_some hx1
    refine .rg zS [0, 2, 4] ?_
    refine .rn 1 ?_
    refine .hcall (H := [(20000, .box [.imm 1 (v7.2.fB.map (D.int .u8)) 12, .bool v7.2.fOk])]) (eff := [(20000, some (.box [.imm 1 (v8.2.fB.map (D.int .u8)) 12, .bool v8.2.fOk]))]) (nw := (20119, 20125)) (r := .int .i64 v8.1) rfl rfl rfl rfl rfl (zbm 20000 20000 (zcd 20119 (zav v7.2 v8 hv8))) (fun id b h => zae [20000] _ id b h) (by simp) (.inr ⟨Nat.le_of_ble_eq_true rfl, Nat.le_of_ble_eq_true rfl⟩) ?_
    refine .rn 2 ?_
    refine .nil ⟨nofun, ?_⟩
    refine ⟨_, ?_, (Option.some.inj hx1).symm⟩
    refine Goes.new0 1 3 (Nat.le_of_ble_eq_true rfl) ?_
    refine Goes.new0 1 3 (Nat.le_of_ble_eq_true rfl) ?_
    refine Goes.boxs 20112 _ [.int .u8 (wr .u8 (min v1.1 255)), .int .i64 0, .ref 20125 1 0 0 (some uC), .int .i64 0, .str [], .str [], .int .i64 v7.1, .int .i64 v8.1, .ref 20126 1 0 0 (some uC), .int .i64 0, .int .i64 0, .int .i64 0] rfl (.keep (.keep (.cons (.own0 20125 _ _ _ (by decide)) (.keep (.keep (.keep (.keep (.keep (.cons (.own0 20126 _ _ _ (by decide)) (.refl _)))))))))) ?_
    exact .m [0, 2, 4] [20000, 20100, 20112, 20125, 20126] [(20125, 20113), (20126, 20114)]
   ·replace hx1 := za1 hx1 hc2
    refine .seq ?_
    refine .pl zS [0, 2, 4, 12] ?_
    refine .cond rfl rfl (fun hc3 => ?_) (fun hc3 => ?_)
    ·replace hx1 := za0 hx1 hc3
     obtain ⟨v9, hv9, hx1⟩ := bind_some hx1
     refine .rg zS [0, 2, 4] ?_
     refine .rn 1 ?_
     refine .hcall (H := [(20000, .box [.imm 1 (v1.2.fB.map (D.int .u8)) 12, .bool v1.2.fOk])]) (eff := [(20000, some (.box [.imm 1 (v9.2.fB.map (D.int .u8)) 12, .bool v9.2.fOk])), (20113, some (.arr 3 1 true (v9.1.map (D.int .i64))))]) (nw := (20113, 20122)) (r := .ref 20113 1 0 v9.1.length (some uC)) rfl rfl rfl rfl rfl (zbm 20000 20000 (zcd 20113 (zgl v1.2 6 v9 hv9))) (fun id b h => zae [20000] _ id b h) (by simp) (.inr ⟨Nat.le_of_ble_eq_true rfl, Nat.le_of_ble_eq_true rfl⟩) ?_
     refine .rn 2 ?_
     refine .nil ⟨nofun, ?_⟩
     refine ⟨_, ?_, (Option.some.inj hx1).symm⟩
     refine Goes.new0 1 3 (Nat.le_of_ble_eq_true rfl) ?_
     refine Goes.boxs 20112 _ [.int .u8 (wr .u8 (min v1.1 255)), .int .i64 0, .ref 20122 1 0 0 (some uC), .int .i64 0, .str [], .str [], .int .i64 0, .int .i64 0, .ref 20113 1 0 v9.1.length (some uC), .int .i64 0, .int .i64 0, .int .i64 0] rfl (.keep (.keep (.cons (.own0 20122 _ _ _ (by decide)) (.refl _)))) ?_
     exact .m [0, 2, 4] [20000, 20100, 20112, 20122, 20113] [(20122, 20113), (20113, 20114)]
    ·replace hx1 := za1 hx1 hc3
     obtain ⟨x2, hx2, hx1⟩ := bind_some hx1
     refine .seqM 20113 (fun (j : Bool) => Tryz.St_command_reader_command_3 v1 j) (fun j => x2 = j) (Nat.le_of_ble_eq_true rfl) ?_ ?_
     ·refine .seq ?_
      refine .pl zS [0, 2, 4, 12] ?_
      refine .cond rfl rfl (fun hc4 => ?_) (fun hc4 => ?_)
      ·replace hx2 := za0 hx2 hc4
       refine .skip ?_
       refine ⟨_, ?_, (Option.some.inj hx2).symm⟩
       exact .m [0, 2, 4, 48] [20000, 20100, 20112] []
      ·replace hx2 := za1 hx2 hc4
       refine .seq ?_
       refine .pl zS [0, 2, 4, 12] ?_
       refine .cond rfl rfl (fun hc5 => ?_) (fun hc5 => ?_)
       ·replace hx2 := za0 hx2 hc5
        refine .skip ?_
        refine ⟨_, ?_, (Option.some.inj hx2).symm⟩
        exact .m [0, 2, 4, 48] [20000, 20100, 20112] []
       ·replace hx2 := za1 hx2 hc5
        refine .pl zS [0, 2, 4, 12] ?_
        refine ⟨_, ?_, (Option.some.inj hx2).symm⟩
        exact .m [0, 2, 4, 48] [20000, 20100, 20112] []
     ·rintro b2 hj1
      subst x2
      try dsimp only at hx1
      simp only [Tryz.St_command_reader_command_3]
      refine .cond rfl rfl (fun hc6 => ?_) (fun hc6 => ?_)
      ·replace hx1 := za0 hx1 hc6
       refine .seq ?_
       obtain ⟨v10, hv10, hx1⟩ := bind_some hx1
       refine .rg zS [0, 2, 4] ?_
       refine .rn 1 ?_
       refine .hcall (H := [(20000, .box [.imm 1 (v1.2.fB.map (D.int .u8)) 12, .bool v1.2.fOk])]) (eff := [(20000, some (.box [.imm 1 (v10.2.fB.map (D.int .u8)) 12, .bool v10.2.fOk]))]) (nw := (20113, 20119)) (r := .int .i64 v10.1) rfl rfl rfl rfl rfl (zbm 20000 20000 (zcd 20113 (zav v1.2 v10 hv10))) (fun id b h => zae [20000] _ id b h) (by simp) (.inr ⟨Nat.le_of_ble_eq_true rfl, Nat.le_of_ble_eq_true rfl⟩) ?_
       refine .rn 2 ?_
       refine .nil ⟨nofun, ?_⟩
       refine .seq ?_
       obtain ⟨v11, hv11, hx1⟩ := bind_some hx1
       refine .rg zS [0, 2, 4] ?_
       refine .rn 1 ?_
       refine .hcall (H := [(20000, .box [.imm 1 (v10.2.fB.map (D.int .u8)) 12, .bool v10.2.fOk])]) (eff := [(20000, some (.box [.imm 1 (v11.2.fB.map (D.int .u8)) 12, .bool v11.2.fOk]))]) (nw := (20119, 20125)) (r := .int .i64 v11.1) rfl rfl rfl rfl rfl (zbm 20000 20000 (zcd 20119 (zav v10.2 v11 hv11))) (fun id b h => zae [20000] _ id b h) (by simp) (.inr ⟨Nat.le_of_ble_eq_true rfl, Nat.le_of_ble_eq_true rfl⟩) ?_
       refine .rn 2 ?_
       refine .nil ⟨nofun, ?_⟩
       obtain ⟨x3, hx3, hx1⟩ := bind_some hx1
       refine .seqM 20125 (fun (j : (List Int) × Bool × Int) => Tryz.St_command_reader_command_5 v1 v10 v11 j.1 j.2.1 j.2.2) (fun j => x3 = j) (Nat.le_of_ble_eq_true rfl) ?_ ?_
       ·refine .seq ?_
        refine .pl zS [0, 2, 4] ?_
        refine .cond rfl rfl (fun hc7 => ?_) (fun hc7 => ?_)
        ·replace hx3 := za0 hx3 hc7
         obtain ⟨v12, hv12, hx3⟩ := bind_some hx3
         refine .rg zS [0, 2, 4] ?_
         refine .rn 1 ?_
         refine .hcall (H := [(20000, .box [.imm 1 (v11.2.fB.map (D.int .u8)) 12, .bool v11.2.fOk])]) (eff := [(20000, some (.box [.imm 1 (v12.2.fB.map (D.int .u8)) 12, .bool v12.2.fOk]))]) (nw := (20125, 20131)) (r := .int .i64 v12.1) rfl rfl rfl rfl rfl (zbm 20000 20000 (zcd 20125 (zav v11.2 v12 hv12))) (fun id b h => zae [20000] _ id b h) (by simp) (.inr ⟨Nat.le_of_ble_eq_true rfl, Nat.le_of_ble_eq_true rfl⟩) ?_
         refine .rn 2 ?_
         refine .nil ⟨nofun, ?_⟩
         refine ⟨_, ?_, (Option.some.inj hx3).symm⟩
         exact .m [0, 2, 4] [20000, 20100, 20112] []
        ·replace hx3 := za1 hx3 hc7
         refine .skip ?_
         refine ⟨_, ?_, (Option.some.inj hx3).symm⟩
         exact .m [0, 2, 4] [20000, 20100, 20112] []
       ·rintro ⟨l4, b3, n8⟩ hj2
        subst x3
        try dsimp only at hx1
        simp only [Tryz.St_command_reader_command_5]
        obtain ⟨v13, hv13, hx1⟩ := bind_some hx1
        refine .rg zS [0, 2, 4] ?_
        refine .rn 1 ?_
        refine .hcall (H := [(20000, .box [.imm 1 (l4.map (D.int .u8)) 12, .bool b3])]) (eff := [(20000, some (.box [.imm 1 (v13.2.fB.map (D.int .u8)) 12, .bool v13.2.fOk]))]) (nw := (20125, 20131)) (r := .int .i64 v13.1) rfl rfl rfl rfl rfl (zbm 20000 20000 (zcd 20125 (zav (⟨l4, b3⟩ : Tcommand_reader) v13 hv13))) (fun id b h => zae [20000] _ id b h) (by simp) (.inr ⟨Nat.le_of_ble_eq_true rfl, Nat.le_of_ble_eq_true rfl⟩) ?_
        refine .rn 2 ?_
        refine .nil ⟨nofun, ?_⟩
        refine ⟨_, ?_, (Option.some.inj hx1).symm⟩
        refine Goes.new0 1 3 (Nat.le_of_ble_eq_true rfl) ?_
        refine Goes.new0 1 3 (Nat.le_of_ble_eq_true rfl) ?_
        refine Goes.boxs 20112 _ [.int .u8 (wr .u8 (min v1.1 255)), .int .i64 0, .ref 20131 1 0 0 (some uC), .int .i64 0, .str [], .str [], .int .i64 v10.1, .int .i64 0, .ref 20132 1 0 0 (some uC), .int .i64 v11.1, .int .i64 n8, .int .i64 v13.1] rfl (.keep (.keep (.cons (.own0 20131 _ _ _ (by decide)) (.keep (.keep (.keep (.keep (.keep (.cons (.own0 20132 _ _ _ (by decide)) (.refl _)))))))))) ?_
        exact .m [0, 2, 4] [20000, 20100, 20112, 20131, 20132] [(20131, 20113), (20132, 20114)]
      ·replace hx1 := za1 hx1 hc6
       refine .skip ?_
       refine ⟨_, ?_, (Option.some.inj hx1).symm⟩
       refine Goes.new0 1 3 (Nat.le_of_ble_eq_true rfl) ?_
       refine Goes.new0 1 3 (Nat.le_of_ble_eq_true rfl) ?_
       refine Goes.boxs 20112 _ [.int .u8 (wr .u8 (min v1.1 255)), .int .i64 0, .ref 20113 1 0 0 (some uC), .int .i64 0, .str [], .str [], .int .i64 0, .int .i64 0, .ref 20114 1 0 0 (some uC), .int .i64 0, .int .i64 0, .int .i64 0] rfl (.keep (.keep (.cons (.own0 20113 _ _ _ (by decide)) (.keep (.keep (.keep (.keep (.keep (.cons (.own0 20114 _ _ _ (by decide)) (.refl _)))))))))) ?_
       exact .m [0, 2, 4] [20000, 20100, 20112, 20113, 20114] []
 ·rintro ⟨l1, b1, n1, l2, n2, s1, s2, n3, n4, l3, n5, n6, n7⟩ hj3
  subst x1
  try dsimp only at h
  simp only [Tryz.St_command_reader_command_1]
  refine .seq ?_
  refine .pl zS [0, 2, 4] ?_
  have hq := Option.some.inj h
  subst r
  refine .ret ⟨Tryz.Re_command_reader_command ((⟨(wr .u8 (min v1.1 255)), (⟨n1, l2, n2, s1, s2⟩ : TMessage), n3, n4, l3, n5, n6, n7⟩ : TCommand), (⟨l1, b1⟩ : Tcommand_reader)), ?_, .inr rfl, retH [20000, 20101, 20100] ?_ ?_⟩
  ·exact .m [0, 2] [20000, 20113, 20114, 20100] [(20113, 20100), (20114, 20101), (20100, 20102)]
  ·exact rsi0
  ·rfl
def Tryz.Re_command_Read (r : TCommand × Int) : St := ⟨[(2, .ptr 2 0), (3, .int .i64 r.2)], [(0, .arr 3 1 true (r.1.Message.Groups.map (D.int .i64))), (1, .arr 3 1 true (r.1.Members.map (D.int .i64))), (2, .box [.int .u8 r.1.Kind, .int .i64 r.1.Message.Id, .ref 0 1 0 r.1.Message.Groups.length (some uC), .int .i64 r.1.Message.Topic, .str r.1.Message.Key, .str r.1.Message.Body, .int .i64 r.1.Id, .int .i64 r.1.Time, .ref 1 1 0 r.1.Members.length (some uC), .int .i64 r.1.Topic, .int .i64 r.1.Who, .int .i64 r.1.N])], 3⟩
attribute [local go_sem] Tryz.Re_command_Read
theorem zn3 (a0 : List UInt8) (r : TCommand × Int) (h : zc4 a0 = some r) : CallH Tryz.prog 62 [.str a0] [] (.tuple [.agg [.int .u8 r.1.Kind, .int .i64 r.1.Message.Id, .ref 0 1 0 r.1.Message.Groups.length (some uC), .int .i64 r.1.Message.Topic, .str r.1.Message.Key, .str r.1.Message.Body, .int .i64 r.1.Id, .int .i64 r.1.Time, .ref 1 1 0 r.1.Members.length (some uC), .int .i64 r.1.Topic, .int .i64 r.1.Who, .int .i64 r.1.N], .int .i64 r.2]) [(0, some (.arr 3 1 true (r.1.Message.Groups.map (D.int .i64)))), (1, some (.arr 3 1 true (r.1.Members.map (D.int .i64))))] (0, 56) := by
 refine za4 Tryz.tmOk Tryz.func62 rfl (by decide) (Nat.le_of_ble_eq_true rfl) (by simp) ?_
 intro hwf
 unfold zc4 at h
 refine .ends 0 (Nat.le_refl _) ?_
 refine .seq ?_
 refine .pl zS [0] ?_
 refine .seq ?_
 refine .seq ?_
 refine .pl zS [0, 2] ?_
 refine .cond rfl rfl (fun hc1 => ?_) (fun hc1 => ?_)
 ·replace h := za0 h hc1
  refine .seq ?_
  refine .pl zS [2] ?_
  have hq := Option.some.inj h
  subst r
  refine .ret ⟨Tryz.Re_command_Read ((⟨0, (⟨0, [], 0, [], []⟩ : TMessage), 0, 0, [], 0, 0, 0⟩ : TCommand), 3), ?_, .inr rfl, retH [1, 0] ?_ ?_⟩
  ·refine Goes.new0 1 3 (Nat.le_of_ble_eq_true rfl) ?_
   refine Goes.new0 1 3 (Nat.le_of_ble_eq_true rfl) ?_
   refine Goes.boxs 0 _ [.int .u8 0, .int .i64 0, .ref 1 1 0 0 (some uC), .int .i64 0, .str [], .str [], .int .i64 0, .int .i64 0, .ref 2 1 0 0 (some uC), .int .i64 0, .int .i64 0, .int .i64 0] rfl (.keep (.keep (.cons (.own0 1 _ _ _ (by decide)) (.keep (.keep (.keep (.keep (.keep (.cons (.own0 2 _ _ _ (by decide)) (.refl _)))))))))) ?_
   exact .m [2, 3] [1, 2, 0] [(1, 0), (2, 1), (0, 2)]
  ·exact rsi0
  ·rfl
 ·replace h := za1 h hc1
  refine .skip ?_
  refine .seq ?_
  refine .pl zS [0, 2] ?_
  refine .goes (.boxs 1 _ [.imm 1 ((zft a0).map (D.int .u8)) 12, .bool true] rfl (.cons (.of_new12 _ _ rfl) (.refl _)) .refl) ?_
  refine .seq ?_
  obtain ⟨v1, hv1, h⟩ := bind_some h
  refine .rg zS [2, 4] ?_
  refine .rn 1 ?_
  refine .hcall (H := [(1, .box [.imm 1 ((zft a0).map (D.int .u8)) 12, .bool true])]) (eff := [(1, some (.box [.imm 1 (v1.2.fB.map (D.int .u8)) 12, .bool v1.2.fOk])), (2, some (.arr 3 1 true (v1.1.Message.Groups.map (D.int .i64)))), (3, some (.arr 3 1 true (v1.1.Members.map (D.int .i64))))]) (nw := (2, 51)) (r := .agg [.int .u8 v1.1.Kind, .int .i64 v1.1.Message.Id, .ref 2 1 0 v1.1.Message.Groups.length (some uC), .int .i64 v1.1.Message.Topic, .str v1.1.Message.Key, .str v1.1.Message.Body, .int .i64 v1.1.Id, .int .i64 v1.1.Time, .ref 3 1 0 v1.1.Members.length (some uC), .int .i64 v1.1.Topic, .int .i64 v1.1.Who, .int .i64 v1.1.N]) rfl rfl rfl rfl rfl (ziv 2 (zbm 20000 1 (zia (⟨(zft a0), true⟩ : Tcommand_reader) v1 hv1))) (fun id b h => zae [1] _ id b h) (by simp) (.inr ⟨Nat.le_of_ble_eq_true rfl, Nat.le_of_ble_eq_true rfl⟩) ?_
  refine .rn 2 ?_
  refine .nil ⟨nofun, ?_⟩
  refine .seq ?_
  refine .seq ?_
  obtain ⟨v2, hv2, h⟩ := bind_some h
  refine .rg zS [2, 4, 5] ?_
  refine .rn 6 ?_
  refine .rn 6 ?_
  refine .rn 3 ?_
  refine .glcall (r := .int .i64 v2) [] rfl rfl rfl rfl rfl (fun hg => ⟨[], [.agg [.int .u8 v1.1.Kind, .int .i64 v1.1.Message.Id, .ref 2 1 0 v1.1.Message.Groups.length (some uC), .int .i64 v1.1.Message.Topic, .str v1.1.Message.Key, .str v1.1.Message.Body, .int .i64 v1.1.Id, .int .i64 v1.1.Time, .ref 3 1 0 v1.1.Members.length (some uC), .int .i64 v1.1.Topic, .int .i64 v1.1.Who, .int .i64 v1.1.N]], _, rfl, gd hg, (za6 (zfd (zlm (za3 rfl (za3 rfl (za3 (zef (pl_int .i64) (by first | rfl | (simp only [go_sem, Nat.reduceBEq]; rfl)) (by first | rfl | (simp; done) | (simp <;> omega))) (za3 rfl (za3 rfl (za3 rfl (za3 rfl (za3 rfl (za3 (zef (pl_int .i64) (by first | rfl | (simp only [go_sem, Nat.reduceBEq]; rfl)) (by first | rfl | (simp; done) | (simp <;> omega))) (za3 rfl (za3 rfl (za3 rfl zg1))))))))))))) trivial) zas), rfl, (zis v1.1 v2 (za0 hv2 hg))⟩) ?_
  refine .rn 2 ?_
  refine .nil ⟨nofun, ?_⟩
  refine .cond rfl rfl (fun hc2 => ?_) (fun hc2 => ?_)
  ·replace h := za0 h hc2
   refine .seq ?_
   refine .pl zS [2] ?_
   have hq := Option.some.inj h
   subst r
   refine .ret ⟨Tryz.Re_command_Read ((⟨0, (⟨0, [], 0, [], []⟩ : TMessage), 0, 0, [], 0, 0, 0⟩ : TCommand), 8), ?_, .inr rfl, retH [1, 0] ?_ ?_⟩
   ·refine Goes.new0 1 3 (Nat.le_of_ble_eq_true rfl) ?_
    refine Goes.new0 1 3 (Nat.le_of_ble_eq_true rfl) ?_
    refine Goes.boxs 0 _ [.int .u8 0, .int .i64 0, .ref 52 1 0 0 (some uC), .int .i64 0, .str [], .str [], .int .i64 0, .int .i64 0, .ref 53 1 0 0 (some uC), .int .i64 0, .int .i64 0, .int .i64 0] rfl (.keep (.keep (.cons (.own0 52 _ _ _ (by decide)) (.keep (.keep (.keep (.keep (.keep (.cons (.own0 53 _ _ _ (by decide)) (.refl _)))))))))) ?_
    exact .m [2, 3] [52, 53, 0] [(52, 0), (53, 1), (0, 2)]
   ·exact rsi0
   ·rfl
  ·replace h := za1 h hc2
   refine .skip ?_
   refine .seq ?_
   refine .pl zS [2, 5] ?_
   have hq := Option.some.inj h
   subst r
   refine .ret ⟨Tryz.Re_command_Read (v1.1, 0), ?_, .inr rfl, retH [1, 0] ?_ ?_⟩
   ·exact .m [2, 3] [2, 3, 0] [(2, 0), (3, 1), (0, 2)]
   ·exact rsi0
   ·rfl
theorem zmz (a0 : List UInt8) (r : TCommand × Int) (h : zc4 a0 = some r) : CallP Tryz.prog 62 [.str a0] (.tuple [.agg [.int .u8 r.1.Kind, .int .i64 r.1.Message.Id, .imm 1 (r.1.Message.Groups.map (D.int .i64)) 12, .int .i64 r.1.Message.Topic, .str r.1.Message.Key, .str r.1.Message.Body, .int .i64 r.1.Id, .int .i64 r.1.Time, .imm 1 (r.1.Members.map (D.int .i64)) 12, .int .i64 r.1.Topic, .int .i64 r.1.Who, .int .i64 r.1.N], .int .i64 r.2]) :=
 zf1 (zm5 (za8 (zm6 (za8 rfl (za8 rfl (za8 (zja zjf rfl rfl) (za8 rfl (za8 rfl (za8 rfl (za8 rfl (za8 rfl (za8 (zja zjf rfl rfl) (za8 rfl (za8 rfl (za8 rfl zfe))))))))))))) (za8 rfl zfe))) (zn3 a0 r h)
def Tryz.St_log_Commands_1 (l1 : List TCommand) : St := ⟨[(2, .ref 0 12 0 l1.length (some uC))], [(0, .arr 59 12 true (l1.map TCommand.n))], 1⟩
attribute [local go_sem] Tryz.St_log_Commands_1
def Tryz.St_log_Commands_3 (a0 : List (List UInt8)) (n1 : Nat) (l2 : List TCommand) : St := ⟨[(2, .ref 0 12 0 l2.length (some uC)), (11, .imm 1 (a0.map D.str) 4), (12, .int .i64 (a0.length : Int)), (13, .int .i64 (n1 : Int))], [(0, .arr 59 12 true (l2.map TCommand.n))], 1⟩
attribute [local go_sem] Tryz.St_log_Commands_3
def Tryz.Re_log_Commands (r : (List TCommand) × Int) : St := ⟨[(2, .ref 0 12 0 r.1.length (some uC)), (3, .int .i64 r.2)], [(0, .arr 59 12 true (r.1.map TCommand.n))], 1⟩
attribute [local go_sem] Tryz.Re_log_Commands
theorem zn2 (a0 : List (List UInt8)) (r : (List TCommand) × Int) (h : zev a0 = some r) : CallH Tryz.prog 42 [.imm 1 (a0.map D.str) 4] [] (.tuple [.ref 0 12 0 r.1.length (some uC), .int .i64 r.2]) [(0, some (.arr 59 12 true (r.1.map TCommand.n)))] (0, 6) := by
 refine za4 Tryz.tmOk Tryz.func42 rfl (by decide) (Nat.le_of_ble_eq_true rfl) (by simp) ?_
 intro hwf
 unfold zev at h
 refine .ends 0 (Nat.le_refl _) ?_
 refine .seq ?_
 refine .pl zS [0] ?_
 refine .seq ?_
 refine .seq ?_
 refine .pl zS [0, 2] ?_
 refine .cond rfl rfl (fun hc1 => ?_) (fun hc1 => ?_)
 ·replace h := za0 h hc1
  refine .seq ?_
  refine .pl zS [] ?_
  have hq := Option.some.inj h
  subst r
  refine .ret ⟨Tryz.Re_log_Commands ([], 4), ?_, .inr rfl, retH [0] ?_ ?_⟩
  ·refine Goes.new0 12 59 (Nat.le_of_ble_eq_true rfl) ?_
   refine Goes.wk 2 _ (.ref 0 12 0 0 (some uC)) rfl (.own0 0 _ _ _ (by decide)) ?_
   exact .m [2, 3] [0] []
  ·exact rsi0
  ·rfl
 ·replace h := za1 h hc1
  refine .skip ?_
  obtain ⟨x1, hx1, h⟩ := bind_some h
  refine .seqM 0 (fun (j : (List TCommand)) => Tryz.St_log_Commands_1 j) (fun j => x1 = (.inr j)) (Nat.le_of_ble_eq_true rfl) ?_ ?_
  ·refine .seq ?_
   refine .pl zS [0, 2] ?_
   refine .block ?_
   refine .loopG 0 (fun (j : Nat × (List TCommand)) => Tryz.St_log_Commands_3 a0 j.1 j.2) (fun j => j.1 <= a0.length /\ zcw (a0.drop j.1) j.2 = some x1) (fun j => a0.length - j.1) (0, []) (Nat.le_of_ble_eq_true rfl) ?_ ⟨Nat.zero_le _, hx1⟩ ?_
   ·refine Goes.new0 12 59 (Nat.le_of_ble_eq_true rfl) ?_
    refine Goes.wk 2 _ (.ref 0 12 0 0 (some uC)) rfl (.own0 0 _ _ _ (by decide)) ?_
    exact .m [2, 11, 12, 13] [0] []
   rintro ⟨n1, l2⟩ ⟨hi1, hx1⟩
   simp only [Tryz.St_log_Commands_3]
   simp only at hi1 hx1
   refine .wf 12 (.int .i64 (a0.length : Int)) rfl ?_
   intro hln1
   replace hln1 : (a0.length : Int) <= 9223372036854775807 := by simp only [wf, wfL, IntKind.max, IntKind.min, IntKind.signed, IntKind.bits, List.length_map] at hln1; first | exact hln1.2 | exact hln1.1 | (simp at hln1; omega)
   refine .seq ?_
   refine .pl zS [2, 11, 12, 13] ?_
   refine .seq ?_
   refine .cond rfl rfl (fun hc2 => ?_) (fun hc2 => ?_)
   ·have h1 : n1 < a0.length := by simpa using hc2
    have hwn1 : wr .i64 ((n1 : Int) + 1) = ((n1 + 1 : Nat) : Int) := zd5 h1 hln1
    have hpn1 : wr .i64 ((n1 : Int) - 1) = (n1 : Int) - 1 := zd6 h1 hln1
    rw [List.drop_eq_getElem_cons h1, zh9] at hx1
    refine .skip ?_
    refine .seq ?_
    refine .block ?_
    refine .seq ?_
    have e1 := zby D.str a0 n1 h1
    refine .plx zS (And.intro e1 hwn1) [2, 11, 12, 13] ?_
    refine .seq ?_
    obtain ⟨v1, hv1, hx1⟩ := bind_some hx1
    refine .rg zS [2, 5, 11, 12, 13] ?_
    refine .rnx 1 hwn1 ?_
    refine .call (r := .tuple [.agg [.int .u8 v1.1.Kind, .int .i64 v1.1.Message.Id, .imm 1 (v1.1.Message.Groups.map (D.int .i64)) 12, .int .i64 v1.1.Message.Topic, .str v1.1.Message.Key, .str v1.1.Message.Body, .int .i64 v1.1.Id, .int .i64 v1.1.Time, .imm 1 (v1.1.Members.map (D.int .i64)) 12, .int .i64 v1.1.Topic, .int .i64 v1.1.Who, .int .i64 v1.1.N], .int .i64 v1.2]) rfl rfl rfl rfl rfl rfl (zmz (a0[n1]) v1 hv1) ?_
    refine .rnx 6 hwn1 ?_
    refine .nil ⟨nofun, ?_⟩
    refine .seq ?_
    refine .seq ?_
    refine .plx zS hwn1 [2, 6, 7, 11, 12, 13] ?_
    refine .cond rfl rfl (fun hc3 => ?_) (fun hc3 => ?_)
    ·replace hx1 := za0 hx1 hc3
     refine .seq ?_
     refine .plx zS hwn1 [] ?_
     have hq := Option.some.inj hx1
     subst x1
     try dsimp only at h
     have hq := Option.some.inj h
     subst r
     refine .ret ⟨Tryz.Re_log_Commands ([], 8), ?_, .inr rfl, retH [0] ?_ ?_⟩
     ·refine Goes.new0 12 59 (Nat.le_of_ble_eq_true rfl) ?_
      refine Goes.wk 2 _ (.ref 2 12 0 0 (some uC)) rfl (.own0 2 _ _ _ (by decide)) ?_
      exact .m [2, 3] [2] [(2, 0)]
     ·exact rsi0
     ·rfl
    ·replace hx1 := za1 hx1 hc3
     refine .skip ?_
     obtain ⟨k1, hx1⟩ := zai hx1
     refine .plx zS hwn1 [2, 6, 11, 12, 13] ?_
     refine .plx zS hwn1 [2, 11, 12, 13] ?_
     refine ⟨(n1 + 1, _), ?_, ⟨by omega, hx1⟩, by dsimp only; omega⟩
     exact .m [2, 11, 12, 13] [3] [(3, 0)]
   ·have h2 : n1 = a0.length := by have h2b := of_decide_eq_false hc2; omega
    rw [List.drop_of_length_le (by omega), zh8] at hx1
    refine .exit ?_
    refine ⟨_, ?_, (Option.some.inj hx1).symm⟩
    exact .m [2] [0] []
  ·rintro l1 hj1
   subst x1
   try dsimp only at h
   simp only [Tryz.St_log_Commands_1]
   refine .seq ?_
   refine .pl zS [2] ?_
   have hq := Option.some.inj h
   subst r
   refine .ret ⟨Tryz.Re_log_Commands (l1, 0), ?_, .inr rfl, retH [0] ?_ ?_⟩
   ·exact .m [2, 3] [0] []
   ·exact rsi0
   ·rfl
theorem zjc (a0 : List (List UInt8)) (r : (List TCommand) × Int) (h : zev a0 = some r) : CallP Tryz.prog 42 [.imm 1 (a0.map D.str) 4] (.tuple [.imm 12 (r.1.map TCommand.d) 12, .int .i64 r.2]) :=
 zf1 (zm5 (za8 (zhi znw rfl rfl) (za8 rfl zfe))) (zn2 a0 r h)
def Tryz.Re_order_Play_1 (r : (List TMessage)) : St := ⟨[(1, .ptr 20000 0)], [(20000, .box [.ref 20100 5 0 r.length (some uC)]), (20100, .arr 46 5 true (r.map TMessage.n))], 20101⟩
attribute [local go_sem] Tryz.Re_order_Play_1
theorem zn1 (a0 : Torder_step) (c0 : List TMessage) (r : (List TMessage)) (h : zgf a0 c0 = some r) : CallH Tryz.prog 21 [.agg [.int .u8 a0.fC.Kind, .int .i64 a0.fC.Message.Id, .imm 1 (a0.fC.Message.Groups.map (D.int .i64)) 12, .int .i64 a0.fC.Message.Topic, .str a0.fC.Message.Key, .str a0.fC.Message.Body, .int .i64 a0.fC.Id, .int .i64 a0.fC.Time, .imm 1 (a0.fC.Members.map (D.int .i64)) 12, .int .i64 a0.fC.Topic, .int .i64 a0.fC.Who, .int .i64 a0.fC.N, .int .i64 a0.fBefore.Clock, .imm 7 (a0.fBefore.Waits.map TWait.d) 12, .imm 2 (a0.fBefore.Done.map TStamp.d) 12, .int .i64 a0.fAfter.Clock, .imm 7 (a0.fAfter.Waits.map TWait.d) 12, .imm 2 (a0.fAfter.Done.map TStamp.d) 12, .imm 5 (a0.fOut.map TMessage.d) 12], .ptr 20000 0] [(20000, .box [.ref 20001 5 0 c0.length (some uC)]), (20001, .arr 46 5 true (c0.map TMessage.n))] (.tuple []) [(20000, some (.box [.ref 20100 5 0 r.length (some uC)])), (20001, none), (20100, some (.arr 46 5 true (r.map TMessage.n)))] (20100, 20104) := by
 refine za4 Tryz.tmOk Tryz.func21 rfl (by decide) (Nat.le_of_ble_eq_true rfl) (by simp) ?_
 intro hwf
 unfold zgf at h
 refine .ends 20100 (Nat.le_refl _) ?_
 refine .seq ?_
 refine .pl zS [0, 1] ?_
 obtain ⟨k1, h⟩ := zai h
 refine .pl zS [1, 2] ?_
 have hq := Option.some.inj h
 subst r
 refine ⟨Tryz.Re_order_Play_1 (c0 ++ a0.fOut), ?_, .inl rfl, retH [20000, 20100] ?_ ?_⟩
 ·exact .m [1] [20000, 20101] [(20101, 20100)]
 ·exact rsi0
 ·rfl
def Tryz.St_order_play_Play_1 (l1 : List TMessage) (n1 : Int) (l2 : List TWait) (l3 : List TStamp) : St := ⟨[(2, .fn (.func 21) [.ptr 20000 0]), (6, .ptr 20100 0), (10, .ptr 20101 0)], [(20000, .box [.ref 20102 5 0 l1.length (some uC)]), (20100, .box [.int .i64 0, .imm 0 [] 0, .imm 0 [] 0]), (20101, .box [.int .i64 n1, .imm 7 (l2.map TWait.d) 12, .imm 2 (l3.map TStamp.d) 12]), (20102, .arr 46 5 true (l1.map TMessage.n))], 20103⟩
attribute [local go_sem] Tryz.St_order_play_Play_1
def Tryz.St_order_play_Play_3 (a0 : Int) (v1 : (List TCommand) × Int) (n3 : Nat) (l4 : List TMessage) (n2 : Int) (l5 : List TWait) (l6 : List TStamp) : St := ⟨[(0, .int .i64 a0), (2, .fn (.func 21) [.ptr 20000 0]), (6, .ptr 20100 0), (10, .ptr 20101 0), (33, .imm 12 (v1.1.map TCommand.d) 12), (34, .int .i64 (v1.1.length : Int)), (35, .int .i64 (n3 : Int))], [(20000, .box [.ref 20102 5 0 l4.length (some uC)]), (20100, .box [.int .i64 0, .imm 0 [] 0, .imm 0 [] 0]), (20101, .box [.int .i64 n2, .imm 7 (l5.map TWait.d) 12, .imm 2 (l6.map TStamp.d) 12]), (20102, .arr 46 5 true (l4.map TMessage.n))], 20103⟩
attribute [local go_sem] Tryz.St_order_play_Play_3
def Tryz.St_order_play_Play_5 (a0 : Int) (v1 : (List TCommand) × Int) (n3 : Nat) (l4 : List TMessage) (n2 : Int) (l5 : List TWait) (l6 : List TStamp) (yq0 : TCommand) (n4 : Int) (l7 : List TWait) (l8 : List TStamp) (l9 : List TMessage) : St := ⟨[(0, .int .i64 a0), (2, .fn (.func 21) [.ptr 20000 0]), (6, .ptr 20100 0), (10, .ptr 20101 0), (12, .ptr 20103 0), (13, .ptr 20104 0), (14, .imm 5 (l9.map TMessage.d) 12), (33, .imm 12 (v1.1.map TCommand.d) 12), (34, .int .i64 (v1.1.length : Int)), (35, .int .i64 (n3 : Int))], [(20000, .box [.ref 20102 5 0 l4.length (some uC)]), (20100, .box [.int .i64 0, .imm 0 [] 0, .imm 0 [] 0]), (20101, .box [.int .i64 n2, .imm 7 (l5.map TWait.d) 12, .imm 2 (l6.map TStamp.d) 12]), (20102, .arr 46 5 true (l4.map TMessage.n)), (20103, .box [.int .u8 (yq0.Kind), .int .i64 (yq0.Message.Id), .imm 1 ((yq0.Message.Groups).map (D.int .i64)) 12, .int .i64 (yq0.Message.Topic), .str (yq0.Message.Key), .str (yq0.Message.Body), .int .i64 (yq0.Id), .int .i64 (yq0.Time), .imm 1 ((yq0.Members).map (D.int .i64)) 12, .int .i64 (yq0.Topic), .int .i64 (yq0.Who), .int .i64 (yq0.N)]), (20104, .box [.int .i64 n4, .imm 7 (l7.map TWait.d) 12, .imm 2 (l8.map TStamp.d) 12])], 20105⟩
attribute [local go_sem] Tryz.St_order_play_Play_5
def Tryz.Re_order_play_Play (r : TSkeen × Int × (List TMessage)) : St := ⟨[(2, .fn (.func 21) [.ptr 20000 0]), (6, .ptr 20103 0), (7, .int .i64 r.2.1)], [(20000, .box [.ref 20102 5 0 r.2.2.length (some uC)]), (20100, .arr 78 7 true (r.1.Waits.map TWait.n)), (20101, .arr 72 2 true (r.1.Done.map TStamp.d)), (20102, .arr 46 5 true (r.2.2.map TMessage.n)), (20103, .box [.int .i64 r.1.Clock, .ref 20100 7 0 r.1.Waits.length (some uC), .ref 20101 2 0 r.1.Done.length (some uC)])], 20104⟩
attribute [local go_sem] Tryz.Re_order_play_Play
theorem zla (a0 : Int) (a1 : List (List UInt8)) (a2_0 : List TMessage) (r : TSkeen × Int × (List TMessage)) (h : zg5 a0 a1 a2_0 = some r) : CallH Tryz.prog 20 [.int .i64 a0, .imm 1 (a1.map D.str) 4, .fn (.func 21) [.ptr 20000 0]] [(20000, .box [.ref 20001 5 0 a2_0.length (some uC)]), (20001, .arr 46 5 true (a2_0.map TMessage.n))] (.tuple [.agg [.int .i64 r.1.Clock, .ref 20100 7 0 r.1.Waits.length (some uC), .ref 20101 2 0 r.1.Done.length (some uC)], .int .i64 r.2.1]) [(20000, some (.box [.ref 20102 5 0 r.2.2.length (some uC)])), (20001, none), (20100, some (.arr 78 7 true (r.1.Waits.map TWait.n))), (20101, some (.arr 72 2 true (r.1.Done.map TStamp.d))), (20102, some (.arr 46 5 true (r.2.2.map TMessage.n)))] (20100, 20117) := by
 refine za4 Tryz.tmOk Tryz.func20 rfl (by decide) (Nat.le_of_ble_eq_true rfl) (by simp) ?_
 intro hwf
 unfold zg5 at h
 refine .ends 20100 (Nat.le_refl _) ?_
 refine .seq ?_
 refine .pl zS [0, 1, 2] ?_
 refine .seq ?_
 refine .seq ?_
 refine .pl zS [0, 1, 2, 6] ?_
 refine .cond rfl rfl (fun hc1 => ?_) (fun hc1 => ?_)
 ·replace h := za0 h hc1
  refine .seq ?_
  refine .pl zS [2, 6] ?_
  have hq := Option.some.inj h
  subst r
  refine .ret ⟨Tryz.Re_order_play_Play ((⟨0, [], []⟩ : TSkeen), 2, a2_0), ?_, .inr rfl, retH [20000, 20102, 20101, 20100] ?_ ?_⟩
  ·refine Goes.new0 7 78 (Nat.le_of_ble_eq_true rfl) ?_
   refine Goes.new0 2 72 (Nat.le_of_ble_eq_true rfl) ?_
   refine Goes.boxs 20100 _ [.int .i64 0, .ref 20101 7 0 0 (some uC), .ref 20102 2 0 0 (some uC)] rfl (.keep (.cons (.own0 20101 _ _ _ (by decide)) (.cons (.own0 20102 _ _ _ (by decide)) (.refl _)))) ?_
   exact .m [2, 6, 7] [20000, 20101, 20102, 20001, 20100] [(20101, 20100), (20102, 20101), (20001, 20102), (20100, 20103)]
  ·exact rsi0
  ·rfl
 ·replace h := za1 h hc1
  refine .skip ?_
  refine .seq ?_
  obtain ⟨v1, hv1, h⟩ := bind_some h
  refine .rg zS [0, 1, 2, 6] ?_
  refine .rn 1 ?_
  refine .call (r := .tuple [.imm 12 (v1.1.map TCommand.d) 12, .int .i64 v1.2]) rfl rfl rfl rfl rfl rfl (zjc a1 v1 hv1) ?_
  refine .rn 5 ?_
  refine .nil ⟨nofun, ?_⟩
  refine .seq ?_
  refine .seq ?_
  refine .pl zS [0, 2, 6, 8, 9] ?_
  refine .cond rfl rfl (fun hc2 => ?_) (fun hc2 => ?_)
  ·replace h := za0 h hc2
   refine .seq ?_
   refine .pl zS [2, 6, 9] ?_
   have hq := Option.some.inj h
   subst r
   refine .ret ⟨Tryz.Re_order_play_Play ((⟨0, [], []⟩ : TSkeen), v1.2, a2_0), ?_, .inr rfl, retH [20000, 20102, 20101, 20100] ?_ ?_⟩
   ·refine Goes.new0 7 78 (Nat.le_of_ble_eq_true rfl) ?_
    refine Goes.new0 2 72 (Nat.le_of_ble_eq_true rfl) ?_
    refine Goes.boxs 20100 _ [.int .i64 0, .ref 20101 7 0 0 (some uC), .ref 20102 2 0 0 (some uC)] rfl (.keep (.cons (.own0 20101 _ _ _ (by decide)) (.cons (.own0 20102 _ _ _ (by decide)) (.refl _)))) ?_
    exact .m [2, 6, 7] [20000, 20101, 20102, 20001, 20100] [(20101, 20100), (20102, 20101), (20001, 20102), (20100, 20103)]
   ·exact rsi0
   ·rfl
  ·replace h := za1 h hc2
   refine .skip ?_
   refine .seq ?_
   obtain ⟨v2, hv2, h⟩ := bind_some h
   refine .rg zS [0, 2, 6, 8] ?_
   refine .call (r := .agg [.int .i64 v2.Clock, .imm 7 (v2.Waits.map TWait.d) 12, .imm 2 (v2.Done.map TStamp.d) 12]) rfl rfl rfl rfl rfl rfl (zl9  v2 hv2) ?_
   refine .rn 2 ?_
   refine .nil ⟨nofun, ?_⟩
   obtain ⟨x1, hx1, h⟩ := bind_some h
   refine .seqM 20102 (fun (j : (List TMessage) × Int × (List TWait) × (List TStamp)) => Tryz.St_order_play_Play_1 j.1 j.2.1 j.2.2.1 j.2.2.2) (fun j => x1 = j) (Nat.le_of_ble_eq_true rfl) ?_ ?_
   ·refine .seq ?_
    refine .pl zS [0, 2, 6, 8, 10] ?_
    refine .block ?_
    refine .loopG 20102 (fun (j : Nat × (List TMessage) × Int × (List TWait) × (List TStamp)) => Tryz.St_order_play_Play_3 a0 v1 j.1 j.2.1 j.2.2.1 j.2.2.2.1 j.2.2.2.2) (fun j => j.1 <= v1.1.length /\ zbl a0 (v1.1.drop j.1) j.2.1 j.2.2.1 j.2.2.2.1 j.2.2.2.2 = some x1) (fun j => v1.1.length - j.1) (0, a2_0, v2.Clock, v2.Waits, v2.Done) (Nat.le_of_ble_eq_true rfl) ?_ ⟨Nat.zero_le _, hx1⟩ ?_
    ·exact .m [0, 2, 6, 10, 33, 34, 35] [20000, 20100, 20101, 20001] [(20001, 20102)]
    rintro ⟨n3, l4, n2, l5, l6⟩ ⟨hi1, hx1⟩
    simp only [Tryz.St_order_play_Play_3]
    simp only at hi1 hx1
    refine .wf 34 (.int .i64 (v1.1.length : Int)) rfl ?_
    intro hln3
    replace hln3 : (v1.1.length : Int) <= 9223372036854775807 := by simp only [wf, wfL, IntKind.max, IntKind.min, IntKind.signed, IntKind.bits, List.length_map] at hln3; first | exact hln3.2 | exact hln3.1 | (simp at hln3; omega)
    refine .seq ?_
    refine .pl zS [0, 2, 6, 10, 33, 34, 35] ?_
    refine .seq ?_
    refine .cond rfl rfl (fun hc3 => ?_) (fun hc3 => ?_)
    ·have h1 : n3 < v1.1.length := by simpa using hc3
     have hwn3 : wr .i64 ((n3 : Int) + 1) = ((n3 + 1 : Nat) : Int) := zd5 h1 hln3
     have hpn3 : wr .i64 ((n3 : Int) - 1) = (n3 : Int) - 1 := zd6 h1 hln3
     rw [List.drop_eq_getElem_cons h1, zbl] at hx1
     refine .skip ?_
     refine .seq ?_
     refine .block ?_
     refine .seq ?_
     have e1 := zby TCommand.d v1.1 n3 h1
     refine .plx zS (And.intro e1 hwn3) [0, 2, 6, 10, 33, 34, 35] ?_
     refine .seq ?_
     obtain ⟨v3, hv3, hx1⟩ := bind_some hx1
     refine .rg zS [0, 2, 6, 10, 12, 33, 34, 35] ?_
     refine .rnx 3 hwn3 ?_
     refine .call (r := .tuple [.agg [.int .i64 v3.1.Clock, .imm 7 (v3.1.Waits.map TWait.d) 12, .imm 2 (v3.1.Done.map TStamp.d) 12], .imm 5 (v3.2.1.map TMessage.d) 12, .int .i64 v3.2.2]) rfl rfl rfl rfl rfl rfl (zkc (⟨n2, l5, l6⟩ : TSkeen) a0 (v1.1[n3]) v3 hv3) ?_
     refine .rnx 8 hwn3 ?_
     refine .nil ⟨nofun, ?_⟩
     obtain ⟨x2, hx2, hx1⟩ := bind_some hx1
     refine .seqM 20105 (fun (j : Int × (List TWait) × (List TStamp) × (List TMessage)) => Tryz.St_order_play_Play_5 a0 v1 n3 l4 n2 l5 l6 (v1.1[n3]) j.1 j.2.1 j.2.2.1 j.2.2.2) (fun j => x2 = j) (Nat.le_of_ble_eq_true rfl) ?_ ?_
     ·refine .seq ?_
      refine .plx zS hwn3 [0, 2, 6, 10, 12, 13, 14, 15, 33, 34, 35] ?_
      refine .cond rfl rfl (fun hc4 => ?_) (fun hc4 => ?_)
      ·replace hx2 := za0 hx2 hc4
       refine .plx zS hwn3 [0, 2, 6, 10, 12, 13, 33, 34, 35] ?_
       refine ⟨_, ?_, (Option.some.inj hx2).symm⟩
       refine Goes.wk 14 _ (.imm 5 [] 12) rfl (.nil12 _ _ 0 (by decide)) ?_
       exact .m [0, 2, 6, 10, 12, 13, 14, 33, 34, 35] [20000, 20100, 20101, 20102, 20103, 20104] []
      ·replace hx2 := za1 hx2 hc4
       refine .skip ?_
       refine ⟨_, ?_, (Option.some.inj hx2).symm⟩
       exact .m [0, 2, 6, 10, 12, 13, 14, 33, 34, 35] [20000, 20100, 20101, 20102, 20103, 20104] []
     ·rintro ⟨n4, l7, l8, l9⟩ hj1
      subst x2
      try dsimp only at hx1
      simp only [Tryz.St_order_play_Play_5]
      refine .seq ?_
      obtain ⟨v4, hv4, hx1⟩ := bind_some hx1
      refine .rg zS [0, 2, 6, 10, 12, 13, 14, 33, 34, 35] ?_
      refine .rnx 6 hwn3 ?_
      refine .hcall (H := [(20000, .box [.ref 20102 5 0 l4.length (some uC)]), (20102, .arr 46 5 true (l4.map TMessage.n))]) (eff := [(20000, some (.box [.ref 20105 5 0 v4.length (some uC)])), (20102, none), (20105, some (.arr 46 5 true (v4.map TMessage.n)))]) (nw := (20105, 20109)) (r := .tuple []) rfl rfl rfl rfl rfl (zbm 20001 20102 (zbm 20000 20000 (zcd 20105 (zn1 (⟨v1.1[n3], (⟨n2, l5, l6⟩ : TSkeen), (⟨n4, l7, l8⟩ : TSkeen), l9⟩ : Torder_step) l4 v4 hv4)))) (fun id b h => zae [20000, 20102] _ id b h) (by simp) (.inr ⟨Nat.le_of_ble_eq_true rfl, Nat.le_of_ble_eq_true rfl⟩) ?_
      refine .nil ⟨nofun, ?_⟩
      refine .plx zS hwn3 [0, 2, 6, 10, 13, 33, 34, 35] ?_
      refine .plx zS hwn3 [0, 2, 6, 10, 33, 34, 35] ?_
      refine ⟨(n3 + 1, _, _, _, _), ?_, ⟨by omega, hx1⟩, by dsimp only; omega⟩
      exact .m [0, 2, 6, 10, 33, 34, 35] [20000, 20100, 20101, 20105] [(20105, 20102)]
    ·have h2 : n3 = v1.1.length := by have h2b := of_decide_eq_false hc3; omega
     rw [List.drop_of_length_le (by omega), zbl] at hx1
     refine .exit ?_
     refine ⟨_, ?_, (Option.some.inj hx1).symm⟩
     exact .m [2, 6, 10] [20000, 20100, 20101, 20102] []
   ·rintro ⟨l1, n1, l2, l3⟩ hj2
    subst x1
    try dsimp only at h
    simp only [Tryz.St_order_play_Play_1]
    refine .seq ?_
    obtain ⟨v5, hv5, h⟩ := bind_some h
    refine .rg zS [2, 6, 10] ?_
    refine .rn 1 ?_
    refine .ncall (r := .agg [.int .i64 v5.Clock, .ref 20103 7 0 v5.Waits.length (some uC), .ref 20104 2 0 v5.Done.length (some uC)]) (eff := [(20103, some (.arr 78 7 true (v5.Waits.map TWait.n))), (20104, some (.arr 72 2 true (v5.Done.map TStamp.d)))]) (nw := (20103, 20115)) [] rfl rfl rfl rfl rfl (za6 rfl zas) rfl (zdi 20103 (Nat.le_of_ble_eq_true rfl) (zi0 (⟨n1, l2, l3⟩ : TSkeen) v5 hv5)) (zdo rfl rfl (zjx ze7 _ _ _) (zdo rfl rfl (zgm zfp _ _ _) zh0)) (by intro i hi; simp [D.ids, D.idsL] at hi <;> omega) rfl ⟨Nat.le_of_ble_eq_true rfl, Nat.le_of_ble_eq_true rfl⟩ ?_
    refine .rn 2 ?_
    refine .nil ⟨nofun, ?_⟩
    have hq := Option.some.inj h
    subst r
    refine .ret ⟨Tryz.Re_order_play_Play (v5, 0, l1), ?_, .inr rfl, retH [20000, 20102, 20101, 20100] ?_ ?_⟩
    ·exact .m [2, 6, 7] [20000, 20103, 20104, 20102, 20100] [(20103, 20100), (20104, 20101), (20100, 20103)]
    ·exact rsi0
    ·rfl
def Tryz.Re_order_Play (r : TSkeen × (List TMessage) × Int) : St := ⟨[(4, .ptr 3 0), (5, .ptr 4 0), (6, .int .i64 r.2.2)], [(0, .arr 78 7 true (r.1.Waits.map TWait.n)), (1, .arr 72 2 true (r.1.Done.map TStamp.d)), (2, .arr 46 5 true (r.2.1.map TMessage.n)), (3, .box [.int .i64 r.1.Clock, .ref 0 7 0 r.1.Waits.length (some uC), .ref 1 2 0 r.1.Done.length (some uC)]), (4, .box [.ref 2 5 0 r.2.1.length (some uC)])], 5⟩
attribute [local go_sem] Tryz.Re_order_Play
theorem callH_order_Play (a0 : Int) (a1 : List (List UInt8)) (r : TSkeen × (List TMessage) × Int) (h : zf9 a0 a1 = some r) : CallH Tryz.prog 6 [.int .i64 a0, .imm 1 (a1.map D.str) 4] [] (.tuple [.agg [.int .i64 r.1.Clock, .ref 0 7 0 r.1.Waits.length (some uC), .ref 1 2 0 r.1.Done.length (some uC)], .ref 2 5 0 r.2.1.length (some uC), .int .i64 r.2.2]) [(0, some (.arr 78 7 true (r.1.Waits.map TWait.n))), (1, some (.arr 72 2 true (r.1.Done.map TStamp.d))), (2, some (.arr 46 5 true (r.2.1.map TMessage.n)))] (0, 22) := by
 refine za4 Tryz.tmOk Tryz.func6 rfl (by decide) (Nat.le_of_ble_eq_true rfl) (by simp) ?_
 intro hwf
 unfold zf9 at h
 refine .ends 0 (Nat.le_refl _) ?_
 refine .seq ?_
 refine .pl zS [0, 1] ?_
 refine .goes (.new0 5 46 (Nat.le_of_ble_eq_true rfl) .refl) ?_
 refine .goes (.boxs 1 _ [.ref 2 5 0 0 (some uC)] rfl (.cons (.own0 2 _ _ _ (by decide)) (.refl _)) .refl) ?_
 refine .seq ?_
 obtain ⟨v1, hv1, h⟩ := bind_some h
 refine .rg zS [0, 1, 4, 5] ?_
 refine .rn 3 ?_
 refine .hcall (H := [(1, .box [.ref 2 5 0 0 (some uC)]), (2, .arr 46 5 true [])]) (eff := [(1, some (.box [.ref 5 5 0 v1.2.2.length (some uC)])), (2, none), (3, some (.arr 78 7 true (v1.1.Waits.map TWait.n))), (4, some (.arr 72 2 true (v1.1.Done.map TStamp.d))), (5, some (.arr 46 5 true (v1.2.2.map TMessage.n)))]) (nw := (3, 20)) (r := .tuple [.agg [.int .i64 v1.1.Clock, .ref 3 7 0 v1.1.Waits.length (some uC), .ref 4 2 0 v1.1.Done.length (some uC)], .int .i64 v1.2.1]) rfl rfl rfl rfl rfl (ziv 3 (zbm 20001 2 (zbm 20000 1 (zla a0 a1 [] v1 hv1)))) (fun id b h => zae [1, 2] _ id b h) (by simp) (.inr ⟨Nat.le_of_ble_eq_true rfl, Nat.le_of_ble_eq_true rfl⟩) ?_
 refine .rn 5 ?_
 refine .nil ⟨nofun, ?_⟩
 refine .seq ?_
 refine .dr zS [4, 5, 6] ?_
 have hq := Option.some.inj h
 subst r
 refine .ret ⟨Tryz.Re_order_Play (v1.1, v1.2.2, v1.2.1), ?_, .inr rfl, retH [2, 1, 0] ?_ ?_⟩
 ·exact .m [4, 5, 6] [3, 4, 5, 0, 1] [(3, 0), (4, 1), (5, 2), (0, 3), (1, 4)]
 ·exact rsi0
 ·rfl
def Tryz.Re_order_times_1 (r : (List Torder_given)) : St := ⟨[(1, .ptr 20000 0)], [(20000, .box [.ref 20100 6 0 r.length (some uC)]), (20100, .arr 70 6 true (r.map Torder_given.n))], 20101⟩
attribute [local go_sem] Tryz.Re_order_times_1
theorem zma (a0 : Torder_step) (c0 : List Torder_given) (r : (List Torder_given)) (h : zfz a0 c0 = some r) : CallH Tryz.prog 48 [.agg [.int .u8 a0.fC.Kind, .int .i64 a0.fC.Message.Id, .imm 1 (a0.fC.Message.Groups.map (D.int .i64)) 12, .int .i64 a0.fC.Message.Topic, .str a0.fC.Message.Key, .str a0.fC.Message.Body, .int .i64 a0.fC.Id, .int .i64 a0.fC.Time, .imm 1 (a0.fC.Members.map (D.int .i64)) 12, .int .i64 a0.fC.Topic, .int .i64 a0.fC.Who, .int .i64 a0.fC.N, .int .i64 a0.fBefore.Clock, .imm 7 (a0.fBefore.Waits.map TWait.d) 12, .imm 2 (a0.fBefore.Done.map TStamp.d) 12, .int .i64 a0.fAfter.Clock, .imm 7 (a0.fAfter.Waits.map TWait.d) 12, .imm 2 (a0.fAfter.Done.map TStamp.d) 12, .imm 5 (a0.fOut.map TMessage.d) 12], .ptr 20000 0] [(20000, .box [.ref 20001 6 0 c0.length (some uC)]), (20001, .arr 70 6 true (c0.map Torder_given.n))] (.tuple []) [(20000, some (.box [.ref 20100 6 0 r.length (some uC)])), (20001, none), (20100, some (.arr 70 6 true (r.map Torder_given.n)))] (20100, 20105) := by
 refine za4 Tryz.tmOk Tryz.func48 rfl (by decide) (Nat.le_of_ble_eq_true rfl) (by simp) ?_
 intro hwf
 unfold zfz at h
 refine .ends 20100 (Nat.le_refl _) ?_
 refine .seq ?_
 refine .pl zS [0, 1] ?_
 refine .seq ?_
 refine .rg zS [1, 2] ?_
 refine .rn 6 ?_
 refine .rn 3 ?_
 refine .nil ⟨nofun, ?_⟩
 refine .cond rfl rfl (fun hc1 => ?_) (fun hc1 => ?_)
 ·replace h := za0 h hc1
  obtain ⟨k1, h⟩ := zai h
  refine .rg zS [1, 2] ?_
  refine .rn 6 ?_
  refine .rn 5 ?_
  refine .nil ⟨nofun, ?_⟩
  have hq := Option.some.inj h
  subst r
  refine ⟨Tryz.Re_order_times_1 (c0 ++ [(⟨a0.fAfter.Clock, a0.fC.Message⟩ : Torder_given)]), ?_, .inl rfl, retH [20000, 20100] ?_ ?_⟩
  ·exact .m [1] [20000, 20102] [(20102, 20100)]
  ·exact rsi0
  ·rfl
 ·replace h := za1 h hc1
  refine .skip ?_
  have hq := Option.some.inj h
  subst r
  refine ⟨Tryz.Re_order_times_1 c0, ?_, .inl rfl, retH [20000, 20100] ?_ ?_⟩
  ·exact .m [1] [20000, 20001] [(20001, 20100)]
  ·exact rsi0
  ·rfl
def Tryz.St_order_play_times_1 (l1 : List Torder_given) (n1 : Int) (l2 : List TWait) (l3 : List TStamp) : St := ⟨[(2, .fn (.func 48) [.ptr 20000 0]), (6, .ptr 20100 0), (10, .ptr 20101 0)], [(20000, .box [.ref 20102 6 0 l1.length (some uC)]), (20100, .box [.int .i64 0, .imm 0 [] 0, .imm 0 [] 0]), (20101, .box [.int .i64 n1, .imm 7 (l2.map TWait.d) 12, .imm 2 (l3.map TStamp.d) 12]), (20102, .arr 70 6 true (l1.map Torder_given.n))], 20103⟩
attribute [local go_sem] Tryz.St_order_play_times_1
def Tryz.St_order_play_times_3 (a0 : Int) (v1 : (List TCommand) × Int) (n3 : Nat) (l4 : List Torder_given) (n2 : Int) (l5 : List TWait) (l6 : List TStamp) : St := ⟨[(0, .int .i64 a0), (2, .fn (.func 48) [.ptr 20000 0]), (6, .ptr 20100 0), (10, .ptr 20101 0), (33, .imm 12 (v1.1.map TCommand.d) 12), (34, .int .i64 (v1.1.length : Int)), (35, .int .i64 (n3 : Int))], [(20000, .box [.ref 20102 6 0 l4.length (some uC)]), (20100, .box [.int .i64 0, .imm 0 [] 0, .imm 0 [] 0]), (20101, .box [.int .i64 n2, .imm 7 (l5.map TWait.d) 12, .imm 2 (l6.map TStamp.d) 12]), (20102, .arr 70 6 true (l4.map Torder_given.n))], 20103⟩
attribute [local go_sem] Tryz.St_order_play_times_3
def Tryz.St_order_play_times_5 (a0 : Int) (v1 : (List TCommand) × Int) (n3 : Nat) (l4 : List Torder_given) (n2 : Int) (l5 : List TWait) (l6 : List TStamp) (yq0 : TCommand) (n4 : Int) (l7 : List TWait) (l8 : List TStamp) (l9 : List TMessage) : St := ⟨[(0, .int .i64 a0), (2, .fn (.func 48) [.ptr 20000 0]), (6, .ptr 20100 0), (10, .ptr 20101 0), (12, .ptr 20103 0), (13, .ptr 20104 0), (14, .imm 5 (l9.map TMessage.d) 12), (33, .imm 12 (v1.1.map TCommand.d) 12), (34, .int .i64 (v1.1.length : Int)), (35, .int .i64 (n3 : Int))], [(20000, .box [.ref 20102 6 0 l4.length (some uC)]), (20100, .box [.int .i64 0, .imm 0 [] 0, .imm 0 [] 0]), (20101, .box [.int .i64 n2, .imm 7 (l5.map TWait.d) 12, .imm 2 (l6.map TStamp.d) 12]), (20102, .arr 70 6 true (l4.map Torder_given.n)), (20103, .box [.int .u8 (yq0.Kind), .int .i64 (yq0.Message.Id), .imm 1 ((yq0.Message.Groups).map (D.int .i64)) 12, .int .i64 (yq0.Message.Topic), .str (yq0.Message.Key), .str (yq0.Message.Body), .int .i64 (yq0.Id), .int .i64 (yq0.Time), .imm 1 ((yq0.Members).map (D.int .i64)) 12, .int .i64 (yq0.Topic), .int .i64 (yq0.Who), .int .i64 (yq0.N)]), (20104, .box [.int .i64 n4, .imm 7 (l7.map TWait.d) 12, .imm 2 (l8.map TStamp.d) 12])], 20105⟩
attribute [local go_sem] Tryz.St_order_play_times_5
def Tryz.Re_order_play_times (r : TSkeen × Int × (List Torder_given)) : St := ⟨[(2, .fn (.func 48) [.ptr 20000 0]), (6, .ptr 20103 0), (7, .int .i64 r.2.1)], [(20000, .box [.ref 20102 6 0 r.2.2.length (some uC)]), (20100, .arr 78 7 true (r.1.Waits.map TWait.n)), (20101, .arr 72 2 true (r.1.Done.map TStamp.d)), (20102, .arr 70 6 true (r.2.2.map Torder_given.n)), (20103, .box [.int .i64 r.1.Clock, .ref 20100 7 0 r.1.Waits.length (some uC), .ref 20101 2 0 r.1.Done.length (some uC)])], 20104⟩
attribute [local go_sem] Tryz.Re_order_play_times
theorem zkw (a0 : Int) (a1 : List (List UInt8)) (a2_0 : List Torder_given) (r : TSkeen × Int × (List Torder_given)) (h : zfv a0 a1 a2_0 = some r) : CallH Tryz.prog 20 [.int .i64 a0, .imm 1 (a1.map D.str) 4, .fn (.func 48) [.ptr 20000 0]] [(20000, .box [.ref 20001 6 0 a2_0.length (some uC)]), (20001, .arr 70 6 true (a2_0.map Torder_given.n))] (.tuple [.agg [.int .i64 r.1.Clock, .ref 20100 7 0 r.1.Waits.length (some uC), .ref 20101 2 0 r.1.Done.length (some uC)], .int .i64 r.2.1]) [(20000, some (.box [.ref 20102 6 0 r.2.2.length (some uC)])), (20001, none), (20100, some (.arr 78 7 true (r.1.Waits.map TWait.n))), (20101, some (.arr 72 2 true (r.1.Done.map TStamp.d))), (20102, some (.arr 70 6 true (r.2.2.map Torder_given.n)))] (20100, 20117) := by
 refine za4 Tryz.tmOk Tryz.func20 rfl (by decide) (Nat.le_of_ble_eq_true rfl) (by simp) ?_
 intro hwf
 unfold zfv at h
 refine .ends 20100 (Nat.le_refl _) ?_
 refine .seq ?_
 refine .pl zS [0, 1, 2] ?_
 refine .seq ?_
 refine .seq ?_
 refine .pl zS [0, 1, 2, 6] ?_
 refine .cond rfl rfl (fun hc1 => ?_) (fun hc1 => ?_)
 ·replace h := za0 h hc1
  refine .seq ?_
  refine .pl zS [2, 6] ?_
  have hq := Option.some.inj h
  subst r
  refine .ret ⟨Tryz.Re_order_play_times ((⟨0, [], []⟩ : TSkeen), 2, a2_0), ?_, .inr rfl, retH [20000, 20102, 20101, 20100] ?_ ?_⟩
  ·refine Goes.new0 7 78 (Nat.le_of_ble_eq_true rfl) ?_
   refine Goes.new0 2 72 (Nat.le_of_ble_eq_true rfl) ?_
   refine Goes.boxs 20100 _ [.int .i64 0, .ref 20101 7 0 0 (some uC), .ref 20102 2 0 0 (some uC)] rfl (.keep (.cons (.own0 20101 _ _ _ (by decide)) (.cons (.own0 20102 _ _ _ (by decide)) (.refl _)))) ?_
   exact .m [2, 6, 7] [20000, 20101, 20102, 20001, 20100] [(20101, 20100), (20102, 20101), (20001, 20102), (20100, 20103)]
  ·exact rsi0
  ·rfl
 ·replace h := za1 h hc1
  refine .skip ?_
  refine .seq ?_
  obtain ⟨v1, hv1, h⟩ := bind_some h
  refine .rg zS [0, 1, 2, 6] ?_
  refine .rn 1 ?_
  refine .call (r := .tuple [.imm 12 (v1.1.map TCommand.d) 12, .int .i64 v1.2]) rfl rfl rfl rfl rfl rfl (zjc a1 v1 hv1) ?_
  refine .rn 5 ?_
  refine .nil ⟨nofun, ?_⟩
  refine .seq ?_
  refine .seq ?_
  refine .pl zS [0, 2, 6, 8, 9] ?_
  refine .cond rfl rfl (fun hc2 => ?_) (fun hc2 => ?_)
  ·replace h := za0 h hc2
   refine .seq ?_
   refine .pl zS [2, 6, 9] ?_
   have hq := Option.some.inj h
   subst r
   refine .ret ⟨Tryz.Re_order_play_times ((⟨0, [], []⟩ : TSkeen), v1.2, a2_0), ?_, .inr rfl, retH [20000, 20102, 20101, 20100] ?_ ?_⟩
   ·refine Goes.new0 7 78 (Nat.le_of_ble_eq_true rfl) ?_
    refine Goes.new0 2 72 (Nat.le_of_ble_eq_true rfl) ?_
    refine Goes.boxs 20100 _ [.int .i64 0, .ref 20101 7 0 0 (some uC), .ref 20102 2 0 0 (some uC)] rfl (.keep (.cons (.own0 20101 _ _ _ (by decide)) (.cons (.own0 20102 _ _ _ (by decide)) (.refl _)))) ?_
    exact .m [2, 6, 7] [20000, 20101, 20102, 20001, 20100] [(20101, 20100), (20102, 20101), (20001, 20102), (20100, 20103)]
   ·exact rsi0
   ·rfl
  ·replace h := za1 h hc2
   refine .skip ?_
   refine .seq ?_
   obtain ⟨v2, hv2, h⟩ := bind_some h
   refine .rg zS [0, 2, 6, 8] ?_
   refine .call (r := .agg [.int .i64 v2.Clock, .imm 7 (v2.Waits.map TWait.d) 12, .imm 2 (v2.Done.map TStamp.d) 12]) rfl rfl rfl rfl rfl rfl (zl9  v2 hv2) ?_
   refine .rn 2 ?_
   refine .nil ⟨nofun, ?_⟩
   obtain ⟨x1, hx1, h⟩ := bind_some h
   refine .seqM 20102 (fun (j : (List Torder_given) × Int × (List TWait) × (List TStamp)) => Tryz.St_order_play_times_1 j.1 j.2.1 j.2.2.1 j.2.2.2) (fun j => x1 = j) (Nat.le_of_ble_eq_true rfl) ?_ ?_
   ·refine .seq ?_
    refine .pl zS [0, 2, 6, 8, 10] ?_
    refine .block ?_
    refine .loopG 20102 (fun (j : Nat × (List Torder_given) × Int × (List TWait) × (List TStamp)) => Tryz.St_order_play_times_3 a0 v1 j.1 j.2.1 j.2.2.1 j.2.2.2.1 j.2.2.2.2) (fun j => j.1 <= v1.1.length /\ zba a0 (v1.1.drop j.1) j.2.1 j.2.2.1 j.2.2.2.1 j.2.2.2.2 = some x1) (fun j => v1.1.length - j.1) (0, a2_0, v2.Clock, v2.Waits, v2.Done) (Nat.le_of_ble_eq_true rfl) ?_ ⟨Nat.zero_le _, hx1⟩ ?_
    ·exact .m [0, 2, 6, 10, 33, 34, 35] [20000, 20100, 20101, 20001] [(20001, 20102)]
    rintro ⟨n3, l4, n2, l5, l6⟩ ⟨hi1, hx1⟩
    simp only [Tryz.St_order_play_times_3]
    simp only at hi1 hx1
    refine .wf 34 (.int .i64 (v1.1.length : Int)) rfl ?_
    intro hln3
    replace hln3 : (v1.1.length : Int) <= 9223372036854775807 := by simp only [wf, wfL, IntKind.max, IntKind.min, IntKind.signed, IntKind.bits, List.length_map] at hln3; first | exact hln3.2 | exact hln3.1 | (simp at hln3; omega)
    refine .seq ?_
    refine .pl zS [0, 2, 6, 10, 33, 34, 35] ?_
    refine .seq ?_
    refine .cond rfl rfl (fun hc3 => ?_) (fun hc3 => ?_)
    ·have h1 : n3 < v1.1.length := by simpa using hc3
     have hwn3 : wr .i64 ((n3 : Int) + 1) = ((n3 + 1 : Nat) : Int) := zd5 h1 hln3
     have hpn3 : wr .i64 ((n3 : Int) - 1) = (n3 : Int) - 1 := zd6 h1 hln3
     rw [List.drop_eq_getElem_cons h1, zba] at hx1
     refine .skip ?_
     refine .seq ?_
     refine .block ?_
     refine .seq ?_
     have e1 := zby TCommand.d v1.1 n3 h1
     refine .plx zS (And.intro e1 hwn3) [0, 2, 6, 10, 33, 34, 35] ?_
     refine .seq ?_
     obtain ⟨v3, hv3, hx1⟩ := bind_some hx1
     refine .rg zS [0, 2, 6, 10, 12, 33, 34, 35] ?_
     refine .rnx 3 hwn3 ?_
     refine .call (r := .tuple [.agg [.int .i64 v3.1.Clock, .imm 7 (v3.1.Waits.map TWait.d) 12, .imm 2 (v3.1.Done.map TStamp.d) 12], .imm 5 (v3.2.1.map TMessage.d) 12, .int .i64 v3.2.2]) rfl rfl rfl rfl rfl rfl (zkc (⟨n2, l5, l6⟩ : TSkeen) a0 (v1.1[n3]) v3 hv3) ?_
     refine .rnx 8 hwn3 ?_
     refine .nil ⟨nofun, ?_⟩
     obtain ⟨x2, hx2, hx1⟩ := bind_some hx1
     refine .seqM 20105 (fun (j : Int × (List TWait) × (List TStamp) × (List TMessage)) => Tryz.St_order_play_times_5 a0 v1 n3 l4 n2 l5 l6 (v1.1[n3]) j.1 j.2.1 j.2.2.1 j.2.2.2) (fun j => x2 = j) (Nat.le_of_ble_eq_true rfl) ?_ ?_
     ·refine .seq ?_
      refine .plx zS hwn3 [0, 2, 6, 10, 12, 13, 14, 15, 33, 34, 35] ?_
      refine .cond rfl rfl (fun hc4 => ?_) (fun hc4 => ?_)
      ·replace hx2 := za0 hx2 hc4
       refine .plx zS hwn3 [0, 2, 6, 10, 12, 13, 33, 34, 35] ?_
       refine ⟨_, ?_, (Option.some.inj hx2).symm⟩
       refine Goes.wk 14 _ (.imm 5 [] 12) rfl (.nil12 _ _ 0 (by decide)) ?_
       exact .m [0, 2, 6, 10, 12, 13, 14, 33, 34, 35] [20000, 20100, 20101, 20102, 20103, 20104] []
      ·replace hx2 := za1 hx2 hc4
       refine .skip ?_
       refine ⟨_, ?_, (Option.some.inj hx2).symm⟩
       exact .m [0, 2, 6, 10, 12, 13, 14, 33, 34, 35] [20000, 20100, 20101, 20102, 20103, 20104] []
     ·rintro ⟨n4, l7, l8, l9⟩ hj1
      subst x2
      try dsimp only at hx1
      simp only [Tryz.St_order_play_times_5]
      refine .seq ?_
      obtain ⟨v4, hv4, hx1⟩ := bind_some hx1
      refine .rg zS [0, 2, 6, 10, 12, 13, 14, 33, 34, 35] ?_
      refine .rnx 6 hwn3 ?_
      refine .hcall (H := [(20000, .box [.ref 20102 6 0 l4.length (some uC)]), (20102, .arr 70 6 true (l4.map Torder_given.n))]) (eff := [(20000, some (.box [.ref 20105 6 0 v4.length (some uC)])), (20102, none), (20105, some (.arr 70 6 true (v4.map Torder_given.n)))]) (nw := (20105, 20110)) (r := .tuple []) rfl rfl rfl rfl rfl (zbm 20001 20102 (zbm 20000 20000 (zcd 20105 (zma (⟨v1.1[n3], (⟨n2, l5, l6⟩ : TSkeen), (⟨n4, l7, l8⟩ : TSkeen), l9⟩ : Torder_step) l4 v4 hv4)))) (fun id b h => zae [20000, 20102] _ id b h) (by simp) (.inr ⟨Nat.le_of_ble_eq_true rfl, Nat.le_of_ble_eq_true rfl⟩) ?_
      refine .nil ⟨nofun, ?_⟩
      refine .plx zS hwn3 [0, 2, 6, 10, 13, 33, 34, 35] ?_
      refine .plx zS hwn3 [0, 2, 6, 10, 33, 34, 35] ?_
      refine ⟨(n3 + 1, _, _, _, _), ?_, ⟨by omega, hx1⟩, by dsimp only; omega⟩
      exact .m [0, 2, 6, 10, 33, 34, 35] [20000, 20100, 20101, 20105] [(20105, 20102)]
    ·have h2 : n3 = v1.1.length := by have h2b := of_decide_eq_false hc3; omega
     rw [List.drop_of_length_le (by omega), zba] at hx1
     refine .exit ?_
     refine ⟨_, ?_, (Option.some.inj hx1).symm⟩
     exact .m [2, 6, 10] [20000, 20100, 20101, 20102] []
   ·rintro ⟨l1, n1, l2, l3⟩ hj2
    subst x1
    try dsimp only at h
    simp only [Tryz.St_order_play_times_1]
    refine .seq ?_
    obtain ⟨v5, hv5, h⟩ := bind_some h
    refine .rg zS [2, 6, 10] ?_
    refine .rn 1 ?_
    refine .ncall (r := .agg [.int .i64 v5.Clock, .ref 20103 7 0 v5.Waits.length (some uC), .ref 20104 2 0 v5.Done.length (some uC)]) (eff := [(20103, some (.arr 78 7 true (v5.Waits.map TWait.n))), (20104, some (.arr 72 2 true (v5.Done.map TStamp.d)))]) (nw := (20103, 20115)) [] rfl rfl rfl rfl rfl (za6 rfl zas) rfl (zdi 20103 (Nat.le_of_ble_eq_true rfl) (zi0 (⟨n1, l2, l3⟩ : TSkeen) v5 hv5)) (zdo rfl rfl (zjx ze7 _ _ _) (zdo rfl rfl (zgm zfp _ _ _) zh0)) (by intro i hi; simp [D.ids, D.idsL] at hi <;> omega) rfl ⟨Nat.le_of_ble_eq_true rfl, Nat.le_of_ble_eq_true rfl⟩ ?_
    refine .rn 2 ?_
    refine .nil ⟨nofun, ?_⟩
    have hq := Option.some.inj h
    subst r
    refine .ret ⟨Tryz.Re_order_play_times (v5, 0, l1), ?_, .inr rfl, retH [20000, 20102, 20101, 20100] ?_ ?_⟩
    ·exact .m [2, 6, 7] [20000, 20103, 20104, 20102, 20100] [(20103, 20100), (20104, 20101), (20100, 20103)]
    ·exact rsi0
    ·rfl
def Tryz.Re_order_times (r : (List Torder_given) × Int) : St := ⟨[(4, .ptr 1 0), (5, .int .i64 r.2)], [(0, .arr 70 6 true (r.1.map Torder_given.n)), (1, .box [.ref 0 6 0 r.1.length (some uC)])], 2⟩
attribute [local go_sem] Tryz.Re_order_times
theorem znn (a0 : Int) (a1 : List (List UInt8)) (r : (List Torder_given) × Int) (h : zh2 a0 a1 = some r) : CallH Tryz.prog 24 [.int .i64 a0, .imm 1 (a1.map D.str) 4] [] (.tuple [.ref 0 6 0 r.1.length (some uC), .int .i64 r.2]) [(0, some (.arr 70 6 true (r.1.map Torder_given.n)))] (0, 21) := by
 refine za4 Tryz.tmOk Tryz.func24 rfl (by decide) (Nat.le_of_ble_eq_true rfl) (by simp) ?_
 intro hwf
 unfold zh2 at h
 refine .ends 0 (Nat.le_refl _) ?_
 refine .seq ?_
 refine .pl zS [0, 1] ?_
 refine .goes (.new0 6 70 (Nat.le_of_ble_eq_true rfl) .refl) ?_
 refine .goes (.boxs 0 _ [.ref 1 6 0 0 (some uC)] rfl (.cons (.own0 1 _ _ _ (by decide)) (.refl _)) .refl) ?_
 refine .seq ?_
 obtain ⟨v1, hv1, h⟩ := bind_some h
 refine .rg zS [0, 1, 4] ?_
 refine .rn 3 ?_
 refine .hcall (H := [(0, .box [.ref 1 6 0 0 (some uC)]), (1, .arr 70 6 true [])]) (eff := [(0, some (.box [.ref 4 6 0 v1.2.2.length (some uC)])), (1, none), (2, some (.arr 78 7 true (v1.1.Waits.map TWait.n))), (3, some (.arr 72 2 true (v1.1.Done.map TStamp.d))), (4, some (.arr 70 6 true (v1.2.2.map Torder_given.n)))]) (nw := (2, 19)) (r := .tuple [.agg [.int .i64 v1.1.Clock, .ref 2 7 0 v1.1.Waits.length (some uC), .ref 3 2 0 v1.1.Done.length (some uC)], .int .i64 v1.2.1]) rfl rfl rfl rfl rfl (ziv 2 (zbm 20001 1 (zbm 20000 0 (zkw a0 a1 [] v1 hv1)))) (fun id b h => zae [0, 1] _ id b h) (by simp) (.inr ⟨Nat.le_of_ble_eq_true rfl, Nat.le_of_ble_eq_true rfl⟩) ?_
 refine .rn 4 ?_
 refine .nil ⟨nofun, ?_⟩
 refine .seq ?_
 refine .pl zS [4, 5] ?_
 have hq := Option.some.inj h
 subst r
 refine .ret ⟨Tryz.Re_order_times (v1.2.2, v1.2.1), ?_, .inr rfl, retH [0] ?_ ?_⟩
 ·exact .m [4, 5] [4, 0] [(4, 0), (0, 1)]
 ·exact rsi0
 ·rfl
theorem znk (a0 : Int) (a1 : List (List UInt8)) (r : (List Torder_given) × Int) (h : zh2 a0 a1 = some r) : CallP Tryz.prog 24 [.int .i64 a0, .imm 1 (a1.map D.str) 4] (.tuple [.imm 6 (r.1.map Torder_given.d) 12, .int .i64 r.2]) :=
 zf1 (zm5 (za8 (zhi pln_Torder_given rfl rfl) (za8 rfl zfe))) (znn a0 a1 r h)
def Tryz.St_order_Local_1 (v1 : (List Torder_given) × Int) (l1 : List TStamp) : St := ⟨[(4, .ref 0 2 0 l1.length (some uC)), (5, .int .i64 v1.2)], [(0, .arr 72 2 true (l1.map TStamp.d))], 1⟩
attribute [local go_sem] Tryz.St_order_Local_1
def Tryz.St_order_Local_3 (v1 : (List Torder_given) × Int) (n1 : Nat) (l2 : List TStamp) : St := ⟨[(4, .ref 0 2 0 l2.length (some uC)), (5, .int .i64 v1.2), (15, .imm 6 (v1.1.map Torder_given.d) 12), (16, .int .i64 (v1.1.length : Int)), (17, .int .i64 (n1 : Int))], [(0, .arr 72 2 true (l2.map TStamp.d))], 1⟩
attribute [local go_sem] Tryz.St_order_Local_3
def Tryz.Re_order_Local (r : (List TStamp) × Int) : St := ⟨[(4, .ref 0 2 0 r.1.length (some uC)), (5, .int .i64 r.2)], [(0, .arr 72 2 true (r.1.map TStamp.d))], 1⟩
attribute [local go_sem] Tryz.Re_order_Local
theorem zno (a0 : Int) (a1 : List (List UInt8)) (r : (List TStamp) × Int) (h : zer a0 a1 = some r) : CallH Tryz.prog 8 [.int .i64 a0, .imm 1 (a1.map D.str) 4] [] (.tuple [.ref 0 2 0 r.1.length (some uC), .int .i64 r.2]) [(0, some (.arr 72 2 true (r.1.map TStamp.d)))] (0, 6) := by
 refine za4 Tryz.tmOk Tryz.func8 rfl (by decide) (Nat.le_of_ble_eq_true rfl) (by simp) ?_
 intro hwf
 unfold zer at h
 refine .ends 0 (Nat.le_refl _) ?_
 refine .seq ?_
 refine .pl zS [0, 1] ?_
 refine .seq ?_
 obtain ⟨v1, hv1, h⟩ := bind_some h
 refine .rg zS [0, 1, 4] ?_
 refine .rn 2 ?_
 refine .call (r := .tuple [.imm 6 (v1.1.map Torder_given.d) 12, .int .i64 v1.2]) rfl rfl rfl rfl rfl rfl (znk a0 a1 v1 hv1) ?_
 refine .rn 5 ?_
 refine .nil ⟨nofun, ?_⟩
 obtain ⟨x1, hx1, h⟩ := bind_some h
 refine .seqM 0 (fun (j : (List TStamp)) => Tryz.St_order_Local_1 v1 j) (fun j => x1 = j) (Nat.le_of_ble_eq_true rfl) ?_ ?_
 ·refine .seq ?_
  refine .pl zS [4, 5, 6] ?_
  refine .block ?_
  refine .loopG 0 (fun (j : Nat × (List TStamp)) => Tryz.St_order_Local_3 v1 j.1 j.2) (fun j => j.1 <= v1.1.length /\ zd8 (v1.1.drop j.1) j.2 = some x1) (fun j => v1.1.length - j.1) (0, []) (Nat.le_of_ble_eq_true rfl) ?_ ⟨Nat.zero_le _, hx1⟩ ?_
  ·refine Goes.new0 2 72 (Nat.le_of_ble_eq_true rfl) ?_
   refine Goes.wk 4 _ (.ref 0 2 0 0 (some uC)) rfl (.own0 0 _ _ _ (by decide)) ?_
   exact .m [4, 5, 15, 16, 17] [0] []
  rintro ⟨n1, l2⟩ ⟨hi1, hx1⟩
  simp only [Tryz.St_order_Local_3]
  simp only at hi1 hx1
  refine .wf 16 (.int .i64 (v1.1.length : Int)) rfl ?_
  intro hln1
  replace hln1 : (v1.1.length : Int) <= 9223372036854775807 := by simp only [wf, wfL, IntKind.max, IntKind.min, IntKind.signed, IntKind.bits, List.length_map] at hln1; first | exact hln1.2 | exact hln1.1 | (simp at hln1; omega)
  refine .seq ?_
  refine .pl zS [4, 5, 15, 16, 17] ?_
  refine .seq ?_
  refine .cond rfl rfl (fun hc1 => ?_) (fun hc1 => ?_)
  ·have h1 : n1 < v1.1.length := by simpa using hc1
   have hwn1 : wr .i64 ((n1 : Int) + 1) = ((n1 + 1 : Nat) : Int) := zd5 h1 hln1
   have hpn1 : wr .i64 ((n1 : Int) - 1) = (n1 : Int) - 1 := zd6 h1 hln1
   rw [List.drop_eq_getElem_cons h1, zhp] at hx1
   refine .skip ?_
   refine .seq ?_
   refine .block ?_
   refine .seq ?_
   have e1 := zby Torder_given.d v1.1 n1 h1
   refine .plx zS (And.intro e1 hwn1) [4, 5, 15, 16, 17] ?_
   obtain ⟨k1, hx1⟩ := zai hx1
   refine .rg zS [4, 5, 8, 15, 16, 17] ?_
   refine .rnx 6 hwn1 ?_
   refine .rnx 4 hwn1 ?_
   refine .nil ⟨nofun, ?_⟩
   refine .plx zS hwn1 [4, 5, 15, 16, 17] ?_
   refine ⟨(n1 + 1, _), ?_, ⟨by omega, hx1⟩, by dsimp only; omega⟩
   exact .m [4, 5, 15, 16, 17] [3] [(3, 0)]
  ·have h2 : n1 = v1.1.length := by have h2b := of_decide_eq_false hc1; omega
   rw [List.drop_of_length_le (by omega), zho] at hx1
   refine .exit ?_
   refine ⟨_, ?_, (Option.some.inj hx1).symm⟩
   exact .m [4, 5] [0] []
 ·rintro l1 hj1
  subst x1
  try dsimp only at h
  simp only [Tryz.St_order_Local_1]
  refine .seq ?_
  refine .pl zS [4, 5] ?_
  have hq := Option.some.inj h
  subst r
  refine .ret ⟨Tryz.Re_order_Local (l1, v1.2), ?_, .inr rfl, retH [0] ?_ ?_⟩
  ·exact .m [4, 5] [0] []
  ·exact rsi0
  ·rfl
def Tryz.St_towncrierref16_Great_1 (a0 : List (List (List UInt8))) (n1 : Int) : St := ⟨[(0, .imm 1 (a0.map dL_str) 4), (3, .int .i64 n1)], [], 0⟩
attribute [local go_sem] Tryz.St_towncrierref16_Great_1
def Tryz.St_towncrierref16_Great_3 (a0 : List (List (List UInt8))) (n2 : Int) (n3 : Int) : St := ⟨[(0, .imm 1 (a0.map dL_str) 4), (3, .int .i64 n2), (4, .int .i64 n3)], [], 0⟩
attribute [local go_sem] Tryz.St_towncrierref16_Great_3
def Tryz.St_towncrierref16_Great_5 (a0 : List (List (List UInt8))) (n3 : Int) (n4 : Int) : St := ⟨[(0, .imm 1 (a0.map dL_str) 4), (3, .int .i64 n4), (4, .int .i64 n3)], [], 0⟩
attribute [local go_sem] Tryz.St_towncrierref16_Great_5
def Tryz.St_towncrierref16_Great_7 (a0 : List (List (List UInt8))) (n3 : Int) (n5 : Int) (n6 : Int) : St := ⟨[(0, .imm 1 (a0.map dL_str) 4), (3, .int .i64 n5), (4, .int .i64 n3), (5, .int .i64 n6)], [], 0⟩
attribute [local go_sem] Tryz.St_towncrierref16_Great_7
theorem zix (a0 : List (List (List UInt8))) (r : Bool) (h : zdr a0 = some r) : CallP Tryz.prog 5 [.imm 1 (a0.map dL_str) 4] (.bool r) := by
 refine za5 Tryz.tmOk 2 Tryz.func5 rfl (by decide) rfl rfl (Nat.le_of_ble_eq_true rfl) ?_
 intro hwf
 unfold zdr at h
 refine .seq ?_
 refine .pl zS [0] ?_
 refine .seq ?_
 refine .pl zS [0] ?_
 obtain ⟨x1, hx1, h⟩ := bind_some h
 refine .seqM 0 (fun (j : Int) => Tryz.St_towncrierref16_Great_1 a0 j) (fun j => x1 = j) (Nat.le_of_ble_eq_true rfl) ?_ ?_
 ·refine .seq ?_
  refine .pl zS [0, 3] ?_
  refine .block ?_
  refine .loopG 0 (fun (j : Nat × Int × Int) => Tryz.St_towncrierref16_Great_3 a0 j.2.1 j.2.2) (fun j => zbk a0 j.1 j.2.1 j.2.2 = some x1) (fun j => j.1) (12, 0, 0) (Nat.le_of_ble_eq_true rfl) ?_ hx1 ?_
  ·exact .m [0, 3, 4] [] []
  rintro ⟨fu1, n2, n3⟩ hx1
  simp only [Tryz.St_towncrierref16_Great_3]
  try simp only at hx1
  obtain ⟨fu1, rfl⟩ : ∃ k, fu1 = k + 1 := by cases fu1 with | zero => (rw [zbk] at hx1; cases hx1) | succ k => exact ⟨k, rfl⟩
  rw [zbk] at hx1
  refine .seq ?_
  refine .seq ?_
  refine .pl zS [0, 3, 4] ?_
  refine .cond rfl rfl (fun hc1 => ?_) (fun hc1 => ?_)
  ·replace hx1 := za0 hx1 hc1
   refine .skip ?_
   obtain ⟨x2, hx2, hx1⟩ := bind_some hx1
   refine .seqM 0 (fun (j : Int) => Tryz.St_towncrierref16_Great_5 a0 n3 j) (fun j => x2 = j) (Nat.le_of_ble_eq_true rfl) ?_ ?_
   ·refine .block ?_
    refine .seq ?_
    refine .pl zS [0, 3, 4] ?_
    refine .block ?_
    refine .loopG 0 (fun (j : Nat × Int × Int) => Tryz.St_towncrierref16_Great_7 a0 n3 j.2.1 j.2.2) (fun j => zbj a0 n3 j.1 j.2.1 j.2.2 = some x2) (fun j => j.1) (1002, n2, 0) (Nat.le_of_ble_eq_true rfl) ?_ hx2 ?_
    ·exact .m [0, 3, 4, 5] [] []
    rintro ⟨fu2, n5, n6⟩ hx2
    simp only [Tryz.St_towncrierref16_Great_7]
    try simp only at hx2
    obtain ⟨fu2, rfl⟩ : ∃ k, fu2 = k + 1 := by cases fu2 with | zero => (rw [zbj] at hx2; cases hx2) | succ k => exact ⟨k, rfl⟩
    rw [zbj] at hx2
    refine .seq ?_
    refine .seq ?_
    obtain ⟨k2, hx2⟩ := zai hx2
    have e2 := zc8 dL_str a0 n3
    replace e2 := e2 k2
    refine .rg zS [0, 3, 4, 5] ?_
    refine .rnx 6 e2 ?_
    refine .rnx 5 e2 ?_
    refine .nil ⟨nofun, ?_⟩
    refine .cond rfl rfl (fun hc2 => ?_) (fun hc2 => ?_)
    ·replace hx2 := za0 hx2 hc2
     refine .skip ?_
     refine .seq ?_
     refine .block ?_
     obtain ⟨k3, hx2⟩ := zai hx2
     obtain ⟨k4, hx2⟩ := zai hx2
     have e3 := zc8 dL_str a0 n3
     have e4 := zc8 D.str (a0.getD n3.toNat default) n6
     replace e3 := e3 k3
     replace e4 := e4 k4
     refine .rg zS [0, 3, 4, 5] ?_
     refine .rnx 6 (And.intro e3 e4) ?_
     refine .rnx 7 (And.intro e3 e4) ?_
     refine .nil ⟨nofun, ?_⟩
     refine .pl zS [0, 3, 4, 5] ?_
     refine ⟨(fu2, _, _), ?_, hx2, by dsimp only; omega⟩
     exact .m [0, 3, 4, 5] [] []
    ·replace hx2 := za1 hx2 hc2
     refine .exit ?_
     refine ⟨_, ?_, (Option.some.inj hx2).symm⟩
     exact .m [0, 3, 4] [] []
   ·rintro n4 hj1
    subst x2
    try dsimp only at hx1
    simp only [Tryz.St_towncrierref16_Great_5]
    refine .pl zS [0, 3, 4] ?_
    refine ⟨(fu1, _, _), ?_, hx1, by dsimp only; omega⟩
    exact .m [0, 3, 4] [] []
  ·replace hx1 := za1 hx1 hc1
   refine .exit ?_
   refine ⟨_, ?_, (Option.some.inj hx1).symm⟩
   exact .m [0, 3] [] []
 ·rintro n1 hj2
  subst x1
  try dsimp only at h
  simp only [Tryz.St_towncrierref16_Great_1]
  refine .seq ?_
  refine .pl zS [0, 3] ?_
  have hq := Option.some.inj h
  subst r
  exact .ret ⟨.inr rfl, rsi⟩
end Go.Proofs
end
