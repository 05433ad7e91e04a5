/- Texts of the proof. -/
import Derived.Test.YtbbinddkhlmlcaaGreatDecreeRunsPf
import Derived.Test.YtbbinddkhlmlcaaGreatDecreeRunsPg
section
namespace Go.Proofs
open Go.Tm
structure TVote where
 Promised : Int
 Ballot : Int
 Value : List UInt8
 deriving Inhabited, DecidableEq
structure TMail where
 From : Int
 To : Int
 Kind : Int
 Group : Int
 Slot : Int
 Ballot : Int
 Prior : Int
 Value : List UInt8
 Id : Int
 Time : Int
 deriving Inhabited, DecidableEq
structure TChoice where
 Node : Int
 Value : List UInt8
 deriving Inhabited, DecidableEq
structure TWorld where
 Members : List Int
 Votes : List TVote
 Tries : List TAttempt
 Mail : List TMail
 Chosen : List TChoice
 deriving Inhabited, DecidableEq
structure Tdecree_world where
 World : TWorld
 deriving Inhabited, DecidableEq
structure TMove where
 Kind : Int
 Node : Int
 At : Int
 Value : List UInt8
 deriving Inhabited, DecidableEq
def TVote.d (x : TVote) : D := .agg [.int .i64 x.Promised, .int .i64 x.Ballot, .str x.Value]
theorem pl_TVote : Pl TVote.d := ⟨fun _ => rfl, fun _ => rfl, fun q h _ => by first | rfl | simp [TVote.d, okM, okML, h]⟩
theorem mk1_TVote (l : List TVote) : mkML 1 (l.map TVote.d) = l.map TVote.d := mkML_map 1 (fun _ => rfl) l
theorem pl0_TVote : Pl0 TVote.d := ⟨pl_TVote, fun _ _ => rfl⟩
def TMail.d (x : TMail) : D := .agg [.int .i64 x.From, .int .i64 x.To, .int .u8 x.Kind, .int .i64 x.Group, .int .i64 x.Slot, .int .i64 x.Ballot, .int .i64 x.Prior, .str x.Value, .int .i64 x.Id, .int .i64 x.Time]
theorem pl_TMail : Pl TMail.d := ⟨fun _ => rfl, fun _ => rfl, fun q h _ => by first | rfl | simp [TMail.d, okM, okML, h]⟩
theorem mk1_TMail (l : List TMail) : mkML 1 (l.map TMail.d) = l.map TMail.d := mkML_map 1 (fun _ => rfl) l
theorem pl0_TMail : Pl0 TMail.d := ⟨pl_TMail, fun _ _ => rfl⟩
def TChoice.d (x : TChoice) : D := .agg [.int .i64 x.Node, .str x.Value]
theorem pl_TChoice : Pl TChoice.d := ⟨fun _ => rfl, fun _ => rfl, fun q h _ => by first | rfl | simp [TChoice.d, okM, okML, h]⟩
theorem mk1_TChoice (l : List TChoice) : mkML 1 (l.map TChoice.d) = l.map TChoice.d := mkML_map 1 (fun _ => rfl) l
theorem pl0_TChoice : Pl0 TChoice.d := ⟨pl_TChoice, fun _ _ => rfl⟩
def TWorld.d (x : TWorld) : D := .agg [.imm 1 (x.Members.map (D.int .i64)) 4, .imm 3 (x.Votes.map TVote.d) 4, .imm 7 (x.Tries.map TAttempt.d) 4, .imm 10 (x.Mail.map TMail.d) 4, .imm 2 (x.Chosen.map TChoice.d) 4]
def TWorld.n (x : TWorld) : D := .agg [.imm 1 (x.Members.map (D.int .i64)) 12, .imm 3 (x.Votes.map TVote.d) 12, .imm 7 (x.Tries.map TAttempt.d) 12, .imm 10 (x.Mail.map TMail.d) 12, .imm 2 (x.Chosen.map TChoice.d) 12]
theorem mk1_TWorld (l : List TWorld) : mkML 1 (l.map TWorld.d) = l.map TWorld.n := mkML_map 1 (fun _ => rfl) l
def Tdecree_world.d (x : Tdecree_world) : D := .agg [.imm 1 (x.World.Members.map (D.int .i64)) 4, .imm 3 (x.World.Votes.map TVote.d) 4, .imm 7 (x.World.Tries.map TAttempt.d) 4, .imm 10 (x.World.Mail.map TMail.d) 4, .imm 2 (x.World.Chosen.map TChoice.d) 4]
def Tdecree_world.n (x : Tdecree_world) : D := .agg [.imm 1 (x.World.Members.map (D.int .i64)) 12, .imm 3 (x.World.Votes.map TVote.d) 12, .imm 7 (x.World.Tries.map TAttempt.d) 12, .imm 10 (x.World.Mail.map TMail.d) 12, .imm 2 (x.World.Chosen.map TChoice.d) 12]
theorem mk1_Tdecree_world (l : List Tdecree_world) : mkML 1 (l.map Tdecree_world.d) = l.map Tdecree_world.n := mkML_map 1 (fun _ => rfl) l
def TMove.d (x : TMove) : D := .agg [.int .u8 x.Kind, .int .i64 x.Node, .int .i64 x.At, .str x.Value]
theorem mk1_TMove (l : List TMove) : mkML 1 (l.map TMove.d) = l.map TMove.d := mkML_map 1 (fun _ => rfl) l
end Go.Proofs
end
section
namespace Go.Tm
theorem sj {α : Type} {a b : α} (h : some a = some b) : a = b := Option.some.inj h
section
variable {P : Program} {tab : Nat -> TI} {lim n : Nat}
theorem WRun.nd {own dr : Bool} {ops : Array Oper} {st : St} {acc : List FP} {Q : St -> Prop} (hQ : Q st) (hs : schedB ops (fun i => (acc[i]?).getD fpDflt) = true := by exact schedB_of (by kernel_rfl)) : WRun P tab own lim ops [] st acc (fun st' fps => (dr = true -> schedB ops (fun i => (fps[i]?).getD fpDflt) = true) /\ Q st') := .nil ⟨fun _ => hs, hQ⟩
end
end Go.Tm
end
section
namespace Go.Proofs
open Go.Tm Go.RowKit Go.WideShapes
attribute [go_sem] argVars runE runK isCallV stepE aop opd opdsL opds opdO ev ofVal keep List.any natbeq Bool.false_or Bool.true_or aggEq cond_true cond_false Bool.cond_false_right Bool.cond_true_left beq_true beq_false imp_self implies_true getR getL put St.app effL del nwB blt_dec Nat.lt_irrefl Nat.lt_add_one ble_dec Nat.le_refl Nat.beq_refl roomNZ appendIn capS capK mkZ_zero mkZL_zero zeroEl D.ids D.idsL bin arith sarith binT dpick Tm.part splice fillD oneD loadD storeD srcD sliceD idxOk decide_true gval dstAt D.cells List.map_cons List.map_nil List.take List.drop List.length_map List.append Int.toNat_natCast and_true true_and decide_false List.length_cons List.length_nil List.append_nil List.nil_append Bool.and_true Bool.true_and Bool.not_false Bool.not_true ne_eq not_false_eq_true BEq.rfl List.getElem?_cons_zero List.getElem?_cons_succ List.getElem?_nil Nat.zero_add List.all_cons List.all_nil List.isEmpty_cons List.isEmpty_nil Option.getD_some Option.getD_none List.any_cons List.any_nil List.drop_succ_cons List.drop_zero unfL unf okM okML low3 List.cons_append true_or or_true Nat.zero_mul Nat.zero_le findD_int findD_str getD_int getD_str getD_bool Option.isSome_map keyD List.length_replicate List.map_replicate setEl List.length_set bytesD_map map_ub mx_len mkZ_one mkZL_one mkM mkML mk1_int mk1_str mk1_bool drop_map take_map take_map_len List.take_length Int.toNat_zero toNat_pred fpOf metIds opIds mvV mvH mvF pickL D.ren D.renL Blk.ren List.map_append List.length_append Bool.not_not Bool.or_not_self Bool.not_or_self Bool.or_true
attribute [go_sem] Tryz.tm_1 Tryz.tm_2 Tryz.tm_3 Tryz.tm_4 Tryz.tm_5 Tryz.tm_6 Tryz.tm_7 Tryz.tm_8 Tryz.tm_9 Tryz.tm_10 Tryz.tm_11 Tryz.tm_12 Tryz.tm_13 Tryz.tm_14 Tryz.tm_15 Tryz.tm_16 Tryz.tm_17 Tryz.tm_18 Tryz.tm_19 Tryz.tm_20 Tryz.tm_21 Tryz.tm_22 Tryz.tm_23 Tryz.tm_24 Tryz.tm_25 Tryz.tm_26 Tryz.tm_27 Tryz.tm_28 Tryz.tm_29 Tryz.tm_30 Tryz.tm_31 Tryz.tm_32 Tryz.tm_33 Tryz.tm_35 Tryz.tm_37 Tryz.tm_38 Tryz.tm_39 Tryz.tm_40 Tryz.tm_41 Tryz.tm_42 Tryz.tm_43 Tryz.tm_44 Tryz.tm_45 Tryz.tm_46 Tryz.tm_47 Tryz.tm_48 Tryz.tm_49 Tryz.tm_50 Tryz.tm_51 Tryz.tm_52 Tryz.tm_53 Tryz.tm_54 Tryz.tm_55 Tryz.tm_56 Tryz.tm_57 Tryz.tm_58 Tryz.tm_59 Tryz.tm_60 Tryz.tm_61 Tryz.tm_62 Tryz.tm_63 Tryz.tm_64 Tryz.tm_65 Tryz.tm_66 Tryz.tm_67 Tryz.tm_68 Tryz.tm_69 Tryz.tm_70 Tryz.tm_71 Tryz.tm_72 Tryz.tm_73 Tryz.tm_74 Tryz.tm_75 Tryz.tm_76 Tryz.tm_77 Tryz.tm_78 Tryz.tm_79 Tryz.tm_81 Tryz.tm_82 Tryz.tm_83 Tryz.tm_84 Tryz.tm_85 Tryz.tm_86 Tryz.tm_87 Tryz.tm_88 Tryz.tm_89 Tryz.tm_90 Tryz.tm_91 Tryz.tm_93 Tryz.tm_95 Tryz.tm_97 Tryz.tm_98 Tryz.tm_99 Tryz.tm_100 Tryz.tm_102 Tryz.tm_104 Tryz.tm_106 Tryz.tm_107 Tryz.tm_108 Tryz.tm_109 Tryz.tm_110 Tryz.tm_111 Tryz.tm_112 Tryz.tm_113 Tryz.tm_114 Tryz.tm_115 Tryz.tm_116 Tryz.tm_117 Tryz.tm_118 Tryz.tm_119 Tryz.tm_120 Tryz.tm_121 Tryz.tm_122 Tryz.tm_123 Tryz.tm_124 Tryz.tm_125 Tryz.tm_126 Tryz.tm_128 Tryz.tm_129 Tryz.tm_130 Tryz.tm_131 Tryz.tm_132 Tryz.tm_133 Tryz.tm_134 Tryz.tm_135 Tryz.tm_136 Tryz.tm_137 Tryz.tm_138 Tryz.tm_139 Tryz.tm_140 Tryz.tm_141 Tryz.tm_142 Tryz.tm_143 Tryz.tm_144 Tryz.tm_145 Tryz.tm_146 Tryz.tm_147 Tryz.tm_148 Tryz.tm_151 Tryz.tm_152 Tryz.tm_153 Tryz.tm_154 Tryz.tm_155 Tryz.tm_156 Tryz.tm_157 Tryz.tm_158 Tryz.tm_159 TPromise.d TAttempt.d TAttempt.n mk1_TPromise mk1_TAttempt Tryz.f77 Tryz.f76 Tryz.f83 Tryz.f71 Tryz.f80 Tryz.f107 Tryz.f20 Tryz.f99 Tryz.f87 Tryz.f37 Tryz.f40 Tryz.f69 Tryz.f102 Tryz.f92 Tryz.f95 Tryz.f43 Tryz.f52 Tryz.f82 Tryz.f78 Tryz.f79 Tryz.f81 Tryz.f70 Tryz.f74 Tryz.f41 Tryz.f84 Tryz.f93 Tryz.f72 Tryz.f96 Tryz.f108 Tryz.f100 Tryz.f104 Tryz.f94 Tryz.f75 Tryz.f49 Tryz.f36 Tryz.f22 Tryz.f45 Tryz.f73 Tryz.f39 Tryz.f21 Tryz.f30 Tryz.f68 Tryz.f35 Tryz.f55 Tryz.f91 Tryz.f66 Tryz.f97 Tryz.f86 Tryz.f88 TVote.d TMail.d TChoice.d TWorld.d TWorld.n Tdecree_world.d Tdecree_world.n TMove.d mk1_TVote mk1_TMail mk1_TChoice mk1_TWorld mk1_Tdecree_world mk1_TMove Tryz.f38 Tryz.f85 Tryz.f54 Tryz.f59 Tryz.f53 Tryz.f23 Tryz.f42 Tryz.f11 Tryz.f31 Tryz.f32 Tryz.f33 Tryz.f34 Tryz.f16 Tryz.f9 Tryz.f56 Tryz.f58 Tryz.f57 Tryz.f24 Tryz.f26 Tryz.f7 Tryz.f18 Tryz.f5 Tryz.f15 Tryz.f44 Tryz.f27 Tryz.f90 Tryz.f60 Tryz.f62 Tryz.f46 Tryz.f12 Tryz.f17 Tryz.f6 Tryz.f10 Tryz.f63 Tryz.f67 Tryz.f89 Tryz.f61 Tryz.f65 Tryz.f64 Tryz.f28 Tryz.f29 Tryz.f8 Tryz.f19 Tryz.f4 Tryz.f112 Tryz.f103
end Go.Proofs
end
section
namespace Go.Proofs
open Go.Tm
set_option linter.unusedVariables false
def m_ballot_node (a0 : Int) : Option Bool :=
 some ((decide (a0 >= 0)) && (decide (a0 < 6)))
def zbj : List TPromise -> (List UInt8) -> Int -> Option ((List UInt8))
 | [], s2, n1 =>
  some s2
 | y1 :: rest1, s2, n1 =>
  Option.bind (α := (List UInt8) × Int) (if y1.Ballot > n1 then
  some (y1.Value, y1.Ballot)
  else
  some (s2, n1)) fun (s3, n3) =>
  zbj rest1 s3 n3
def m_attempt_Best (l : List TPromise) (wish : List UInt8) : Option ((List UInt8)) :=
 Option.bind (α := (List UInt8)) (zbj l wish 0) fun s1 =>
 some s1
def m_r08_Best_loop1 : List TPromise -> Int -> (List UInt8) -> Option ((List UInt8))
 | [], n1, s2 =>
  some s2
 | y1 :: rest1, n1, s2 =>
  Option.bind (α := Int × (List UInt8)) (if y1.Ballot > n1 then
  some (y1.Ballot, y1.Value)
  else
  some (n1, s2)) fun (n3, s3) =>
  m_r08_Best_loop1 rest1 n3 s3
def m_r08_Best (l : List TPromise) (wish : List UInt8) : Option ((List UInt8)) :=
 Option.bind (α := (List UInt8)) (m_r08_Best_loop1 l 0 wish) fun s1 =>
 some s1
def zas : List TPromise -> (List Int) -> Option ((List Int))
 | [], l2 =>
  some l2
 | y1 :: rest1, l2 =>
  if l2.length + [y1.Node].length < 1000000 then
  zas rest1 (l2 ++ [y1.Node])
  else none
theorem m_attempt_nodes_loop1_n (l2 : List Int) : zas [] l2 =
  (some l2 : Option ((List Int))) := rfl
theorem m_attempt_nodes_loop1_c (y1 : TPromise) (rest1 : List TPromise) (l2 : List Int) : zas (y1 :: rest1) l2 =
  (if l2.length + [y1.Node].length < 1000000 then
  zas rest1 (l2 ++ [y1.Node])
  else none : Option ((List Int))) := rfl
def zbp (l : List TPromise) : Option ((List Int)) :=
 Option.bind (α := (List Int)) (zas l []) fun l1 =>
 some l1
def zbd : List TPromise -> (List Int) -> Option ((List Int))
 | [], l2 =>
  some l2
 | y1 :: rest1, l2 =>
  if l2.length + [y1.Node].length < 1000000 then
  zbd rest1 (l2 ++ [y1.Node])
  else none
theorem m_r08_nodes_loop1_n (l2 : List Int) : zbd [] l2 =
  (some l2 : Option ((List Int))) := rfl
theorem m_r08_nodes_loop1_c (y1 : TPromise) (rest1 : List TPromise) (l2 : List Int) : zbd (y1 :: rest1) l2 =
  (if l2.length + [y1.Node].length < 1000000 then
  zbd rest1 (l2 ++ [y1.Node])
  else none : Option ((List Int))) := rfl
def m_r08_nodes (l : List TPromise) : Option ((List Int)) :=
 Option.bind (α := (List Int)) (zbd l []) fun l1 =>
 some l1
def zak (v : Int) : List Int -> Nat -> Option (Int ⊕ Unit)
 | [], n1 =>
  some (.inr ())
 | y1 :: rest1, n1 =>
  if v = y1 then
  some (.inl (n1 : Int))
  else
  zak v rest1 (n1 + 1) 
def m_slices_Index_int_int (s : List Int) (v : Int) : Option Int :=
 Option.bind (α := Int ⊕ Unit) (zak v s 0 ) fun z => match z with
 | (.inl r) => some r
 | (.inr _) =>
 some (-1)
def zbg (b : List Int) : List Int -> Nat -> Option (Bool ⊕ Unit)
 | [], n1 =>
  some (.inr ())
 | y1 :: rest1, n1 =>
  if n1 < b.length then
  if ¬ (y1 = (b.getD n1 default)) then
  some (.inl false)
  else
  zbg b rest1 (n1 + 1) 
  else none
def zcf (a : List Int) (b : List Int) : Option Bool :=
 if ¬ ((a.length : Int) = (b.length : Int)) then
 some false
 else
 Option.bind (α := Bool ⊕ Unit) (zbg b a 0 ) fun z => match z with
 | (.inl r) => some r
 | (.inr _) =>
 some true
def zce (a0 : List Int) (a1 : Int) : Option Bool :=
 Option.bind (m_slices_Index_int_int a0 a1) fun v1 =>
 some (decide (v1 >= 0))
def m_quorum_Has (a0 : List Int) (a1 : Int) : Option Bool :=
 Option.bind (zce a0 a1) fun v1 =>
 some v1
def zb2 : List Int -> Int -> Option (Int ⊕ Int)
 | [], n2 =>
  some (.inr n2)
 | y1 :: rest1, n2 =>
  if (y1 <= n2) \/ (y1 >= 6) then
  some (.inl 60)
  else
  zb2 rest1 (y1)
def zaz (a0 : List Int) : Option Int :=
 if (a0.length : Int) > 6 then
 some 4
 else
 Option.bind (α := Int ⊕ Int) (zb2 a0 (-1)) fun z => match z with
 | (.inl r) => some r
 | (.inr n1) =>
 if n1 < 0 then
 some 60
 else
 some 0
def m_ballot_Of (a0 : Int) : Option (Int × Int × Int) :=
 Option.bind (if ¬ (((wr .i64 (a0.tdiv 8)) < 1) \/ ((wr .i64 (a0.tdiv 8)) > 1048576)) then m_ballot_node (a0.tmod 8) else some default) fun v1 =>
 if (((wr .i64 (a0.tdiv 8)) < 1) \/ ((wr .i64 (a0.tdiv 8)) > 1048576)) \/ (¬ (v1 = true)) then
 some (0, 0, 50)
 else
 some ((wr .i64 (a0.tdiv 8)), (a0.tmod 8), 0)
def zbc (a0 : Int) : Option Int :=
 Option.bind (m_ballot_Of a0) fun v1 =>
 if ¬ (v1.2.2 = 0) then
 some v1.2.2
 else
 some 0
def m_quorum_Need (a0 : List Int) : Option (Int × Int) :=
 Option.bind (zaz a0) fun v1 =>
 if ¬ (v1 = 0) then
 some (0, v1)
 else
 some ((wr .i64 ((wr .i64 ((a0.length : Int).tdiv 2)) + 1)), 0)
def m_r06_Has_loop1 (a1 : Int) : List Int -> Option (Bool ⊕ Unit)
 | [] =>
  some (.inr ())
 | y1 :: rest1 =>
  if y1 = a1 then
  some (.inl true)
  else
  m_r06_Has_loop1 a1 rest1 
def m_r06_Has (a0 : List Int) (a1 : Int) : Option Bool :=
 Option.bind (α := Bool ⊕ Unit) (m_r06_Has_loop1 a1 a0 ) fun z => match z with
 | (.inl r) => some r
 | (.inr _) =>
 some false
def zbz (a1 : List Int) : List Int -> Option (Bool ⊕ Unit)
 | [] =>
  some (.inr ())
 | y1 :: rest1 =>
  Option.bind (m_r06_Has a1 (y1)) fun v1 =>
  if ¬ (v1 = true) then
  some (.inl false)
  else
  zbz a1 rest1 
def m_r06_Within (a0 : List Int) (a1 : List Int) : Option Bool :=
 Option.bind (α := Bool ⊕ Unit) (zbz a1 a0 ) fun z => match z with
 | (.inl r) => some r
 | (.inr _) =>
 some true
def m_r06_May_loop1 (a0 : List Int) : List Int -> Nat -> Option (Bool ⊕ Unit)
 | [], n1 =>
  some (.inr ())
 | y1 :: rest1, n1 =>
  if ((y1 < 0) \/ (y1 >= 6)) \/ (((n1 : Int) > 0) /\ (y1 <= (a0.getD (n1 - 1) default))) then
  some (.inl false)
  else
  m_r06_May_loop1 a0 rest1 (n1 + 1) 
def m_r06_May (a0 : List Int) : Option Bool :=
 Option.bind (α := Bool ⊕ Unit) (m_r06_May_loop1 a0 a0 0 ) fun z => match z with
 | (.inl r) => some r
 | (.inr _) =>
 some ((decide ((a0.length : Int) >= 1)) && (decide ((a0.length : Int) <= 6)))
def m_r06_Check (a0 : List Int) : Option Int :=
 if (a0.length : Int) > 6 then
 some 4
 else
 Option.bind (m_r06_May a0) fun v1 =>
 if ¬ (v1 = true) then
 some 60
 else
 some 0
def zbo (a1 : List Int) : List Int -> Int -> Option (Int)
 | [], n2 =>
  some n2
 | y1 :: rest1, n2 =>
  Option.bind (α := Int) (Option.bind (m_r06_Has a1 (y1)) fun v1 =>
  if v1 = true then
  some (wr .i64 (n2 + 1))
  else
  some n2) fun n4 =>
  zbo a1 rest1 n4
def m_r06_Counts (a0 : List Int) (a1 : List Int) : Option Bool :=
 Option.bind (α := Int) (zbo a1 a0 0) fun n1 =>
 some (decide (n1 >= (wr .i64 ((wr .i64 ((a0.length : Int).tdiv 2)) + 1))))
def m_r05_May (a0 : Int) : Option Bool :=
 some (((decide (a0 >= 8)) && (decide (a0 <= 8388613))) && (decide ((a0.tmod 8) < 6)))
def zbn (a0 : List Int) : List Int -> Nat -> Option (Bool ⊕ Unit)
 | [], n1 =>
  some (.inr ())
 | y1 :: rest1, n1 =>
  if ((n1 : Int) > 0) /\ (y1 <= (a0.getD (n1 - 1) default)) then
  some (.inl false)
  else
  zbn a0 rest1 (n1 + 1) 
def m_r08_rising (a0 : List Int) (a1 : List Int) : Option Bool :=
 Option.bind (α := Bool ⊕ Unit) (zbn a0 a0 0 ) fun z => match z with
 | (.inl r) => some r
 | (.inr _) =>
 Option.bind (m_r06_Within a0 a1) fun v1 =>
 some v1
def m_r08_MayPromise (a0 : TPromise) (a1 : Int) : Option Bool :=
 if a0.Ballot = 0 then
 some (a0.Value == [])
 else
 Option.bind (m_r05_May a0.Ballot) fun v1 =>
 some ((v1 && (decide (a0.Ballot < a1))) && (decide ((a0.Value.length : Int) <= 1024)))
def zau (a0 : List Int) (a1 : List Int) : List Int -> Nat -> Option (Bool ⊕ Unit)
 | [], n1 =>
  some (.inr ())
 | y1 :: rest1, n1 =>
  Option.bind (if ¬ (((n1 : Int) > 0) /\ (y1 <= (a0.getD (n1 - 1) default))) then m_quorum_Has a1 (y1) else some default) fun v1 =>
  if (((n1 : Int) > 0) /\ (y1 <= (a0.getD (n1 - 1) default))) \/ (¬ (v1 = true)) then
  some (.inl false)
  else
  zau a0 a1 rest1 (n1 + 1) 
def zc7 (a0 : List Int) (a1 : List Int) : Option Bool :=
 Option.bind (α := Bool ⊕ Unit) (zau a0 a1 a0 0 ) fun z => match z with
 | (.inl r) => some r
 | (.inr _) =>
 some true
def m_attempt_may (a0 : TPromise) (a1 : Int) : Option Bool :=
 if a0.Ballot = 0 then
 some (a0.Value == [])
 else
 Option.bind (zbc a0.Ballot) fun v1 =>
 some (((v1 == 0) && (decide (a0.Ballot < a1))) && (decide ((a0.Value.length : Int) <= 1024)))
end Go.Proofs
end
section
namespace Go.Proofs
open Go.Tm Go.RowKit Go.WideShapes
set_option maxRecDepth 100000
set_option maxHeartbeats 4000000
set_option linter.unusedSimpArgs false
set_option linter.unusedVariables false
theorem callP_ballot_node (a0 : Int) (r : Bool) (h : m_ballot_node a0 = some r) : CallP Tryz.prog 77 [.int .i64 a0] (.bool r) := by
 refine za5 Tryz.tmOk 2 Tryz.func77 rfl (by decide) rfl rfl (lb rfl) ?_
 intro hwf
 unfold m_ballot_node at h
 refine .seq (.pl zS [0] ?_)
 refine .seq (.pl zS [0] ?_)
 have hq := sj h
 subst r
 exact .ret ⟨.inr rfl, rsi⟩
@[go_sem] def Tryz.St_attempt_Best_1 (s1 : List UInt8) : St := ⟨[(1, .str s1)], [], 0⟩
@[go_sem] def Tryz.St_attempt_Best_3 (l : List TPromise) (n2 : Nat) (s2 : List UInt8) (n1 : Int) : St := ⟨[(1, .str s2), (5, .int .i64 n1), (8, .imm 3 (l.map TPromise.d) 4), (9, .int .i64 (l.length : Int)), (10, .int .i64 (n2 : Int))], [], 0⟩
@[go_sem] def Tryz.St_attempt_Best_5 (l : List TPromise) (n2 : Nat) (s3 : List UInt8) (n3 : Int) : St := ⟨[(1, .str s3), (5, .int .i64 n3), (8, .imm 3 (l.map TPromise.d) 4), (9, .int .i64 (l.length : Int)), (10, .int .i64 (n2 : Int))], [], 0⟩
theorem callP_attempt_Best (l : List TPromise) (wish : List UInt8) (r : (List UInt8)) (h : m_attempt_Best l wish = some r) : CallP Tryz.prog 76 [.imm 3 (l.map TPromise.d) 4, .str wish] (.str r) := by
 refine za5 Tryz.tmOk 3 Tryz.func76 rfl (by decide) rfl rfl (lb rfl) ?_
 intro hwf
 unfold m_attempt_Best at h
 refine .seq (.pl zS [0, 1] ?_)
 refine .seq (.pl zS [0, 1] ?_)
 obtain ⟨x1, hx1, h⟩ := bind_some h
 refine .seqM 0 (fun (j : (List UInt8)) => Tryz.St_attempt_Best_1 j) (fun j => x1 = j) (lb rfl) ?_ ?_
 ·refine .seq (.pl zS [0, 1, 5] ?_)
  refine .block ?_
  refine .loopG 0 (fun (j : Nat × (List UInt8) × Int) => Tryz.St_attempt_Best_3 l j.1 j.2.1 j.2.2) (fun j => j.1 <= l.length /\ zbj (l.drop j.1) j.2.1 j.2.2 = some x1) (fun j => l.length - j.1) (0, wish, 0) (lb rfl) ?_ ⟨Nat.zero_le _, hx1⟩ ?_
  ·exact .m [1, 5, 8, 9, 10] [] []
  rintro ⟨n2, s2, n1⟩ ⟨hi1, hx1⟩
  simp only [Tryz.St_attempt_Best_3]
  simp only at hi1 hx1
  refine .wf 9 (.int .i64 (l.length : Int)) rfl ?_
  intro hln2
  replace hln2 : (l.length : Int) <= 9223372036854775807 := by simp only [wf, wfL, IntKind.max, IntKind.min, IntKind.signed, IntKind.bits, List.length_map] at hln2; first | exact hln2.2 | exact hln2.1 | (simp at hln2; omega)
  refine .seq (.pl zS [1, 5, 8, 9, 10] ?_)
  refine .seq ?_
  refine .cond rfl rfl (fun hc1 => ?_) (fun hc1 => ?_)
  ·have h1 : n2 < l.length := by simpa using hc1
   have hwn2 : wr .i64 ((n2 : Int) + 1) = ((n2 + 1 : Nat) : Int) := zbr h1 hln2
   have hpn2 : wr .i64 ((n2 : Int) - 1) = (n2 : Int) - 1 := zbs h1 hln2
   rw [List.drop_eq_getElem_cons h1, zbj] at hx1
   refine .skip ?_
   obtain ⟨x2, hx2, hx1⟩ := bind_some hx1
   refine .seqM 0 (fun (j : (List UInt8) × Int) => Tryz.St_attempt_Best_5 l n2 j.1 j.2) (fun j => x2 = j) (lb rfl) ?_ ?_
   ·refine .block ?_
    refine .seq ?_
    have e1 := zb6 TPromise.d l n2 h1
    refine .plx zS (And.intro e1 hwn2) [1, 5, 8, 9, 10] ?_
    refine .seq (.plx zS hwn2 [1, 5, 7, 8, 9, 10] ?_)
    refine .cond rfl rfl (fun hc2 => ?_) (fun hc2 => ?_)
    ·replace hx2 := za0 hx2 hc2
     refine .drx zS hwn2 [7, 8, 9, 10] ?_
     refine ⟨_, ?_, (sj hx2).symm⟩
     exact .m [1, 5, 8, 9, 10] [] []
    replace hx2 := za3 hx2 hc2
    refine .skip ?_
    refine ⟨_, ?_, (sj hx2).symm⟩
    exact .m [1, 5, 8, 9, 10] [] []
   rintro ⟨s3, n3⟩ hj1
   subst x2
   try dsimp only at hx1
   simp only [Tryz.St_attempt_Best_5]
   refine .plx zS hwn2 [1, 5, 8, 9, 10] ?_
   refine ⟨(n2 + 1, _, _), ?_, ⟨by omega, hx1⟩, by dsimp only; omega⟩
   exact .m [1, 5, 8, 9, 10] [] []
  have h2 : n2 = l.length := by have h2b := of_decide_eq_false hc1; omega
  rw [List.drop_of_length_le (by omega), zbj] at hx1
  refine .exit ?_
  refine ⟨_, ?_, (sj hx1).symm⟩
  exact .m [1] [] []
 rintro s1 hj2
 subst x1
 try dsimp only at h
 simp only [Tryz.St_attempt_Best_1]
 refine .seq (.pl zS [1] ?_)
 have hq := sj h
 subst r
 exact .ret ⟨.inr rfl, rsi⟩
@[go_sem] def Tryz.St_r08_Best_1 (s1 : List UInt8) : St := ⟨[(6, .str s1)], [], 0⟩
@[go_sem] def Tryz.St_r08_Best_3 (l : List TPromise) (n2 : Nat) (n1 : Int) (s2 : List UInt8) : St := ⟨[(0, .imm 3 (l.map TPromise.d) 4), (5, .int .i64 n1), (6, .str s2), (7, .int .i64 (n2 : Int))], [], 0⟩
@[go_sem] def Tryz.St_r08_Best_5 (l : List TPromise) (n2 : Nat) (n3 : Int) (s3 : List UInt8) : St := ⟨[(0, .imm 3 (l.map TPromise.d) 4), (5, .int .i64 n3), (6, .str s3), (7, .int .i64 (n2 : Int))], [], 0⟩
theorem callP_r08_Best (l : List TPromise) (wish : List UInt8) (r : (List UInt8)) (h : m_r08_Best l wish = some r) : CallP Tryz.prog 83 [.imm 3 (l.map TPromise.d) 4, .str wish] (.str r) := by
 refine za5 Tryz.tmOk 2 Tryz.func83 rfl (by decide) rfl rfl (lb rfl) ?_
 intro hwf
 unfold m_r08_Best at h
 refine .seq (.pl zS [0, 1] ?_)
 refine .seq (.pl zS [0, 1] ?_)
 obtain ⟨x1, hx1, h⟩ := bind_some h
 refine .seqM 0 (fun (j : (List UInt8)) => Tryz.St_r08_Best_1 j) (fun j => x1 = j) (lb rfl) ?_ ?_
 ·refine .seq (.pl zS [0, 5, 6] ?_)
  refine .block ?_
  refine .loopG 0 (fun (j : Nat × Int × (List UInt8)) => Tryz.St_r08_Best_3 l j.1 j.2.1 j.2.2) (fun j => j.1 <= l.length /\ m_r08_Best_loop1 (l.drop j.1) j.2.1 j.2.2 = some x1) (fun j => l.length - j.1) (0, 0, wish) (lb rfl) ?_ ⟨Nat.zero_le _, hx1⟩ ?_
  ·exact .m [0, 5, 6, 7] [] []
  rintro ⟨n2, n1, s2⟩ ⟨hi1, hx1⟩
  simp only [Tryz.St_r08_Best_3]
  simp only at hi1 hx1
  refine .wf 0 (.imm 3 (l.map TPromise.d) 4) rfl ?_
  intro hln2
  replace hln2 : (l.length : Int) <= 9223372036854775807 := by simp only [wf, wfL, IntKind.max, IntKind.min, IntKind.signed, IntKind.bits, List.length_map] at hln2; first | exact hln2.2 | exact hln2.1 | (simp at hln2; omega)
  refine .seq (.seq ?_)
  refine .pl zS [0, 5, 6, 7] ?_
  refine .cond rfl rfl (fun hc1 => ?_) (fun hc1 => ?_)
  ·have h1 : n2 < l.length := by simpa using hc1
   have hwn2 : wr .i64 ((n2 : Int) + 1) = ((n2 + 1 : Nat) : Int) := zbr h1 hln2
   have hpn2 : wr .i64 ((n2 : Int) - 1) = (n2 : Int) - 1 := zbs h1 hln2
   rw [List.drop_eq_getElem_cons h1, m_r08_Best_loop1] at hx1
   refine .skip ?_
   obtain ⟨x2, hx2, hx1⟩ := bind_some hx1
   refine .seqM 0 (fun (j : Int × (List UInt8)) => Tryz.St_r08_Best_5 l n2 j.1 j.2) (fun j => x2 = j) (lb rfl) ?_ ?_
   ·refine .block ?_
    refine .seq ?_
    have e1 := zb6 TPromise.d l n2 h1
    refine .plx zS (And.intro e1 hwn2) [0, 5, 6, 7] ?_
    refine .cond rfl rfl (fun hc2 => ?_) (fun hc2 => ?_)
    ·replace hx2 := za0 hx2 hc2
     refine .seq ?_
     have e2 := zb6 TPromise.d l n2 h1
     refine .plx zS (And.intro e2 hwn2) [0, 7] ?_
     have e3 := zb6 TPromise.d l n2 h1
     refine .plx zS (And.intro e3 hwn2) [0, 5, 7] ?_
     refine ⟨_, ?_, (sj hx2).symm⟩
     exact .m [0, 5, 6, 7] [] []
    replace hx2 := za3 hx2 hc2
    refine .skip ?_
    refine ⟨_, ?_, (sj hx2).symm⟩
    exact .m [0, 5, 6, 7] [] []
   rintro ⟨n3, s3⟩ hj1
   subst x2
   try dsimp only at hx1
   simp only [Tryz.St_r08_Best_5]
   refine .plx zS hwn2 [0, 5, 6, 7] ?_
   refine ⟨(n2 + 1, _, _), ?_, ⟨by omega, hx1⟩, by dsimp only; omega⟩
   exact .m [0, 5, 6, 7] [] []
  have h2 : n2 = l.length := by have h2b := of_decide_eq_false hc1; omega
  rw [List.drop_of_length_le (by omega), m_r08_Best_loop1] at hx1
  refine .exit ?_
  refine ⟨_, ?_, (sj hx1).symm⟩
  exact .m [6] [] []
 rintro s1 hj2
 subst x1
 try dsimp only at h
 simp only [Tryz.St_r08_Best_1]
 refine .seq (.pl zS [6] ?_)
 have hq := sj h
 subst r
 exact .ret ⟨.inr rfl, rsi⟩
@[go_sem] def Tryz.St_attempt_nodes_1 (l1 : List Int) : St := ⟨[(2, .ref 0 1 0 l1.length (some uC))], [(0, .arr 3 1 true (l1.map (D.int .i64)))], 1⟩
@[go_sem] def Tryz.St_attempt_nodes_3 (l : List TPromise) (n1 : Nat) (l2 : List Int) : St := ⟨[(2, .ref 0 1 0 l2.length (some uC)), (5, .imm 3 (l.map TPromise.d) 4), (6, .int .i64 (l.length : Int)), (7, .int .i64 (n1 : Int))], [(0, .arr 3 1 true (l2.map (D.int .i64)))], 1⟩
@[go_sem] def Tryz.Re_attempt_nodes (r : (List Int)) : St := ⟨[(2, .ref 0 1 0 r.length (some uC))], [(0, .arr 3 1 true (r.map (D.int .i64)))], 1⟩
theorem callH_attempt_nodes (l : List TPromise) (r : (List Int)) (h : zbp l = some r) : CallH Tryz.prog 71 [.imm 3 (l.map TPromise.d) 4] [] (.ref 0 1 0 r.length (some uC)) [(0, some (.arr 3 1 true (r.map (D.int .i64))))] (0, 6) := by
 refine za8 Tryz.tmOk Tryz.func71 rfl (by decide) (lb rfl) (by simp) ?_
 intro hwf
 unfold zbp at h
 refine .ends 0 (Nat.le_refl _) ?_
 refine .seq (.pl zS [0] ?_)
 obtain ⟨x1, hx1, h⟩ := bind_some h
 refine .seqM 0 (fun (j : (List Int)) => Tryz.St_attempt_nodes_1 j) (fun j => x1 = j) (lb rfl) ?_ ?_
 ·refine .seq (.pl zS [0, 2] ?_)
  refine .block ?_
  refine .loopG 0 (fun (j : Nat × (List Int)) => Tryz.St_attempt_nodes_3 l j.1 j.2) (fun j => j.1 <= l.length /\ zas (l.drop j.1) j.2 = some x1) (fun j => l.length - j.1) (0, []) (lb rfl) ?_ ⟨Nat.zero_le _, hx1⟩ ?_
  ·refine Goes.new0 1 3 (lb rfl) ?_
   refine Goes.wk 2 _ (.ref 0 1 0 0 (some uC)) rfl (.own0 0 _ _ _ (by decide)) ?_
   exact .m [2, 5, 6, 7] [0] []
  rintro ⟨n1, l2⟩ ⟨hi1, hx1⟩
  simp only [Tryz.St_attempt_nodes_3]
  simp only at hi1 hx1
  refine .wf 6 (.int .i64 (l.length : Int)) rfl ?_
  intro hln1
  replace hln1 : (l.length : Int) <= 9223372036854775807 := by simp only [wf, wfL, IntKind.max, IntKind.min, IntKind.signed, IntKind.bits, List.length_map] at hln1; first | exact hln1.2 | exact hln1.1 | (simp at hln1; omega)
  refine .seq (.pl zS [2, 5, 6, 7] ?_)
  refine .seq ?_
  refine .cond rfl rfl (fun hc1 => ?_) (fun hc1 => ?_)
  ·have h1 : n1 < l.length := by simpa using hc1
   have hwn1 : wr .i64 ((n1 : Int) + 1) = ((n1 + 1 : Nat) : Int) := zbr h1 hln1
   have hpn1 : wr .i64 ((n1 : Int) - 1) = (n1 : Int) - 1 := zbs h1 hln1
   rw [List.drop_eq_getElem_cons h1, m_attempt_nodes_loop1_c] at hx1
   refine .skip ?_
   refine .seq (.block ?_)
   refine .seq ?_
   have e1 := zb6 TPromise.d l n1 h1
   refine .plx zS (And.intro e1 hwn1) [2, 5, 6, 7] ?_
   obtain ⟨k1, hx1⟩ := zaa hx1
   refine .plx zS hwn1 [2, 4, 5, 6, 7] ?_
   refine .plx zS hwn1 [2, 5, 6, 7] ?_
   refine ⟨(n1 + 1, _), ?_, ⟨by omega, hx1⟩, by dsimp only; omega⟩
   exact .m [2, 5, 6, 7] [3] [(3, 0)]
  have h2 : n1 = l.length := by have h2b := of_decide_eq_false hc1; omega
  rw [List.drop_of_length_le (by omega), m_attempt_nodes_loop1_n] at hx1
  refine .exit ?_
  refine ⟨_, ?_, (sj hx1).symm⟩
  exact .m [2] [0] []
 rintro l1 hj1
 subst x1
 try dsimp only at h
 simp only [Tryz.St_attempt_nodes_1]
 refine .seq (.pl zS [2] ?_)
 have hq := sj h
 subst r
 refine .ret ⟨Tryz.Re_attempt_nodes l1, ?_, .inr rfl, retH [0] ?_ ?_⟩
 ·exact .m [2] [0] []
 ·exact rsi0
 rfl
theorem callP_attempt_nodes (l : List TPromise) (r : (List Int)) (h : zbp l = some r) : CallP Tryz.prog 71 [.imm 3 (l.map TPromise.d) 4] (.imm 1 (r.map (D.int .i64)) 12) :=
 callP_frz (zap zar rfl rfl) (callH_attempt_nodes l r h)
@[go_sem] def Tryz.St_r08_nodes_1 (l1 : List Int) : St := ⟨[(3, .ref 0 1 0 l1.length (some uC))], [(0, .arr 3 1 true (l1.map (D.int .i64)))], 1⟩
@[go_sem] def Tryz.St_r08_nodes_3 (l : List TPromise) (n1 : Nat) (l2 : List Int) : St := ⟨[(0, .imm 3 (l.map TPromise.d) 4), (3, .ref 0 1 0 l2.length (some uC)), (4, .int .i64 (n1 : Int))], [(0, .arr 3 1 true (l2.map (D.int .i64)))], 1⟩
@[go_sem] def Tryz.Re_r08_nodes (r : (List Int)) : St := ⟨[(2, .ref 0 1 0 r.length (some uC))], [(0, .arr 3 1 true (r.map (D.int .i64)))], 1⟩
theorem callH_r08_nodes (l : List TPromise) (r : (List Int)) (h : m_r08_nodes l = some r) : CallH Tryz.prog 80 [.imm 3 (l.map TPromise.d) 4] [] (.ref 0 1 0 r.length (some uC)) [(0, some (.arr 3 1 true (r.map (D.int .i64))))] (0, 5) := by
 refine za8 Tryz.tmOk Tryz.func80 rfl (by decide) (lb rfl) (by simp) ?_
 intro hwf
 unfold m_r08_nodes at h
 refine .ends 0 (Nat.le_refl _) ?_
 refine .seq (.pl zS [0] ?_)
 refine .seq (.pl zS [0] ?_)
 obtain ⟨x1, hx1, h⟩ := bind_some h
 refine .seqM 0 (fun (j : (List Int)) => Tryz.St_r08_nodes_1 j) (fun j => x1 = j) (lb rfl) ?_ ?_
 ·refine .seq (.pl zS [0, 3] ?_)
  refine .block ?_
  refine .loopG 0 (fun (j : Nat × (List Int)) => Tryz.St_r08_nodes_3 l j.1 j.2) (fun j => j.1 <= l.length /\ zbd (l.drop j.1) j.2 = some x1) (fun j => l.length - j.1) (0, []) (lb rfl) ?_ ⟨Nat.zero_le _, hx1⟩ ?_
  ·refine Goes.new0 1 3 (lb rfl) ?_
   refine Goes.wk 3 _ (.ref 0 1 0 0 (some uC)) rfl (.own0 0 _ _ _ (by decide)) ?_
   exact .m [0, 3, 4] [0] []
  rintro ⟨n1, l2⟩ ⟨hi1, hx1⟩
  simp only [Tryz.St_r08_nodes_3]
  simp only at hi1 hx1
  refine .wf 0 (.imm 3 (l.map TPromise.d) 4) rfl ?_
  intro hln1
  replace hln1 : (l.length : Int) <= 9223372036854775807 := by simp only [wf, wfL, IntKind.max, IntKind.min, IntKind.signed, IntKind.bits, List.length_map] at hln1; first | exact hln1.2 | exact hln1.1 | (simp at hln1; omega)
  refine .seq (.seq ?_)
  refine .pl zS [0, 3, 4] ?_
  refine .cond rfl rfl (fun hc1 => ?_) (fun hc1 => ?_)
  ·have h1 : n1 < l.length := by simpa using hc1
   have hwn1 : wr .i64 ((n1 : Int) + 1) = ((n1 + 1 : Nat) : Int) := zbr h1 hln1
   have hpn1 : wr .i64 ((n1 : Int) - 1) = (n1 : Int) - 1 := zbs h1 hln1
   rw [List.drop_eq_getElem_cons h1, m_r08_nodes_loop1_c] at hx1
   refine .skip ?_
   refine .seq (.block ?_)
   obtain ⟨k1, hx1⟩ := zaa hx1
   have e1 := zb6 TPromise.d l n1 h1
   refine .rg zS [0, 3, 4] ?_
   refine .rnx 6 (And.intro e1 hwn1) ?_
   refine .rnx 3 (And.intro e1 hwn1) ?_
   refine .nil ⟨nofun, ?_⟩
   refine .plx zS hwn1 [0, 3, 4] ?_
   refine ⟨(n1 + 1, _), ?_, ⟨by omega, hx1⟩, by dsimp only; omega⟩
   exact .m [0, 3, 4] [2] [(2, 0)]
  have h2 : n1 = l.length := by have h2b := of_decide_eq_false hc1; omega
  rw [List.drop_of_length_le (by omega), m_r08_nodes_loop1_n] at hx1
  refine .exit ?_
  refine ⟨_, ?_, (sj hx1).symm⟩
  exact .m [3] [0] []
 rintro l1 hj1
 subst x1
 try dsimp only at h
 simp only [Tryz.St_r08_nodes_1]
 refine .seq (.pl zS [3] ?_)
 have hq := sj h
 subst r
 refine .ret ⟨Tryz.Re_r08_nodes l1, ?_, .inr rfl, retH [0] ?_ ?_⟩
 ·exact .m [2] [0] []
 ·exact rsi0
 rfl
theorem callP_r08_nodes (l : List TPromise) (r : (List Int)) (h : m_r08_nodes l = some r) : CallP Tryz.prog 80 [.imm 3 (l.map TPromise.d) 4] (.imm 1 (r.map (D.int .i64)) 12) :=
 callP_frz (zap zar rfl rfl) (callH_r08_nodes l r h)
@[go_sem] def Tryz.St_slices_Index_int_int_1 : St := ⟨[], [], 0⟩
@[go_sem] def Tryz.St_slices_Index_int_int_3 (s : List Int) (v : Int) (n1 : Nat) : St := ⟨[(0, .imm 1 (s.map (D.int .i64)) 4), (1, .int .i64 v), (7, .int .i64 (s.length : Int)), (8, .int .i64 (n1 : Int))], [], 0⟩
theorem callP_slices_Index_int_int (s : List Int) (v : Int) (r : Int) (h : m_slices_Index_int_int s v = some r) : CallP Tryz.prog 107 [.imm 1 (s.map (D.int .i64)) 4, .int .i64 v] (.int .i64 r) := by
 refine za5 Tryz.tmOk 2 Tryz.func107 rfl (by decide) rfl rfl (lb rfl) ?_
 intro hwf
 unfold m_slices_Index_int_int at h
 refine .seq (.pl zS [0, 1] ?_)
 obtain ⟨x1, hx1, h⟩ := bind_some h
 refine .seqM 0 (fun (j : Unit) => Tryz.St_slices_Index_int_int_1) (fun j => x1 = (.inr j)) (lb rfl) ?_ ?_
 ·refine .seq (.pl zS [0, 1] ?_)
  refine .block ?_
  refine .loopG 0 (fun (j : Nat) => Tryz.St_slices_Index_int_int_3 s v j) (fun j => j <= s.length /\ zak v (s.drop j) j  = some x1) (fun j => s.length - j) (0) (lb rfl) ?_ ⟨Nat.zero_le _, hx1⟩ ?_
  ·exact .m [0, 1, 7, 8] [] []
  rintro n1 ⟨hi1, hx1⟩
  simp only [Tryz.St_slices_Index_int_int_3]
  refine .wf 7 (.int .i64 (s.length : Int)) rfl ?_
  intro hln1
  replace hln1 : (s.length : Int) <= 9223372036854775807 := by simp only [wf, wfL, IntKind.max, IntKind.min, IntKind.signed, IntKind.bits, List.length_map] at hln1; first | exact hln1.2 | exact hln1.1 | (simp at hln1; omega)
  refine .seq (.pl zS [0, 1, 7, 8] ?_)
  refine .seq ?_
  refine .cond rfl rfl (fun hc1 => ?_) (fun hc1 => ?_)
  ·have h1 : n1 < s.length := by simpa using hc1
   have hwn1 : wr .i64 ((n1 : Int) + 1) = ((n1 + 1 : Nat) : Int) := zbr h1 hln1
   have hpn1 : wr .i64 ((n1 : Int) - 1) = (n1 : Int) - 1 := zbs h1 hln1
   rw [List.drop_eq_getElem_cons h1, zak] at hx1
   refine .skip ?_
   refine .seq (.block ?_)
   refine .seq (.plx zS hwn1 [0, 1, 7, 8] ?_)
   refine .seq ?_
   have e1 := zb6 (D.int .i64) s n1 h1
   refine .plx zS (And.intro e1 hwn1) [0, 1, 5, 7, 8] ?_
   refine .cond rfl rfl (fun hc2 => ?_) (fun hc2 => ?_)
   ·replace hx1 := za0 hx1 hc2
    refine .seq (.plx zS hwn1 [5] ?_)
    have hq := sj hx1
    subst x1
    try dsimp only at h
    have hq := sj h
    subst r
    exact .ret ⟨.inr rfl, rsi⟩
   replace hx1 := za3 hx1 hc2
   refine .skip ?_
   refine .plx zS hwn1 [0, 1, 7, 8] ?_
   refine ⟨n1 + 1, ?_, ⟨by omega, hx1⟩, by dsimp only; omega⟩
   exact .m [0, 1, 7, 8] [] []
  have h2 : n1 = s.length := by have h2b := of_decide_eq_false hc1; omega
  rw [List.drop_of_length_le (by omega), zak] at hx1
  refine .exit ?_
  refine ⟨_, ?_, (sj hx1).symm⟩
  exact .m [] [] []
 rintro ⟨⟩ hj1
 subst x1
 try dsimp only at h
 simp only [Tryz.St_slices_Index_int_int_1]
 refine .seq (.pl zS [] ?_)
 have hq := sj h
 subst r
 exact .ret ⟨.inr rfl, rsi⟩
@[go_sem] def Tryz.St_r01_SameInts_1 : St := ⟨[], [], 0⟩
@[go_sem] def Tryz.St_r01_SameInts_3 (a : List Int) (b : List Int) (n1 : Nat) : St := ⟨[(0, .imm 1 (a.map (D.int .i64)) 4), (1, .imm 1 (b.map (D.int .i64)) 4), (5, .int .i64 (n1 : Int))], [], 0⟩
theorem callP_r01_SameInts (a : List Int) (b : List Int) (r : Bool) (h : zcf a b = some r) : CallP Tryz.prog 20 [.imm 1 (a.map (D.int .i64)) 4, .imm 1 (b.map (D.int .i64)) 4] (.bool r) := by
 refine za5 Tryz.tmOk 2 Tryz.func20 rfl (by decide) rfl rfl (lb rfl) ?_
 intro hwf
 unfold zcf at h
 refine .seq (.pl zS [0, 1] ?_)
 refine .seq (.seq ?_)
 refine .pl zS [0, 1] ?_
 refine .cond rfl rfl (fun hc1 => ?_) (fun hc1 => ?_)
 ·replace h := za0 h hc1
  refine .seq (.pl zS [] ?_)
  have hq := sj h
  subst r
  exact .ret ⟨.inr rfl, rsi⟩
 replace h := za3 h hc1
 refine .skip ?_
 obtain ⟨x1, hx1, h⟩ := bind_some h
 refine .seqM 0 (fun (j : Unit) => Tryz.St_r01_SameInts_1) (fun j => x1 = (.inr j)) (lb rfl) ?_ ?_
 ·refine .seq (.pl zS [0, 1] ?_)
  refine .block ?_
  refine .loopG 0 (fun (j : Nat) => Tryz.St_r01_SameInts_3 a b j) (fun j => j <= a.length /\ zbg b (a.drop j) j  = some x1) (fun j => a.length - j) (0) (lb rfl) ?_ ⟨Nat.zero_le _, hx1⟩ ?_
  ·exact .m [0, 1, 5] [] []
  rintro n1 ⟨hi1, hx1⟩
  simp only [Tryz.St_r01_SameInts_3]
  refine .wf 0 (.imm 1 (a.map (D.int .i64)) 4) rfl ?_
  intro hln1
  replace hln1 : (a.length : Int) <= 9223372036854775807 := by simp only [wf, wfL, IntKind.max, IntKind.min, IntKind.signed, IntKind.bits, List.length_map] at hln1; first | exact hln1.2 | exact hln1.1 | (simp at hln1; omega)
  refine .seq (.seq ?_)
  refine .pl zS [0, 1, 5] ?_
  refine .cond rfl rfl (fun hc2 => ?_) (fun hc2 => ?_)
  ·have h1 : n1 < a.length := by simpa using hc2
   have hwn1 : wr .i64 ((n1 : Int) + 1) = ((n1 + 1 : Nat) : Int) := zbr h1 hln1
   have hpn1 : wr .i64 ((n1 : Int) - 1) = (n1 : Int) - 1 := zbs h1 hln1
   rw [List.drop_eq_getElem_cons h1, zbg] at hx1
   refine .skip ?_
   refine .seq (.block ?_)
   refine .seq ?_
   obtain ⟨k1, hx1⟩ := zaa hx1
   have e1 := zb6 (D.int .i64) a n1 h1
   have e2 := nth_mapD (D.int .i64) b n1
   replace e2 := e2 k1
   refine .rg zS [0, 1, 5] ?_
   refine .rdx 6 (And.intro e1 (And.intro e2 hwn1)) ?_
   refine .rdx 3 (And.intro e1 (And.intro e2 hwn1)) ?_
   refine .nd ?_
   refine .cond rfl rfl (fun hc3 => ?_) (fun hc3 => ?_)
   ·replace hx1 := za0 hx1 hc3
    refine .seq (.plx zS hwn1 [] ?_)
    have hq := sj hx1
    subst x1
    try dsimp only at h
    have hq := sj h
    subst r
    exact .ret ⟨.inr rfl, rsi⟩
   replace hx1 := za3 hx1 hc3
   refine .skip ?_
   refine .plx zS hwn1 [0, 1, 5] ?_
   refine ⟨n1 + 1, ?_, ⟨by omega, hx1⟩, by dsimp only; omega⟩
   exact .m [0, 1, 5] [] []
  have h2 : n1 = a.length := by have h2b := of_decide_eq_false hc2; omega
  rw [List.drop_of_length_le (by omega), zbg] at hx1
  refine .exit ?_
  refine ⟨_, ?_, (sj hx1).symm⟩
  exact .m [] [] []
 rintro ⟨⟩ hj1
 subst x1
 try dsimp only at h
 simp only [Tryz.St_r01_SameInts_1]
 refine .seq (.pl zS [] ?_)
 have hq := sj h
 subst r
 exact .ret ⟨.inr rfl, rsi⟩
theorem callP_slices_Contains_int_int (a0 : List Int) (a1 : Int) (r : Bool) (h : zce a0 a1 = some r) : CallP Tryz.prog 99 [.imm 1 (a0.map (D.int .i64)) 4, .int .i64 a1] (.bool r) := by
 refine za5 Tryz.tmOk 2 Tryz.func99 rfl (by decide) rfl rfl (lb rfl) ?_
 intro hwf
 unfold zce at h
 refine .seq (.pl zS [0, 1] ?_)
 refine .seq ?_
 obtain ⟨v1, hv1, h⟩ := bind_some h
 refine .rg zS [0, 1] ?_
 refine .rn 2 ?_
 refine .call (r := .int .i64 v1) rfl rfl rfl rfl rfl rfl (callP_slices_Index_int_int a0 a1 v1 hv1) ?_
 refine .rn 2 ?_
 refine .nil ⟨nofun, ?_⟩
 have hq := sj h
 subst r
 exact .ret ⟨.inr rfl, rsi⟩
theorem callP_quorum_Has (a0 : List Int) (a1 : Int) (r : Bool) (h : m_quorum_Has a0 a1 = some r) : CallP Tryz.prog 87 [.imm 1 (a0.map (D.int .i64)) 4, .int .i64 a1] (.bool r) := by
 refine za5 Tryz.tmOk 2 Tryz.func87 rfl (by decide) rfl rfl (lb rfl) ?_
 intro hwf
 unfold m_quorum_Has at h
 refine .seq (.pl zS [0, 1] ?_)
 refine .seq ?_
 obtain ⟨v1, hv1, h⟩ := bind_some h
 refine .rg zS [0, 1] ?_
 refine .rn 2 ?_
 refine .call (r := .bool v1) rfl rfl rfl rfl rfl rfl (callP_slices_Contains_int_int a0 a1 v1 hv1) ?_
 refine .rn 1 ?_
 refine .nil ⟨nofun, ?_⟩
 have hq := sj h
 subst r
 exact .ret ⟨.inr rfl, rsi⟩
@[go_sem] def Tryz.St_quorum_Check_1 (n1 : Int) : St := ⟨[(3, .int .i64 n1)], [], 0⟩
@[go_sem] def Tryz.St_quorum_Check_3 (a0 : List Int) (n3 : Nat) (n2 : Int) : St := ⟨[(3, .int .i64 n2), (9, .imm 1 (a0.map (D.int .i64)) 4), (10, .int .i64 (a0.length : Int)), (11, .int .i64 (n3 : Int))], [], 0⟩
theorem callP_quorum_Check (a0 : List Int) (r : Int) (h : zaz a0 = some r) : CallP Tryz.prog 37 [.imm 1 (a0.map (D.int .i64)) 4] (.int .i64 r) := by
 refine za5 Tryz.tmOk 2 Tryz.func37 rfl (by decide) rfl rfl (lb rfl) ?_
 intro hwf
 unfold zaz at h
 refine .seq (.pl zS [0] ?_)
 refine .seq (.seq ?_)
 refine .pl zS [0] ?_
 refine .cond rfl rfl (fun hc1 => ?_) (fun hc1 => ?_)
 ·replace h := za0 h hc1
  refine .seq (.pl zS [] ?_)
  have hq := sj h
  subst r
  exact .ret ⟨.inr rfl, rsi⟩
 replace h := za3 h hc1
 refine .skip ?_
 refine .seq (.pl zS [0] ?_)
 obtain ⟨x1, hx1, h⟩ := bind_some h
 refine .seqM 0 (fun (j : Int) => Tryz.St_quorum_Check_1 j) (fun j => x1 = (.inr j)) (lb rfl) ?_ ?_
 ·refine .seq (.pl zS [0, 3] ?_)
  refine .block ?_
  refine .loopG 0 (fun (j : Nat × Int) => Tryz.St_quorum_Check_3 a0 j.1 j.2) (fun j => j.1 <= a0.length /\ zb2 (a0.drop j.1) j.2 = some x1) (fun j => a0.length - j.1) (0, (-1)) (lb rfl) ?_ ⟨Nat.zero_le _, hx1⟩ ?_
  ·exact .m [3, 9, 10, 11] [] []
  rintro ⟨n3, n2⟩ ⟨hi1, hx1⟩
  simp only [Tryz.St_quorum_Check_3]
  simp only at hi1 hx1
  refine .wf 10 (.int .i64 (a0.length : Int)) rfl ?_
  intro hln3
  replace hln3 : (a0.length : Int) <= 9223372036854775807 := by simp only [wf, wfL, IntKind.max, IntKind.min, IntKind.signed, IntKind.bits, List.length_map] at hln3; first | exact hln3.2 | exact hln3.1 | (simp at hln3; omega)
  refine .seq (.pl zS [3, 9, 10, 11] ?_)
  refine .seq ?_
  refine .cond rfl rfl (fun hc2 => ?_) (fun hc2 => ?_)
  ·have h1 : n3 < a0.length := by simpa using hc2
   have hwn3 : wr .i64 ((n3 : Int) + 1) = ((n3 + 1 : Nat) : Int) := zbr h1 hln3
   have hpn3 : wr .i64 ((n3 : Int) - 1) = (n3 : Int) - 1 := zbs h1 hln3
   rw [List.drop_eq_getElem_cons h1, zb2] at hx1
   refine .skip ?_
   refine .seq (.block ?_)
   refine .seq ?_
   have e1 := zb6 (D.int .i64) a0 n3 h1
   refine .plx zS (And.intro e1 hwn3) [3, 9, 10, 11] ?_
   refine .seq (.seq ?_)
   refine .plx zS hwn3 [3, 5, 9, 10, 11] ?_
   refine .cond rfl rfl (fun hc3 => ?_) (fun hc3 => ?_)
   ·replace hx1 := za0 hx1 hc3
    refine .seq (.plx zS hwn3 [] ?_)
    have hq := sj hx1
    subst x1
    try dsimp only at h
    have hq := sj h
    subst r
    exact .ret ⟨.inr rfl, rsi⟩
   replace hx1 := za3 hx1 hc3
   refine .skip ?_
   refine .plx zS hwn3 [5, 9, 10, 11] ?_
   refine .plx zS hwn3 [3, 9, 10, 11] ?_
   refine ⟨(n3 + 1, _), ?_, ⟨by omega, hx1⟩, by dsimp only; omega⟩
   exact .m [3, 9, 10, 11] [] []
  have h2 : n3 = a0.length := by have h2b := of_decide_eq_false hc2; omega
  rw [List.drop_of_length_le (by omega), zb2] at hx1
  refine .exit ?_
  refine ⟨_, ?_, (sj hx1).symm⟩
  exact .m [3] [] []
 rintro n1 hj1
 subst x1
 try dsimp only at h
 simp only [Tryz.St_quorum_Check_1]
 refine .seq (.seq ?_)
 refine .pl zS [3] ?_
 refine .cond rfl rfl (fun hc4 => ?_) (fun hc4 => ?_)
 ·replace h := za0 h hc4
  refine .seq (.pl zS [] ?_)
  have hq := sj h
  subst r
  exact .ret ⟨.inr rfl, rsi⟩
 replace h := za3 h hc4
 refine .skip ?_
 refine .seq (.pl zS [] ?_)
 have hq := sj h
 subst r
 exact .ret ⟨.inr rfl, rsi⟩
theorem callP_ballot_Of (a0 : Int) (r : Int × Int × Int) (h : m_ballot_Of a0 = some r) : CallP Tryz.prog 40 [.int .i64 a0] (.tuple [.int .i64 r.1, .int .i64 r.2.1, .int .i64 r.2.2]) := by
 refine za5 Tryz.tmOk 2 Tryz.func40 rfl (by decide) rfl rfl (lb rfl) ?_
 intro hwf
 unfold m_ballot_Of at h
 refine .seq (.pl zS [0] ?_)
 refine .seq (.pl zS [0] ?_)
 refine .seq (.seq ?_)
 obtain ⟨v1, hv1, h⟩ := bind_some h
 refine .rg zS [2, 3] ?_
 refine .rn 8 ?_
 refine .gcall (r := .bool v1) rfl rfl rfl rfl rfl (fun hg => ⟨[], [.int .i64 (a0.tmod 8)], _, rfl, gd hg, rfl, (callP_ballot_node (a0.tmod 8) v1 (za0 hv1 hg))⟩) ?_
 refine .rn 2 ?_
 refine .nil ⟨nofun, ?_⟩
 refine .cond rfl rfl (fun hc1 => ?_) (fun hc1 => ?_)
 ·replace h := za0 h hc1
  refine .seq (.pl zS [] ?_)
  have hq := sj h
  subst r
  exact .ret ⟨.inr rfl, rsi⟩
 replace h := za3 h hc1
 refine .skip ?_
 refine .seq (.pl zS [2, 3] ?_)
 have hq := sj h
 subst r
 exact .ret ⟨.inr rfl, rsi⟩
theorem zc3 (a0 : Int) (r : Int) (h : zbc a0 = some r) : CallP Tryz.prog 69 [.int .i64 a0] (.int .i64 r) := by
 refine za5 Tryz.tmOk 2 Tryz.func69 rfl (by decide) rfl rfl (lb rfl) ?_
 intro hwf
 unfold zbc at h
 refine .seq (.pl zS [0] ?_)
 refine .seq (.seq ?_)
 obtain ⟨v1, hv1, h⟩ := bind_some h
 refine .rg zS [0] ?_
 refine .rn 1 ?_
 refine .call (r := .tuple [.int .i64 v1.1, .int .i64 v1.2.1, .int .i64 v1.2.2]) rfl rfl rfl rfl rfl rfl (callP_ballot_Of a0 v1 hv1) ?_
 refine .rn 7 ?_
 refine .nil ⟨nofun, ?_⟩
 refine .seq (.pl zS [5] ?_)
 refine .cond rfl rfl (fun hc1 => ?_) (fun hc1 => ?_)
 ·replace h := za0 h hc1
  refine .seq (.pl zS [5] ?_)
  have hq := sj h
  subst r
  exact .ret ⟨.inr rfl, rsi⟩
 replace h := za3 h hc1
 refine .skip ?_
 refine .seq (.pl zS [] ?_)
 have hq := sj h
 subst r
 exact .ret ⟨.inr rfl, rsi⟩
theorem callP_quorum_Need (a0 : List Int) (r : Int × Int) (h : m_quorum_Need a0 = some r) : CallP Tryz.prog 102 [.imm 1 (a0.map (D.int .i64)) 4] (.tuple [.int .i64 r.1, .int .i64 r.2]) := by
 refine za5 Tryz.tmOk 2 Tryz.func102 rfl (by decide) rfl rfl (lb rfl) ?_
 intro hwf
 unfold m_quorum_Need at h
 refine .seq (.pl zS [0] ?_)
 refine .seq (.seq ?_)
 obtain ⟨v1, hv1, h⟩ := bind_some h
 refine .rg zS [0] ?_
 refine .rn 1 ?_
 refine .call (r := .int .i64 v1) rfl rfl rfl rfl rfl rfl (callP_quorum_Check a0 v1 hv1) ?_
 refine .rn 1 ?_
 refine .nil ⟨nofun, ?_⟩
 refine .seq (.pl zS [0, 4] ?_)
 refine .cond rfl rfl (fun hc1 => ?_) (fun hc1 => ?_)
 ·replace h := za0 h hc1
  refine .seq (.pl zS [4] ?_)
  have hq := sj h
  subst r
  exact .ret ⟨.inr rfl, rsi⟩
 replace h := za3 h hc1
 refine .skip ?_
 refine .seq (.pl zS [0] ?_)
 have hq := sj h
 subst r
 exact .ret ⟨.inr rfl, rsi⟩
@[go_sem] def Tryz.St_r06_Has_1 : St := ⟨[], [], 0⟩
@[go_sem] def Tryz.St_r06_Has_3 (a0 : List Int) (a1 : Int) (n1 : Nat) : St := ⟨[(0, .imm 1 (a0.map (D.int .i64)) 4), (1, .int .i64 a1), (5, .int .i64 (n1 : Int))], [], 0⟩
theorem callP_r06_Has (a0 : List Int) (a1 : Int) (r : Bool) (h : m_r06_Has a0 a1 = some r) : CallP Tryz.prog 92 [.imm 1 (a0.map (D.int .i64)) 4, .int .i64 a1] (.bool r) := by
 refine za5 Tryz.tmOk 2 Tryz.func92 rfl (by decide) rfl rfl (lb rfl) ?_
 intro hwf
 unfold m_r06_Has at h
 refine .seq (.pl zS [0, 1] ?_)
 obtain ⟨x1, hx1, h⟩ := bind_some h
 refine .seqM 0 (fun (j : Unit) => Tryz.St_r06_Has_1) (fun j => x1 = (.inr j)) (lb rfl) ?_ ?_
 ·refine .seq (.pl zS [0, 1] ?_)
  refine .block ?_
  refine .loopG 0 (fun (j : Nat) => Tryz.St_r06_Has_3 a0 a1 j) (fun j => j <= a0.length /\ m_r06_Has_loop1 a1 (a0.drop j)  = some x1) (fun j => a0.length - j) (0) (lb rfl) ?_ ⟨Nat.zero_le _, hx1⟩ ?_
  ·exact .m [0, 1, 5] [] []
  rintro n1 ⟨hi1, hx1⟩
  simp only [Tryz.St_r06_Has_3]
  refine .wf 0 (.imm 1 (a0.map (D.int .i64)) 4) rfl ?_
  intro hln1
  replace hln1 : (a0.length : Int) <= 9223372036854775807 := by simp only [wf, wfL, IntKind.max, IntKind.min, IntKind.signed, IntKind.bits, List.length_map] at hln1; first | exact hln1.2 | exact hln1.1 | (simp at hln1; omega)
  refine .seq (.seq ?_)
  refine .pl zS [0, 1, 5] ?_
  refine .cond rfl rfl (fun hc1 => ?_) (fun hc1 => ?_)
  ·have h1 : n1 < a0.length := by simpa using hc1
   have hwn1 : wr .i64 ((n1 : Int) + 1) = ((n1 + 1 : Nat) : Int) := zbr h1 hln1
   have hpn1 : wr .i64 ((n1 : Int) - 1) = (n1 : Int) - 1 := zbs h1 hln1
   rw [List.drop_eq_getElem_cons h1, m_r06_Has_loop1] at hx1
   refine .skip ?_
   refine .seq (.block ?_)
   refine .seq ?_
   have e1 := zb6 (D.int .i64) a0 n1 h1
   refine .plx zS (And.intro e1 hwn1) [0, 1, 5] ?_
   refine .cond rfl rfl (fun hc2 => ?_) (fun hc2 => ?_)
   ·replace hx1 := za0 hx1 hc2
    refine .seq (.plx zS hwn1 [] ?_)
    have hq := sj hx1
    subst x1
    try dsimp only at h
    have hq := sj h
    subst r
    exact .ret ⟨.inr rfl, rsi⟩
   replace hx1 := za3 hx1 hc2
   refine .skip ?_
   refine .plx zS hwn1 [0, 1, 5] ?_
   refine ⟨n1 + 1, ?_, ⟨by omega, hx1⟩, by dsimp only; omega⟩
   exact .m [0, 1, 5] [] []
  have h2 : n1 = a0.length := by have h2b := of_decide_eq_false hc1; omega
  rw [List.drop_of_length_le (by omega), m_r06_Has_loop1] at hx1
  refine .exit ?_
  refine ⟨_, ?_, (sj hx1).symm⟩
  exact .m [] [] []
 rintro ⟨⟩ hj1
 subst x1
 try dsimp only at h
 simp only [Tryz.St_r06_Has_1]
 refine .seq (.pl zS [] ?_)
 have hq := sj h
 subst r
 exact .ret ⟨.inr rfl, rsi⟩
@[go_sem] def Tryz.St_r06_Within_1 : St := ⟨[], [], 0⟩
@[go_sem] def Tryz.St_r06_Within_3 (a0 : List Int) (a1 : List Int) (n1 : Nat) : St := ⟨[(0, .imm 1 (a0.map (D.int .i64)) 4), (1, .imm 1 (a1.map (D.int .i64)) 4), (5, .int .i64 (n1 : Int))], [], 0⟩
theorem callP_r06_Within (a0 : List Int) (a1 : List Int) (r : Bool) (h : m_r06_Within a0 a1 = some r) : CallP Tryz.prog 95 [.imm 1 (a0.map (D.int .i64)) 4, .imm 1 (a1.map (D.int .i64)) 4] (.bool r) := by
 refine za5 Tryz.tmOk 2 Tryz.func95 rfl (by decide) rfl rfl (lb rfl) ?_
 intro hwf
 unfold m_r06_Within at h
 refine .seq (.pl zS [0, 1] ?_)
 obtain ⟨x1, hx1, h⟩ := bind_some h
 refine .seqM 0 (fun (j : Unit) => Tryz.St_r06_Within_1) (fun j => x1 = (.inr j)) (lb rfl) ?_ ?_
 ·refine .seq (.pl zS [0, 1] ?_)
  refine .block ?_
  refine .loopG 0 (fun (j : Nat) => Tryz.St_r06_Within_3 a0 a1 j) (fun j => j <= a0.length /\ zbz a1 (a0.drop j)  = some x1) (fun j => a0.length - j) (0) (lb rfl) ?_ ⟨Nat.zero_le _, hx1⟩ ?_
  ·exact .m [0, 1, 5] [] []
  rintro n1 ⟨hi1, hx1⟩
  simp only [Tryz.St_r06_Within_3]
  refine .wf 0 (.imm 1 (a0.map (D.int .i64)) 4) rfl ?_
  intro hln1
  replace hln1 : (a0.length : Int) <= 9223372036854775807 := by simp only [wf, wfL, IntKind.max, IntKind.min, IntKind.signed, IntKind.bits, List.length_map] at hln1; first | exact hln1.2 | exact hln1.1 | (simp at hln1; omega)
  refine .seq (.seq ?_)
  refine .pl zS [0, 1, 5] ?_
  refine .cond rfl rfl (fun hc1 => ?_) (fun hc1 => ?_)
  ·have h1 : n1 < a0.length := by simpa using hc1
   have hwn1 : wr .i64 ((n1 : Int) + 1) = ((n1 + 1 : Nat) : Int) := zbr h1 hln1
   have hpn1 : wr .i64 ((n1 : Int) - 1) = (n1 : Int) - 1 := zbs h1 hln1
   rw [List.drop_eq_getElem_cons h1, zbz] at hx1
   refine .skip ?_
   refine .seq (.block ?_)
   refine .seq ?_
   obtain ⟨v1, hv1, hx1⟩ := bind_some hx1
   have e1 := zb6 (D.int .i64) a0 n1 h1
   refine .rg zS [0, 1, 5] ?_
   refine .rnx 5 (And.intro e1 hwn1) ?_
   refine .call (r := .bool v1) rfl rfl rfl rfl rfl rfl (callP_r06_Has a1 (a0[n1]) v1 hv1) ?_
   refine .rnx 1 (And.intro e1 hwn1) ?_
   refine .nil ⟨nofun, ?_⟩
   refine .cond rfl rfl (fun hc2 => ?_) (fun hc2 => ?_)
   ·replace hx1 := za0 hx1 hc2
    refine .seq (.plx zS hwn1 [] ?_)
    have hq := sj hx1
    subst x1
    try dsimp only at h
    have hq := sj h
    subst r
    exact .ret ⟨.inr rfl, rsi⟩
   replace hx1 := za3 hx1 hc2
   refine .skip ?_
   refine .plx zS hwn1 [0, 1, 5] ?_
   refine ⟨n1 + 1, ?_, ⟨by omega, hx1⟩, by dsimp only; omega⟩
   exact .m [0, 1, 5] [] []
  have h2 : n1 = a0.length := by have h2b := of_decide_eq_false hc1; omega
  rw [List.drop_of_length_le (by omega), zbz] at hx1
  refine .exit ?_
  refine ⟨_, ?_, (sj hx1).symm⟩
  exact .m [] [] []
 rintro ⟨⟩ hj1
 subst x1
 try dsimp only at h
 simp only [Tryz.St_r06_Within_1]
 refine .seq (.pl zS [] ?_)
 have hq := sj h
 subst r
 exact .ret ⟨.inr rfl, rsi⟩
@[go_sem] def Tryz.St_r06_May_1 (a0 : List Int) : St := ⟨[(0, .imm 1 (a0.map (D.int .i64)) 4)], [], 0⟩
@[go_sem] def Tryz.St_r06_May_3 (a0 : List Int) (n1 : Nat) : St := ⟨[(0, .imm 1 (a0.map (D.int .i64)) 4), (3, .int .i64 (n1 : Int))], [], 0⟩
theorem callP_r06_May (a0 : List Int) (r : Bool) (h : m_r06_May a0 = some r) : CallP Tryz.prog 43 [.imm 1 (a0.map (D.int .i64)) 4] (.bool r) := by
 refine za5 Tryz.tmOk 2 Tryz.func43 rfl (by decide) rfl rfl (lb rfl) ?_
 intro hwf
 unfold m_r06_May at h
 refine .seq (.pl zS [0] ?_)
 obtain ⟨x1, hx1, h⟩ := bind_some h
 refine .seqM 0 (fun (j : Unit) => Tryz.St_r06_May_1 a0) (fun j => x1 = (.inr j)) (lb rfl) ?_ ?_
 ·refine .seq (.pl zS [0] ?_)
  refine .block ?_
  refine .loopG 0 (fun (j : Nat) => Tryz.St_r06_May_3 a0 j) (fun j => j <= a0.length /\ m_r06_May_loop1 a0 (a0.drop j) j  = some x1) (fun j => a0.length - j) (0) (lb rfl) ?_ ⟨Nat.zero_le _, hx1⟩ ?_
  ·exact .m [0, 3] [] []
  rintro n1 ⟨hi1, hx1⟩
  simp only [Tryz.St_r06_May_3]
  refine .wf 0 (.imm 1 (a0.map (D.int .i64)) 4) rfl ?_
  intro hln1
  replace hln1 : (a0.length : Int) <= 9223372036854775807 := by simp only [wf, wfL, IntKind.max, IntKind.min, IntKind.signed, IntKind.bits, List.length_map] at hln1; first | exact hln1.2 | exact hln1.1 | (simp at hln1; omega)
  refine .seq (.seq ?_)
  refine .pl zS [0, 3] ?_
  refine .cond rfl rfl (fun hc1 => ?_) (fun hc1 => ?_)
  ·have h1 : n1 < a0.length := by simpa using hc1
   have hwn1 : wr .i64 ((n1 : Int) + 1) = ((n1 + 1 : Nat) : Int) := zbr h1 hln1
   have hpn1 : wr .i64 ((n1 : Int) - 1) = (n1 : Int) - 1 := zbs h1 hln1
   rw [List.drop_eq_getElem_cons h1, m_r06_May_loop1] at hx1
   refine .skip ?_
   refine .seq (.block ?_)
   refine .seq ?_
   have e1 := zb6 (D.int .i64) a0 n1 h1
   have e2 := zb6 (D.int .i64) a0 n1 h1
   have e3 := zb6 (D.int .i64) a0 n1 h1
   have e4 := nth_mapD (D.int .i64) a0 (n1 - 1) (by omega)
   refine .rg zS [0, 3] ?_
   refine .rdx 6 (And.intro e1 (And.intro e2 (And.intro e3 (And.intro e4 (And.intro hpn1 hwn1))))) ?_
   refine .rdx 6 (And.intro e1 (And.intro e2 (And.intro e3 (And.intro e4 (And.intro hpn1 hwn1))))) ?_
   refine .rdx 6 (And.intro e1 (And.intro e2 (And.intro e3 (And.intro e4 (And.intro hpn1 hwn1))))) ?_
   refine .rdx 6 (And.intro e1 (And.intro e2 (And.intro e3 (And.intro e4 (And.intro hpn1 hwn1))))) ?_
   refine .rdx 4 (And.intro e1 (And.intro e2 (And.intro e3 (And.intro e4 (And.intro hpn1 hwn1))))) ?_
   refine .nd ?_
   refine .cond rfl rfl (fun hc2 => ?_) (fun hc2 => ?_)
   ·replace hx1 := za0 hx1 hc2
    refine .seq (.plx zS hwn1 [] ?_)
    have hq := sj hx1
    subst x1
    try dsimp only at h
    have hq := sj h
    subst r
    exact .ret ⟨.inr rfl, rsi⟩
   replace hx1 := za3 hx1 hc2
   refine .skip ?_
   refine .plx zS hwn1 [0, 3] ?_
   refine ⟨n1 + 1, ?_, ⟨by omega, hx1⟩, by dsimp only; omega⟩
   exact .m [0, 3] [] []
  have h2 : n1 = a0.length := by have h2b := of_decide_eq_false hc1; omega
  rw [List.drop_of_length_le (by omega), m_r06_May_loop1] at hx1
  refine .exit ?_
  refine ⟨_, ?_, (sj hx1).symm⟩
  exact .m [0] [] []
 rintro ⟨⟩ hj1
 subst x1
 try dsimp only at h
 simp only [Tryz.St_r06_May_1]
 refine .seq ?_
 refine .rg zS [0] ?_
 refine .rn 6 ?_
 refine .rn 3 ?_
 refine .nil ⟨nofun, ?_⟩
 have hq := sj h
 subst r
 exact .ret ⟨.inr rfl, rsi⟩
theorem callP_r06_Check (a0 : List Int) (r : Int) (h : m_r06_Check a0 = some r) : CallP Tryz.prog 52 [.imm 1 (a0.map (D.int .i64)) 4] (.int .i64 r) := by
 refine za5 Tryz.tmOk 2 Tryz.func52 rfl (by decide) rfl rfl (lb rfl) ?_
 intro hwf
 unfold m_r06_Check at h
 refine .seq (.pl zS [0] ?_)
 refine .seq (.seq ?_)
 refine .pl zS [0] ?_
 refine .cond rfl rfl (fun hc1 => ?_) (fun hc1 => ?_)
 ·replace h := za0 h hc1
  refine .seq (.pl zS [] ?_)
  have hq := sj h
  subst r
  exact .ret ⟨.inr rfl, rsi⟩
 replace h := za3 h hc1
 refine .skip ?_
 refine .seq (.seq ?_)
 obtain ⟨v1, hv1, h⟩ := bind_some h
 refine .rg zS [0] ?_
 refine .rn 1 ?_
 refine .call (r := .bool v1) rfl rfl rfl rfl rfl rfl (callP_r06_May a0 v1 hv1) ?_
 refine .rn 1 ?_
 refine .nil ⟨nofun, ?_⟩
 refine .cond rfl rfl (fun hc2 => ?_) (fun hc2 => ?_)
 ·replace h := za0 h hc2
  refine .seq (.pl zS [] ?_)
  have hq := sj h
  subst r
  exact .ret ⟨.inr rfl, rsi⟩
 replace h := za3 h hc2
 refine .skip ?_
 refine .seq (.pl zS [] ?_)
 have hq := sj h
 subst r
 exact .ret ⟨.inr rfl, rsi⟩
@[go_sem] def Tryz.St_r06_Counts_1 (a0 : List Int) (n1 : Int) : St := ⟨[(0, .imm 1 (a0.map (D.int .i64)) 4), (5, .int .i64 n1)], [], 0⟩
@[go_sem] def Tryz.St_r06_Counts_3 (a0 : List Int) (a1 : List Int) (n3 : Nat) (n2 : Int) : St := ⟨[(0, .imm 1 (a0.map (D.int .i64)) 4), (1, .imm 1 (a1.map (D.int .i64)) 4), (5, .int .i64 n2), (6, .int .i64 (n3 : Int))], [], 0⟩
@[go_sem] def Tryz.St_r06_Counts_5 (a0 : List Int) (a1 : List Int) (n3 : Nat) (n4 : Int) : St := ⟨[(0, .imm 1 (a0.map (D.int .i64)) 4), (1, .imm 1 (a1.map (D.int .i64)) 4), (5, .int .i64 n4), (6, .int .i64 (n3 : Int))], [], 0⟩
theorem callP_r06_Counts (a0 : List Int) (a1 : List Int) (r : Bool) (h : m_r06_Counts a0 a1 = some r) : CallP Tryz.prog 82 [.imm 1 (a0.map (D.int .i64)) 4, .imm 1 (a1.map (D.int .i64)) 4] (.bool r) := by
 refine za5 Tryz.tmOk 2 Tryz.func82 rfl (by decide) rfl rfl (lb rfl) ?_
 intro hwf
 unfold m_r06_Counts at h
 refine .seq (.pl zS [0, 1] ?_)
 refine .seq (.pl zS [0, 1] ?_)
 obtain ⟨x1, hx1, h⟩ := bind_some h
 refine .seqM 0 (fun (j : Int) => Tryz.St_r06_Counts_1 a0 j) (fun j => x1 = j) (lb rfl) ?_ ?_
 ·refine .seq (.pl zS [0, 1, 5] ?_)
  refine .block ?_
  refine .loopG 0 (fun (j : Nat × Int) => Tryz.St_r06_Counts_3 a0 a1 j.1 j.2) (fun j => j.1 <= a0.length /\ zbo a1 (a0.drop j.1) j.2 = some x1) (fun j => a0.length - j.1) (0, 0) (lb rfl) ?_ ⟨Nat.zero_le _, hx1⟩ ?_
  ·exact .m [0, 1, 5, 6] [] []
  rintro ⟨n3, n2⟩ ⟨hi1, hx1⟩
  simp only [Tryz.St_r06_Counts_3]
  simp only at hi1 hx1
  refine .wf 0 (.imm 1 (a0.map (D.int .i64)) 4) rfl ?_
  intro hln3
  replace hln3 : (a0.length : Int) <= 9223372036854775807 := by simp only [wf, wfL, IntKind.max, IntKind.min, IntKind.signed, IntKind.bits, List.length_map] at hln3; first | exact hln3.2 | exact hln3.1 | (simp at hln3; omega)
  refine .seq (.seq ?_)
  refine .pl zS [0, 1, 5, 6] ?_
  refine .cond rfl rfl (fun hc1 => ?_) (fun hc1 => ?_)
  ·have h1 : n3 < a0.length := by simpa using hc1
   have hwn3 : wr .i64 ((n3 : Int) + 1) = ((n3 + 1 : Nat) : Int) := zbr h1 hln3
   have hpn3 : wr .i64 ((n3 : Int) - 1) = (n3 : Int) - 1 := zbs h1 hln3
   rw [List.drop_eq_getElem_cons h1, zbo] at hx1
   refine .skip ?_
   obtain ⟨x2, hx2, hx1⟩ := bind_some hx1
   refine .seqM 0 (fun (j : Int) => Tryz.St_r06_Counts_5 a0 a1 n3 j) (fun j => x2 = j) (lb rfl) ?_ ?_
   ·refine .block ?_
    refine .seq ?_
    obtain ⟨v1, hv1, hx2⟩ := bind_some hx2
    have e1 := zb6 (D.int .i64) a0 n3 h1
    refine .rg zS [0, 1, 5, 6] ?_
    refine .rnx 5 (And.intro e1 hwn3) ?_
    refine .call (r := .bool v1) rfl rfl rfl rfl rfl rfl (callP_r06_Has a1 (a0[n3]) v1 hv1) ?_
    refine .nil ⟨nofun, ?_⟩
    refine .cond rfl rfl (fun hc2 => ?_) (fun hc2 => ?_)
    ·replace hx2 := za0 hx2 hc2
     refine .plx zS hwn3 [0, 1, 5, 6] ?_
     refine ⟨_, ?_, (sj hx2).symm⟩
     exact .m [0, 1, 5, 6] [] []
    replace hx2 := za3 hx2 hc2
    refine .skip ?_
    refine ⟨_, ?_, (sj hx2).symm⟩
    exact .m [0, 1, 5, 6] [] []
   rintro n4 hj1
   subst x2
   try dsimp only at hx1
   simp only [Tryz.St_r06_Counts_5]
   refine .plx zS hwn3 [0, 1, 5, 6] ?_
   refine ⟨(n3 + 1, _), ?_, ⟨by omega, hx1⟩, by dsimp only; omega⟩
   exact .m [0, 1, 5, 6] [] []
  have h2 : n3 = a0.length := by have h2b := of_decide_eq_false hc1; omega
  rw [List.drop_of_length_le (by omega), zbo] at hx1
  refine .exit ?_
  refine ⟨_, ?_, (sj hx1).symm⟩
  exact .m [0, 5] [] []
 rintro n1 hj2
 subst x1
 try dsimp only at h
 simp only [Tryz.St_r06_Counts_1]
 refine .seq (.pl zS [0, 5] ?_)
 have hq := sj h
 subst r
 exact .ret ⟨.inr rfl, rsi⟩
theorem callP_r05_May (a0 : Int) (r : Bool) (h : m_r05_May a0 = some r) : CallP Tryz.prog 78 [.int .i64 a0] (.bool r) := by
 refine za5 Tryz.tmOk 2 Tryz.func78 rfl (by decide) rfl rfl (lb rfl) ?_
 intro hwf
 unfold m_r05_May at h
 refine .seq (.pl zS [0] ?_)
 refine .seq ?_
 refine .rg zS [0] ?_
 refine .rn 6 ?_
 refine .rn 6 ?_
 refine .nil ⟨nofun, ?_⟩
 have hq := sj h
 subst r
 exact .ret ⟨.inr rfl, rsi⟩
@[go_sem] def Tryz.St_r08_rising_1 (a0 : List Int) (a1 : List Int) : St := ⟨[(0, .imm 1 (a0.map (D.int .i64)) 4), (1, .imm 1 (a1.map (D.int .i64)) 4)], [], 0⟩
@[go_sem] def Tryz.St_r08_rising_3 (a0 : List Int) (a1 : List Int) (n1 : Nat) : St := ⟨[(0, .imm 1 (a0.map (D.int .i64)) 4), (1, .imm 1 (a1.map (D.int .i64)) 4), (5, .int .i64 (n1 : Int))], [], 0⟩
theorem callP_r08_rising (a0 : List Int) (a1 : List Int) (r : Bool) (h : m_r08_rising a0 a1 = some r) : CallP Tryz.prog 79 [.imm 1 (a0.map (D.int .i64)) 4, .imm 1 (a1.map (D.int .i64)) 4] (.bool r) := by
 refine za5 Tryz.tmOk 2 Tryz.func79 rfl (by decide) rfl rfl (lb rfl) ?_
 intro hwf
 unfold m_r08_rising at h
 refine .seq (.pl zS [0, 1] ?_)
 obtain ⟨x1, hx1, h⟩ := bind_some h
 refine .seqM 0 (fun (j : Unit) => Tryz.St_r08_rising_1 a0 a1) (fun j => x1 = (.inr j)) (lb rfl) ?_ ?_
 ·refine .seq (.pl zS [0, 1] ?_)
  refine .block ?_
  refine .loopG 0 (fun (j : Nat) => Tryz.St_r08_rising_3 a0 a1 j) (fun j => j <= a0.length /\ zbn a0 (a0.drop j) j  = some x1) (fun j => a0.length - j) (0) (lb rfl) ?_ ⟨Nat.zero_le _, hx1⟩ ?_
  ·exact .m [0, 1, 5] [] []
  rintro n1 ⟨hi1, hx1⟩
  simp only [Tryz.St_r08_rising_3]
  refine .wf 0 (.imm 1 (a0.map (D.int .i64)) 4) rfl ?_
  intro hln1
  replace hln1 : (a0.length : Int) <= 9223372036854775807 := by simp only [wf, wfL, IntKind.max, IntKind.min, IntKind.signed, IntKind.bits, List.length_map] at hln1; first | exact hln1.2 | exact hln1.1 | (simp at hln1; omega)
  refine .seq (.seq ?_)
  refine .pl zS [0, 1, 5] ?_
  refine .cond rfl rfl (fun hc1 => ?_) (fun hc1 => ?_)
  ·have h1 : n1 < a0.length := by simpa using hc1
   have hwn1 : wr .i64 ((n1 : Int) + 1) = ((n1 + 1 : Nat) : Int) := zbr h1 hln1
   have hpn1 : wr .i64 ((n1 : Int) - 1) = (n1 : Int) - 1 := zbs h1 hln1
   rw [List.drop_eq_getElem_cons h1, zbn] at hx1
   refine .skip ?_
   refine .seq (.block ?_)
   refine .seq ?_
   have e1 := zb6 (D.int .i64) a0 n1 h1
   have e2 := nth_mapD (D.int .i64) a0 (n1 - 1) (by omega)
   refine .rg zS [0, 1, 5] ?_
   refine .rdx 6 (And.intro e1 (And.intro e2 (And.intro hpn1 hwn1))) ?_
   refine .rdx 8 (And.intro e1 (And.intro e2 (And.intro hpn1 hwn1))) ?_
   refine .nd ?_
   refine .cond rfl rfl (fun hc2 => ?_) (fun hc2 => ?_)
   ·replace hx1 := za0 hx1 hc2
    refine .seq (.plx zS hwn1 [] ?_)
    have hq := sj hx1
    subst x1
    try dsimp only at h
    have hq := sj h
    subst r
    exact .ret ⟨.inr rfl, rsi⟩
   replace hx1 := za3 hx1 hc2
   refine .skip ?_
   refine .plx zS hwn1 [0, 1, 5] ?_
   refine ⟨n1 + 1, ?_, ⟨by omega, hx1⟩, by dsimp only; omega⟩
   exact .m [0, 1, 5] [] []
  have h2 : n1 = a0.length := by have h2b := of_decide_eq_false hc1; omega
  rw [List.drop_of_length_le (by omega), zbn] at hx1
  refine .exit ?_
  refine ⟨_, ?_, (sj hx1).symm⟩
  exact .m [0, 1] [] []
 rintro ⟨⟩ hj1
 subst x1
 try dsimp only at h
 simp only [Tryz.St_r08_rising_1]
 refine .seq ?_
 obtain ⟨v1, hv1, h⟩ := bind_some h
 refine .rg zS [0, 1] ?_
 refine .rn 2 ?_
 refine .call (r := .bool v1) rfl rfl rfl rfl rfl rfl (callP_r06_Within a0 a1 v1 hv1) ?_
 refine .rn 1 ?_
 refine .nil ⟨nofun, ?_⟩
 have hq := sj h
 subst r
 exact .ret ⟨.inr rfl, rsi⟩
theorem callP_r08_MayPromise (a0 : TPromise) (a1 : Int) (r : Bool) (h : m_r08_MayPromise a0 a1 = some r) : CallP Tryz.prog 81 [.agg [.int .i64 a0.Node, .int .i64 a0.Ballot, .str a0.Value], .int .i64 a1] (.bool r) := by
 refine za5 Tryz.tmOk 3 Tryz.func81 rfl (by decide) rfl rfl (lb rfl) ?_
 intro hwf
 unfold m_r08_MayPromise at h
 refine .seq (.pl zS [0, 1] ?_)
 refine .seq (.seq ?_)
 refine .pl zS [1, 2] ?_
 refine .cond rfl rfl (fun hc1 => ?_) (fun hc1 => ?_)
 ·replace h := za0 h hc1
  refine .seq (.pl zS [2] ?_)
  have hq := sj h
  subst r
  exact .ret ⟨.inr rfl, rsi⟩
 replace h := za3 h hc1
 refine .skip ?_
 refine .seq ?_
 obtain ⟨v1, hv1, h⟩ := bind_some h
 refine .rg zS [1, 2] ?_
 refine .rn 2 ?_
 refine .call (r := .bool v1) rfl rfl rfl rfl rfl rfl (callP_r05_May a0.Ballot v1 hv1) ?_
 refine .rn 6 ?_
 refine .rn 7 ?_
 refine .nil ⟨nofun, ?_⟩
 have hq := sj h
 subst r
 exact .ret ⟨.inr rfl, rsi⟩
@[go_sem] def Tryz.St_attempt_rising_1 : St := ⟨[], [], 0⟩
@[go_sem] def Tryz.St_attempt_rising_3 (a0 : List Int) (a1 : List Int) (n1 : Nat) : St := ⟨[(0, .imm 1 (a0.map (D.int .i64)) 4), (1, .imm 1 (a1.map (D.int .i64)) 4), (7, .imm 1 (a0.map (D.int .i64)) 4), (8, .int .i64 (a0.length : Int)), (9, .int .i64 (n1 : Int))], [], 0⟩
theorem callP_attempt_rising (a0 : List Int) (a1 : List Int) (r : Bool) (h : zc7 a0 a1 = some r) : CallP Tryz.prog 70 [.imm 1 (a0.map (D.int .i64)) 4, .imm 1 (a1.map (D.int .i64)) 4] (.bool r) := by
 refine za5 Tryz.tmOk 2 Tryz.func70 rfl (by decide) rfl rfl (lb rfl) ?_
 intro hwf
 unfold zc7 at h
 refine .seq (.pl zS [0, 1] ?_)
 obtain ⟨x1, hx1, h⟩ := bind_some h
 refine .seqM 0 (fun (j : Unit) => Tryz.St_attempt_rising_1) (fun j => x1 = (.inr j)) (lb rfl) ?_ ?_
 ·refine .seq (.pl zS [0, 1] ?_)
  refine .block ?_
  refine .loopG 0 (fun (j : Nat) => Tryz.St_attempt_rising_3 a0 a1 j) (fun j => j <= a0.length /\ zau a0 a1 (a0.drop j) j  = some x1) (fun j => a0.length - j) (0) (lb rfl) ?_ ⟨Nat.zero_le _, hx1⟩ ?_
  ·exact .m [0, 1, 7, 8, 9] [] []
  rintro n1 ⟨hi1, hx1⟩
  simp only [Tryz.St_attempt_rising_3]
  refine .wf 8 (.int .i64 (a0.length : Int)) rfl ?_
  intro hln1
  replace hln1 : (a0.length : Int) <= 9223372036854775807 := by simp only [wf, wfL, IntKind.max, IntKind.min, IntKind.signed, IntKind.bits, List.length_map] at hln1; first | exact hln1.2 | exact hln1.1 | (simp at hln1; omega)
  refine .seq (.pl zS [0, 1, 7, 8, 9] ?_)
  refine .seq ?_
  refine .cond rfl rfl (fun hc1 => ?_) (fun hc1 => ?_)
  ·have h1 : n1 < a0.length := by simpa using hc1
   have hwn1 : wr .i64 ((n1 : Int) + 1) = ((n1 + 1 : Nat) : Int) := zbr h1 hln1
   have hpn1 : wr .i64 ((n1 : Int) - 1) = (n1 : Int) - 1 := zbs h1 hln1
   rw [List.drop_eq_getElem_cons h1, zau] at hx1
   refine .skip ?_
   refine .seq (.block ?_)
   refine .seq ?_
   have e1 := zb6 (D.int .i64) a0 n1 h1
   refine .plx zS (And.intro e1 hwn1) [0, 1, 7, 8, 9] ?_
   refine .seq ?_
   obtain ⟨v1, hv1, hx1⟩ := bind_some hx1
   have e2 := nth_mapD (D.int .i64) a0 (n1 - 1) (by omega)
   refine .rg zS [0, 1, 5, 6, 7, 8, 9] ?_
   refine .rnx 6 (And.intro e2 (And.intro hpn1 hwn1)) ?_
   refine .rnx 8 (And.intro e2 (And.intro hpn1 hwn1)) ?_
   refine .gcall (r := .bool v1) rfl rfl rfl rfl rfl (fun hg => ⟨[], [.imm 1 (a1.map (D.int .i64)) 4, .int .i64 (a0[n1])], _, rfl, gd hg, rfl, (callP_quorum_Has a1 (a0[n1]) v1 (za0 hv1 hg))⟩) ?_
   refine .rnx 2 (And.intro e2 (And.intro hpn1 hwn1)) ?_
   refine .nil ⟨nofun, ?_⟩
   refine .cond rfl rfl (fun hc2 => ?_) (fun hc2 => ?_)
   ·replace hx1 := za0 hx1 hc2
    refine .seq (.plx zS hwn1 [] ?_)
    have hq := sj hx1
    subst x1
    try dsimp only at h
    have hq := sj h
    subst r
    exact .ret ⟨.inr rfl, rsi⟩
   replace hx1 := za3 hx1 hc2
   refine .skip ?_
   refine .plx zS hwn1 [0, 1, 7, 8, 9] ?_
   refine ⟨n1 + 1, ?_, ⟨by omega, hx1⟩, by dsimp only; omega⟩
   exact .m [0, 1, 7, 8, 9] [] []
  have h2 : n1 = a0.length := by have h2b := of_decide_eq_false hc1; omega
  rw [List.drop_of_length_le (by omega), zau] at hx1
  refine .exit ?_
  refine ⟨_, ?_, (sj hx1).symm⟩
  exact .m [] [] []
 rintro ⟨⟩ hj1
 subst x1
 try dsimp only at h
 simp only [Tryz.St_attempt_rising_1]
 refine .seq (.pl zS [] ?_)
 have hq := sj h
 subst r
 exact .ret ⟨.inr rfl, rsi⟩
theorem callP_attempt_may (a0 : TPromise) (a1 : Int) (r : Bool) (h : m_attempt_may a0 a1 = some r) : CallP Tryz.prog 74 [.agg [.int .i64 a0.Node, .int .i64 a0.Ballot, .str a0.Value], .int .i64 a1] (.bool r) := by
 refine za5 Tryz.tmOk 3 Tryz.func74 rfl (by decide) rfl rfl (lb rfl) ?_
 intro hwf
 unfold m_attempt_may at h
 refine .seq (.pl zS [0, 1] ?_)
 refine .seq (.seq ?_)
 refine .pl zS [1, 2] ?_
 refine .cond rfl rfl (fun hc1 => ?_) (fun hc1 => ?_)
 ·replace h := za0 h hc1
  refine .seq (.pl zS [2] ?_)
  have hq := sj h
  subst r
  exact .ret ⟨.inr rfl, rsi⟩
 replace h := za3 h hc1
 refine .skip ?_
 refine .seq ?_
 obtain ⟨v1, hv1, h⟩ := bind_some h
 refine .rg zS [1, 2] ?_
 refine .rn 2 ?_
 refine .call (r := .int .i64 v1) rfl rfl rfl rfl rfl rfl (zc3 a0.Ballot v1 hv1) ?_
 refine .rn 6 ?_
 refine .rn 8 ?_
 refine .nil ⟨nofun, ?_⟩
 have hq := sj h
 subst r
 exact .ret ⟨.inr rfl, rsi⟩
end Go.Proofs
end
section
namespace Go.Proofs
open Go.Tm
set_option linter.unusedVariables false
def zal (a1 : List Int) : List Int -> Nat -> Option (Bool ⊕ Unit)
 | [], n1 =>
  some (.inr ())
 | y1 :: rest1, n1 =>
  if n1 < a1.length then
  if ¬ (y1 = (a1.getD n1 default)) then
  some (.inl false)
  else
  zal a1 rest1 (n1 + 1) 
  else none
def zat (a0 : List Int) (a1 : List Int) : Option Bool :=
 if ¬ ((a0.length : Int) = (a1.length : Int)) then
 some false
 else
 Option.bind (α := Bool ⊕ Unit) (zal a1 a0 0 ) fun z => match z with
 | (.inl r) => some r
 | (.inr _) =>
 some true
def zaf (a1 : List TPromise) : List TPromise -> Nat -> Option (Bool ⊕ Unit)
 | [], n1 =>
  some (.inr ())
 | y1 :: rest1, n1 =>
  if n1 < a1.length then
  if ¬ ((y1.Node = (a1.getD n1 default).Node) /\ (y1.Ballot = (a1.getD n1 default).Ballot) /\ (y1.Value = (a1.getD n1 default).Value)) then
  some (.inl false)
  else
  zaf a1 rest1 (n1 + 1) 
  else none
def zaw (a0 : List TPromise) (a1 : List TPromise) : Option Bool :=
 if ¬ ((a0.length : Int) = (a1.length : Int)) then
 some false
 else
 Option.bind (α := Bool ⊕ Unit) (zaf a1 a0 0 ) fun z => match z with
 | (.inl r) => some r
 | (.inr _) =>
 some true
def zac (f : TPromise -> Option Bool) : List TPromise -> Nat -> Option (Int ⊕ Unit)
 | [], n1 =>
  some (.inr ())
 | y1 :: rest1, n1 =>
  Option.bind (f (y1)) fun v1 =>
  if v1 = true then
  some (.inl (n1 : Int))
  else
  zac f rest1 (n1 + 1) 
def zay (s : List TPromise) (f : TPromise -> Option Bool) : Option Int :=
 Option.bind (α := Int ⊕ Unit) (zac f s 0 ) fun z => match z with
 | (.inl r) => some r
 | (.inr _) =>
 some (-1)
def zai (s : List TPromise) (f : TPromise -> Option Bool) : Option Bool :=
 Option.bind (zay s f) fun v1 =>
 some (decide (v1 >= 0))
def zb9 (f : Int -> Option Bool) : Nat -> Int -> Int -> Option (Int)
 | 0, _, _ => none
 | fu1 + 1, n2, n3 =>
  if n2 < n3 then
  Option.bind (f (wr .i64 (shw false .u64 (wr .u64 (wr .i64 (n2 + n3))) 1))) fun v1 =>
  if ¬ (v1 = true) then
  zb9 f fu1 (wr .i64 ((wr .i64 (shw false .u64 (wr .u64 (wr .i64 (n2 + n3))) 1)) + 1)) n3
  else
  zb9 f fu1 n2 (wr .i64 (shw false .u64 (wr .u64 (wr .i64 (n2 + n3))) 1))
  else
  some n2
def m_sort_Search (n : Int) (f : Int -> Option Bool) : Option Int :=
 Option.bind (α := Int) (zb9 f (n.toNat + 1) 0 n) fun n1 =>
 some n1
def m_sort_SearchInts_1 (a0 : Int) (c0 : List Int) (c1 : Int) : Option Bool :=
 if (0 <= a0 /\ a0 < (c0.length : Int)) then
 some (decide ((c0.getD a0.toNat default) >= c1))
 else none
def m_sort_SearchInts (a0 : List Int) (a1 : Int) : Option Int :=
 Option.bind (m_sort_Search (a0.length : Int) (fun x0 => m_sort_SearchInts_1 x0 a0 a1)) fun v1 =>
 some v1
end Go.Proofs
end
section
namespace Go.Proofs
open Go.Tm Go.RowKit Go.WideShapes
set_option maxRecDepth 100000
set_option maxHeartbeats 4000000
set_option linter.unusedSimpArgs false
set_option linter.unusedVariables false
@[go_sem] def Tryz.St_slices_Equal_int_int_1 : St := ⟨[], [], 0⟩
@[go_sem] def Tryz.St_slices_Equal_int_int_3 (a0 : List Int) (a1 : List Int) (n1 : Nat) : St := ⟨[(0, .imm 1 (a0.map (D.int .i64)) 4), (1, .imm 1 (a1.map (D.int .i64)) 4), (12, .int .i64 (a0.length : Int)), (13, .int .i64 (n1 : Int))], [], 0⟩
theorem callP_slices_Equal_int_int (a0 : List Int) (a1 : List Int) (r : Bool) (h : zat a0 a1 = some r) : CallP Tryz.prog 41 [.imm 1 (a0.map (D.int .i64)) 4, .imm 1 (a1.map (D.int .i64)) 4] (.bool r) := by
 refine za5 Tryz.tmOk 2 Tryz.func41 rfl (by decide) rfl rfl (lb rfl) ?_
 intro hwf
 unfold zat at h
 refine .seq (.pl zS [0, 1] ?_)
 refine .seq (.seq ?_)
 refine .pl zS [0, 1] ?_
 refine .cond rfl rfl (fun hc1 => ?_) (fun hc1 => ?_)
 ·replace h := za0 h hc1
  refine .seq (.pl zS [] ?_)
  have hq := sj h
  subst r
  exact .ret ⟨.inr rfl, rsi⟩
 replace h := za3 h hc1
 refine .skip ?_
 obtain ⟨x1, hx1, h⟩ := bind_some h
 refine .seqM 0 (fun (j : Unit) => Tryz.St_slices_Equal_int_int_1) (fun j => x1 = (.inr j)) (lb rfl) ?_ ?_
 ·refine .seq (.pl zS [0, 1] ?_)
  refine .block ?_
  refine .loopG 0 (fun (j : Nat) => Tryz.St_slices_Equal_int_int_3 a0 a1 j) (fun j => j <= a0.length /\ zal a1 (a0.drop j) j  = some x1) (fun j => a0.length - j) (0) (lb rfl) ?_ ⟨Nat.zero_le _, hx1⟩ ?_
  ·exact .m [0, 1, 12, 13] [] []
  rintro n1 ⟨hi1, hx1⟩
  simp only [Tryz.St_slices_Equal_int_int_3]
  refine .wf 12 (.int .i64 (a0.length : Int)) rfl ?_
  intro hln1
  replace hln1 : (a0.length : Int) <= 9223372036854775807 := by simp only [wf, wfL, IntKind.max, IntKind.min, IntKind.signed, IntKind.bits, List.length_map] at hln1; first | exact hln1.2 | exact hln1.1 | (simp at hln1; omega)
  refine .seq (.pl zS [0, 1, 12, 13] ?_)
  refine .seq ?_
  refine .cond rfl rfl (fun hc2 => ?_) (fun hc2 => ?_)
  ·have h1 : n1 < a0.length := by simpa using hc2
   have hwn1 : wr .i64 ((n1 : Int) + 1) = ((n1 + 1 : Nat) : Int) := zbr h1 hln1
   have hpn1 : wr .i64 ((n1 : Int) - 1) = (n1 : Int) - 1 := zbs h1 hln1
   rw [List.drop_eq_getElem_cons h1, zal] at hx1
   refine .skip ?_
   refine .seq (.block ?_)
   refine .seq (.plx zS hwn1 [0, 1, 12, 13] ?_)
   refine .seq ?_
   obtain ⟨k1, hx1⟩ := zaa hx1
   have e1 := zb6 (D.int .i64) a0 n1 h1
   have e2 := nth_mapD (D.int .i64) a1 n1
   replace e2 := e2 k1
   refine .rg zS [0, 1, 5, 12, 13] ?_
   refine .rdx 6 (And.intro e1 (And.intro e2 hwn1)) ?_
   refine .rdx 3 (And.intro e1 (And.intro e2 hwn1)) ?_
   refine .nd ?_
   refine .cond rfl rfl (fun hc3 => ?_) (fun hc3 => ?_)
   ·replace hx1 := za0 hx1 hc3
    refine .seq (.plx zS hwn1 [] ?_)
    have hq := sj hx1
    subst x1
    try dsimp only at h
    have hq := sj h
    subst r
    exact .ret ⟨.inr rfl, rsi⟩
   replace hx1 := za3 hx1 hc3
   refine .skip ?_
   refine .plx zS hwn1 [0, 1, 12, 13] ?_
   refine ⟨n1 + 1, ?_, ⟨by omega, hx1⟩, by dsimp only; omega⟩
   exact .m [0, 1, 12, 13] [] []
  have h2 : n1 = a0.length := by have h2b := of_decide_eq_false hc2; omega
  rw [List.drop_of_length_le (by omega), zal] at hx1
  refine .exit ?_
  refine ⟨_, ?_, (sj hx1).symm⟩
  exact .m [] [] []
 rintro ⟨⟩ hj1
 subst x1
 try dsimp only at h
 simp only [Tryz.St_slices_Equal_int_int_1]
 refine .seq (.pl zS [] ?_)
 have hq := sj h
 subst r
 exact .ret ⟨.inr rfl, rsi⟩
@[go_sem] def Tryz.St_slices_Equal_Promise_Promise_1 : St := ⟨[], [], 0⟩
@[go_sem] def Tryz.St_slices_Equal_Promise_Promise_3 (a0 : List TPromise) (a1 : List TPromise) (n1 : Nat) : St := ⟨[(0, .imm 3 (a0.map TPromise.d) 4), (1, .imm 3 (a1.map TPromise.d) 4), (12, .int .i64 (a0.length : Int)), (13, .int .i64 (n1 : Int))], [], 0⟩
theorem callP_slices_Equal_Promise_Promise (a0 : List TPromise) (a1 : List TPromise) (r : Bool) (h : zaw a0 a1 = some r) : CallP Tryz.prog 84 [.imm 3 (a0.map TPromise.d) 4, .imm 3 (a1.map TPromise.d) 4] (.bool r) := by
 refine za5 Tryz.tmOk 2 Tryz.func84 rfl (by decide) rfl rfl (lb rfl) ?_
 intro hwf
 unfold zaw at h
 refine .seq (.pl zS [0, 1] ?_)
 refine .seq (.seq ?_)
 refine .pl zS [0, 1] ?_
 refine .cond rfl rfl (fun hc1 => ?_) (fun hc1 => ?_)
 ·replace h := za0 h hc1
  refine .seq (.pl zS [] ?_)
  have hq := sj h
  subst r
  exact .ret ⟨.inr rfl, rsi⟩
 replace h := za3 h hc1
 refine .skip ?_
 obtain ⟨x1, hx1, h⟩ := bind_some h
 refine .seqM 0 (fun (j : Unit) => Tryz.St_slices_Equal_Promise_Promise_1) (fun j => x1 = (.inr j)) (lb rfl) ?_ ?_
 ·refine .seq (.pl zS [0, 1] ?_)
  refine .block ?_
  refine .loopG 0 (fun (j : Nat) => Tryz.St_slices_Equal_Promise_Promise_3 a0 a1 j) (fun j => j <= a0.length /\ zaf a1 (a0.drop j) j  = some x1) (fun j => a0.length - j) (0) (lb rfl) ?_ ⟨Nat.zero_le _, hx1⟩ ?_
  ·exact .m [0, 1, 12, 13] [] []
  rintro n1 ⟨hi1, hx1⟩
  simp only [Tryz.St_slices_Equal_Promise_Promise_3]
  refine .wf 12 (.int .i64 (a0.length : Int)) rfl ?_
  intro hln1
  replace hln1 : (a0.length : Int) <= 9223372036854775807 := by simp only [wf, wfL, IntKind.max, IntKind.min, IntKind.signed, IntKind.bits, List.length_map] at hln1; first | exact hln1.2 | exact hln1.1 | (simp at hln1; omega)
  refine .seq (.pl zS [0, 1, 12, 13] ?_)
  refine .seq ?_
  refine .cond rfl rfl (fun hc2 => ?_) (fun hc2 => ?_)
  ·have h1 : n1 < a0.length := by simpa using hc2
   have hwn1 : wr .i64 ((n1 : Int) + 1) = ((n1 + 1 : Nat) : Int) := zbr h1 hln1
   have hpn1 : wr .i64 ((n1 : Int) - 1) = (n1 : Int) - 1 := zbs h1 hln1
   rw [List.drop_eq_getElem_cons h1, zaf] at hx1
   refine .skip ?_
   refine .seq (.block ?_)
   refine .seq (.plx zS hwn1 [0, 1, 12, 13] ?_)
   refine .seq ?_
   obtain ⟨k1, hx1⟩ := zaa hx1
   have e1 := zb6 TPromise.d a0 n1 h1
   have e2 := nth_mapD TPromise.d a1 n1
   replace e2 := e2 k1
   refine .rg zS [0, 1, 5, 12, 13] ?_
   refine .rdx 6 (And.intro e1 (And.intro e2 hwn1)) ?_
   refine .rdx 3 (And.intro e1 (And.intro e2 hwn1)) ?_
   refine .nd ?_
   refine .cond rfl rfl (fun hc3 => ?_) (fun hc3 => ?_)
   ·replace hx1 := za0 hx1 hc3
    refine .seq (.plx zS hwn1 [] ?_)
    have hq := sj hx1
    subst x1
    try dsimp only at h
    have hq := sj h
    subst r
    exact .ret ⟨.inr rfl, rsi⟩
   replace hx1 := za3 hx1 hc3
   refine .skip ?_
   refine .plx zS hwn1 [0, 1, 12, 13] ?_
   refine ⟨n1 + 1, ?_, ⟨by omega, hx1⟩, by dsimp only; omega⟩
   exact .m [0, 1, 12, 13] [] []
  have h2 : n1 = a0.length := by have h2b := of_decide_eq_false hc2; omega
  rw [List.drop_of_length_le (by omega), zaf] at hx1
  refine .exit ?_
  refine ⟨_, ?_, (sj hx1).symm⟩
  exact .m [] [] []
 rintro ⟨⟩ hj1
 subst x1
 try dsimp only at h
 simp only [Tryz.St_slices_Equal_Promise_Promise_1]
 refine .seq (.pl zS [] ?_)
 have hq := sj h
 subst r
 exact .ret ⟨.inr rfl, rsi⟩
@[go_sem] def Tryz.St_slices_IndexFunc_Promise_Promise_1 : St := ⟨[], [], 0⟩
@[go_sem] def Tryz.St_slices_IndexFunc_Promise_Promise_3 (s : List TPromise) (Kf : Nat) (cf : List D) (n1 : Nat) : St := ⟨[(0, .imm 3 (s.map TPromise.d) 4), (1, .fn (.func Kf) cf), (7, .int .i64 (s.length : Int)), (8, .int .i64 (n1 : Int))], [], 0⟩
theorem callP_slices_IndexFunc_Promise_Promise (s : List TPromise) (Kf : Nat) (cf : List D) (hcf : ∀ hp, lends hp cf = (cf, true)) (h2f : ∀ hp, lend2s hp cf = (cf, true)) (h3f : ∀ hp, ids2s hp cf = []) (f : TPromise -> Option Bool) (hf : ∀ x0 y, f x0 = some y -> CallP Tryz.prog Kf (.agg [.int .i64 x0.Node, .int .i64 x0.Ballot, .str x0.Value] :: cf) (.bool y)) (r : Int) (h : zay s f = some r) : CallP Tryz.prog 93 [.imm 3 (s.map TPromise.d) 4, .fn (.func Kf) cf] (.int .i64 r) := by
 refine za5 Tryz.tmOk 2 Tryz.func93 rfl (by decide) rfl rfl (lb rfl) ?_
 intro hwf
 unfold zay at h
 refine .seq (.pl zS [0, 1] ?_)
 obtain ⟨x1, hx1, h⟩ := bind_some h
 refine .seqM 0 (fun (j : Unit) => Tryz.St_slices_IndexFunc_Promise_Promise_1) (fun j => x1 = (.inr j)) (lb rfl) ?_ ?_
 ·refine .seq (.pl zS [0, 1] ?_)
  refine .block ?_
  refine .loopG 0 (fun (j : Nat) => Tryz.St_slices_IndexFunc_Promise_Promise_3 s Kf cf j) (fun j => j <= s.length /\ zac f (s.drop j) j  = some x1) (fun j => s.length - j) (0) (lb rfl) ?_ ⟨Nat.zero_le _, hx1⟩ ?_
  ·refine Goes.mv [0, 1, 7, 8] [] [] ?_ (lb rfl) (lb rfl) (by first | rfl | (simp only [idsV, idsH, pickL, getL, D.ids, Blk.ids, natbeq, Nat.reduceBEq, cond_true, cond_false, List.append_nil, List.nil_append, List.cons_append, idsL_lent hcf] <;> rfl))
   first | rfl | (simp only [go_sem, Nat.reduceBEq, Nat.reduceAdd, renL_lent hcf]; done) | (simp only [go_sem, Nat.reduceBEq, Nat.reduceAdd, renL_lent hcf]; rfl)
  rintro n1 ⟨hi1, hx1⟩
  simp only [Tryz.St_slices_IndexFunc_Promise_Promise_3]
  refine .wf 7 (.int .i64 (s.length : Int)) rfl ?_
  intro hln1
  replace hln1 : (s.length : Int) <= 9223372036854775807 := by simp only [wf, wfL, IntKind.max, IntKind.min, IntKind.signed, IntKind.bits, List.length_map] at hln1; first | exact hln1.2 | exact hln1.1 | (simp at hln1; omega)
  refine .seq (.pl zS [0, 1, 7, 8] ?_)
  refine .seq ?_
  refine .cond rfl rfl (fun hc1 => ?_) (fun hc1 => ?_)
  ·have h1 : n1 < s.length := by simpa using hc1
   have hwn1 : wr .i64 ((n1 : Int) + 1) = ((n1 + 1 : Nat) : Int) := zbr h1 hln1
   have hpn1 : wr .i64 ((n1 : Int) - 1) = (n1 : Int) - 1 := zbs h1 hln1
   rw [List.drop_eq_getElem_cons h1, zac] at hx1
   refine .skip ?_
   refine .seq (.block ?_)
   refine .seq (.plx zS hwn1 [0, 1, 7, 8] ?_)
   refine .seq ?_
   obtain ⟨v1, hv1, hx1⟩ := bind_some hx1
   have e1 := zb6 TPromise.d s n1 h1
   refine .rg zS [0, 1, 5, 7, 8] ?_
   refine .rnx 5 (And.intro e1 hwn1) ?_
   refine .call (r := .bool v1) rfl rfl rfl rfl rfl (zan rfl (hcf _)) (hf _ v1 hv1) ?_
   refine .nil ⟨nofun, ?_⟩
   refine .cond rfl rfl (fun hc2 => ?_) (fun hc2 => ?_)
   ·replace hx1 := za0 hx1 hc2
    refine .seq (.plx zS hwn1 [5] ?_)
    have hq := sj hx1
    subst x1
    try dsimp only at h
    have hq := sj h
    subst r
    exact .ret ⟨.inr rfl, rsi⟩
   replace hx1 := za3 hx1 hc2
   refine .skip ?_
   refine .plx zS hwn1 [0, 1, 7, 8] ?_
   refine ⟨n1 + 1, ?_, ⟨by omega, hx1⟩, by dsimp only; omega⟩
   refine Goes.mv [0, 1, 7, 8] [] [] ?_ (lb rfl) (lb rfl) (by first | rfl | (simp only [idsV, idsH, pickL, getL, D.ids, Blk.ids, natbeq, Nat.reduceBEq, cond_true, cond_false, List.append_nil, List.nil_append, List.cons_append, idsL_lent hcf] <;> rfl))
   first | rfl | (simp only [go_sem, Nat.reduceBEq, Nat.reduceAdd, renL_lent hcf]; done) | (simp only [go_sem, Nat.reduceBEq, Nat.reduceAdd, renL_lent hcf]; rfl)
  have h2 : n1 = s.length := by have h2b := of_decide_eq_false hc1; omega
  rw [List.drop_of_length_le (by omega), zac] at hx1
  refine .exit ?_
  refine ⟨_, ?_, (sj hx1).symm⟩
  refine Goes.mv [] [] [] ?_ (lb rfl) (lb rfl) (by first | rfl | (simp only [idsV, idsH, pickL, getL, D.ids, Blk.ids, natbeq, Nat.reduceBEq, cond_true, cond_false, List.append_nil, List.nil_append, List.cons_append, idsL_lent hcf] <;> rfl))
  first | rfl | (simp only [go_sem, Nat.reduceBEq, Nat.reduceAdd, renL_lent hcf]; done) | (simp only [go_sem, Nat.reduceBEq, Nat.reduceAdd, renL_lent hcf]; rfl)
 rintro ⟨⟩ hj1
 subst x1
 try dsimp only at h
 simp only [Tryz.St_slices_IndexFunc_Promise_Promise_1]
 refine .seq (.pl zS [] ?_)
 have hq := sj h
 subst r
 exact .ret ⟨.inr rfl, rsi⟩
theorem callP_slices_ContainsFunc_Promise_Promise (s : List TPromise) (Kf : Nat) (cf : List D) (hcf : ∀ hp, lends hp cf = (cf, true)) (h2f : ∀ hp, lend2s hp cf = (cf, true)) (h3f : ∀ hp, ids2s hp cf = []) (f : TPromise -> Option Bool) (hf : ∀ x0 y, f x0 = some y -> CallP Tryz.prog Kf (.agg [.int .i64 x0.Node, .int .i64 x0.Ballot, .str x0.Value] :: cf) (.bool y)) (r : Bool) (h : zai s f = some r) : CallP Tryz.prog 72 [.imm 3 (s.map TPromise.d) 4, .fn (.func Kf) cf] (.bool r) := by
 refine za5 Tryz.tmOk 2 Tryz.func72 rfl (by decide) rfl rfl (lb rfl) ?_
 intro hwf
 unfold zai at h
 refine .seq (.pl zS [0, 1] ?_)
 refine .seq ?_
 obtain ⟨v1, hv1, h⟩ := bind_some h
 refine .rg zS [0, 1] ?_
 refine .rn 2 ?_
 refine .lcall (r := .int .i64 v1) [] rfl rfl rfl rfl rfl (za2 rfl (za2 (lend2_fn (h2f _)) zad)) (by show ids2s _ [.imm 3 (s.map TPromise.d) 4, .fn (.func Kf) cf] = _; simp only [ids2s, ids2, List.append_nil, List.nil_append, List.cons_append, h3f]) (callP_slices_IndexFunc_Promise_Promise s Kf cf hcf h2f h3f f hf v1 hv1) ?_
 refine .rn 2 ?_
 refine .nil ⟨nofun, ?_⟩
 have hq := sj h
 subst r
 exact .ret ⟨.inr rfl, rsi⟩
@[go_sem] def Tryz.St_sort_Search_1 (n1 : Int) : St := ⟨[(5, .int .i64 n1)], [], 0⟩
@[go_sem] def Tryz.St_sort_Search_3 (Kf : Nat) (cf : List D) (n2 : Int) (n3 : Int) : St := ⟨[(1, .fn (.func Kf) cf), (5, .int .i64 n2), (6, .int .i64 n3)], [], 0⟩
theorem callP_sort_Search (n : Int) (Kf : Nat) (cf : List D) (hcf : ∀ hp, lends hp cf = (cf, true)) (h2f : ∀ hp, lend2s hp cf = (cf, true)) (h3f : ∀ hp, ids2s hp cf = []) (f : Int -> Option Bool) (hf : ∀ x0 y, f x0 = some y -> CallP Tryz.prog Kf (.int .i64 x0 :: cf) (.bool y)) (r : Int) (h : m_sort_Search n f = some r) : CallP Tryz.prog 96 [.int .i64 n, .fn (.func Kf) cf] (.int .i64 r) := by
 refine za5 Tryz.tmOk 2 Tryz.func96 rfl (by decide) rfl rfl (lb rfl) ?_
 intro hwf
 unfold m_sort_Search at h
 refine .seq (.pl zS [0, 1] ?_)
 refine .seq (.pl zS [0, 1] ?_)
 obtain ⟨x1, hx1, h⟩ := bind_some h
 refine .seqM 0 (fun (j : Int) => Tryz.St_sort_Search_1 j) (fun j => x1 = j) (lb rfl) ?_ ?_
 ·refine .block ?_
  refine .loopG 0 (fun (j : Nat × Int × Int) => Tryz.St_sort_Search_3 Kf cf j.2.1 j.2.2) (fun j => zb9 f j.1 j.2.1 j.2.2 = some x1) (fun j => j.1) (n.toNat + 1, 0, n) (lb rfl) ?_ hx1 ?_
  ·refine Goes.mv [1, 5, 6] [] [] ?_ (lb rfl) (lb rfl) (by first | rfl | (simp only [idsV, idsH, pickL, getL, D.ids, Blk.ids, natbeq, Nat.reduceBEq, cond_true, cond_false, List.append_nil, List.nil_append, List.cons_append, idsL_lent hcf] <;> rfl))
   first | rfl | (simp only [go_sem, Nat.reduceBEq, Nat.reduceAdd, renL_lent hcf]; done) | (simp only [go_sem, Nat.reduceBEq, Nat.reduceAdd, renL_lent hcf]; rfl)
  rintro ⟨fu1, n2, n3⟩ hx1
  simp only [Tryz.St_sort_Search_3]
  try simp only at hx1
  obtain ⟨fu1, rfl⟩ : ∃ k, fu1 = k + 1 := by cases fu1 with | zero => (rw [zb9] at hx1; cases hx1) | succ k => exact ⟨k, rfl⟩
  rw [zb9] at hx1
  refine .seq (.seq ?_)
  refine .pl zS [1, 5, 6] ?_
  refine .cond rfl rfl (fun hc1 => ?_) (fun hc1 => ?_)
  ·replace hx1 := za0 hx1 hc1
   refine .skip ?_
   refine .block ?_
   refine .seq (.pl zS [1, 5, 6] ?_)
   refine .seq ?_
   obtain ⟨v1, hv1, hx1⟩ := bind_some hx1
   refine .rg zS [1, 5, 6, 7] ?_
   refine .rn 2 ?_
   refine .call (r := .bool v1) rfl rfl rfl rfl rfl (zan rfl (hcf _)) (hf _ v1 hv1) ?_
   refine .rn 1 ?_
   refine .nil ⟨nofun, ?_⟩
   refine .cond rfl rfl (fun hc2 => ?_) (fun hc2 => ?_)
   ·replace hx1 := za0 hx1 hc2
    refine .pl zS [1, 6, 7] ?_
    refine ⟨(fu1, _, _), ?_, hx1, by dsimp only; omega⟩
    refine Goes.mv [1, 5, 6] [] [] ?_ (lb rfl) (lb rfl) (by first | rfl | (simp only [idsV, idsH, pickL, getL, D.ids, Blk.ids, natbeq, Nat.reduceBEq, cond_true, cond_false, List.append_nil, List.nil_append, List.cons_append, idsL_lent hcf] <;> rfl))
    first | rfl | (simp only [go_sem, Nat.reduceBEq, Nat.reduceAdd, renL_lent hcf]; done) | (simp only [go_sem, Nat.reduceBEq, Nat.reduceAdd, renL_lent hcf]; rfl)
   replace hx1 := za3 hx1 hc2
   refine .pl zS [1, 5, 7] ?_
   refine ⟨(fu1, _, _), ?_, hx1, by dsimp only; omega⟩
   refine Goes.mv [1, 5, 6] [] [] ?_ (lb rfl) (lb rfl) (by first | rfl | (simp only [idsV, idsH, pickL, getL, D.ids, Blk.ids, natbeq, Nat.reduceBEq, cond_true, cond_false, List.append_nil, List.nil_append, List.cons_append, idsL_lent hcf] <;> rfl))
   first | rfl | (simp only [go_sem, Nat.reduceBEq, Nat.reduceAdd, renL_lent hcf]; done) | (simp only [go_sem, Nat.reduceBEq, Nat.reduceAdd, renL_lent hcf]; rfl)
  replace hx1 := za3 hx1 hc1
  refine .exit ?_
  refine ⟨_, ?_, (sj hx1).symm⟩
  refine Goes.mv [5] [] [] ?_ (lb rfl) (lb rfl) (by first | rfl | (simp only [idsV, idsH, pickL, getL, D.ids, Blk.ids, natbeq, Nat.reduceBEq, cond_true, cond_false, List.append_nil, List.nil_append, List.cons_append, idsL_lent hcf] <;> rfl))
  first | rfl | (simp only [go_sem, Nat.reduceBEq, Nat.reduceAdd, renL_lent hcf]; done) | (simp only [go_sem, Nat.reduceBEq, Nat.reduceAdd, renL_lent hcf]; rfl)
 rintro n1 hj1
 subst x1
 try dsimp only at h
 simp only [Tryz.St_sort_Search_1]
 refine .seq (.pl zS [5] ?_)
 have hq := sj h
 subst r
 exact .ret ⟨.inr rfl, rsi⟩
theorem callP_sort_SearchInts_1 (a0 : Int) (c0 : List Int) (c1 : Int) (r : Bool) (h : m_sort_SearchInts_1 a0 c0 c1 = some r) : CallP Tryz.prog 108 [.int .i64 a0, .iptr 0 [.imm 1 (c0.map (D.int .i64)) 4], .iptr 0 [.int .i64 c1]] (.bool r) := by
 refine za5 Tryz.tmOk 2 Tryz.func108 rfl (by decide) rfl rfl (lb rfl) ?_
 intro hwf
 unfold m_sort_SearchInts_1 at h
 refine .seq (.pl zS [0, 1, 2] ?_)
 refine .seq ?_
 obtain ⟨k1, h⟩ := zaa h
 have e1 := zaj (D.int .i64) c0 a0
 replace e1 := e1 k1
 refine .drx zS e1 [0, 1, 2] ?_
 have hq := sj h
 subst r
 exact .ret ⟨.inr rfl, rsi⟩
theorem callP_sort_SearchInts (a0 : List Int) (a1 : Int) (r : Int) (h : m_sort_SearchInts a0 a1 = some r) : CallP Tryz.prog 100 [.imm 1 (a0.map (D.int .i64)) 4, .int .i64 a1] (.int .i64 r) := by
 refine za5 Tryz.tmOk 4 Tryz.func100 rfl (by decide) rfl rfl (lb rfl) ?_
 intro hwf
 unfold m_sort_SearchInts at h
 refine .seq (.pl zS [0, 1] ?_)
 refine .seq ?_
 obtain ⟨v1, hv1, h⟩ := bind_some h
 refine .rg zS [2, 3] ?_
 refine .rn 3 ?_
 refine .lcall (r := .int .i64 v1) [] rfl rfl rfl rfl rfl (za2 rfl (za2 (lend2_fn (za2 (lend2_ptr rfl (zan rfl lends_nil)) (za2 (lend2_ptr rfl (zan rfl lends_nil)) zad))) zad)) rfl (callP_sort_Search (a0.length : Int) 108 [.iptr 0 [.imm 1 (a0.map (D.int .i64)) 4], .iptr 0 [.int .i64 a1]] (fun _ => rfl) (fun _ => rfl) (fun _ => rfl) (fun x0 => m_sort_SearchInts_1 x0 a0 a1) (fun x0 y hy => callP_sort_SearchInts_1 x0 a0 a1 y hy) v1 hv1) ?_
 refine .rn 1 ?_
 refine .nil ⟨nofun, ?_⟩
 have hq := sj h
 subst r
 exact .ret ⟨.inr rfl, rsi⟩
end Go.Proofs
end
section
namespace Go.Proofs
open Go.Tm
set_option linter.unusedVariables false
def m_math_bits_OnesCount64 (a0 : Int) : Option Int :=
 some (bitw .and .i64 (wr .i64 (wr .u64 ((wr .u64 ((wr .u64 ((bitw .and .u64 (wr .u64 ((shw false .u64 (wr .u64 ((bitw .and .u64 (shw false .u64 (wr .u64 ((bitw .and .u64 (shw false .u64 a0 1) 6148914691236517205) + (bitw .and .u64 a0 6148914691236517205))) 2) 3689348814741910323) + (bitw .and .u64 (wr .u64 ((bitw .and .u64 (shw false .u64 a0 1) 6148914691236517205) + (bitw .and .u64 a0 6148914691236517205))) 3689348814741910323))) 4) + (wr .u64 ((bitw .and .u64 (shw false .u64 (wr .u64 ((bitw .and .u64 (shw false .u64 a0 1) 6148914691236517205) + (bitw .and .u64 a0 6148914691236517205))) 2) 3689348814741910323) + (bitw .and .u64 (wr .u64 ((bitw .and .u64 (shw false .u64 a0 1) 6148914691236517205) + (bitw .and .u64 a0 6148914691236517205))) 3689348814741910323))))) 1085102592571150095) + (shw false .u64 (bitw .and .u64 (wr .u64 ((shw false .u64 (wr .u64 ((bitw .and .u64 (shw false .u64 (wr .u64 ((bitw .and .u64 (shw false .u64 a0 1) 6148914691236517205) + (bitw .and .u64 a0 6148914691236517205))) 2) 3689348814741910323) + (bitw .and .u64 (wr .u64 ((bitw .and .u64 (shw false .u64 a0 1) 6148914691236517205) + (bitw .and .u64 a0 6148914691236517205))) 3689348814741910323))) 4) + (wr .u64 ((bitw .and .u64 (shw false .u64 (wr .u64 ((bitw .and .u64 (shw false .u64 a0 1) 6148914691236517205) + (bitw .and .u64 a0 6148914691236517205))) 2) 3689348814741910323) + (bitw .and .u64 (wr .u64 ((bitw .and .u64 (shw false .u64 a0 1) 6148914691236517205) + (bitw .and .u64 a0 6148914691236517205))) 3689348814741910323))))) 1085102592571150095) 8))) + (shw false .u64 (wr .u64 ((bitw .and .u64 (wr .u64 ((shw false .u64 (wr .u64 ((bitw .and .u64 (shw false .u64 (wr .u64 ((bitw .and .u64 (shw false .u64 a0 1) 6148914691236517205) + (bitw .and .u64 a0 6148914691236517205))) 2) 3689348814741910323) + (bitw .and .u64 (wr .u64 ((bitw .and .u64 (shw false .u64 a0 1) 6148914691236517205) + (bitw .and .u64 a0 6148914691236517205))) 3689348814741910323))) 4) + (wr .u64 ((bitw .and .u64 (shw false .u64 (wr .u64 ((bitw .and .u64 (shw false .u64 a0 1) 6148914691236517205) + (bitw .and .u64 a0 6148914691236517205))) 2) 3689348814741910323) + (bitw .and .u64 (wr .u64 ((bitw .and .u64 (shw false .u64 a0 1) 6148914691236517205) + (bitw .and .u64 a0 6148914691236517205))) 3689348814741910323))))) 1085102592571150095) + (shw false .u64 (bitw .and .u64 (wr .u64 ((shw false .u64 (wr .u64 ((bitw .and .u64 (shw false .u64 (wr .u64 ((bitw .and .u64 (shw false .u64 a0 1) 6148914691236517205) + (bitw .and .u64 a0 6148914691236517205))) 2) 3689348814741910323) + (bitw .and .u64 (wr .u64 ((bitw .and .u64 (shw false .u64 a0 1) 6148914691236517205) + (bitw .and .u64 a0 6148914691236517205))) 3689348814741910323))) 4) + (wr .u64 ((bitw .and .u64 (shw false .u64 (wr .u64 ((bitw .and .u64 (shw false .u64 a0 1) 6148914691236517205) + (bitw .and .u64 a0 6148914691236517205))) 2) 3689348814741910323) + (bitw .and .u64 (wr .u64 ((bitw .and .u64 (shw false .u64 a0 1) 6148914691236517205) + (bitw .and .u64 a0 6148914691236517205))) 3689348814741910323))))) 1085102592571150095) 8))) 16))) + (shw false .u64 (wr .u64 ((wr .u64 ((bitw .and .u64 (wr .u64 ((shw false .u64 (wr .u64 ((bitw .and .u64 (shw false .u64 (wr .u64 ((bitw .and .u64 (shw false .u64 a0 1) 6148914691236517205) + (bitw .and .u64 a0 6148914691236517205))) 2) 3689348814741910323) + (bitw .and .u64 (wr .u64 ((bitw .and .u64 (shw false .u64 a0 1) 6148914691236517205) + (bitw .and .u64 a0 6148914691236517205))) 3689348814741910323))) 4) + (wr .u64 ((bitw .and .u64 (shw false .u64 (wr .u64 ((bitw .and .u64 (shw false .u64 a0 1) 6148914691236517205) + (bitw .and .u64 a0 6148914691236517205))) 2) 3689348814741910323) + (bitw .and .u64 (wr .u64 ((bitw .and .u64 (shw false .u64 a0 1) 6148914691236517205) + (bitw .and .u64 a0 6148914691236517205))) 3689348814741910323))))) 1085102592571150095) + (shw false .u64 (bitw .and .u64 (wr .u64 ((shw false .u64 (wr .u64 ((bitw .and .u64 (shw false .u64 (wr .u64 ((bitw .and .u64 (shw false .u64 a0 1) 6148914691236517205) + (bitw .and .u64 a0 6148914691236517205))) 2) 3689348814741910323) + (bitw .and .u64 (wr .u64 ((bitw .and .u64 (shw false .u64 a0 1) 6148914691236517205) + (bitw .and .u64 a0 6148914691236517205))) 3689348814741910323))) 4) + (wr .u64 ((bitw .and .u64 (shw false .u64 (wr .u64 ((bitw .and .u64 (shw false .u64 a0 1) 6148914691236517205) + (bitw .and .u64 a0 6148914691236517205))) 2) 3689348814741910323) + (bitw .and .u64 (wr .u64 ((bitw .and .u64 (shw false .u64 a0 1) 6148914691236517205) + (bitw .and .u64 a0 6148914691236517205))) 3689348814741910323))))) 1085102592571150095) 8))) + (shw false .u64 (wr .u64 ((bitw .and .u64 (wr .u64 ((shw false .u64 (wr .u64 ((bitw .and .u64 (shw false .u64 (wr .u64 ((bitw .and .u64 (shw false .u64 a0 1) 6148914691236517205) + (bitw .and .u64 a0 6148914691236517205))) 2) 3689348814741910323) + (bitw .and .u64 (wr .u64 ((bitw .and .u64 (shw false .u64 a0 1) 6148914691236517205) + (bitw .and .u64 a0 6148914691236517205))) 3689348814741910323))) 4) + (wr .u64 ((bitw .and .u64 (shw false .u64 (wr .u64 ((bitw .and .u64 (shw false .u64 a0 1) 6148914691236517205) + (bitw .and .u64 a0 6148914691236517205))) 2) 3689348814741910323) + (bitw .and .u64 (wr .u64 ((bitw .and .u64 (shw false .u64 a0 1) 6148914691236517205) + (bitw .and .u64 a0 6148914691236517205))) 3689348814741910323))))) 1085102592571150095) + (shw false .u64 (bitw .and .u64 (wr .u64 ((shw false .u64 (wr .u64 ((bitw .and .u64 (shw false .u64 (wr .u64 ((bitw .and .u64 (shw false .u64 a0 1) 6148914691236517205) + (bitw .and .u64 a0 6148914691236517205))) 2) 3689348814741910323) + (bitw .and .u64 (wr .u64 ((bitw .and .u64 (shw false .u64 a0 1) 6148914691236517205) + (bitw .and .u64 a0 6148914691236517205))) 3689348814741910323))) 4) + (wr .u64 ((bitw .and .u64 (shw false .u64 (wr .u64 ((bitw .and .u64 (shw false .u64 a0 1) 6148914691236517205) + (bitw .and .u64 a0 6148914691236517205))) 2) 3689348814741910323) + (bitw .and .u64 (wr .u64 ((bitw .and .u64 (shw false .u64 a0 1) 6148914691236517205) + (bitw .and .u64 a0 6148914691236517205))) 3689348814741910323))))) 1085102592571150095) 8))) 16))) 32)))) 127)
def m_math_bits_OnesCount (a0 : Int) : Option Int :=
 Option.bind (m_math_bits_OnesCount64 a0) fun v1 =>
 some v1
end Go.Proofs
end
section
namespace Go.Proofs
open Go.Tm Go.RowKit Go.WideShapes
set_option maxRecDepth 100000
set_option maxHeartbeats 4000000
set_option linter.unusedSimpArgs false
set_option linter.unusedVariables false
theorem callP_math_bits_OnesCount64 (a0 : Int) (r : Int) (h : m_math_bits_OnesCount64 a0 = some r) : CallP Tryz.prog 112 [.int .u64 a0] (.int .i64 r) := by
 refine za5 Tryz.tmOk 2 Tryz.func112 rfl (by decide) rfl rfl (lb rfl) ?_
 intro hwf
 unfold m_math_bits_OnesCount64 at h
 refine .seq (.pl zS [0] ?_)
 refine .seq (.pl zS [0] ?_)
 refine .seq (.pl zS [0] ?_)
 refine .seq (.pl zS [0] ?_)
 refine .seq (.pl zS [0] ?_)
 refine .seq (.pl zS [0] ?_)
 refine .seq (.pl zS [0] ?_)
 refine .seq (.pl zS [0] ?_)
 have hq := sj h
 subst r
 exact .ret ⟨.inr rfl, rsi⟩
theorem callP_math_bits_OnesCount (a0 : Int) (r : Int) (h : m_math_bits_OnesCount a0 = some r) : CallP Tryz.prog 103 [.int .u64 a0] (.int .i64 r) := by
 refine za5 Tryz.tmOk 2 Tryz.func103 rfl (by decide) rfl rfl (lb rfl) ?_
 intro hwf
 unfold m_math_bits_OnesCount at h
 refine .seq (.pl zS [0] ?_)
 refine .seq ?_
 refine .cond rfl rfl (fun hc => by cases hc) (fun hc => ?_)
 refine .skip ?_
 refine .seq ?_
 obtain ⟨v1, hv1, h⟩ := bind_some h
 refine .rg zS [0] ?_
 refine .rn 1 ?_
 refine .call (r := .int .i64 v1) rfl rfl rfl rfl rfl rfl (callP_math_bits_OnesCount64 a0 v1 hv1) ?_
 refine .rn 1 ?_
 refine .nil ⟨nofun, ?_⟩
 have hq := sj h
 subst r
 exact .ret ⟨.inr rfl, rsi⟩
end Go.Proofs
end
section
namespace Go.Proofs
open Go.Tm
set_option linter.unusedVariables false
def zc0 : List Int -> Int -> Option (Int)
 | [], n2 =>
  some n2
 | y1 :: rest1, n2 =>
  Option.bind (α := Int) (if (y1 >= 0) /\ (y1 < 6) then
  if 0 <= y1 then
  some (bitw .or .u64 n2 (shw true .u64 1 (y1)))
  else none
  else
  some n2) fun n4 =>
  zc0 rest1 n4
def m_quorum_set (a0 : List Int) : Option Int :=
 Option.bind (α := Int) (zc0 a0 0) fun n1 =>
 some n1
def m_quorum_Most (a0 : List Int) (a1 : List Int) : Option (Bool × Int) :=
 Option.bind (m_quorum_Need a0) fun v1 =>
 if ¬ (v1.2 = 0) then
 some (false, v1.2)
 else
 if (a1.length : Int) > 1000 then
 some (false, 4)
 else
 Option.bind (m_quorum_set a0) fun v2 =>
 Option.bind (m_quorum_set a1) fun v3 =>
 Option.bind (m_math_bits_OnesCount (bitw .and .u64 v2 v3)) fun v4 =>
 some ((decide (v4 >= v1.1)), 0)
def zbq (a0 : List Int) (a1 : List Int) : Option Bool :=
 Option.bind (m_quorum_Most a0 a1) fun v1 =>
 some v1.1
def m_attempt_Same (a0 : TAttempt) (a1 : TAttempt) : Option Bool :=
 Option.bind (if (a0.Phase = a1.Phase) /\ (a0.Ballot = a1.Ballot) then zat a0.Members a1.Members else some default) fun v1 =>
 Option.bind (if ((((a0.Phase = a1.Phase) /\ (a0.Ballot = a1.Ballot)) /\ (v1 = true)) /\ (a0.Wish = a1.Wish)) /\ (a0.Value = a1.Value) then zaw a0.Promises a1.Promises else some default) fun v2 =>
 Option.bind (if (((((a0.Phase = a1.Phase) /\ (a0.Ballot = a1.Ballot)) /\ (v1 = true)) /\ (a0.Wish = a1.Wish)) /\ (a0.Value = a1.Value)) /\ (v2 = true) then zat a0.Accepted a1.Accepted else some default) fun v3 =>
 some (((((((a0.Phase == a1.Phase) && (a0.Ballot == a1.Ballot)) && v1) && (a0.Wish == a1.Wish)) && (a0.Value == a1.Value)) && v2) && v3)
def m_r08_Same_loop1 (a1 : TAttempt) : List TPromise -> Nat -> Option (Bool ⊕ Unit)
 | [], n1 =>
  some (.inr ())
 | y1 :: rest1, n1 =>
  if n1 < a1.Promises.length then
  if ¬ ((y1.Node = (a1.Promises.getD n1 default).Node) /\ (y1.Ballot = (a1.Promises.getD n1 default).Ballot) /\ (y1.Value = (a1.Promises.getD n1 default).Value)) then
  some (.inl false)
  else
  m_r08_Same_loop1 a1 rest1 (n1 + 1) 
  else none
def m_r08_Same (a0 : TAttempt) (a1 : TAttempt) : Option Bool :=
 Option.bind (if ¬ ((¬ (a0.Phase = a1.Phase)) \/ (¬ (a0.Ballot = a1.Ballot))) then zcf a0.Members a1.Members else some default) fun v1 =>
 Option.bind (if ¬ ((((((¬ (a0.Phase = a1.Phase)) \/ (¬ (a0.Ballot = a1.Ballot))) \/ (¬ (v1 = true))) \/ (¬ (a0.Wish = a1.Wish))) \/ (¬ (a0.Value = a1.Value))) \/ (¬ ((a0.Promises.length : Int) = (a1.Promises.length : Int)))) then zcf a0.Accepted a1.Accepted else some default) fun v2 =>
 if ((((((¬ (a0.Phase = a1.Phase)) \/ (¬ (a0.Ballot = a1.Ballot))) \/ (¬ (v1 = true))) \/ (¬ (a0.Wish = a1.Wish))) \/ (¬ (a0.Value = a1.Value))) \/ (¬ ((a0.Promises.length : Int) = (a1.Promises.length : Int)))) \/ (¬ (v2 = true)) then
 some false
 else
 Option.bind (α := Bool ⊕ Unit) (m_r08_Same_loop1 a1 a0.Promises 0 ) fun z => match z with
 | (.inl r) => some r
 | (.inr _) =>
 some true
def m_r08_Twin (a0 : TAttempt) : Option TAttempt :=
 if a0.Members.length * 8 <= 140737488355328 then
 if a0.Promises.length * 32 <= 140737488355328 then
 if a0.Accepted.length * 8 <= 140737488355328 then
 some a0
 else none
 else none
 else none
end Go.Proofs
end
