/- Texts of the proof. -/
import Derived.Lib.Overlaps
import Derived.KernelRfl
import Derived.Test.YtkananhhhkkpkaaOrderAgreesPg
import Derived.Test.YtkananhhhkkpkaaOrderAgreesPf
section
namespace Go.Proofs
open Go.Tm Go.RowKit Go.WideShapes
set_option maxRecDepth 100000
set_option maxHeartbeats 4000000
set_option linter.unusedSimpArgs false
set_option linter.unusedVariables false
attribute [local go_sem] zd7 runE runK zfg stepE aop opd opdsL opds opdO ev ofVal keep List.any zcr Bool.false_or Bool.true_or aggEq cond_true cond_false Bool.cond_false_right Bool.cond_true_left beq_true beq_false imp_self implies_true getR getL put St.app effL del nwB ziy Nat.lt_irrefl Nat.lt_add_one ziz Nat.le_refl Nat.beq_refl zfh ze0 capS capK zgy zfo zc7 D.ids D.idsL bin arith zi2 binT dpick Tm.part zh9 fillD oneD loadD zh8 srcD zdv idxOk decide_true gval dstAt D.cells List.map_cons List.map_nil List.take List.drop List.length_map List.append Int.toNat_natCast and_true true_and decide_false List.length_cons List.length_nil List.append_nil List.nil_append Bool.and_true Bool.true_and Bool.not_false Bool.not_true ne_eq not_false_eq_true BEq.rfl List.getElem?_cons_zero List.getElem?_cons_succ List.getElem?_nil Nat.zero_add List.all_cons List.all_nil List.isEmpty_cons List.isEmpty_nil Option.getD_some Option.getD_none List.any_cons List.any_nil List.drop_succ_cons List.drop_zero unfL unf okM okML low3 List.cons_append true_or or_true Nat.zero_mul Nat.zero_le zhk zhj  zio zin zhi Option.isSome_map keyD List.length_replicate List.map_replicate setEl List.length_set zge znv znq zkj zij mkM mkML zkl zkk zik zh1 zgf zen List.take_length Int.toNat_zero zg4 fpOf zg0 opIds mvV mvH mvF pickL D.ren D.renL Blk.ren List.map_append List.length_append Bool.not_not Bool.or_not_self Bool.not_or_self Bool.or_true
attribute [local go_sem] Try.tm_1 Try.tm_2 Try.tm_3 Try.tm_4 Try.tm_5 Try.tm_6 Try.tm_7 Try.tm_8 Try.tm_9 Try.tm_10 Try.tm_11 Try.tm_12 Try.tm_13 Try.tm_14 Try.tm_15 Try.tm_16 Try.tm_17 Try.tm_18 Try.tm_19 Try.tm_20 Try.tm_21 Try.tm_22 Try.tm_23 Try.tm_24 Try.tm_25 Try.tm_26 Try.tm_27 Try.tm_28 Try.tm_30 Try.tm_32 Try.tm_33 Try.tm_35 Try.tm_36 Try.tm_37 Try.tm_38 Try.tm_39 Try.tm_40 Try.tm_41 Try.tm_42 Try.tm_43 Try.tm_44 Try.tm_45 Try.tm_46 Try.tm_48 Try.tm_49 Try.tm_50 Try.tm_51 Try.tm_52 Try.tm_53 Try.tm_54 Try.tm_56 Try.tm_57 Try.tm_59 Try.tm_61 Try.tm_62 Try.tm_63 Try.tm_64 Try.tm_65 Try.tm_66 Try.tm_67 Try.tm_68 Try.tm_69 Try.tm_70 Try.tm_71 Try.tm_72 Try.tm_74 Try.tm_75 Try.tm_76 Try.tm_78 Try.tm_79 Try.tm_80 Try.tm_81 Try.tm_82 Try.tm_83 Try.tm_84 Try.tm_85 Try.tm_86 Try.tm_87 Try.tm_88 Try.tm_89 Try.tm_90 Try.tm_92 Try.tm_94 Try.tm_95 Try.tm_96 Try.tm_97 Try.tm_98 Try.tm_99 Try.tm_100 Try.tm_101 Try.tm_102 Try.tm_103 Try.tm_104 Try.tm_105 Try.tm_107 Try.tm_108 Try.tm_109 Try.tm_110 Try.tm_111 Try.tm_112 Try.tm_113 Try.tm_114 Try.tm_115 Try.tm_116 Try.tm_117 Try.tm_119 Try.tm_120 Try.tm_121 Try.tm_123 Try.tm_124 Try.tm_125 Try.tm_126 Try.tm_127 Try.tm_128 Try.tm_129 Try.tm_130 Try.tm_131 Try.tm_132 Try.tm_133 Try.tm_134 Try.tm_135 Try.tm_136 Try.tm_137 Try.tm_138 Try.tm_139 Try.tm_140 Try.tm_141 Try.tm_142 Try.tm_143 Try.tm_144 Try.tm_145 Try.tm_146 Try.tm_147 Try.tm_148 Try.tm_149 Try.tm_150 Try.tm_151 Try.tm_152 Try.tm_153 Try.tm_155 Try.tm_156 Try.tm_158 Try.tm_160 Try.tm_161 Try.tm_162 Try.tm_163 Try.tm_164 Try.tm_165 Try.tm_168 Try.tm_169 Try.tm_170 Try.tm_171 Try.tm_172 Try.tm_173 Try.tm_174 Try.tm_175 Try.tm_176 TMessage.d TMessage.n TWait.d TWait.n TStamp.d TSkeen.d TSkeen.n TCommand.d TCommand.n Tskeen_clock.d Tskeen_clock.n zeq zhg zg6 zg7 zer zda Try.f90 Try.f77 Try.f80
def Try.St_slices_Index_int_int_1 : St := ⟨[], [], 0⟩
attribute [local go_sem] Try.St_slices_Index_int_int_1
def Try.St_slices_Index_int_int_3 (s : List Int) (v : Int) (n1 : Nat) : St := ⟨[(0, .imm 1 (s.map (D.int .i64)) 4), (1, .int .i64 v), (7, .int .i64 (s.length : Int)), (8, .int .i64 (n1 : Int))], [], 0⟩
attribute [local go_sem] Try.St_slices_Index_int_int_3
theorem zhr (s : List Int) (v : Int) (r : Int) (h : zds s v = some r) : CallP Try.prog 90 [.imm 1 (s.map (D.int .i64)) 4, .int .i64 v] (.int .i64 r) := by
 refine za7 Try.tmOk 2 Try.func90 rfl (by decide) rfl rfl (Nat.le_of_ble_eq_true rfl) ?_
 intro hwf
 unfold zds at h
 refine .seq ?_
 refine .pl Try.S [0, 1] ?_
 obtain ⟨x1, hx1, h⟩ := bind_some h
 refine .seqM 0 (fun (j : Unit) => Try.St_slices_Index_int_int_1) (fun j => x1 = (.inr j)) (Nat.le_of_ble_eq_true rfl) ?_ ?_
 ·refine .seq ?_
  refine .pl Try.S [0, 1] ?_
  refine .block ?_
  refine .loopG 0 (fun (j : Nat) => Try.St_slices_Index_int_int_3 s v j) (fun j => j <= s.length /\ zaz v (s.drop j) j  = some x1) (fun j => s.length - j) (0) (Nat.le_of_ble_eq_true rfl) ?_ ⟨Nat.zero_le _, hx1⟩ ?_
  ·exact .m [0, 1, 7, 8] [] []
  rintro n1 ⟨hi1, hx1⟩
  simp only [Try.St_slices_Index_int_int_3]
  refine .wf 7 (.int .i64 (s.length : Int)) rfl ?_
  intro hln1
  replace hln1 : (s.length : Int) <= 9223372036854775807 := by simp only [wf, wfL, IntKind.max, IntKind.min, IntKind.signed, IntKind.bits, List.length_map] at hln1; first | exact hln1.2 | exact hln1.1 | (simp at hln1; omega)
  refine .seq ?_
  refine .pl Try.S [0, 1, 7, 8] ?_
  refine .seq ?_
  refine .cond rfl rfl (fun hc1 => ?_) (fun hc1 => ?_)
  ·have h1 : n1 < s.length := by simpa using hc1
   have hwn1 : wr .i64 ((n1 : Int) + 1) = ((n1 + 1 : Nat) : Int) := zcx h1 hln1
   have hpn1 : wr .i64 ((n1 : Int) - 1) = (n1 : Int) - 1 := zcy h1 hln1
   rw [List.drop_eq_getElem_cons h1, zaz] at hx1
   refine .skip ?_
   refine .seq ?_
   refine .block ?_
   refine .seq ?_
   refine .plx Try.S hwn1 [0, 1, 7, 8] ?_
   refine .seq ?_
   have e1 := zcs (D.int .i64) s n1 h1
   refine .plx Try.S (And.intro e1 hwn1) [0, 1, 5, 7, 8] ?_
   refine .cond rfl rfl (fun hc2 => ?_) (fun hc2 => ?_)
   ·replace hx1 := za2 hx1 hc2
    refine .seq ?_
    refine .plx Try.S hwn1 [5] ?_
    have hq := Option.some.inj hx1
    subst x1
    try dsimp only at h
    have hq := Option.some.inj h
    subst r
    exact .ret ⟨.inr rfl, rsi⟩
   ·replace hx1 := zac hx1 hc2
    refine .skip ?_
    refine .plx Try.S hwn1 [0, 1, 7, 8] ?_
    refine ⟨n1 + 1, ?_, ⟨by omega, hx1⟩, by dsimp only; omega⟩
    exact .m [0, 1, 7, 8] [] []
  ·have h2 : n1 = s.length := by have h2b := of_decide_eq_false hc1; omega
   rw [List.drop_of_length_le (by omega), zaz] at hx1
   refine .exit ?_
   refine ⟨_, ?_, (Option.some.inj hx1).symm⟩
   exact .m [] [] []
 ·rintro ⟨⟩ hj1
  subst x1
  try dsimp only at h
  simp only [Try.St_slices_Index_int_int_1]
  refine .seq ?_
  refine .pl Try.S [] ?_
  have hq := Option.some.inj h
  subst r
  exact .ret ⟨.inr rfl, rsi⟩
theorem zgu (a0 : List Int) (a1 : Int) (r : Bool) (h : zch a0 a1 = some r) : CallP Try.prog 77 [.imm 1 (a0.map (D.int .i64)) 4, .int .i64 a1] (.bool r) := by
 refine za7 Try.tmOk 2 Try.func77 rfl (by decide) rfl rfl (Nat.le_of_ble_eq_true rfl) ?_
 intro hwf
 unfold zch at h
 refine .seq ?_
 refine .pl Try.S [0, 1] ?_
 refine .seq ?_
 obtain ⟨v1, hv1, h⟩ := bind_some h
 refine .rg Try.S [0, 1] ?_
 refine .rn 2 ?_
 refine .call (r := .int .i64 v1) rfl rfl rfl rfl rfl rfl (zhr a0 a1 v1 hv1) ?_
 refine .rn 2 ?_
 refine .nil ⟨nofun, ?_⟩
 have hq := Option.some.inj h
 subst r
 exact .ret ⟨.inr rfl, rsi⟩
def Try.St_quorum_Check_1 (n1 : Int) : St := ⟨[(3, .int .i64 n1)], [], 0⟩
attribute [local go_sem] Try.St_quorum_Check_1
def Try.St_quorum_Check_3 (a0 : List Int) (n3 : Nat) (n2 : Int) : St := ⟨[(3, .int .i64 n2), (9, .imm 1 (a0.map (D.int .i64)) 4), (10, .int .i64 (a0.length : Int)), (11, .int .i64 (n3 : Int))], [], 0⟩
attribute [local go_sem] Try.St_quorum_Check_3
theorem zlk (a0 : List Int) (r : Int) (h : zf7 a0 = some r) : CallP Try.prog 80 [.imm 1 (a0.map (D.int .i64)) 4] (.int .i64 r) := by
 refine za7 Try.tmOk 2 Try.func80 rfl (by decide) rfl rfl (Nat.le_of_ble_eq_true rfl) ?_
 intro hwf
 unfold zf7 at h
 refine .seq ?_
 refine .pl Try.S [0] ?_
 refine .seq ?_
 refine .seq ?_
 refine .pl Try.S [0] ?_
 refine .cond rfl rfl (fun hc1 => ?_) (fun hc1 => ?_)
 ·replace h := za2 h hc1
  refine .seq ?_
  refine .pl Try.S [] ?_
  have hq := Option.some.inj h
  subst r
  exact .ret ⟨.inr rfl, rsi⟩
 ·replace h := zac h hc1
  refine .skip ?_
  refine .seq ?_
  refine .pl Try.S [0] ?_
  obtain ⟨x1, hx1, h⟩ := bind_some h
  refine .seqM 0 (fun (j : Int) => Try.St_quorum_Check_1 j) (fun j => x1 = (.inr j)) (Nat.le_of_ble_eq_true rfl) ?_ ?_
  ·refine .seq ?_
   refine .pl Try.S [0, 3] ?_
   refine .block ?_
   refine .loopG 0 (fun (j : Nat × Int) => Try.St_quorum_Check_3 a0 j.1 j.2) (fun j => j.1 <= a0.length /\ zbr (a0.drop j.1) j.2 = some x1) (fun j => a0.length - j.1) (0, (-1)) (Nat.le_of_ble_eq_true rfl) ?_ ⟨Nat.zero_le _, hx1⟩ ?_
   ·exact .m [3, 9, 10, 11] [] []
   rintro ⟨n3, n2⟩ ⟨hi1, hx1⟩
   simp only [Try.St_quorum_Check_3]
   simp only at hi1 hx1
   refine .wf 10 (.int .i64 (a0.length : Int)) rfl ?_
   intro hln3
   replace hln3 : (a0.length : Int) <= 9223372036854775807 := by simp only [wf, wfL, IntKind.max, IntKind.min, IntKind.signed, IntKind.bits, List.length_map] at hln3; first | exact hln3.2 | exact hln3.1 | (simp at hln3; omega)
   refine .seq ?_
   refine .pl Try.S [3, 9, 10, 11] ?_
   refine .seq ?_
   refine .cond rfl rfl (fun hc2 => ?_) (fun hc2 => ?_)
   ·have h1 : n3 < a0.length := by simpa using hc2
    have hwn3 : wr .i64 ((n3 : Int) + 1) = ((n3 + 1 : Nat) : Int) := zcx h1 hln3
    have hpn3 : wr .i64 ((n3 : Int) - 1) = (n3 : Int) - 1 := zcy h1 hln3
    rw [List.drop_eq_getElem_cons h1, zbr] at hx1
    refine .skip ?_
    refine .seq ?_
    refine .block ?_
    refine .seq ?_
    have e1 := zcs (D.int .i64) a0 n3 h1
    refine .plx Try.S (And.intro e1 hwn3) [3, 9, 10, 11] ?_
    refine .seq ?_
    refine .seq ?_
    refine .plx Try.S hwn3 [3, 5, 9, 10, 11] ?_
    refine .cond rfl rfl (fun hc3 => ?_) (fun hc3 => ?_)
    ·replace hx1 := za2 hx1 hc3
     refine .seq ?_
     refine .plx Try.S hwn3 [] ?_
     have hq := Option.some.inj hx1
     subst x1
     try dsimp only at h
     have hq := Option.some.inj h
     subst r
     exact .ret ⟨.inr rfl, rsi⟩
    ·replace hx1 := zac hx1 hc3
     refine .skip ?_
     refine .plx Try.S hwn3 [5, 9, 10, 11] ?_
     refine .plx Try.S hwn3 [3, 9, 10, 11] ?_
     refine ⟨(n3 + 1, _), ?_, ⟨by omega, hx1⟩, by dsimp only; omega⟩
     exact .m [3, 9, 10, 11] [] []
   ·have h2 : n3 = a0.length := by have h2b := of_decide_eq_false hc2; omega
    rw [List.drop_of_length_le (by omega), zbr] at hx1
    refine .exit ?_
    refine ⟨_, ?_, (Option.some.inj hx1).symm⟩
    exact .m [3] [] []
  ·rintro n1 hj1
   subst x1
   try dsimp only at h
   simp only [Try.St_quorum_Check_1]
   refine .seq ?_
   refine .seq ?_
   refine .pl Try.S [3] ?_
   refine .cond rfl rfl (fun hc4 => ?_) (fun hc4 => ?_)
   ·replace h := za2 h hc4
    refine .seq ?_
    refine .pl Try.S [] ?_
    have hq := Option.some.inj h
    subst r
    exact .ret ⟨.inr rfl, rsi⟩
   ·replace h := zac h hc4
    refine .skip ?_
    refine .seq ?_
    refine .pl Try.S [] ?_
    have hq := Option.some.inj h
    subst r
    exact .ret ⟨.inr rfl, rsi⟩
end Go.Proofs
end
section
namespace Go.Proofs
open Go.Tm
set_option linter.unusedVariables false
def zb0 (a1 : List Int) : List Int -> Nat -> Option (Bool ⊕ Unit)
 | [], n1 =>
  some (.inr ())
 | y1 :: rest1, n1 =>
  if n1 < a1.length then
  if ¬ (y1 = (a1.getD n1 default)) then
  some (.inl false)
  else
  zb0 a1 rest1 (n1 + 1) 
  else none
def zcg (a0 : List Int) (a1 : List Int) : Option Bool :=
 if ¬ ((a0.length : Int) = (a1.length : Int)) then
 some false
 else
 Option.bind (α := Bool ⊕ Unit) (zb0 a1 a0 0 ) fun z => match z with
 | (.inl r) => some r
 | (.inr _) =>
 some true
end Go.Proofs
end
section
namespace Go.Proofs
open Go.Tm Go.RowKit Go.WideShapes
set_option maxRecDepth 100000
set_option maxHeartbeats 4000000
set_option linter.unusedSimpArgs false
set_option linter.unusedVariables false
attribute [local go_sem] zd7 runE runK zfg stepE aop opd opdsL opds opdO ev ofVal keep List.any zcr Bool.false_or Bool.true_or aggEq cond_true cond_false Bool.cond_false_right Bool.cond_true_left beq_true beq_false imp_self implies_true getR getL put St.app effL del nwB ziy Nat.lt_irrefl Nat.lt_add_one ziz Nat.le_refl Nat.beq_refl zfh ze0 capS capK zgy zfo zc7 D.ids D.idsL bin arith zi2 binT dpick Tm.part zh9 fillD oneD loadD zh8 srcD zdv idxOk decide_true gval dstAt D.cells List.map_cons List.map_nil List.take List.drop List.length_map List.append Int.toNat_natCast and_true true_and decide_false List.length_cons List.length_nil List.append_nil List.nil_append Bool.and_true Bool.true_and Bool.not_false Bool.not_true ne_eq not_false_eq_true BEq.rfl List.getElem?_cons_zero List.getElem?_cons_succ List.getElem?_nil Nat.zero_add List.all_cons List.all_nil List.isEmpty_cons List.isEmpty_nil Option.getD_some Option.getD_none List.any_cons List.any_nil List.drop_succ_cons List.drop_zero unfL unf okM okML low3 List.cons_append true_or or_true Nat.zero_mul Nat.zero_le zhk zhj  zio zin zhi Option.isSome_map keyD List.length_replicate List.map_replicate setEl List.length_set zge znv znq zkj zij mkM mkML zkl zkk zik zh1 zgf zen List.take_length Int.toNat_zero zg4 fpOf zg0 opIds mvV mvH mvF pickL D.ren D.renL Blk.ren List.map_append List.length_append Bool.not_not Bool.or_not_self Bool.not_or_self Bool.or_true
attribute [local go_sem] Try.tm_1 Try.tm_2 Try.tm_3 Try.tm_4 Try.tm_5 Try.tm_6 Try.tm_7 Try.tm_8 Try.tm_9 Try.tm_10 Try.tm_11 Try.tm_12 Try.tm_13 Try.tm_14 Try.tm_15 Try.tm_16 Try.tm_17 Try.tm_18 Try.tm_19 Try.tm_20 Try.tm_21 Try.tm_22 Try.tm_23 Try.tm_24 Try.tm_25 Try.tm_26 Try.tm_27 Try.tm_28 Try.tm_30 Try.tm_32 Try.tm_33 Try.tm_35 Try.tm_36 Try.tm_37 Try.tm_38 Try.tm_39 Try.tm_40 Try.tm_41 Try.tm_42 Try.tm_43 Try.tm_44 Try.tm_45 Try.tm_46 Try.tm_48 Try.tm_49 Try.tm_50 Try.tm_51 Try.tm_52 Try.tm_53 Try.tm_54 Try.tm_56 Try.tm_57 Try.tm_59 Try.tm_61 Try.tm_62 Try.tm_63 Try.tm_64 Try.tm_65 Try.tm_66 Try.tm_67 Try.tm_68 Try.tm_69 Try.tm_70 Try.tm_71 Try.tm_72 Try.tm_74 Try.tm_75 Try.tm_76 Try.tm_78 Try.tm_79 Try.tm_80 Try.tm_81 Try.tm_82 Try.tm_83 Try.tm_84 Try.tm_85 Try.tm_86 Try.tm_87 Try.tm_88 Try.tm_89 Try.tm_90 Try.tm_92 Try.tm_94 Try.tm_95 Try.tm_96 Try.tm_97 Try.tm_98 Try.tm_99 Try.tm_100 Try.tm_101 Try.tm_102 Try.tm_103 Try.tm_104 Try.tm_105 Try.tm_107 Try.tm_108 Try.tm_109 Try.tm_110 Try.tm_111 Try.tm_112 Try.tm_113 Try.tm_114 Try.tm_115 Try.tm_116 Try.tm_117 Try.tm_119 Try.tm_120 Try.tm_121 Try.tm_123 Try.tm_124 Try.tm_125 Try.tm_126 Try.tm_127 Try.tm_128 Try.tm_129 Try.tm_130 Try.tm_131 Try.tm_132 Try.tm_133 Try.tm_134 Try.tm_135 Try.tm_136 Try.tm_137 Try.tm_138 Try.tm_139 Try.tm_140 Try.tm_141 Try.tm_142 Try.tm_143 Try.tm_144 Try.tm_145 Try.tm_146 Try.tm_147 Try.tm_148 Try.tm_149 Try.tm_150 Try.tm_151 Try.tm_152 Try.tm_153 Try.tm_155 Try.tm_156 Try.tm_158 Try.tm_160 Try.tm_161 Try.tm_162 Try.tm_163 Try.tm_164 Try.tm_165 Try.tm_168 Try.tm_169 Try.tm_170 Try.tm_171 Try.tm_172 Try.tm_173 Try.tm_174 Try.tm_175 Try.tm_176 TMessage.d TMessage.n TWait.d TWait.n TStamp.d TSkeen.d TSkeen.n TCommand.d TCommand.n Tskeen_clock.d Tskeen_clock.n zeq zhg zg6 zg7 zer zda Try.f51
def Try.St_slices_Equal_int_int_1 : St := ⟨[], [], 0⟩
attribute [local go_sem] Try.St_slices_Equal_int_int_1
def Try.St_slices_Equal_int_int_3 (a0 : List Int) (a1 : List Int) (n1 : Nat) : St := ⟨[(0, .imm 1 (a0.map (D.int .i64)) 4), (1, .imm 1 (a1.map (D.int .i64)) 4), (12, .int .i64 (a0.length : Int)), (13, .int .i64 (n1 : Int))], [], 0⟩
attribute [local go_sem] Try.St_slices_Equal_int_int_3
theorem zf0 (a0 : List Int) (a1 : List Int) (r : Bool) (h : zcg a0 a1 = some r) : CallP Try.prog 51 [.imm 1 (a0.map (D.int .i64)) 4, .imm 1 (a1.map (D.int .i64)) 4] (.bool r) := by
 refine za7 Try.tmOk 2 Try.func51 rfl (by decide) rfl rfl (Nat.le_of_ble_eq_true rfl) ?_
 intro hwf
 unfold zcg at h
 refine .seq ?_
 refine .pl Try.S [0, 1] ?_
 refine .seq ?_
 refine .seq ?_
 refine .pl Try.S [0, 1] ?_
 refine .cond rfl rfl (fun hc1 => ?_) (fun hc1 => ?_)
 ·replace h := za2 h hc1
  refine .seq ?_
  refine .pl Try.S [] ?_
  have hq := Option.some.inj h
  subst r
  exact .ret ⟨.inr rfl, rsi⟩
 ·replace h := zac h hc1
  refine .skip ?_
  obtain ⟨x1, hx1, h⟩ := bind_some h
  refine .seqM 0 (fun (j : Unit) => Try.St_slices_Equal_int_int_1) (fun j => x1 = (.inr j)) (Nat.le_of_ble_eq_true rfl) ?_ ?_
  ·refine .seq ?_
   refine .pl Try.S [0, 1] ?_
   refine .block ?_
   refine .loopG 0 (fun (j : Nat) => Try.St_slices_Equal_int_int_3 a0 a1 j) (fun j => j <= a0.length /\ zb0 a1 (a0.drop j) j  = some x1) (fun j => a0.length - j) (0) (Nat.le_of_ble_eq_true rfl) ?_ ⟨Nat.zero_le _, hx1⟩ ?_
   ·exact .m [0, 1, 12, 13] [] []
   rintro n1 ⟨hi1, hx1⟩
   simp only [Try.St_slices_Equal_int_int_3]
   refine .wf 12 (.int .i64 (a0.length : Int)) rfl ?_
   intro hln1
   replace hln1 : (a0.length : Int) <= 9223372036854775807 := by simp only [wf, wfL, IntKind.max, IntKind.min, IntKind.signed, IntKind.bits, List.length_map] at hln1; first | exact hln1.2 | exact hln1.1 | (simp at hln1; omega)
   refine .seq ?_
   refine .pl Try.S [0, 1, 12, 13] ?_
   refine .seq ?_
   refine .cond rfl rfl (fun hc2 => ?_) (fun hc2 => ?_)
   ·have h1 : n1 < a0.length := by simpa using hc2
    have hwn1 : wr .i64 ((n1 : Int) + 1) = ((n1 + 1 : Nat) : Int) := zcx h1 hln1
    have hpn1 : wr .i64 ((n1 : Int) - 1) = (n1 : Int) - 1 := zcy h1 hln1
    rw [List.drop_eq_getElem_cons h1, zb0] at hx1
    refine .skip ?_
    refine .seq ?_
    refine .block ?_
    refine .seq ?_
    refine .plx Try.S hwn1 [0, 1, 12, 13] ?_
    refine .seq ?_
    obtain ⟨k1, hx1⟩ := zba hx1
    have e1 := zcs (D.int .i64) a0 n1 h1
    have e2 := zbp (D.int .i64) a1 n1
    replace e2 := e2 k1
    refine .rg Try.S [0, 1, 5, 12, 13] ?_
    refine .rdx 6 (And.intro e1 (And.intro e2 hwn1)) ?_
    refine .rdx 3 (And.intro e1 (And.intro e2 hwn1)) ?_
    refine .nil ⟨fun _ => zaj (by kernel_rfl), ?_⟩
    refine .cond rfl rfl (fun hc3 => ?_) (fun hc3 => ?_)
    ·replace hx1 := za2 hx1 hc3
     refine .seq ?_
     refine .plx Try.S hwn1 [] ?_
     have hq := Option.some.inj hx1
     subst x1
     try dsimp only at h
     have hq := Option.some.inj h
     subst r
     exact .ret ⟨.inr rfl, rsi⟩
    ·replace hx1 := zac hx1 hc3
     refine .skip ?_
     refine .plx Try.S hwn1 [0, 1, 12, 13] ?_
     refine ⟨n1 + 1, ?_, ⟨by omega, hx1⟩, by dsimp only; omega⟩
     exact .m [0, 1, 12, 13] [] []
   ·have h2 : n1 = a0.length := by have h2b := of_decide_eq_false hc2; omega
    rw [List.drop_of_length_le (by omega), zb0] at hx1
    refine .exit ?_
    refine ⟨_, ?_, (Option.some.inj hx1).symm⟩
    exact .m [] [] []
  ·rintro ⟨⟩ hj1
   subst x1
   try dsimp only at h
   simp only [Try.St_slices_Equal_int_int_1]
   refine .seq ?_
   refine .pl Try.S [] ?_
   have hq := Option.some.inj h
   subst r
   exact .ret ⟨.inr rfl, rsi⟩
end Go.Proofs
end
section
namespace Go.Proofs
open Go.Tm
set_option linter.unusedVariables false
def zbu (a0 : List Int) : Option ((List Int)) :=
 if a0.length * 8 <= 140737488355328 then
 some a0
 else none
end Go.Proofs
end
section
namespace Go.Proofs
open Go.Tm Go.RowKit Go.WideShapes
set_option maxRecDepth 100000
set_option maxHeartbeats 4000000
set_option linter.unusedSimpArgs false
set_option linter.unusedVariables false
attribute [local go_sem] zd7 runE runK zfg stepE aop opd opdsL opds opdO ev ofVal keep List.any zcr Bool.false_or Bool.true_or aggEq cond_true cond_false Bool.cond_false_right Bool.cond_true_left beq_true beq_false imp_self implies_true getR getL put St.app effL del nwB ziy Nat.lt_irrefl Nat.lt_add_one ziz Nat.le_refl Nat.beq_refl zfh ze0 capS capK zgy zfo zc7 D.ids D.idsL bin arith zi2 binT dpick Tm.part zh9 fillD oneD loadD zh8 srcD zdv idxOk decide_true gval dstAt D.cells List.map_cons List.map_nil List.take List.drop List.length_map List.append Int.toNat_natCast and_true true_and decide_false List.length_cons List.length_nil List.append_nil List.nil_append Bool.and_true Bool.true_and Bool.not_false Bool.not_true ne_eq not_false_eq_true BEq.rfl List.getElem?_cons_zero List.getElem?_cons_succ List.getElem?_nil Nat.zero_add List.all_cons List.all_nil List.isEmpty_cons List.isEmpty_nil Option.getD_some Option.getD_none List.any_cons List.any_nil List.drop_succ_cons List.drop_zero unfL unf okM okML low3 List.cons_append true_or or_true Nat.zero_mul Nat.zero_le zhk zhj  zio zin zhi Option.isSome_map keyD List.length_replicate List.map_replicate setEl List.length_set zge znv znq zkj zij mkM mkML zkl zkk zik zh1 zgf zen List.take_length Int.toNat_zero zg4 fpOf zg0 opIds mvV mvH mvF pickL D.ren D.renL Blk.ren List.map_append List.length_append Bool.not_not Bool.or_not_self Bool.not_or_self Bool.or_true
attribute [local go_sem] Try.tm_1 Try.tm_2 Try.tm_3 Try.tm_4 Try.tm_5 Try.tm_6 Try.tm_7 Try.tm_8 Try.tm_9 Try.tm_10 Try.tm_11 Try.tm_12 Try.tm_13 Try.tm_14 Try.tm_15 Try.tm_16 Try.tm_17 Try.tm_18 Try.tm_19 Try.tm_20 Try.tm_21 Try.tm_22 Try.tm_23 Try.tm_24 Try.tm_25 Try.tm_26 Try.tm_27 Try.tm_28 Try.tm_30 Try.tm_32 Try.tm_33 Try.tm_35 Try.tm_36 Try.tm_37 Try.tm_38 Try.tm_39 Try.tm_40 Try.tm_41 Try.tm_42 Try.tm_43 Try.tm_44 Try.tm_45 Try.tm_46 Try.tm_48 Try.tm_49 Try.tm_50 Try.tm_51 Try.tm_52 Try.tm_53 Try.tm_54 Try.tm_56 Try.tm_57 Try.tm_59 Try.tm_61 Try.tm_62 Try.tm_63 Try.tm_64 Try.tm_65 Try.tm_66 Try.tm_67 Try.tm_68 Try.tm_69 Try.tm_70 Try.tm_71 Try.tm_72 Try.tm_74 Try.tm_75 Try.tm_76 Try.tm_78 Try.tm_79 Try.tm_80 Try.tm_81 Try.tm_82 Try.tm_83 Try.tm_84 Try.tm_85 Try.tm_86 Try.tm_87 Try.tm_88 Try.tm_89 Try.tm_90 Try.tm_92 Try.tm_94 Try.tm_95 Try.tm_96 Try.tm_97 Try.tm_98 Try.tm_99 Try.tm_100 Try.tm_101 Try.tm_102 Try.tm_103 Try.tm_104 Try.tm_105 Try.tm_107 Try.tm_108 Try.tm_109 Try.tm_110 Try.tm_111 Try.tm_112 Try.tm_113 Try.tm_114 Try.tm_115 Try.tm_116 Try.tm_117 Try.tm_119 Try.tm_120 Try.tm_121 Try.tm_123 Try.tm_124 Try.tm_125 Try.tm_126 Try.tm_127 Try.tm_128 Try.tm_129 Try.tm_130 Try.tm_131 Try.tm_132 Try.tm_133 Try.tm_134 Try.tm_135 Try.tm_136 Try.tm_137 Try.tm_138 Try.tm_139 Try.tm_140 Try.tm_141 Try.tm_142 Try.tm_143 Try.tm_144 Try.tm_145 Try.tm_146 Try.tm_147 Try.tm_148 Try.tm_149 Try.tm_150 Try.tm_151 Try.tm_152 Try.tm_153 Try.tm_155 Try.tm_156 Try.tm_158 Try.tm_160 Try.tm_161 Try.tm_162 Try.tm_163 Try.tm_164 Try.tm_165 Try.tm_168 Try.tm_169 Try.tm_170 Try.tm_171 Try.tm_172 Try.tm_173 Try.tm_174 Try.tm_175 Try.tm_176 TMessage.d TMessage.n TWait.d TWait.n TStamp.d TSkeen.d TSkeen.n TCommand.d TCommand.n Tskeen_clock.d Tskeen_clock.n zeq zhg zg6 zg7 zer zda Try.f60
def Try.Re_slices_Clone_int_int (r : (List Int)) : St := ⟨[(2, .ref 0 1 0 r.length (some uC))], [(0, .arr 3 1 true (r.map (D.int .i64)))], 1⟩
attribute [local go_sem] Try.Re_slices_Clone_int_int
theorem zhs (a0 : List Int) (r : (List Int)) (h : zbu a0 = some r) : CallH Try.prog 60 [.imm 1 (a0.map (D.int .i64)) 4] [] (.ref 0 1 0 r.length (some uC)) [(0, some (.arr 3 1 true (r.map (D.int .i64))))] (0, 3) := by
 refine za8 Try.tmOk Try.func60 rfl (by decide) (Nat.le_of_ble_eq_true rfl) (by simp) ?_
 intro hwf
 unfold zbu at h
 refine .ends 0 (Nat.le_refl _) ?_
 refine .nil4 0 1 (a0.map (D.int .i64)) rfl ?_ (fun hl => ?_)
 ·refine .seq ?_
  refine .pl Try.S [0] ?_
  refine .seq ?_
  refine .seq ?_
  refine .pl Try.S [0] ?_
  refine .cond rfl rfl (fun hc => by cases hc) (fun hc => ?_)
  refine .skip ?_
  obtain ⟨k1, h⟩ := zba h
  refine .seqM 0 (fun (_ : Unit) => ⟨[(2, .ref 0 1 0 a0.length (some uC))], [(0, .arr 3 1 true (a0.map (D.int .i64)))], 1⟩) (fun _ => True) (Nat.le_of_ble_eq_true rfl) ?_ (fun _ _ => ?_)
  ·rcases zm4 a0 with hE1 | ⟨y, ys, hE1⟩
   ·have hM1 : a0.map (D.int .i64) = [] := by rw [hE1]; simp
    refine .plain Try.tmOk Try.tmMixed [0] (by decide +kernel) (by intro q hq; simp only [go_sem, Nat.reduceSub, Int.reduceEq, Nat.reduceLT, Nat.reduceDiv, Nat.reduceAdd, Nat.reduceBEq, Nat.reduceLeDiff, reduceCtorEq, Nat.reduceEqDiff, Nat.reduceMod, Nat.reduceMul, Try.tm_23, zku hM1]; exact hq) (by first | rfl | (simp only [go_sem, Nat.reduceLeDiff]; done) | (simp only [go_sem, Nat.reduceLeDiff]; rfl) | (simp; done) | (simp [oneD] <;> omega) | (simp_all; done) | (simp_all [oneD] <;> omega)) (by first | exact Nat.le_refl _ | exact Nat.le_of_ble_eq_true rfl | (dsimp only; omega) | (simp <;> omega)) ?_
    refine ⟨(), ?_, trivial⟩
    refine Goes.new0 1 3 (Nat.le_of_ble_eq_true rfl) ?_
    refine Goes.wk 2 _ (.ref 0 1 0 0 (some uC)) rfl (.own0 0 _ _ _ (by decide)) ?_
    exact .mx hE1 [2] [0] []
   ·have hM1 : a0.map (D.int .i64) ≠ [] := by rw [hE1]; simp
    refine .plain Try.tmOk Try.tmMixed [0] (by decide +kernel) (by intro q hq; simp only [go_sem, Nat.reduceSub, Int.reduceEq, Nat.reduceLT, Nat.reduceDiv, Nat.reduceAdd, Nat.reduceBEq, Nat.reduceLeDiff, reduceCtorEq, Nat.reduceEqDiff, Nat.reduceMod, Nat.reduceMul, Try.tm_23, zjo hM1]; exact hq) (by first | rfl | (simp only [go_sem, Nat.reduceLeDiff]; done) | (simp only [go_sem, Nat.reduceLeDiff]; rfl) | (simp; done) | (simp [oneD] <;> omega) | (simp_all; done) | (simp_all [oneD] <;> omega)) (by first | exact Nat.le_refl _ | exact Nat.le_of_ble_eq_true rfl | (dsimp only; omega) | (simp <;> omega)) ?_
    refine ⟨(), ?_, trivial⟩
    refine Goes.wk 2 _ (.ref 0 1 0 a0.length (some uC)) rfl (.unk _ _ _ _ _) ?_
    exact .mx hE1 [2] [0] []
  have hq := Option.some.inj h
  subst r
  refine .ret ⟨Try.Re_slices_Clone_int_int a0, ?_, .inr rfl, retH [0] ?_ ?_⟩
  ·exact .m [2] [0] []
  ·exact rsi0
  ·rfl
 ·have hE0 : a0 = [] := by simpa using hl
  obtain ⟨k1, h⟩ := zba h
  refine .seq ?_
  refine .pl Try.S [0] ?_
  refine .seq ?_
  refine .seq ?_
  refine .pl Try.S [0] ?_
  refine .cond rfl rfl (fun hc => ?_) (fun hc => by cases hc)
  refine .seq ?_
  refine .pl Try.S [] ?_
  have hq := Option.some.inj h
  subst r
  refine .ret ⟨Try.Re_slices_Clone_int_int a0, ?_, .inr rfl, retH [0] ?_ ?_⟩
  ·refine Goes.new0 1 3 (Nat.le_of_ble_eq_true rfl) ?_
   refine Goes.wk 2 _ (.ref 0 1 0 0 (some uC)) rfl (.own0 0 _ _ _ (by decide)) ?_
   exact .mx hE0 [2] [0] []
  ·exact rsi0
  ·rfl
theorem zf1 (a0 : List Int) (r : (List Int)) (h : zbu a0 = some r) : CallP Try.prog 60 [.imm 1 (a0.map (D.int .i64)) 4] (.imm 1 (r.map (D.int .i64)) 12) :=
 zfw (zjx pl0_i64 rfl rfl) (zhs a0 r h)
end Go.Proofs
end
section
namespace Go.Tm
open Go.RowKit Go.WideShapes
theorem overs_of {P : Program} {K : FuncId} {fn : Func} {t r : TypeId} (hf : P.funcs[K]? = some fn) (hname : (fn.name == "runtime.NumGoroutine") = false) (hb : fn.body.isNone = true) (hn : Extern.findNext fn = none)
  (he : Extern.find fn = some (Extern.SlicesOverlaps.overlaps #[t, t] #[r])) {ti : TI} (ht : tiChk P t ti = true) (hk : ti.kind = 3) : Overs P K := by
 intro w x y la ca lb cb cx cy Tx Ty hne hs hx hy hz
 obtain ⟨el, j, hu, hj, hj1, hj2, hj3, hj4, _, hel'⟩ := zbv ht hk
 subst hel'
 have hsz : ∀ w : World, (sizeOf ti.el).run P w = .ok j.size w := fun w => by simp [sizeOf, typeInfo, hj]
 obtain ⟨xb, xo, xs⟩ := x
 simp only at hs hx hne
 subst hs
 rw [run_callFunc_extern hf hname hb hn he, Go.Lib.run_overlaps_apart w t r ti.el hu j.size hsz ⟨xb, xo, none⟩ y la ca lb cb hne Tx Ty cx.size cy.size (by simp [World.shape?, hx]) (by simp [World.shape?, hy]) hz (by simp [World.frozen?, hx]) (by simp [World.frozen?, hx])]
 rfl
theorem callH_cap {P : Program} {K : FuncId} {i k s n m : Nat} {e s' : Nat} {p p' : Bool} {l l' : List D} {post : List D} {H : List (Nat × Blk)} (hE : Enters P K) (hH : getL H i = some (.arr e s p l)) (hik : i ≠ k)
  (hin : ∀ c, capK c = true -> n <= c -> m <= c -> CallH P K (.ref i s 0 n (some c) :: post) H (.ref i s 0 m (some c)) [(i, some (.arr e s' p' l'))] (k, k))
  (hout : ∀ c, capK c = true -> n <= c -> c < m -> CallH P K (.ref i s 0 n (some c) :: post) H (.ref k s 0 m none) [(k, some (.arr e s' p' l')), (i, none)] (k, k + 1)) :
  CallH P K (.ref i s 0 n none :: post) H (.ref k s 0 m none) [(k, some (.arr e s' p' l')), (i, none)] (k, k + 1) := by
 refine ⟨hE, fun fr w g hp nu vs hM hHs hnw hvs => ?_⟩
 simp only [reps] at hvs
 obtain ⟨v0, vs, rfl, h0, hvs⟩ := hvs
 have h0' := h0
 simp only [rep] at h0
 obtain ⟨q1, ad, cap, rfl, q2, q3, q4, q5, q6⟩ := h0
 obtain ⟨b1, T1, n1, z1, z2, z3⟩ := q5.2 (by simp)
 have hc : rep (cx w g hp) (.ref i s 0 n (some cap)) (.slice ad n cap) := by
  simp only [rep]
  exact ⟨q1, ad, cap, rfl, q2, q3, q4, ⟨fun c h _ => by cases h; rfl, fun h => by cases h⟩, q6⟩
 have hargs : reps (cx w g hp) (.ref i s 0 n (some cap) :: post) (.slice ad n cap :: vs) := by
  simp only [reps]
  exact ⟨_, _, rfl, hc, hvs⟩
 have hck : capK cap = true := Nat.ble_eq_true_of_le (by omega)
 by_cases hcase : cap < m
 ·exact (hout cap hck q2 hcase).2 fr w g hp nu _ hM hHs hnw hargs
 ·refine ((hin cap hck q2 (by omega)).2 fr w g hp nu _ hM hHs (fun id h1 h2 => by have h1 : k <= id := h1; have h2 : id < k := h2; omega) hargs).mono ?_
  rintro ee w' ⟨v, g', he, ha⟩
  have hki : Nat.beq k i = false := zby fun e => hik e.symm
  have hnk : nu k = true := hnw k (Nat.le_refl _) (Nat.lt_succ_self _)
  have hpi : hp i = some (.arr e s p l) := hHs i _ hH
  have hni : nu i = false := by
   cases h : nu i
   ·rfl
   ·rw [(hM.nw i h).2] at hpi; cases hpi
  have hσi : g'.σ i = some (b1, 0) := (ha.gs i hni).trans z1
  let E0 : En := ⟨w', fr, fun _ => True, g', effN nu (k, k)⟩
  let F0 : FrS := ⟨fun _ => .undef, effH hp [(i, some (.arr e s' p' l'))], effN nu (k, k)⟩
  let a0 : Act := ⟨#[], []⟩
  have hR0 : Rel E0 0 F0 a0 w' g' := ⟨Nat.zero_le _, rfl, fun _ => by simp only [F0, rep], ha.mem, fun _ _ _ _ _ => .inr trivial, Keep.refl _ _, ⟨rfl, rfl⟩, fun _ _ => rfl, fun _ h => h⟩
  have hpi' : effH hp [(i, some (.arr e s' p' l'))] i = some (.arr e s' p' l') := by simp [effH, getL]
  have hnk0 : F0.nu k = true := by
   show effN nu (k, k) k = true
   simp [effN, hnk]
  obtain ⟨r1, _⟩ := Rel.made hR0 (m := k) (blk := .arr e s' p' l') (loc := some (b1, 0)) (kl := some i) (w' := w') hnk0 ((Keep.refl _ w').mono fun _ _ h => h)
   (by rintro b o h; cases h; exact .inr ⟨i, 0, rfl, by show effH hp [(i, some (.arr e s' p' l'))] i ≠ none; rw [hpi']; simp, hσi⟩)
   (by
    intro C hC hle hrf hσ
    rcases ha.mem.hd i _ hpi' with ⟨_, h⟩ | ⟨b', cs, h1, h2, h3, h4⟩
    ·have h : g'.σ i = none := h
     rw [hσi] at h; cases h
    ·have h1 : g'.σ i = some (b', 0) := h1
     rw [hσi] at h1
     simp only [Option.some.injEq, Prod.mk.injEq] at h1
     obtain ⟨rfl, _⟩ := h1
     exact .inr ⟨b1, cs, hσ, by subst hC; exact h2, h3, zef (C := { cx w' g' (effH hp [(i, some (.arr e s' p' l'))]) with rf := !p' }) (C' := { C with rf := !p' }) (le_rf hle rfl _ _ id) _ _ _ _ (by subst hC; rfl) h4⟩)
  have hhp : effH (effH hp [(i, some (.arr e s' p' l'))]) ((k, some (.arr e s' p' l')) :: kill (some i)) = effH hp [(k, some (.arr e s' p' l')), (i, none)] := by
   funext x
   simp only [effH, kill, getL]
   cases h1 : Nat.beq k x
   ·cases h2 : Nat.beq i x <;> simp
   ·simp
  have hnn : effN (effN nu (k, k)) (k, k + 1) = effN nu (k, k + 1) := by
   funext x
   simp only [effN]
   have : (decide (k <= x) && decide (x < k)) = false := by
    cases hx : decide (k <= x) <;> simp at hx ⊢
    omega
   rw [this]; simp
  have hmem := r1.mem
  simp only [FrS.eff, F0] at hmem
  rw [hhp, hnn] at hmem
  have hpk : effH hp [(k, some (.arr e s' p' l')), (i, none)] i = none := by simp [effH, getL, hki]
  refine ⟨v, setσ g' k (some (b1, 0)), he, ha.gz, fun id hid => ?_, ha.keep, hmem, ?_, ?_⟩
  ·have : id ≠ k := by rintro rfl; rw [hnk] at hid; cases hid
   show (if id = k then _ else g'.σ id) = g.σ id
   rw [if_neg this]
   exact ha.gs id hid
  ·rintro b0 ⟨id, o, h1, h2⟩
   have h2 : (if id = k then some (b1, 0) else g'.σ id) = some (b0, o) := h2
   by_cases hidk : id = k
   ·rw [if_pos hidk] at h2
    simp only [Option.some.injEq, Prod.mk.injEq] at h2
    obtain ⟨rfl, rfl⟩ := h2
    exact ha.own b1 ⟨i, 0, by rw [hpi']; simp, hσi⟩
   ·rw [if_neg hidk] at h2
    by_cases hidi : id = i
    ·subst hidi
     rw [hpk] at h1
     exact absurd rfl h1
    ·refine ha.own b0 ⟨id, o, ?_, h2⟩
     have a1 : Nat.beq k id = false := zby fun e => hidk e.symm
     have a2 : Nat.beq i id = false := zby fun e => hidi e.symm
     simp only [effH, getL, a1, a2] at h1 ⊢
     exact h1
  ·have hres := ha.res
   simp only [rep] at hres ⊢
   obtain ⟨_, ad', cap', hv, k1, k2, k3, k4, k5⟩ := hres
   have hcc := k4.1 cap rfl (Nat.ble_eq_true_of_le (by omega))
   subst hcc
   have hsh : w'.shape? b1 = some (T1, n1) := by
    have := ha.keep.shp b1 (zjq (w := w) z2)
    rw [this]; exact z2
   refine ⟨by simp [cx], ad', cap', hv, k1, k2, k3, ⟨(fun c h => by cases h), fun _ => ⟨b1, T1, n1, by simp [cx, setσ], hsh, by omega⟩⟩, ?_⟩
   rcases k5 with k5 | ⟨b, T, nn, y1, y2, y3, y4⟩
   ·exact .inl k5
   ·have y1 : g'.σ i = some (b, 0) := y1
    rw [hσi] at y1
    simp only [Option.some.injEq, Prod.mk.injEq] at y1
    obtain ⟨rfl, _⟩ := y1
    exact .inr ⟨b1, T, nn, by simp [cx, setσ], y2, y3, y4⟩
theorem callH_capW {P : Program} {K : FuncId} {i k s n m : Nat} {e s' : Nat} {p p' : Bool} {l l' : List D} {post : List D} {H : List (Nat × Blk)} (hE : Enters P K) (hH : getL H i = some (.arr e s p l)) (hik : i ≠ k) (hm0 : 0 < m \/ 0 < n)
  (hin : ∀ c, capK c = true -> n <= c -> m <= c -> CallH P K (.ref i s 0 n (some c) :: post) H (.ref i s 0 m (some c)) [(i, some (.arr e s' p' l'))] (k, k))
  (hout : ∀ c, capK c = true -> n <= c -> c < m -> CallH P K (.ref i s 0 n (some c) :: post) H (.ref k s 0 m none) [(k, some (.arr e s' p' l')), (i, none)] (k, k + 1)) :
  CallH P K (.ref i s 0 n (some uC) :: post) H (.ref k s 0 m (some uC)) [(k, some (.arr e s' p' l')), (i, none)] (k, k + 1) := by
 refine ⟨hE, fun fr w g hp nu vs hM hHs hnw hvs => ?_⟩
 simp only [reps] at hvs
 obtain ⟨v0, vs, rfl, h0, hvs⟩ := hvs
 have h0' := h0
 simp only [rep] at h0
 obtain ⟨q1, ad, cap, rfl, q2, q3, q4, q5, q6⟩ := h0
 have hc : rep (cx w g hp) (.ref i s 0 n (some cap)) (.slice ad n cap) := by
  simp only [rep]
  exact ⟨q1, ad, cap, rfl, q2, q3, q4, ⟨fun c h _ => by cases h; rfl, fun h => by cases h⟩, q6⟩
 have hargs : reps (cx w g hp) (.ref i s 0 n (some cap) :: post) (.slice ad n cap :: vs) := by
  simp only [reps]
  exact ⟨_, _, rfl, hc, hvs⟩
 have hck : capK cap = true := Nat.ble_eq_true_of_le (by omega)
 by_cases hcase : cap < m
 ·refine ((hout cap hck q2 hcase).2 fr w g hp nu _ hM hHs hnw hargs).mono ?_
  rintro ee w' ⟨v, g', he, ha⟩
  exact ⟨v, g', he, ha.gz, ha.gs, ha.keep, ha.mem, ha.own, rep_unk ha.res rfl⟩
 ·have hq6 := q6
  rcases q6 with q6 | ⟨b1, T1, n1, z1, _, z2, z3⟩
  ·omega
  refine ((hin cap hck q2 (by omega)).2 fr w g hp nu _ hM hHs (fun id h1 h2 => by have h1 : k <= id := h1; have h2 : id < k := h2; omega) hargs).mono ?_
  rintro ee w' ⟨v, g', he, ha⟩
  have hki : Nat.beq k i = false := zby fun e => hik e.symm
  have hnk : nu k = true := hnw k (Nat.le_refl _) (Nat.lt_succ_self _)
  have hpi : hp i = some (.arr e s p l) := hHs i _ hH
  have hni : nu i = false := by
   cases h : nu i
   ·rfl
   ·rw [(hM.nw i h).2] at hpi; cases hpi
  have hσi : g'.σ i = some (b1, 0) := (ha.gs i hni).trans z1
  let E0 : En := ⟨w', fr, fun _ => True, g', effN nu (k, k)⟩
  let F0 : FrS := ⟨fun _ => .undef, effH hp [(i, some (.arr e s' p' l'))], effN nu (k, k)⟩
  let a0 : Act := ⟨#[], []⟩
  have hR0 : Rel E0 0 F0 a0 w' g' := ⟨Nat.zero_le _, rfl, fun _ => by simp only [F0, rep], ha.mem, fun _ _ _ _ _ => .inr trivial, Keep.refl _ _, ⟨rfl, rfl⟩, fun _ _ => rfl, fun _ h => h⟩
  have hpi' : effH hp [(i, some (.arr e s' p' l'))] i = some (.arr e s' p' l') := by simp [effH, getL]
  have hnk0 : F0.nu k = true := by
   show effN nu (k, k) k = true
   simp [effN, hnk]
  obtain ⟨r1, _⟩ := Rel.made hR0 (m := k) (blk := .arr e s' p' l') (loc := some (b1, 0)) (kl := some i) (w' := w') hnk0 ((Keep.refl _ w').mono fun _ _ h => h)
   (by rintro b o h; cases h; exact .inr ⟨i, 0, rfl, by show effH hp [(i, some (.arr e s' p' l'))] i ≠ none; rw [hpi']; simp, hσi⟩)
   (by
    intro C hC hle hrf hσ
    rcases ha.mem.hd i _ hpi' with ⟨_, h⟩ | ⟨b', cs, h1, h2, h3, h4⟩
    ·have h : g'.σ i = none := h
     rw [hσi] at h; cases h
    ·have h1 : g'.σ i = some (b', 0) := h1
     rw [hσi] at h1
     simp only [Option.some.injEq, Prod.mk.injEq] at h1
     obtain ⟨rfl, _⟩ := h1
     exact .inr ⟨b1, cs, hσ, by subst hC; exact h2, h3, zef (C := { cx w' g' (effH hp [(i, some (.arr e s' p' l'))]) with rf := !p' }) (C' := { C with rf := !p' }) (le_rf hle rfl _ _ id) _ _ _ _ (by subst hC; rfl) h4⟩)
  have hhp : effH (effH hp [(i, some (.arr e s' p' l'))]) ((k, some (.arr e s' p' l')) :: kill (some i)) = effH hp [(k, some (.arr e s' p' l')), (i, none)] := by
   funext x
   simp only [effH, kill, getL]
   cases h1 : Nat.beq k x
   ·cases h2 : Nat.beq i x <;> simp
   ·simp
  have hnn : effN (effN nu (k, k)) (k, k + 1) = effN nu (k, k + 1) := by
   funext x
   simp only [effN]
   have : (decide (k <= x) && decide (x < k)) = false := by
    cases hx : decide (k <= x) <;> simp at hx ⊢
    omega
   rw [this]; simp
  have hmem := r1.mem
  simp only [FrS.eff, F0] at hmem
  rw [hhp, hnn] at hmem
  have hpk : effH hp [(k, some (.arr e s' p' l')), (i, none)] i = none := by simp [effH, getL, hki]
  refine ⟨v, setσ g' k (some (b1, 0)), he, ha.gz, fun id hid => ?_, ha.keep, hmem, ?_, ?_⟩
  ·have : id ≠ k := by rintro rfl; rw [hnk] at hid; cases hid
   show (if id = k then _ else g'.σ id) = g.σ id
   rw [if_neg this]
   exact ha.gs id hid
  ·rintro b0 ⟨id, o, h1, h2⟩
   have h2 : (if id = k then some (b1, 0) else g'.σ id) = some (b0, o) := h2
   by_cases hidk : id = k
   ·rw [if_pos hidk] at h2
    simp only [Option.some.injEq, Prod.mk.injEq] at h2
    obtain ⟨rfl, rfl⟩ := h2
    exact ha.own b1 ⟨i, 0, by rw [hpi']; simp, hσi⟩
   ·rw [if_neg hidk] at h2
    by_cases hidi : id = i
    ·subst hidi
     rw [hpk] at h1
     exact absurd rfl h1
    ·refine ha.own b0 ⟨id, o, ?_, h2⟩
     have a1 : Nat.beq k id = false := zby fun e => hidk e.symm
     have a2 : Nat.beq i id = false := zby fun e => hidi e.symm
     simp only [effH, getL, a1, a2] at h1 ⊢
     exact h1
  ·have hres := ha.res
   simp only [rep] at hres ⊢
   obtain ⟨_, ad', cap', hv, k1, k2, k3, k4, k5⟩ := hres
   have hcc := k4.1 cap rfl (Nat.ble_eq_true_of_le (by omega))
   subst hcc
   have hsh : w'.shape? b1 = some (T1, n1) := by
    have := ha.keep.shp b1 (zjq (w := w) z2)
    rw [this]; exact z2
   refine ⟨by simp [cx], ad', cap', hv, k1, k2, k3, ⟨(fun c h hk => by cases h; cases hk), (fun h => by cases h)⟩, ?_⟩
   rcases k5 with k5 | ⟨b, T, nn, y1, y2, y3, y4⟩
   ·exact .inl k5
   ·have y1 : g'.σ i = some (b, 0) := y1
    rw [hσi] at y1
    simp only [Option.some.injEq, Prod.mk.injEq] at y1
    obtain ⟨rfl, _⟩ := y1
    exact .inr ⟨b1, T, nn, by simp [cx, setσ], y2, y3, y4⟩
end Go.Tm
end
section
namespace Go.Proofs
open Go.Tm Go.RowKit Go.WideShapes
set_option maxRecDepth 100000
set_option linter.unusedSimpArgs false
set_option linter.unusedVariables false
attribute [local go_sem] zd7 runE runK zfg stepE aop opd opdsL opds opdO ev ofVal keep List.any zcr Bool.false_or Bool.true_or aggEq cond_true cond_false Bool.cond_false_right Bool.cond_true_left beq_true beq_false imp_self implies_true getR getL put St.app effL del nwB ziy Nat.lt_irrefl Nat.lt_add_one ziz Nat.le_refl Nat.beq_refl zfh ze0 capS zgy zfo zc7 D.ids D.idsL bin arith zi2 binT dpick Tm.part zh9 fillD oneD loadD zh8 srcD zdv idxOk decide_true gval dstAt D.cells List.map_cons List.map_nil List.take List.drop List.length_map List.append Int.toNat_natCast and_true true_and decide_false List.length_cons List.length_nil List.append_nil List.nil_append Bool.and_true Bool.true_and Bool.not_false Bool.not_true ne_eq not_false_eq_true BEq.rfl List.getElem?_cons_zero List.getElem?_cons_succ List.getElem?_nil Nat.zero_add List.all_cons List.all_nil List.isEmpty_cons List.isEmpty_nil Option.getD_some Option.getD_none List.any_cons List.any_nil List.drop_succ_cons List.drop_zero unfL unf okM okML low3 List.cons_append true_or or_true Nat.zero_mul Nat.zero_le fpOf opIds
theorem overs91 : Overs Try.prog 91 := overs_of (r := 4) Try.func91 (by kernel_rfl) (by kernel_rfl) (by kernel_rfl) (by kernel_rfl) (Try.tmOk.1 43 (by decide)) rfl
theorem ins78e (i j k : Nat) (hij : i ≠ j) (hik : i ≠ k) (hjk : j ≠ k) (L : List D) (x : D) (P Q : Bool) (hL : L.length < 1000000) :
  CallH Try.prog 78 [.ref i 7 0 L.length (some uC), .int .i64 (L.length : Int), .ref j 7 0 1 (some 1)] [(i, .arr 69 7 P L), (j, .arr 69 7 Q [x])] (.ref k 7 0 (L.length + 1) (some uC)) [(k, some (.arr 69 7 (P && Q) (L ++ [x]))), (i, none)] (k, k + 1) := by
 have bij : Nat.beq i j = false := zby hij
 have bik : Nat.beq i k = false := zby hik
 have bjk : Nat.beq j k = false := zby hjk
 have bji : Nat.beq j i = false := zby (Ne.symm hij)
 have bki : Nat.beq k i = false := zby (Ne.symm hik)
 have bkj : Nat.beq k j = false := zby (Ne.symm hjk)
 have n10 : ¬ ((1 : Int) = 0) := by omega
 have hx : (1 : Nat) <= 1 := Nat.le_refl _
 refine za8 Try.tmOk Try.func78 rfl (by decide) (Nat.le_of_ble_eq_true rfl) (by simp) ?_
 intro hwf
 refine .seq ?_
 refine .plain Try.tmOk Try.tmMixed [0, 1, 2] (by decide +kernel) (by intro q hq; simp only [go_sem, zai, Nat.reduceSub, Int.reduceEq, Nat.reduceLT, Nat.reduceDiv, Nat.reduceAdd, Nat.reduceBEq, Nat.reduceLeDiff, reduceCtorEq, Nat.reduceEqDiff, Nat.reduceMod, capK, bij, bik, bjk, bji, bki, bkj]; exact hq) (by first | rfl | (simp only [go_sem, Nat.reduceLeDiff]; done) | (simp only [go_sem, Nat.reduceLeDiff]; rfl) | (simp; done) | (simp [oneD] <;> omega) | (simp_all; done) | (simp_all [oneD] <;> omega)) (by first | exact Nat.le_refl _ | exact Nat.le_of_ble_eq_true rfl | (dsimp only; omega) | (simp <;> omega)) ?_
 refine .seq ?_
 refine .plain Try.tmOk Try.tmMixed [0, 1, 2] (by decide +kernel) (by intro q hq; simp only [go_sem, zai, Nat.reduceSub, Int.reduceEq, Nat.reduceLT, Nat.reduceDiv, Nat.reduceAdd, Nat.reduceBEq, Nat.reduceLeDiff, reduceCtorEq, Nat.reduceEqDiff, Nat.reduceMod, capK, Try.tm_43, Try.tm_3, bij, bik, bjk, bji, bki, bkj]; exact hq) (by first | rfl | (simp only [go_sem, Nat.reduceLeDiff]; done) | (simp only [go_sem, Nat.reduceLeDiff]; rfl) | (simp; done) | (simp [oneD] <;> omega) | (simp_all; done) | (simp_all [oneD] <;> omega)) (by first | exact Nat.le_refl _ | exact Nat.le_of_ble_eq_true rfl | (dsimp only; omega) | (simp <;> omega)) ?_
 refine .seq ?_
 refine .plain Try.tmOk Try.tmMixed [0, 1, 2] (by decide +kernel) (by intro q hq; simp only [go_sem, zai, Nat.reduceSub, Int.reduceEq, Nat.reduceLT, Nat.reduceDiv, Nat.reduceAdd, Nat.reduceBEq, Nat.reduceLeDiff, reduceCtorEq, Nat.reduceEqDiff, Nat.reduceMod, capK, Try.tm_43, Try.tm_3, bij, bik, bjk, bji, bki, bkj]; exact hq) (by first | rfl | (simp only [go_sem, Nat.reduceLeDiff]; done) | (simp only [go_sem, Nat.reduceLeDiff]; rfl) | (simp; done) | (simp [oneD] <;> omega) | (simp_all; done) | (simp_all [oneD] <;> omega)) (by first | exact Nat.le_refl _ | exact Nat.le_of_ble_eq_true rfl | (dsimp only; omega) | (simp <;> omega)) ?_
 refine .seq ?_
 refine .seq ?_
 refine .plain Try.tmOk Try.tmMixed [0, 1, 2, 7] (by decide +kernel) (by intro q hq; simp only [go_sem, zai, Nat.reduceSub, Int.reduceEq, Nat.reduceLT, Nat.reduceDiv, Nat.reduceAdd, Nat.reduceBEq, Nat.reduceLeDiff, reduceCtorEq, Nat.reduceEqDiff, Nat.reduceMod, capK, Try.tm_43, Try.tm_3]; exact hq) (by first | rfl | (simp only [go_sem, Nat.reduceLeDiff]; done) | (simp only [go_sem, Nat.reduceLeDiff]; rfl) | (simp; done) | (simp [oneD] <;> omega) | (simp_all; done) | (simp_all [oneD] <;> omega)) (by first | exact Nat.le_refl _ | exact Nat.le_of_ble_eq_true rfl | (dsimp only; omega) | (simp <;> omega)) ?_
 refine .cond rfl rfl (fun hc => by simp at hc) (fun hc => ?_)
 refine .skip ?_
 refine .seq ?_
 refine .plain Try.tmOk Try.tmMixed [0, 1, 2, 7] (by decide +kernel) (by intro q hq; simp only [go_sem, zai, Nat.reduceSub, Int.reduceEq, Nat.reduceLT, Nat.reduceDiv, Nat.reduceAdd, Nat.reduceBEq, Nat.reduceLeDiff, reduceCtorEq, Nat.reduceEqDiff, Nat.reduceMod, capK, Try.tm_43, Try.tm_3]; exact hq) (by first | rfl | (simp only [go_sem, Nat.reduceLeDiff]; done) | (simp only [go_sem, Nat.reduceLeDiff]; rfl) | (simp; done) | (simp [oneD] <;> omega) | (simp_all; done) | (simp_all [oneD] <;> omega)) (by first | exact Nat.le_refl _ | exact Nat.le_of_ble_eq_true rfl | (dsimp only; omega) | (simp <;> omega)) ?_
 refine .seq ?_
 refine .seq ?_
 refine .plain Try.tmOk Try.tmMixed [0, 1, 2, 7, 8] (by decide +kernel) (by intro q hq; simp only [go_sem, zai, Nat.reduceSub, Int.reduceEq, Nat.reduceLT, Nat.reduceDiv, Nat.reduceAdd, Nat.reduceBEq, Nat.reduceLeDiff, reduceCtorEq, Nat.reduceEqDiff, Nat.reduceMod, capK, Try.tm_43, Try.tm_3]; exact hq) (by first | rfl | (simp only [go_sem, Nat.reduceLeDiff]; done) | (simp only [go_sem, Nat.reduceLeDiff]; rfl) | (simp; done) | (simp [oneD] <;> omega) | (simp_all; done) | (simp_all [oneD] <;> omega)) (by first | exact Nat.le_refl _ | exact Nat.le_of_ble_eq_true rfl | (dsimp only; omega) | (simp <;> omega)) ?_
 refine .cond rfl rfl (fun hc => ?_) (fun hc => by simp at hc)
 refine .seq ?_
 refine .plain Try.tmOk Try.tmMixed [0, 2] (by decide +kernel) (by intro q hq; simp only [go_sem, zai, Nat.reduceSub, Int.reduceEq, Nat.reduceLT, Nat.reduceDiv, Nat.reduceAdd, Nat.reduceBEq, Nat.reduceLeDiff, reduceCtorEq, Nat.reduceEqDiff, Nat.reduceMod, capK, Try.tm_43, Try.tm_3, bij, bik, bjk, bji, bki, bkj]; exact hq) (by first | rfl | (simp only [go_sem, Nat.reduceLeDiff]; done) | (simp only [go_sem, Nat.reduceLeDiff]; rfl) | (simp; done) | (simp [oneD] <;> omega) | (simp_all; done) | (simp_all [oneD] <;> omega)) (by first | exact Nat.le_refl _ | exact Nat.le_of_ble_eq_true rfl | (dsimp only; omega) | (simp <;> omega)) ?_
 refine .ret ⟨.inr rfl, retH [j, k] ?_ ?_⟩
 ·simp only [ResIs, resL, resD, resT, go_sem, zai, Nat.reduceSub, Int.reduceEq, Nat.reduceLT, Nat.reduceDiv, Nat.reduceAdd, Nat.reduceBEq, Nat.reduceLeDiff, reduceCtorEq, Nat.reduceEqDiff, Nat.reduceMod, Try.f78]
 ·simp only [pickL, getL, effL, put, del, Nat.beq_refl, cond_true, cond_false, bij, bik, bjk, bji, bki, bkj, List.take_length]
theorem ins78g (i j k : Nat) (hij : i ≠ j) (hik : i ≠ k) (hjk : j ≠ k) (L : List D) (x : D) (P Q : Bool) (at' c : Nat) (hck : capK c = true) (hat : at' < L.length) (hL : L.length < 1000000) (h1 : L.length <= c) (h2 : c < L.length + 1) :
  CallH Try.prog 78 [.ref i 7 0 L.length (some c), .int .i64 (at' : Int), .ref j 7 0 1 (some 1)] [(i, .arr 69 7 P L), (j, .arr 69 7 Q [x])] (.ref k 7 0 (L.length + 1) none) [(k, some (.arr 69 7 (P && Q) (L.take at' ++ x :: L.drop at'))), (i, none)] (k, k + 1) := by
 obtain rfl : c = L.length := by omega
 have hck2 := hck
 have bij : Nat.beq i j = false := zby hij
 have bik : Nat.beq i k = false := zby hik
 have bjk : Nat.beq j k = false := zby hjk
 have bji : Nat.beq j i = false := zby (Ne.symm hij)
 have bki : Nat.beq k i = false := zby (Ne.symm hik)
 have bkj : Nat.beq k j = false := zby (Ne.symm hjk)
 have hw : wr .i64 ((L.length : Int) + ((1 : Nat) : Int)) = ((L.length + 1 : Nat) : Int) := wr_eq _ _ (by show (-9223372036854775808 : Int) <= _; omega) (by show _ <= (9223372036854775807 : Int); omega)
 have hw2 : wr .i64 (((L.length + 1 : Nat) : Int) - (at' : Int)) = ((L.length + 1 - at' : Nat) : Int) := by
  rw [wr_eq _ _ (by show (-9223372036854775808 : Int) <= _; omega) (by show _ <= (9223372036854775807 : Int); omega)]
  omega
 have hw3 : wr .i64 ((at' : Int) + ((1 : Nat) : Int)) = ((at' + 1 : Nat) : Int) := wr_eq _ _ (by show (-9223372036854775808 : Int) <= _; omega) (by show _ <= (9223372036854775807 : Int); omega)
 have ha : at' + (L.length + 1 - at') = L.length + 1 := by omega
 have pq : (P && Q && P) = (P && Q) := by cases P <;> cases Q <;> rfl
 have hm1 : Nat.min 1 (L.length + 1 - at') = 1 := by show min 1 (L.length + 1 - at') = 1; omega
 have hm2 : Nat.min (L.length - at') (L.length + 1 - (at' + 1)) = L.length - at' := by show min (L.length - at') (L.length + 1 - (at' + 1)) = L.length - at'; omega
 have tk : (L.take at').length = at' := by simp; omega
 have e1 : List.take at' (List.take at' L ++ List.replicate (L.length + 1 - at') (D.agg [D.int .i64 0, D.imm 0 [] 0, D.int .i64 0, D.str [], D.str [], D.int .i64 0, D.bool false])) = List.take at' L := by
  rw [List.take_append_of_le_length (by omega), List.take_of_length_le (by omega)]
 have e2 : List.drop (at' + 1) (List.take at' L ++ List.replicate (L.length + 1 - at') (D.agg [D.int .i64 0, D.imm 0 [] 0, D.int .i64 0, D.str [], D.str [], D.int .i64 0, D.bool false])) = List.replicate (L.length - at') (D.agg [D.int .i64 0, D.imm 0 [] 0, D.int .i64 0, D.str [], D.str [], D.int .i64 0, D.bool false]) := by
  rw [List.drop_append, List.drop_eq_nil_of_le (by omega), tk, List.nil_append, List.drop_replicate]
  congr 1; omega
 have e3 : List.take (at' + 1) (List.take at' L ++ [x] ++ List.replicate (L.length - at') (D.agg [D.int .i64 0, D.imm 0 [] 0, D.int .i64 0, D.str [], D.str [], D.int .i64 0, D.bool false])) = List.take at' L ++ [x] := by
  rw [List.take_append_of_le_length (by simp; omega), List.take_of_length_le (by simp; omega)]
 have e4 : List.drop (at' + 1 + (L.length - at')) (List.take at' L ++ [x] ++ List.replicate (L.length - at') (D.agg [D.int .i64 0, D.imm 0 [] 0, D.int .i64 0, D.str [], D.str [], D.int .i64 0, D.bool false])) = [] := List.drop_eq_nil_of_le (by simp; omega)
 have e5 : List.take (L.length - at') (List.drop at' L) = List.drop at' L := List.take_of_length_le (by simp)
 have l1 : (List.take at' L ++ List.replicate (L.length + 1 - at') (D.agg [D.int .i64 0, D.imm 0 [] 0, D.int .i64 0, D.str [], D.str [], D.int .i64 0, D.bool false])).length = L.length + 1 := by simp; omega
 have l2 : (List.take at' L ++ [x] ++ List.replicate (L.length - at') (D.agg [D.int .i64 0, D.imm 0 [] 0, D.int .i64 0, D.str [], D.str [], D.int .i64 0, D.bool false])).length = L.length + 1 := by simp; omega
 refine za8 Try.tmOk Try.func78 rfl (by decide) (Nat.le_of_ble_eq_true rfl) (by simp) ?_
 intro hwf
 refine .seq ?_
 refine .plain Try.tmOk Try.tmMixed [0, 1, 2] (by decide +kernel) (by intro q hq; simp only [go_sem, zai, Nat.reduceSub, Int.reduceEq, Nat.reduceLT, Nat.reduceDiv, Nat.reduceAdd, Nat.reduceBEq, Nat.reduceLeDiff, reduceCtorEq, Nat.reduceEqDiff, Nat.reduceMod, hck]; exact hq) (by first | rfl | (simp only [go_sem, Nat.reduceLeDiff]; done) | (simp only [go_sem, Nat.reduceLeDiff]; rfl) | (simp; done) | (simp [oneD] <;> omega) | (simp_all; done) | (simp_all [oneD] <;> omega)) (by first | exact Nat.le_refl _ | exact Nat.le_of_ble_eq_true rfl | (dsimp only; omega) | (simp <;> omega)) ?_
 refine .seq ?_
 refine .plain Try.tmOk Try.tmMixed [0, 1, 2] (by decide +kernel) (by intro q hq; simp only [go_sem, zai, Nat.reduceSub, Int.reduceEq, Nat.reduceLT, Nat.reduceDiv, Nat.reduceAdd, Nat.reduceBEq, Nat.reduceLeDiff, reduceCtorEq, Nat.reduceEqDiff, Nat.reduceMod, Try.tm_43, Try.tm_3, hck]; exact hq) (by first | rfl | (simp only [go_sem, Nat.reduceLeDiff]; done) | (simp only [go_sem, Nat.reduceLeDiff]; rfl) | (simp; done) | (simp [oneD] <;> omega) | (simp_all; done) | (simp_all [oneD] <;> omega)) (by first | exact Nat.le_refl _ | exact Nat.le_of_ble_eq_true rfl | (dsimp only; omega) | (simp <;> omega)) ?_
 refine .seq ?_
 refine .plain Try.tmOk Try.tmMixed [0, 1, 2] (by decide +kernel) (by intro q hq; simp only [go_sem, zai, Nat.reduceSub, Int.reduceEq, Nat.reduceLT, Nat.reduceDiv, Nat.reduceAdd, Nat.reduceBEq, Nat.reduceLeDiff, reduceCtorEq, Nat.reduceEqDiff, Nat.reduceMod, Try.tm_43, Try.tm_3, hck]; exact hq) (by first | rfl | (simp only [go_sem, Nat.reduceLeDiff]; done) | (simp only [go_sem, Nat.reduceLeDiff]; rfl) | (simp; done) | (simp [oneD] <;> omega) | (simp_all; done) | (simp_all [oneD] <;> omega)) (by first | exact Nat.le_refl _ | exact Nat.le_of_ble_eq_true rfl | (dsimp only; omega) | (simp <;> omega)) ?_
 refine .seq ?_
 refine .seq ?_
 refine .plain Try.tmOk Try.tmMixed [0, 1, 2, 7] (by decide +kernel) (by intro q hq; simp only [go_sem, zai, Nat.reduceSub, Int.reduceEq, Nat.reduceLT, Nat.reduceDiv, Nat.reduceAdd, Nat.reduceBEq, Nat.reduceLeDiff, reduceCtorEq, Nat.reduceEqDiff, Nat.reduceMod, Try.tm_43, Try.tm_3, hck]; exact hq) (by first | rfl | (simp only [go_sem, Nat.reduceLeDiff]; done) | (simp only [go_sem, Nat.reduceLeDiff]; rfl) | (simp; done) | (simp [oneD] <;> omega) | (simp_all; done) | (simp_all [oneD] <;> omega)) (by first | exact Nat.le_refl _ | exact Nat.le_of_ble_eq_true rfl | (dsimp only; omega) | (simp <;> omega)) ?_
 refine .cond rfl rfl (fun hc => by simp at hc) (fun hc => ?_)
 refine .skip ?_
 refine .seq ?_
 refine .plain Try.tmOk Try.tmMixed [0, 1, 2, 7] (by decide +kernel) (by intro q hq; simp only [go_sem, zai, Nat.reduceSub, Int.reduceEq, Nat.reduceLT, Nat.reduceDiv, Nat.reduceAdd, Nat.reduceBEq, Nat.reduceLeDiff, reduceCtorEq, Nat.reduceEqDiff, Nat.reduceMod, Try.tm_43, Try.tm_3, hck]; exact hq) (by first | rfl | (simp only [go_sem, Nat.reduceLeDiff]; done) | (simp only [go_sem, Nat.reduceLeDiff]; rfl) | (simp; done) | (simp [oneD] <;> omega) | (simp_all; done) | (simp_all [oneD] <;> omega)) (by first | exact Nat.le_refl _ | exact Nat.le_of_ble_eq_true rfl | (dsimp only; omega) | (simp <;> omega)) ?_
 refine .seq ?_
 refine .seq ?_
 refine .plain Try.tmOk Try.tmMixed [0, 1, 2, 7, 8] (by decide +kernel) (by intro q hq; simp only [go_sem, zai, Nat.reduceSub, Int.reduceEq, Nat.reduceLT, Nat.reduceDiv, Nat.reduceAdd, Nat.reduceBEq, Nat.reduceLeDiff, reduceCtorEq, Nat.reduceEqDiff, Nat.reduceMod, Try.tm_43, Try.tm_3, hck]; exact hq) (by first | rfl | (simp only [go_sem, Nat.reduceLeDiff]; done) | (simp only [go_sem, Nat.reduceLeDiff]; rfl) | (simp; done) | (simp [oneD] <;> omega) | (simp_all; done) | (simp_all [oneD] <;> omega)) (by first | exact Nat.le_refl _ | exact Nat.le_of_ble_eq_true rfl | (dsimp only; omega) | (simp <;> omega)) ?_
 refine .cond rfl rfl (fun hc => by simp at hc; omega) (fun hc => ?_)
 refine .skip ?_
 refine .seq ?_
 refine .seq ?_
 refine .plain Try.tmOk Try.tmMixed [0, 1, 2, 7, 8] (by decide +kernel) (by intro q hq; simp only [go_sem, zai, Nat.reduceSub, Int.reduceEq, Nat.reduceLT, Nat.reduceDiv, Nat.reduceAdd, Nat.reduceBEq, Nat.reduceLeDiff, reduceCtorEq, Nat.reduceEqDiff, Nat.reduceMod, Try.tm_43, Try.tm_3, hck, hw]; exact hq) (by first | rfl | (simp only [go_sem, Nat.reduceLeDiff]; done) | (simp only [go_sem, Nat.reduceLeDiff]; rfl) | (simp; done) | (simp [oneD] <;> omega) | (simp_all; done) | (simp_all [oneD] <;> omega)) (by first | exact Nat.le_refl _ | exact Nat.le_of_ble_eq_true rfl | (dsimp only; omega) | (simp <;> omega)) ?_
 refine .cond rfl rfl (fun hc => ?_) (fun hc => by simp at hc; omega)
 refine .seq ?_
 refine .plain Try.tmOk Try.tmMixed [0, 1, 2, 7, 8] (by decide +kernel) (by intro q hq; simp only [go_sem, zai, Nat.reduceSub, Int.reduceEq, Nat.reduceLT, Nat.reduceDiv, Nat.reduceAdd, Nat.reduceBEq, Nat.reduceLeDiff, reduceCtorEq, Nat.reduceEqDiff, Nat.reduceMod, Try.tm_43, Try.tm_3, hck, hw, hw2, ha, zj0, Int.sub_zero, Int.toNat_zero, Int.toNat_sub, bij, bik, bjk, bji, bki, bkj]; exact hq) (by first | rfl | (simp only [go_sem, Nat.reduceLeDiff]; done) | (simp only [go_sem, Nat.reduceLeDiff]; rfl) | (simp; done) | (simp [oneD] <;> omega) | (simp_all; done) | (simp_all [oneD] <;> omega)) (by first | exact Nat.le_refl _ | exact Nat.le_of_ble_eq_true rfl | (dsimp only; omega) | (simp <;> omega)) ?_
 refine .seq ?_
 refine .plain Try.tmOk Try.tmMixed [0, 1, 2, 7, 8, 9] (by decide +kernel) (by intro q hq; simp only [go_sem, zai, Nat.reduceSub, Int.reduceEq, Nat.reduceLT, Nat.reduceDiv, Nat.reduceAdd, Nat.reduceBEq, Nat.reduceLeDiff, reduceCtorEq, Nat.reduceEqDiff, Nat.reduceMod, Try.tm_43, Try.tm_3, hck, hw, hw2, ha, zj0, Int.sub_zero, Int.toNat_zero, Int.toNat_sub, bij, bik, bjk, bji, bki, bkj, Int.toNat_sub, hm1, e1, e2, List.take_one, List.take_succ_cons]; exact hq) (by first | rfl | (simp only [go_sem, Nat.reduceLeDiff]; done) | (simp only [go_sem, Nat.reduceLeDiff]; rfl) | (simp; done) | (simp [oneD] <;> omega) | (simp_all; done) | (simp_all [oneD] <;> omega)) (by first | exact Nat.le_refl _ | exact Nat.le_of_ble_eq_true rfl | (dsimp only; omega) | (simp <;> omega)) ?_
 refine .seq ?_
 refine .drawn Try.tmOk Try.tmMixed [0, 1, 2, 7, 8, 9] (by decide +kernel) (by intro q hq; simp only [go_sem, zai, Nat.reduceSub, Int.reduceEq, Nat.reduceLT, Nat.reduceDiv, Nat.reduceAdd, Nat.reduceBEq, Nat.reduceLeDiff, reduceCtorEq, Nat.reduceEqDiff, Nat.reduceMod, Try.tm_43, Try.tm_3, hck, hw, hw2, hw3, ha, zj0, capS, bij, bik, bjk, bji, bki, bkj, Int.toNat_sub, hm1, hm2, e3, e4, e5]; exact hq) (zaj (by kernel_rfl)) (by first | rfl | (simp only [go_sem, Nat.reduceLeDiff]; done) | (simp only [go_sem, Nat.reduceLeDiff]; rfl) | (simp; done) | (simp [oneD] <;> omega) | (simp_all; done) | (simp_all [oneD] <;> omega)) (by first | exact Nat.le_refl _ | exact Nat.le_of_ble_eq_true rfl | (dsimp only; omega) | (simp <;> omega)) ?_
 refine .seq ?_
 refine .plain Try.tmOk Try.tmMixed [9] (by decide +kernel) (by intro q hq; simp only [go_sem, zai, Nat.reduceSub, Int.reduceEq, Nat.reduceLT, Nat.reduceDiv, Nat.reduceAdd, Nat.reduceBEq, Nat.reduceLeDiff, reduceCtorEq, Nat.reduceEqDiff, Nat.reduceMod, Try.tm_43, Try.tm_3, hck]; exact hq) (by first | rfl | (simp only [go_sem, Nat.reduceLeDiff]; done) | (simp only [go_sem, Nat.reduceLeDiff]; rfl) | (simp; done) | (simp [oneD] <;> omega) | (simp_all; done) | (simp_all [oneD] <;> omega)) (by first | exact Nat.le_refl _ | exact Nat.le_of_ble_eq_true rfl | (dsimp only; omega) | (simp <;> omega)) ?_
 refine .ret ⟨.inr rfl, retH [j, k] ?_ ?_⟩
 ·simp only [ResIs, resL, resD, resT, go_sem, zai, Nat.reduceSub, Int.reduceEq, Nat.reduceLT, Nat.reduceDiv, Nat.reduceAdd, Nat.reduceBEq, Nat.reduceLeDiff, reduceCtorEq, Nat.reduceEqDiff, Nat.reduceMod, Try.f78]
 ·simp only [pickL, getL, effL, put, del, Nat.beq_refl, cond_true, cond_false, bij, bik, bjk, bji, bki, bkj, pq, List.append_assoc, List.singleton_append, List.append_nil]
theorem ins78r (i j k : Nat) (hij : i ≠ j) (L : List D) (x : D) (P Q : Bool) (at' c : Nat) (hck : capK c = true) (hat : at' < L.length) (hL : L.length < 1000000) (h1 : L.length + 1 <= c) :
  CallH Try.prog 78 [.ref i 7 0 L.length (some c), .int .i64 (at' : Int), .ref j 7 0 1 (some 1)] [(i, .arr 69 7 P L), (j, .arr 69 7 Q [x])] (.ref i 7 0 (L.length + 1) (some c)) [(i, some (.arr 69 7 (P && Q) (L.take at' ++ x :: L.drop at')))] (k, k) := by
 have bij : Nat.beq i j = false := zby hij
 have bji : Nat.beq j i = false := zby (Ne.symm hij)
 have hw : wr .i64 ((L.length : Int) + ((1 : Nat) : Int)) = ((L.length + 1 : Nat) : Int) := wr_eq _ _ (by show (-9223372036854775808 : Int) <= _; omega) (by show _ <= (9223372036854775807 : Int); omega)
 have hw3 : wr .i64 ((at' : Int) + ((1 : Nat) : Int)) = ((at' + 1 : Nat) : Int) := wr_eq _ _ (by show (-9223372036854775808 : Int) <= _; omega) (by show _ <= (9223372036854775807 : Int); omega)
 have hm1 : Nat.min 1 (L.length + 1 - at') = 1 := by show min 1 (L.length + 1 - at') = 1; omega
 have hm2 : Nat.min (L.length + 1 - at') (L.length + 1 - (at' + 1)) = L.length - at' := by show min (L.length + 1 - at') (L.length + 1 - (at' + 1)) = L.length - at'; omega
 have hn1 : L.length + 1 - (at' + 1) = (L.length - at' - 1) + 1 := by omega
 have tk : (L.take at').length = at' := by simp; omega
 have tk1 : (L.take (at' + 1)).length = at' + 1 := by simp; omega
 have e5 : List.take (L.length - at') (List.drop at' L) = List.drop at' L := List.take_of_length_le (by simp)
 have e4 : List.drop (at' + 1 + (L.length - at')) L = [] := List.drop_eq_nil_of_le (by omega)
 have e1 : List.take at' (List.take (at' + 1) L ++ List.drop at' L) = List.take at' L := by
  rw [List.take_append_of_le_length (by omega), List.take_take]
  congr 1; omega
 have e2 : List.drop (at' + 1) (List.take (at' + 1) L ++ List.drop at' L) = List.drop at' L := by
  rw [List.drop_append, List.drop_eq_nil_of_le (by omega), tk1, Nat.sub_self, List.drop_zero, List.nil_append]
 refine za8 Try.tmOk Try.func78 rfl (by decide) (Nat.le_of_ble_eq_true rfl) (by simp) ?_
 intro hwf
 refine .seq ?_
 refine .plain Try.tmOk Try.tmMixed [0, 1, 2] (by decide +kernel) (by intro q hq; simp only [go_sem, zai, Nat.reduceSub, Int.reduceEq, Nat.reduceLT, Nat.reduceDiv, Nat.reduceAdd, Nat.reduceBEq, Nat.reduceLeDiff, reduceCtorEq, Nat.reduceEqDiff, Nat.reduceMod, hck]; exact hq) (by first | rfl | (simp only [go_sem, Nat.reduceLeDiff]; done) | (simp only [go_sem, Nat.reduceLeDiff]; rfl) | (simp; done) | (simp [oneD] <;> omega) | (simp_all; done) | (simp_all [oneD] <;> omega)) (by first | exact Nat.le_refl _ | exact Nat.le_of_ble_eq_true rfl | (dsimp only; omega) | (simp <;> omega)) ?_
 refine .seq ?_
 refine .plain Try.tmOk Try.tmMixed [0, 1, 2] (by decide +kernel) (by intro q hq; simp only [go_sem, zai, Nat.reduceSub, Int.reduceEq, Nat.reduceLT, Nat.reduceDiv, Nat.reduceAdd, Nat.reduceBEq, Nat.reduceLeDiff, reduceCtorEq, Nat.reduceEqDiff, Nat.reduceMod, Try.tm_43, Try.tm_3, hck]; exact hq) (by first | rfl | (simp only [go_sem, Nat.reduceLeDiff]; done) | (simp only [go_sem, Nat.reduceLeDiff]; rfl) | (simp; done) | (simp [oneD] <;> omega) | (simp_all; done) | (simp_all [oneD] <;> omega)) (by first | exact Nat.le_refl _ | exact Nat.le_of_ble_eq_true rfl | (dsimp only; omega) | (simp <;> omega)) ?_
 refine .seq ?_
 refine .plain Try.tmOk Try.tmMixed [0, 1, 2] (by decide +kernel) (by intro q hq; simp only [go_sem, zai, Nat.reduceSub, Int.reduceEq, Nat.reduceLT, Nat.reduceDiv, Nat.reduceAdd, Nat.reduceBEq, Nat.reduceLeDiff, reduceCtorEq, Nat.reduceEqDiff, Nat.reduceMod, Try.tm_43, Try.tm_3, hck]; exact hq) (by first | rfl | (simp only [go_sem, Nat.reduceLeDiff]; done) | (simp only [go_sem, Nat.reduceLeDiff]; rfl) | (simp; done) | (simp [oneD] <;> omega) | (simp_all; done) | (simp_all [oneD] <;> omega)) (by first | exact Nat.le_refl _ | exact Nat.le_of_ble_eq_true rfl | (dsimp only; omega) | (simp <;> omega)) ?_
 refine .seq ?_
 refine .seq ?_
 refine .plain Try.tmOk Try.tmMixed [0, 1, 2, 7] (by decide +kernel) (by intro q hq; simp only [go_sem, zai, Nat.reduceSub, Int.reduceEq, Nat.reduceLT, Nat.reduceDiv, Nat.reduceAdd, Nat.reduceBEq, Nat.reduceLeDiff, reduceCtorEq, Nat.reduceEqDiff, Nat.reduceMod, Try.tm_43, Try.tm_3, hck]; exact hq) (by first | rfl | (simp only [go_sem, Nat.reduceLeDiff]; done) | (simp only [go_sem, Nat.reduceLeDiff]; rfl) | (simp; done) | (simp [oneD] <;> omega) | (simp_all; done) | (simp_all [oneD] <;> omega)) (by first | exact Nat.le_refl _ | exact Nat.le_of_ble_eq_true rfl | (dsimp only; omega) | (simp <;> omega)) ?_
 refine .cond rfl rfl (fun hc => by simp at hc) (fun hc => ?_)
 refine .skip ?_
 refine .seq ?_
 refine .plain Try.tmOk Try.tmMixed [0, 1, 2, 7] (by decide +kernel) (by intro q hq; simp only [go_sem, zai, Nat.reduceSub, Int.reduceEq, Nat.reduceLT, Nat.reduceDiv, Nat.reduceAdd, Nat.reduceBEq, Nat.reduceLeDiff, reduceCtorEq, Nat.reduceEqDiff, Nat.reduceMod, Try.tm_43, Try.tm_3, hck]; exact hq) (by first | rfl | (simp only [go_sem, Nat.reduceLeDiff]; done) | (simp only [go_sem, Nat.reduceLeDiff]; rfl) | (simp; done) | (simp [oneD] <;> omega) | (simp_all; done) | (simp_all [oneD] <;> omega)) (by first | exact Nat.le_refl _ | exact Nat.le_of_ble_eq_true rfl | (dsimp only; omega) | (simp <;> omega)) ?_
 refine .seq ?_
 refine .seq ?_
 refine .plain Try.tmOk Try.tmMixed [0, 1, 2, 7, 8] (by decide +kernel) (by intro q hq; simp only [go_sem, zai, Nat.reduceSub, Int.reduceEq, Nat.reduceLT, Nat.reduceDiv, Nat.reduceAdd, Nat.reduceBEq, Nat.reduceLeDiff, reduceCtorEq, Nat.reduceEqDiff, Nat.reduceMod, Try.tm_43, Try.tm_3, hck]; exact hq) (by first | rfl | (simp only [go_sem, Nat.reduceLeDiff]; done) | (simp only [go_sem, Nat.reduceLeDiff]; rfl) | (simp; done) | (simp [oneD] <;> omega) | (simp_all; done) | (simp_all [oneD] <;> omega)) (by first | exact Nat.le_refl _ | exact Nat.le_of_ble_eq_true rfl | (dsimp only; omega) | (simp <;> omega)) ?_
 refine .cond rfl rfl (fun hc => by simp at hc; omega) (fun hc => ?_)
 refine .skip ?_
 refine .seq ?_
 refine .seq ?_
 refine .plain Try.tmOk Try.tmMixed [0, 1, 2, 7, 8] (by decide +kernel) (by intro q hq; simp only [go_sem, zai, Nat.reduceSub, Int.reduceEq, Nat.reduceLT, Nat.reduceDiv, Nat.reduceAdd, Nat.reduceBEq, Nat.reduceLeDiff, reduceCtorEq, Nat.reduceEqDiff, Nat.reduceMod, Try.tm_43, Try.tm_3, hck, hw]; exact hq) (by first | rfl | (simp only [go_sem, Nat.reduceLeDiff]; done) | (simp only [go_sem, Nat.reduceLeDiff]; rfl) | (simp; done) | (simp [oneD] <;> omega) | (simp_all; done) | (simp_all [oneD] <;> omega)) (by first | exact Nat.le_refl _ | exact Nat.le_of_ble_eq_true rfl | (dsimp only; omega) | (simp <;> omega)) ?_
 refine .cond rfl rfl (fun hc => by simp at hc; omega) (fun hc => ?_)
 refine .skip ?_
 refine .seq ?_
 refine .plain Try.tmOk Try.tmMixed [0, 1, 2, 7, 8] (by decide +kernel) (by intro q hq; simp only [go_sem, zai, Nat.reduceSub, Int.reduceEq, Nat.reduceLT, Nat.reduceDiv, Nat.reduceAdd, Nat.reduceBEq, Nat.reduceLeDiff, reduceCtorEq, Nat.reduceEqDiff, Nat.reduceMod, Try.tm_43, Try.tm_3, hck, hw, roomV, Option.isSome, Int.sub_zero, Int.toNat_zero, Nat.sub_zero, bij, bji]; exact hq) (by first | rfl | (simp only [go_sem, Nat.reduceLeDiff]; done) | (simp only [go_sem, Nat.reduceLeDiff]; rfl) | (simp; done) | (simp [oneD] <;> omega) | (simp_all; done) | (simp_all [oneD] <;> omega)) (by first | exact Nat.le_refl _ | exact Nat.le_of_ble_eq_true rfl | (dsimp only; omega) | (simp <;> omega)) ?_
 refine .seq ?_
 refine .seq ?_
 refine .reg Try.tmOk Try.tmMixed [0, 1, 2, 7] (by decide +kernel) ?_
 refine .R (dr := false) (.inr fun _ _ _ h => ⟨nofun, h.2⟩) (by intro q hq; simp only [go_sem, zai, Nat.reduceSub, Int.reduceEq, Nat.reduceLT, Nat.reduceDiv, Nat.reduceAdd, Nat.reduceBEq, Nat.reduceLeDiff, reduceCtorEq, Nat.reduceEqDiff, Nat.reduceMod, Try.tm_43, Try.tm_3, hck, hw3, Int.toNat_sub, bij, bji]; exact hq) (by first | rfl | (simp only [go_sem, Nat.reduceLeDiff]; done) | (simp only [go_sem, Nat.reduceLeDiff]; rfl) | (simp; done) | (simp [oneD] <;> omega) | (simp_all; done) | (simp_all [oneD] <;> omega)) (by first | exact Nat.le_refl _ | exact Nat.le_of_ble_eq_true rfl | (dsimp only; omega) | (simp <;> omega)) ?_
 refine .overs (i := j) (j := i) rfl rfl rfl rfl rfl overs91 ⟨7, 0, 0, some 1, 7 - 1, at' + 1, L.length - at' - 1, some (c - (at' + 1)), 69, 7, Q, [x], 69, 7, P, L, by
  show [D.ref j 7 0 1 (some 1), D.ref i 7 (at' + 1) (L.length + 1 - (at' + 1)) (some (c - (at' + 1)))] = _
  rw [hn1], by simp only [getL, bij, cond_false, Nat.beq_refl, cond_true], by simp only [getL, Nat.beq_refl, cond_true], Ne.symm hij⟩ ?_
 refine .R (dr := false) (.inr fun _ _ _ h => ⟨nofun, h.2⟩) (by intro q hq; simp only [go_sem, zai, Nat.reduceSub, Int.reduceEq, Nat.reduceLT, Nat.reduceDiv, Nat.reduceAdd, Nat.reduceBEq, Nat.reduceLeDiff, reduceCtorEq, Nat.reduceEqDiff, Nat.reduceMod, Try.tm_43, Try.tm_3, hck]; exact hq) (by first | rfl | (simp only [go_sem, Nat.reduceLeDiff]; done) | (simp only [go_sem, Nat.reduceLeDiff]; rfl) | (simp; done) | (simp [oneD] <;> omega) | (simp_all; done) | (simp_all [oneD] <;> omega)) (by first | exact Nat.le_refl _ | exact Nat.le_of_ble_eq_true rfl | (dsimp only; omega) | (simp <;> omega)) ?_
 refine .nil ⟨nofun, ?_⟩
 refine .cond rfl rfl (fun hc => ?_) (fun hc => by cases hc)
 refine .seq ?_
 refine .drawn Try.tmOk Try.tmMixed [0, 1, 2, 7] (by decide +kernel) (by intro q hq; simp only [go_sem, zai, Nat.reduceSub, Int.reduceEq, Nat.reduceLT, Nat.reduceDiv, Nat.reduceAdd, Nat.reduceBEq, Nat.reduceLeDiff, reduceCtorEq, Nat.reduceEqDiff, Nat.reduceMod, Try.tm_43, Try.tm_3, hck, hw3, Int.toNat_sub, hm2, e4, e5, bij, bji, Bool.and_self, List.append_nil]; exact hq) (zaj (by kernel_rfl)) (by first | rfl | (simp only [go_sem, Nat.reduceLeDiff]; done) | (simp only [go_sem, Nat.reduceLeDiff]; rfl) | (simp; done) | (simp [oneD] <;> omega) | (simp_all; done) | (simp_all [oneD] <;> omega)) (by first | exact Nat.le_refl _ | exact Nat.le_of_ble_eq_true rfl | (dsimp only; omega) | (simp <;> omega)) ?_
 refine .seq ?_
 refine .plain Try.tmOk Try.tmMixed [0, 1, 2] (by decide +kernel) (by intro q hq; simp only [go_sem, zai, Nat.reduceSub, Int.reduceEq, Nat.reduceLT, Nat.reduceDiv, Nat.reduceAdd, Nat.reduceBEq, Nat.reduceLeDiff, reduceCtorEq, Nat.reduceEqDiff, Nat.reduceMod, Try.tm_43, Try.tm_3, hck, Int.toNat_sub, hm1, e1, e2, bij, bji, List.take_succ_cons]; exact hq) (by first | rfl | (simp only [go_sem, Nat.reduceLeDiff]; done) | (simp only [go_sem, Nat.reduceLeDiff]; rfl) | (simp; done) | (simp [oneD] <;> omega) | (simp_all; done) | (simp_all [oneD] <;> omega)) (by first | exact Nat.le_refl _ | exact Nat.le_of_ble_eq_true rfl | (dsimp only; omega) | (simp <;> omega)) ?_
 refine .seq ?_
 refine .plain Try.tmOk Try.tmMixed [0] (by decide +kernel) (by intro q hq; simp only [go_sem, zai, Nat.reduceSub, Int.reduceEq, Nat.reduceLT, Nat.reduceDiv, Nat.reduceAdd, Nat.reduceBEq, Nat.reduceLeDiff, reduceCtorEq, Nat.reduceEqDiff, Nat.reduceMod, Try.tm_43, Try.tm_3, hck]; exact hq) (by first | rfl | (simp only [go_sem, Nat.reduceLeDiff]; done) | (simp only [go_sem, Nat.reduceLeDiff]; rfl) | (simp; done) | (simp [oneD] <;> omega) | (simp_all; done) | (simp_all [oneD] <;> omega)) (by first | exact Nat.le_refl _ | exact Nat.le_of_ble_eq_true rfl | (dsimp only; omega) | (simp <;> omega)) ?_
 refine .ret ⟨.inr rfl, retH [i, j] ?_ ?_⟩
 ·simp only [ResIs, resL, resD, resT, go_sem, zai, Nat.reduceSub, Int.reduceEq, Nat.reduceLT, Nat.reduceDiv, Nat.reduceAdd, Nat.reduceBEq, Nat.reduceLeDiff, reduceCtorEq, Nat.reduceEqDiff, Nat.reduceMod, Try.f78]
 ·simp only [pickL, getL, effL, put, del, Nat.beq_refl, cond_true, cond_false, bij, bji, List.append_assoc, List.singleton_append, List.append_nil]
theorem ins78 (i j k : Nat) (hij : i ≠ j) (hik : i ≠ k) (hjk : j ≠ k) (L : List D) (x : D) (P Q : Bool) (at' : Nat) (hat : at' <= L.length) (hL : L.length < 1000000) :
  CallH Try.prog 78 [.ref i 7 0 L.length (some uC), .int .i64 (at' : Int), .ref j 7 0 1 (some 1)] [(i, .arr 69 7 P L), (j, .arr 69 7 Q [x])] (.ref k 7 0 (L.length + 1) (some uC)) [(k, some (.arr 69 7 (P && Q) (L.take at' ++ x :: L.drop at'))), (i, none)] (k, k + 1) := by
 by_cases h : at' = L.length
 ·subst h
  have := ins78e i j k hij hik hjk L x P Q hL
  rw [List.take_length, List.drop_length]
  exact this
 ·exact callH_capW (l := L) (p := P) (ins78e i j k hij hik hjk L x P Q hL).1 (by simp only [getL, Nat.beq_refl, cond_true]) hik (by omega)
   (fun c hc _ h2 => ins78r i j k hij L x P Q at' c hc (by omega) hL h2)
   (fun c hc h1 h2 => ins78g i j k hij hik hjk L x P Q at' c hc (by omega) hL h1 h2)
theorem ins78eN (i j k : Nat) (hij : i ≠ j) (hik : i ≠ k) (hjk : j ≠ k) (L : List D) (x : D) (P Q : Bool) (hL : L.length < 1000000) :
  CallH Try.prog 78 [.ref i 7 0 L.length none, .int .i64 (L.length : Int), .ref j 7 0 1 (some 1)] [(i, .arr 69 7 P L), (j, .arr 69 7 Q [x])] (.ref k 7 0 (L.length + 1) none) [(k, some (.arr 69 7 (P && Q) (L ++ [x]))), (i, none)] (k, k + 1) := by
 have bij : Nat.beq i j = false := zby hij
 have bik : Nat.beq i k = false := zby hik
 have bjk : Nat.beq j k = false := zby hjk
 have bji : Nat.beq j i = false := zby (Ne.symm hij)
 have bki : Nat.beq k i = false := zby (Ne.symm hik)
 have bkj : Nat.beq k j = false := zby (Ne.symm hjk)
 have n10 : ¬ ((1 : Int) = 0) := by omega
 have hx : (1 : Nat) <= 1 := Nat.le_refl _
 refine za8 Try.tmOk Try.func78 rfl (by decide) (Nat.le_of_ble_eq_true rfl) (by simp) ?_
 intro hwf
 refine .seq ?_
 refine .plain Try.tmOk Try.tmMixed [0, 1, 2] (by decide +kernel) (by intro q hq; simp only [go_sem, zai, Nat.reduceSub, Int.reduceEq, Nat.reduceLT, Nat.reduceDiv, Nat.reduceAdd, Nat.reduceBEq, Nat.reduceLeDiff, reduceCtorEq, Nat.reduceEqDiff, Nat.reduceMod, capK, bij, bik, bjk, bji, bki, bkj]; exact hq) (by first | rfl | (simp only [go_sem, Nat.reduceLeDiff]; done) | (simp only [go_sem, Nat.reduceLeDiff]; rfl) | (simp; done) | (simp [oneD] <;> omega) | (simp_all; done) | (simp_all [oneD] <;> omega)) (by first | exact Nat.le_refl _ | exact Nat.le_of_ble_eq_true rfl | (dsimp only; omega) | (simp <;> omega)) ?_
 refine .seq ?_
 refine .plain Try.tmOk Try.tmMixed [0, 1, 2] (by decide +kernel) (by intro q hq; simp only [go_sem, zai, Nat.reduceSub, Int.reduceEq, Nat.reduceLT, Nat.reduceDiv, Nat.reduceAdd, Nat.reduceBEq, Nat.reduceLeDiff, reduceCtorEq, Nat.reduceEqDiff, Nat.reduceMod, capK, Try.tm_43, Try.tm_3, bij, bik, bjk, bji, bki, bkj]; exact hq) (by first | rfl | (simp only [go_sem, Nat.reduceLeDiff]; done) | (simp only [go_sem, Nat.reduceLeDiff]; rfl) | (simp; done) | (simp [oneD] <;> omega) | (simp_all; done) | (simp_all [oneD] <;> omega)) (by first | exact Nat.le_refl _ | exact Nat.le_of_ble_eq_true rfl | (dsimp only; omega) | (simp <;> omega)) ?_
 refine .seq ?_
 refine .plain Try.tmOk Try.tmMixed [0, 1, 2] (by decide +kernel) (by intro q hq; simp only [go_sem, zai, Nat.reduceSub, Int.reduceEq, Nat.reduceLT, Nat.reduceDiv, Nat.reduceAdd, Nat.reduceBEq, Nat.reduceLeDiff, reduceCtorEq, Nat.reduceEqDiff, Nat.reduceMod, capK, Try.tm_43, Try.tm_3, bij, bik, bjk, bji, bki, bkj]; exact hq) (by first | rfl | (simp only [go_sem, Nat.reduceLeDiff]; done) | (simp only [go_sem, Nat.reduceLeDiff]; rfl) | (simp; done) | (simp [oneD] <;> omega) | (simp_all; done) | (simp_all [oneD] <;> omega)) (by first | exact Nat.le_refl _ | exact Nat.le_of_ble_eq_true rfl | (dsimp only; omega) | (simp <;> omega)) ?_
 refine .seq ?_
 refine .seq ?_
 refine .plain Try.tmOk Try.tmMixed [0, 1, 2, 7] (by decide +kernel) (by intro q hq; simp only [go_sem, zai, Nat.reduceSub, Int.reduceEq, Nat.reduceLT, Nat.reduceDiv, Nat.reduceAdd, Nat.reduceBEq, Nat.reduceLeDiff, reduceCtorEq, Nat.reduceEqDiff, Nat.reduceMod, capK, Try.tm_43, Try.tm_3]; exact hq) (by first | rfl | (simp only [go_sem, Nat.reduceLeDiff]; done) | (simp only [go_sem, Nat.reduceLeDiff]; rfl) | (simp; done) | (simp [oneD] <;> omega) | (simp_all; done) | (simp_all [oneD] <;> omega)) (by first | exact Nat.le_refl _ | exact Nat.le_of_ble_eq_true rfl | (dsimp only; omega) | (simp <;> omega)) ?_
 refine .cond rfl rfl (fun hc => by simp at hc) (fun hc => ?_)
 refine .skip ?_
 refine .seq ?_
 refine .plain Try.tmOk Try.tmMixed [0, 1, 2, 7] (by decide +kernel) (by intro q hq; simp only [go_sem, zai, Nat.reduceSub, Int.reduceEq, Nat.reduceLT, Nat.reduceDiv, Nat.reduceAdd, Nat.reduceBEq, Nat.reduceLeDiff, reduceCtorEq, Nat.reduceEqDiff, Nat.reduceMod, capK, Try.tm_43, Try.tm_3]; exact hq) (by first | rfl | (simp only [go_sem, Nat.reduceLeDiff]; done) | (simp only [go_sem, Nat.reduceLeDiff]; rfl) | (simp; done) | (simp [oneD] <;> omega) | (simp_all; done) | (simp_all [oneD] <;> omega)) (by first | exact Nat.le_refl _ | exact Nat.le_of_ble_eq_true rfl | (dsimp only; omega) | (simp <;> omega)) ?_
 refine .seq ?_
 refine .seq ?_
 refine .plain Try.tmOk Try.tmMixed [0, 1, 2, 7, 8] (by decide +kernel) (by intro q hq; simp only [go_sem, zai, Nat.reduceSub, Int.reduceEq, Nat.reduceLT, Nat.reduceDiv, Nat.reduceAdd, Nat.reduceBEq, Nat.reduceLeDiff, reduceCtorEq, Nat.reduceEqDiff, Nat.reduceMod, capK, Try.tm_43, Try.tm_3]; exact hq) (by first | rfl | (simp only [go_sem, Nat.reduceLeDiff]; done) | (simp only [go_sem, Nat.reduceLeDiff]; rfl) | (simp; done) | (simp [oneD] <;> omega) | (simp_all; done) | (simp_all [oneD] <;> omega)) (by first | exact Nat.le_refl _ | exact Nat.le_of_ble_eq_true rfl | (dsimp only; omega) | (simp <;> omega)) ?_
 refine .cond rfl rfl (fun hc => ?_) (fun hc => by simp at hc)
 refine .seq ?_
 refine .plain Try.tmOk Try.tmMixed [0, 2] (by decide +kernel) (by intro q hq; simp only [go_sem, zai, Nat.reduceSub, Int.reduceEq, Nat.reduceLT, Nat.reduceDiv, Nat.reduceAdd, Nat.reduceBEq, Nat.reduceLeDiff, reduceCtorEq, Nat.reduceEqDiff, Nat.reduceMod, capK, Try.tm_43, Try.tm_3, bij, bik, bjk, bji, bki, bkj]; exact hq) (by first | rfl | (simp only [go_sem, Nat.reduceLeDiff]; done) | (simp only [go_sem, Nat.reduceLeDiff]; rfl) | (simp; done) | (simp [oneD] <;> omega) | (simp_all; done) | (simp_all [oneD] <;> omega)) (by first | exact Nat.le_refl _ | exact Nat.le_of_ble_eq_true rfl | (dsimp only; omega) | (simp <;> omega)) ?_
 refine .ret ⟨.inr rfl, retH [j, k] ?_ ?_⟩
 ·simp only [ResIs, resL, resD, resT, go_sem, zai, Nat.reduceSub, Int.reduceEq, Nat.reduceLT, Nat.reduceDiv, Nat.reduceAdd, Nat.reduceBEq, Nat.reduceLeDiff, reduceCtorEq, Nat.reduceEqDiff, Nat.reduceMod, Try.f78]
 ·simp only [pickL, getL, effL, put, del, Nat.beq_refl, cond_true, cond_false, bij, bik, bjk, bji, bki, bkj, List.take_length]
theorem ins78N (i j k : Nat) (hij : i ≠ j) (hik : i ≠ k) (hjk : j ≠ k) (L : List D) (x : D) (P Q : Bool) (at' : Nat) (hat : at' <= L.length) (hL : L.length < 1000000) :
  CallH Try.prog 78 [.ref i 7 0 L.length none, .int .i64 (at' : Int), .ref j 7 0 1 (some 1)] [(i, .arr 69 7 P L), (j, .arr 69 7 Q [x])] (.ref k 7 0 (L.length + 1) none) [(k, some (.arr 69 7 (P && Q) (L.take at' ++ x :: L.drop at'))), (i, none)] (k, k + 1) := by
 by_cases h : at' = L.length
 ·subst h
  have := ins78eN i j k hij hik hjk L x P Q hL
  rw [List.take_length, List.drop_length]
  exact this
 ·exact callH_cap (l := L) (p := P) (ins78e i j k hij hik hjk L x P Q hL).1 (by simp only [getL, Nat.beq_refl, cond_true]) hik
   (fun c hc _ h2 => ins78r i j k hij L x P Q at' c hc (by omega) hL h2)
   (fun c hc h1 h2 => ins78g i j k hij hik hjk L x P Q at' c hc (by omega) hL h1 h2)
end Go.Proofs
end
section
namespace Go.Proofs
open Go.Tm
theorem insT78n (i j k : Nat) (hij : i ≠ j) (hik : i ≠ k) (hjk : j ≠ k) (l : List TWait) (x : TWait) (at' : Int) (h : 0 <= at' /\ at' <= (l.length : Int)) (hl : l.length < 1000000) :
  CallH Try.prog 78 [.ref i 7 0 l.length (some uC), .int .i64 at', .ref j 7 0 1 (some 1)] [(i, .arr 69 7 true (l.map TWait.n)), (j, .arr 69 7 true [x.n])] (.ref k 7 0 (l.take at'.toNat ++ x :: l.drop at'.toNat).length (some uC)) [(k, some (.arr 69 7 true ((l.take at'.toNat ++ x :: l.drop at'.toNat).map TWait.n))), (i, none)] (k, k + 1) := by
 have t := ins78 i j k hij hik hjk (l.map TWait.n) x.n true true at'.toNat (by rw [List.length_map]; omega) (by rw [List.length_map]; exact hl)
 rw [Int.toNat_of_nonneg h.1, List.length_map, zgf, zh1, <- List.map_cons, <- List.map_append] at t
 have e : l.length + 1 = (l.take at'.toNat ++ x :: l.drop at'.toNat).length := by simp; omega
 rw [e] at t
 exact t
end Go.Proofs
end
section
namespace Go.Proofs
open Go.Tm Go.RowKit Go.WideShapes
set_option maxRecDepth 100000
set_option linter.unusedSimpArgs false
set_option linter.unusedVariables false
attribute [local go_sem] zd7 runE runK zfg stepE aop opd opdsL opds opdO ev ofVal keep List.any zcr Bool.false_or Bool.true_or aggEq cond_true cond_false Bool.cond_false_right Bool.cond_true_left beq_true beq_false imp_self implies_true getR getL put St.app effL del nwB ziy Nat.lt_irrefl Nat.lt_add_one ziz Nat.le_refl Nat.beq_refl zfh capS zgy zfo zc7 D.ids D.idsL bin arith zi2 binT dpick Tm.part zh9 fillD oneD loadD zh8 srcD zdv idxOk decide_true gval dstAt D.cells List.map_cons List.map_nil List.take List.drop List.length_map List.append Int.toNat_natCast and_true true_and decide_false List.length_cons List.length_nil List.append_nil List.nil_append Bool.and_true Bool.true_and Bool.not_false Bool.not_true ne_eq not_false_eq_true BEq.rfl List.getElem?_cons_zero List.getElem?_cons_succ List.getElem?_nil Nat.zero_add List.all_cons List.all_nil List.isEmpty_cons List.isEmpty_nil Option.getD_some Option.getD_none List.any_cons List.any_nil List.drop_succ_cons List.drop_zero unfL unf okM okML low3 List.cons_append true_or or_true Nat.zero_mul Nat.zero_le fpOf opIds
theorem del79r (i k : Nat) (L : List D) (P : Bool) (at' c : Nat) (hck : capK c = true) (hat : at' < L.length) (hL : L.length < 1000000) (h1 : L.length <= c) :
  CallH Try.prog 79 [.ref i 7 0 L.length (some c), .int .i64 (at' : Int), .int .i64 ((at' + 1 : Nat) : Int)] [(i, .arr 69 7 P L)] (.ref i 7 0 (L.length - 1) (some c)) [(i, some (.arr 69 7 P (L.take at' ++ L.drop (at' + 1))))] (k, k) := by
 have e5 : List.take (L.length - (at' + 1)) (List.drop (at' + 1) L) = List.drop (at' + 1) L := List.take_of_length_le (by simp)
 have hl : at' + (L.drop (at' + 1)).length = L.length - 1 := by simp; omega
 have hm : Nat.blt at' L.length = true := Nat.ble_eq_true_of_le hat
 have hcL : L.length - 1 <= c := by omega
 have hm2 : at' < L.length := hat
 have hne : ¬ ((at' : Int) = ((at' + 1 : Nat) : Int)) := by omega
 have ha : Nat.beq at' (at' + 1) = false := zby (by omega)
 have l1 : (L.take at' ++ L.drop (at' + 1)).length = L.length - 1 := by simp; omega
 have l2 : (L.take at' ++ L.drop (at' + 1) ++ L.drop (L.length - 1)).length = L.length := by simp; omega
 have t1 : List.take (L.length - 1) (L.take at' ++ L.drop (at' + 1) ++ L.drop (L.length - 1)) = L.take at' ++ L.drop (at' + 1) := by
  rw [List.take_append_of_le_length (by omega), List.take_of_length_le (by omega)]
 have t2 : ∀ R S : List D, List.take (L.length - 1) (L.take at' ++ L.drop (at' + 1) ++ R ++ S) = L.take at' ++ L.drop (at' + 1) := fun R S => by
  rw [List.append_assoc _ R S, List.take_append_of_le_length (by omega), List.take_of_length_le (by omega)]
 have q1 : Int.toNat ((L.length : Int) - ((L.length - 1 : Nat) : Int)) = 1 := by omega
 have q2 : Int.toNat ((L.length - 1 : Nat) : Int) = L.length - 1 := by omega
 have q3 : Int.toNat (((L.length : Int)) - ((at' + 1 : Nat) : Int)) = L.length - (at' + 1) := by omega
 refine za8 Try.tmOk Try.func79 rfl (by decide) (Nat.le_of_ble_eq_true rfl) (by simp) ?_
 intro hwf
 refine .seq ?_
 refine .plain Try.tmOk Try.tmMixed [0, 1, 2] (by decide +kernel) (by intro q hq; simp only [go_sem, zai, Nat.reduceSub, Int.reduceEq, Nat.reduceLT, Nat.reduceDiv, Nat.reduceAdd, Nat.reduceBEq, Nat.reduceLeDiff, reduceCtorEq, Nat.reduceEqDiff, Nat.reduceMod, hck]; exact hq) (by first | rfl | (simp only [go_sem, Nat.reduceLeDiff]; done) | (simp only [go_sem, Nat.reduceLeDiff]; rfl) | (simp; done) | (simp [oneD] <;> omega) | (simp_all; done) | (simp_all [oneD] <;> omega)) (by first | exact Nat.le_refl _ | exact Nat.le_of_ble_eq_true rfl | (dsimp only; omega) | (simp <;> omega)) ?_
 refine .seq ?_
 refine .plain Try.tmOk Try.tmMixed [0, 1, 2] (by decide +kernel) (by intro q hq; simp only [go_sem, zai, Nat.reduceSub, Int.reduceEq, Nat.reduceLT, Nat.reduceDiv, Nat.reduceAdd, Nat.reduceBEq, Nat.reduceLeDiff, reduceCtorEq, Nat.reduceEqDiff, Nat.reduceMod, Try.tm_43, Try.tm_3, hck, zhx, opdO]; exact hq) (by first | rfl | (simp only [go_sem, Nat.reduceLeDiff]; done) | (simp only [go_sem, Nat.reduceLeDiff]; rfl) | (simp; done) | (simp [oneD] <;> omega) | (simp_all; done) | (simp_all [oneD] <;> omega)) (by first | exact Nat.le_refl _ | exact Nat.le_of_ble_eq_true rfl | (dsimp only; omega) | (simp <;> omega)) ?_
 refine .seq ?_
 refine .seq ?_
 refine .plain Try.tmOk Try.tmMixed [0, 1, 2] (by decide +kernel) (by intro q hq; simp only [go_sem, zai, Nat.reduceSub, Int.reduceEq, Nat.reduceLT, Nat.reduceDiv, Nat.reduceAdd, Nat.reduceBEq, Nat.reduceLeDiff, reduceCtorEq, Nat.reduceEqDiff, Nat.reduceMod, Try.tm_43, Try.tm_3, hck]; exact hq) (by first | rfl | (simp only [go_sem, Nat.reduceLeDiff]; done) | (simp only [go_sem, Nat.reduceLeDiff]; rfl) | (simp; done) | (simp [oneD] <;> omega) | (simp_all; done) | (simp_all [oneD] <;> omega)) (by first | exact Nat.le_refl _ | exact Nat.le_of_ble_eq_true rfl | (dsimp only; omega) | (simp <;> omega)) ?_
 refine .cond rfl rfl (fun hc => by simp at hc; omega) (fun hc => ?_)
 refine .skip ?_
 refine .seq ?_
 refine .plain Try.tmOk Try.tmMixed [0, 1, 2] (by decide +kernel) (by intro q hq; simp only [go_sem, zai, Nat.reduceSub, Int.reduceEq, Nat.reduceLT, Nat.reduceDiv, Nat.reduceAdd, Nat.reduceBEq, Nat.reduceLeDiff, reduceCtorEq, Nat.reduceEqDiff, Nat.reduceMod, Try.tm_43, Try.tm_3, hck]; exact hq) (by first | rfl | (simp only [go_sem, Nat.reduceLeDiff]; done) | (simp only [go_sem, Nat.reduceLeDiff]; rfl) | (simp; done) | (simp [oneD] <;> omega) | (simp_all; done) | (simp_all [oneD] <;> omega)) (by first | exact Nat.le_refl _ | exact Nat.le_of_ble_eq_true rfl | (dsimp only; omega) | (simp <;> omega)) ?_
 refine .seq ?_
 refine .drawn Try.tmOk Try.tmMixed [0, 1, 2, 7] (by decide +kernel) (by intro q hq; simp only [go_sem, zai, Nat.reduceSub, Int.reduceEq, Nat.reduceLT, Nat.reduceDiv, Nat.reduceAdd, Nat.reduceBEq, Nat.reduceLeDiff, reduceCtorEq, Nat.reduceEqDiff, Nat.reduceMod, Try.tm_43, Try.tm_3, hck, hm2, hcL, e5, q3, hl, Bool.and_self, Int.sub_zero, Int.toNat_zero, Nat.sub_zero, ze0]; exact hq) (zaj (by kernel_rfl)) (by first | rfl | (simp only [go_sem, Nat.reduceLeDiff]; done) | (simp only [go_sem, Nat.reduceLeDiff]; rfl) | (simp; done) | (simp [oneD] <;> omega) | (simp_all; done) | (simp_all [oneD] <;> omega)) (by first | exact Nat.le_refl _ | exact Nat.le_of_ble_eq_true rfl | (dsimp only; omega) | (simp <;> omega)) ?_
 refine .seq ?_
 refine .plain Try.tmOk Try.tmMixed [0, 7] (by decide +kernel) (by intro q hq; simp only [go_sem, zai, Nat.reduceSub, Int.reduceEq, Nat.reduceLT, Nat.reduceDiv, Nat.reduceAdd, Nat.reduceBEq, Nat.reduceLeDiff, reduceCtorEq, Nat.reduceEqDiff, Nat.reduceMod, Try.tm_43, Try.tm_3, hck, roomV, Option.isSome, q1, q2, t1, l2, Nat.zero_add]; exact hq) (by first | rfl | (simp only [go_sem, Nat.reduceLeDiff]; done) | (simp only [go_sem, Nat.reduceLeDiff]; rfl) | (simp; done) | (simp [oneD] <;> omega) | (simp_all; done) | (simp_all [oneD] <;> omega)) (by first | exact Nat.le_refl _ | exact Nat.le_of_ble_eq_true rfl | (dsimp only; omega) | (simp <;> omega)) ?_
 refine .goes (.pre i (L.length - 1) _ (by simp only [getL, Nat.beq_refl, cond_true]; rfl) .refl) ?_
 simp only [put, Nat.beq_refl, cond_true, t2]
 refine .seq ?_
 refine .plain Try.tmOk Try.tmMixed [0] (by decide +kernel) (by intro q hq; simp only [go_sem, zai, Nat.reduceSub, Int.reduceEq, Nat.reduceLT, Nat.reduceDiv, Nat.reduceAdd, Nat.reduceBEq, Nat.reduceLeDiff, reduceCtorEq, Nat.reduceEqDiff, Nat.reduceMod, Try.tm_43, Try.tm_3, hck]; exact hq) (by first | rfl | (simp only [go_sem, Nat.reduceLeDiff]; done) | (simp only [go_sem, Nat.reduceLeDiff]; rfl) | (simp; done) | (simp [oneD] <;> omega) | (simp_all; done) | (simp_all [oneD] <;> omega)) (by first | exact Nat.le_refl _ | exact Nat.le_of_ble_eq_true rfl | (dsimp only; omega) | (simp <;> omega)) ?_
 refine .ret ⟨.inr rfl, retH [i] ?_ ?_⟩
 ·simp only [ResIs, resL, resD, resT, go_sem, zai, Nat.reduceSub, Int.reduceEq, Nat.reduceLT, Nat.reduceDiv, Nat.reduceAdd, Nat.reduceBEq, Nat.reduceLeDiff, reduceCtorEq, Nat.reduceEqDiff, Nat.reduceMod, Try.f79]
 ·simp only [pickL, getL, effL, put, del, Nat.beq_refl, cond_true, cond_false, List.append_assoc, List.singleton_append, List.append_nil]
theorem del79 (i k : Nat) (hik : i ≠ k) (L : List D) (P : Bool) (at' : Nat) (hat : at' < L.length) (hL : L.length < 1000000) :
  CallH Try.prog 79 [.ref i 7 0 L.length (some uC), .int .i64 (at' : Int), .int .i64 ((at' + 1 : Nat) : Int)] [(i, .arr 69 7 P L)] (.ref k 7 0 (L.length - 1) (some uC)) [(k, some (.arr 69 7 P (L.take at' ++ L.drop (at' + 1)))), (i, none)] (k, k + 1) := by
 exact callH_capW (l := L) (p := P) ⟨Try.f79, Try.func79, by decide, rfl⟩ (by simp only [getL, Nat.beq_refl, cond_true]) hik (.inr (by omega))
   (fun c hc h1 _ => del79r i k L P at' c hc hat hL h1)
   (fun c hc h1 h2 => by omega)
end Go.Proofs
end
section
namespace Go.Proofs
open Go.Tm
theorem delT79n (i k : Nat) (hik : i ≠ k) (l : List TWait) (at' : Int) (h : 0 <= at' /\ at' < (l.length : Int)) (hl : l.length < 1000000) :
  CallH Try.prog 79 [.ref i 7 0 l.length (some uC), .int .i64 at', .int .i64 (wr .i64 (at' + 1))] [(i, .arr 69 7 true (l.map TWait.n))] (.ref k 7 0 (l.eraseIdx at'.toNat).length (some uC)) [(k, some (.arr 69 7 true ((l.eraseIdx at'.toNat).map TWait.n))), (i, none)] (k, k + 1) := by
 have t := del79 i k hik (l.map TWait.n) true at'.toNat (by rw [List.length_map]; omega) (by rw [List.length_map]; exact hl)
 have hw : wr .i64 (at' + 1) = ((at'.toNat + 1 : Nat) : Int) := by
  rw [wr_eq _ _ (by show (-9223372036854775808 : Int) <= _; omega) (by show _ <= (9223372036854775807 : Int); omega)]
  omega
 rw [Int.toNat_of_nonneg h.1, List.length_map, zgf, zh1, <- List.map_append, <- List.eraseIdx_eq_take_drop_succ, <- hw] at t
 have e : l.length - 1 = (l.eraseIdx at'.toNat).length := by rw [List.length_eraseIdx_of_lt (by omega)]
 rw [e] at t
 exact t
end Go.Proofs
end
section
namespace Go.Proofs
open Go.Tm
set_option linter.unusedVariables false
def zfp (a0 : TStamp) : Option Int :=
 if (((a0.Time < 0) \/ (a0.Time > 1073741824)) \/ (a0.Id < 0)) \/ (a0.Id >= 6291456) then
 some 8
 else
 some 0
def zl4 (a0 : Int) : Option Bool :=
 some ((decide (a0 >= 0)) && (decide (a0 <= 1099511627776)))
def zce (a0 : Int) (a1 : Int) (a2 : Int) : Option Bool :=
 some ((decide (a0 >= a1)) && (decide (a0 <= a2)))
def zeu (a0 : Int) : Option Bool :=
 Option.bind (zce a0 0 6291455) fun v1 =>
 some v1
def zab (a0 : TMessage) : List Int -> Nat -> Bool -> Option (Bool)
 | [], n1, b2 =>
  some b2
 | y1 :: rest1, n1, b2 =>
  Option.bind (if b2 = true then zce (y1) 0 3 else some default) fun v1 =>
  zab a0 rest1 (n1 + 1) ((b2 && v1) && (((n1 : Int) == 0) || (decide (y1 > (a0.Groups.getD (n1 - 1) default)))))
def zar (a0 : TMessage) : Option Int :=
 Option.bind (α := Bool) (zab a0 a0.Groups 0 ((decide ((a0.Groups.length : Int) >= 1)) && (decide ((a0.Groups.length : Int) <= 4)))) fun b1 =>
 Option.bind (if ¬ (¬ (b1 = true)) then zeu a0.Id else some default) fun v2 =>
 Option.bind (if ¬ ((¬ (b1 = true)) \/ (¬ (v2 = true))) then zce a0.Topic 0 3 else some default) fun v3 =>
 if ((((¬ (b1 = true)) \/ (¬ (v2 = true))) \/ (¬ (v3 = true))) \/ ((a0.Key.length : Int) > 16)) \/ ((a0.Body.length : Int) > 64) then
 some 120
 else
 some 0
def zbm (a0 : TMessage) (a1 : TMessage) : Option Bool :=
 Option.bind (if a0.Id = a1.Id then zcg a0.Groups a1.Groups else some default) fun v1 =>
 some (((((a0.Id == a1.Id) && v1) && (a0.Topic == a1.Topic)) && (a0.Key == a1.Key)) && (a0.Body == a1.Body))
def zfa (a0 : TCommand) (a1 : TCommand) : Option Bool :=
 Option.bind (if a0.Kind = a1.Kind then zbm a0.Message a1.Message else some default) fun v1 =>
 Option.bind (if (((a0.Kind = a1.Kind) /\ (v1 = true)) /\ (a0.Id = a1.Id)) /\ (a0.Time = a1.Time) then zcg a0.Members a1.Members else some default) fun v2 =>
 some ((((((((a0.Kind == a1.Kind) && v1) && (a0.Id == a1.Id)) && (a0.Time == a1.Time)) && v2) && (a0.Topic == a1.Topic)) && (a0.Who == a1.Who)) && (a0.N == a1.N))
def ze6 (a0 : TWait) : Option TStamp :=
 some (⟨a0.Time, a0.Message.Id⟩ : TStamp)
def ze8 (a0 : Int) : Option Bool :=
 some (a0 != a0)
def zdm (a0 : Int) (a1 : Int) : Option Int :=
 Option.bind (ze8 a0) fun v1 =>
 Option.bind (ze8 a1) fun v2 =>
 if v1 = true then
 if v2 = true then
 some 0
 else
 some (-1)
 else
 if v2 = true then
 some 1
 else
 if a0 < a1 then
 some (-1)
 else
 if a0 > a1 then
 some 1
 else
 some 0
def zcf : List Int -> Option (Int ⊕ Unit)
 | [] =>
  some (.inr ())
 | y1 :: rest1 =>
  if ¬ (y1 = 0) then
  some (.inl y1)
  else
  zcf rest1 
def zgl (a0 : List Int) : Option Int :=
 Option.bind (α := Int ⊕ Unit) (zcf a0 ) fun z => match z with
 | (.inl r) => some r
 | (.inr _) =>
 some 0
def zal (a1 : List TStamp) : List TStamp -> Nat -> Option (Bool ⊕ Unit)
 | [], n1 =>
  some (.inr ())
 | y1 :: rest1, n1 =>
  if n1 < a1.length then
  if ¬ ((y1.Time = (a1.getD n1 default).Time) /\ (y1.Id = (a1.getD n1 default).Id)) then
  some (.inl false)
  else
  zal a1 rest1 (n1 + 1) 
  else none
def zbn (a0 : List TStamp) (a1 : List TStamp) : Option Bool :=
 if ¬ ((a0.length : Int) = (a1.length : Int)) then
 some false
 else
 Option.bind (α := Bool ⊕ Unit) (zal a1 a0 0 ) fun z => match z with
 | (.inl r) => some r
 | (.inr _) =>
 some true
def za6 (a1 : List TWait) (a2 : TWait -> TWait -> Option Bool) : List TWait -> Nat -> Option (Bool ⊕ Unit)
 | [], n1 =>
  some (.inr ())
 | y1 :: rest1, n1 =>
  if n1 < a1.length then
  Option.bind (a2 (y1) (a1.getD n1 default)) fun v1 =>
  if ¬ (v1 = true) then
  some (.inl false)
  else
  za6 a1 a2 rest1 (n1 + 1) 
  else none
def zb6 (a0 : List TWait) (a1 : List TWait) (a2 : TWait -> TWait -> Option Bool) : Option Bool :=
 if ¬ ((a0.length : Int) = (a1.length : Int)) then
 some false
 else
 Option.bind (α := Bool ⊕ Unit) (za6 a1 a2 a0 0 ) fun z => match z with
 | (.inl r) => some r
 | (.inr _) =>
 some true
def zag (a0 : List TWait) (a1 : TWait -> TWait -> Option Int) : Nat -> Int -> (List Int) -> Int -> (List UInt8) -> (List UInt8) -> Int -> Bool -> Int -> Option (Int × (List Int) × Int × (List UInt8) × (List UInt8) × Int × Bool)
 | 0, _, _, _, _, _, _, _, _ => none
 | fu1 + 1, n4, l2, n5, s3, s4, n6, b2, n7 =>
  if n7 < (a0.length : Int) then
  Option.bind (α := Int × (List Int) × Int × (List UInt8) × (List UInt8) × Int × Bool) (if (0 <= n7 /\ n7 < (a0.length : Int)) then
  Option.bind (a1 (a0.getD n7.toNat default) (⟨(⟨n4, l2, n5, s3, s4⟩ : TMessage), n6, b2⟩ : TWait)) fun v1 =>
  if v1 < 0 then
  if (0 <= n7 /\ n7 < (a0.length : Int)) then
  some ((a0.getD n7.toNat default).Message.Id, (a0.getD n7.toNat default).Message.Groups, (a0.getD n7.toNat default).Message.Topic, (a0.getD n7.toNat default).Message.Key, (a0.getD n7.toNat default).Message.Body, (a0.getD n7.toNat default).Time, (a0.getD n7.toNat default).Final)
  else none
  else
  some (n4, l2, n5, s3, s4, n6, b2)
  else none) fun (n8, l3, n9, s5, s6, n10, b3) =>
  zag a0 a1 fu1 n8 l3 n9 s5 s6 n10 b3 (wr .i64 (n7 + 1))
  else
  some (n4, l2, n5, s3, s4, n6, b2)
def zbi (a0 : List TWait) (a1 : TWait -> TWait -> Option Int) : Option TWait :=
 if (a0.length : Int) < 1 then
 none
 else
 if 0 < a0.length then
 Option.bind (α := Int × (List Int) × Int × (List UInt8) × (List UInt8) × Int × Bool) (zag a0 a1 (a0.length + 1) ((a0.getD 0 default).Message.Id) ((a0.getD 0 default).Message.Groups) ((a0.getD 0 default).Message.Topic) ((a0.getD 0 default).Message.Key) ((a0.getD 0 default).Message.Body) ((a0.getD 0 default).Time) ((a0.getD 0 default).Final) 1) fun (n1, l1, n2, s1, s2, n3, b1) =>
 some (⟨(⟨n1, l1, n2, s1, s2⟩ : TMessage), n3, b1⟩ : TWait)
 else none
def zap (a0 : List TWait) (a1 : TWait -> TWait -> Option Int) : Nat -> Int -> (List Int) -> Int -> (List UInt8) -> (List UInt8) -> Int -> Bool -> Int -> Option (Int × (List Int) × Int × (List UInt8) × (List UInt8) × Int × Bool)
 | 0, _, _, _, _, _, _, _, _ => none
 | fu1 + 1, n4, l2, n5, s3, s4, n6, b2, n7 =>
  if n7 < (a0.length : Int) then
  Option.bind (α := Int × (List Int) × Int × (List UInt8) × (List UInt8) × Int × Bool) (if (0 <= n7 /\ n7 < (a0.length : Int)) then
  Option.bind (a1 (a0.getD n7.toNat default) (⟨(⟨n4, l2, n5, s3, s4⟩ : TMessage), n6, b2⟩ : TWait)) fun v1 =>
  if v1 < 0 then
  if (0 <= n7 /\ n7 < (a0.length : Int)) then
  some ((a0.getD n7.toNat default).Message.Id, (a0.getD n7.toNat default).Message.Groups, (a0.getD n7.toNat default).Message.Topic, (a0.getD n7.toNat default).Message.Key, (a0.getD n7.toNat default).Message.Body, (a0.getD n7.toNat default).Time, (a0.getD n7.toNat default).Final)
  else none
  else
  some (n4, l2, n5, s3, s4, n6, b2)
  else none) fun (n8, l3, n9, s5, s6, n10, b3) =>
  zap a0 a1 fu1 n8 l3 n9 s5 s6 n10 b3 (wr .i64 (n7 + 1))
  else
  some (n4, l2, n5, s3, s4, n6, b2)
def zbw (a0 : List TWait) (a1 : TWait -> TWait -> Option Int) : Option TWait :=
 if (a0.length : Int) < 1 then
 none
 else
 if 0 < a0.length then
 Option.bind (α := Int × (List Int) × Int × (List UInt8) × (List UInt8) × Int × Bool) (zap a0 a1 (a0.length + 1) ((a0.getD 0 default).Message.Id) ((a0.getD 0 default).Message.Groups) ((a0.getD 0 default).Message.Topic) ((a0.getD 0 default).Message.Key) ((a0.getD 0 default).Message.Body) ((a0.getD 0 default).Time) ((a0.getD 0 default).Final) 1) fun (n1, l1, n2, s1, s2, n3, b1) =>
 some (⟨(⟨n1, l1, n2, s1, s2⟩ : TMessage), n3, b1⟩ : TWait)
 else none
def zc8 (a0 : TWait) (a1 : Int) : Option Int :=
 some (wr .i64 (a0.Message.Id - a1))
def za5 (a0 : List TWait) (a1 : Int) (a2 : TWait -> Int -> Option Int) : Nat -> Int -> Int -> Option (Int)
 | 0, _, _ => none
 | fu1 + 1, n2, n3 =>
  if n2 < n3 then
  if (0 <= (wr .i64 (shw false .u64 (wr .u64 (wr .i64 (n2 + n3))) 1)) /\ (wr .i64 (shw false .u64 (wr .u64 (wr .i64 (n2 + n3))) 1)) < (a0.length : Int)) then
  Option.bind (a2 (a0.getD (wr .i64 (shw false .u64 (wr .u64 (wr .i64 (n2 + n3))) 1)).toNat default) a1) fun v1 =>
  if v1 < 0 then
  za5 a0 a1 a2 fu1 (wr .i64 ((wr .i64 (shw false .u64 (wr .u64 (wr .i64 (n2 + n3))) 1)) + 1)) n3
  else
  za5 a0 a1 a2 fu1 n2 (wr .i64 (shw false .u64 (wr .u64 (wr .i64 (n2 + n3))) 1))
  else none
  else
  some n2
def zbj (a0 : List TWait) (a1 : Int) (a2 : TWait -> Int -> Option Int) : Option (Int × Bool) :=
 Option.bind (α := Int) (za5 a0 a1 a2 (a0.length + 1) 0 (a0.length : Int)) fun n1 =>
 if (n1 < (a0.length : Int)) -> (0 <= n1 /\ n1 < (a0.length : Int)) then
 Option.bind (if n1 < (a0.length : Int) then a2 (a0.getD n1.toNat default) a1 else some default) fun v2 =>
 some (n1, ((decide (n1 < (a0.length : Int))) && (v2 == 0)))
 else none
def zcu (a0 : Tskeen_clock) (a1 : Int) : Option (Int × Bool) :=
 Option.bind (zbj a0.Skeen.Waits a1 zc8) fun v1 =>
 some (v1.1, v1.2)
def zaf (a1 : TStamp -> Option Bool) : List TStamp -> Nat -> Option (Int ⊕ Unit)
 | [], n1 =>
  some (.inr ())
 | y1 :: rest1, n1 =>
  Option.bind (a1 (y1)) fun v1 =>
  if v1 = true then
  some (.inl (n1 : Int))
  else
  zaf a1 rest1 (n1 + 1) 
def zcb (a0 : List TStamp) (a1 : TStamp -> Option Bool) : Option Int :=
 Option.bind (α := Int ⊕ Unit) (zaf a1 a0 0 ) fun z => match z with
 | (.inl r) => some r
 | (.inr _) =>
 some (-1)
def zbx (a0 : List TStamp) (a1 : TStamp -> Option Bool) : Option Bool :=
 Option.bind (zcb a0 a1) fun v1 =>
 some (decide (v1 >= 0))
def zdd (a0 : TStamp) (c0 : Int) : Option Bool :=
 some (a0.Id == c0)
def zdw (a0 : Tskeen_clock) (a1 : Int) : Option Bool :=
 Option.bind (zbx a0.Skeen.Done (fun x0 => zdd x0 a1)) fun v1 =>
 some v1
def zcz (a0 : List TStamp) : Option ((List TStamp)) :=
 if a0.length * 16 <= 140737488355328 then
 some a0
 else none
def zd8 (a0 : List TWait) : Option ((List TWait)) :=
 if a0.length * 88 <= 140737488355328 then
 some a0
 else none
def zbo (a0 : Tskeen_clock) (a1 : Int) (a2 : Int) : Option Tskeen_clock :=
 Option.bind (zcu a0 a1) fun v1 =>
 if (¬ (¬ (v1.2 = true))) -> (0 <= v1.1 /\ v1.1 < (a0.Skeen.Waits.length : Int)) then
 if (¬ ((¬ (v1.2 = true)) \/ ((a0.Skeen.Waits.getD v1.1.toNat default).Final = true))) -> (0 <= v1.1 /\ v1.1 < (a0.Skeen.Waits.length : Int)) then
 if ((¬ (v1.2 = true)) \/ ((a0.Skeen.Waits.getD v1.1.toNat default).Final = true)) \/ (a2 < (a0.Skeen.Waits.getD v1.1.toNat default).Time) then
 some a0
 else
 if (0 <= v1.1 /\ v1.1 < (a0.Skeen.Waits.length : Int)) then
 if (0 <= v1.1 /\ v1.1 < ((a0.Skeen.Waits.set v1.1.toNat (⟨(a0.Skeen.Waits.getD v1.1.toNat default).Message, a2, (a0.Skeen.Waits.getD v1.1.toNat default).Final⟩ : TWait)).length : Int)) then
 some (⟨(⟨(max a0.Skeen.Clock a2), ((a0.Skeen.Waits.set v1.1.toNat (⟨(a0.Skeen.Waits.getD v1.1.toNat default).Message, a2, (a0.Skeen.Waits.getD v1.1.toNat default).Final⟩ : TWait)).set v1.1.toNat (⟨((a0.Skeen.Waits.set v1.1.toNat (⟨(a0.Skeen.Waits.getD v1.1.toNat default).Message, a2, (a0.Skeen.Waits.getD v1.1.toNat default).Final⟩ : TWait)).getD v1.1.toNat default).Message, ((a0.Skeen.Waits.set v1.1.toNat (⟨(a0.Skeen.Waits.getD v1.1.toNat default).Message, a2, (a0.Skeen.Waits.getD v1.1.toNat default).Final⟩ : TWait)).getD v1.1.toNat default).Time, true⟩ : TWait)), a0.Skeen.Done⟩ : TSkeen)⟩ : Tskeen_clock)
 else none
 else none
 else none
 else none
def zbq (a0 : Tskeen_clock) (a1 : Int) (a2 : TMessage) : Option (Int × Tskeen_clock) :=
 Option.bind (zcu a0 a2.Id) fun v1 =>
 Option.bind (if ¬ (v1.2 = true) then zdw a0 a2.Id else some default) fun v2 =>
 Option.bind (if ¬ ((v1.2 = true) \/ (v2 = true)) then zch a2.Groups a1 else some default) fun v3 =>
 if ((v1.2 = true) \/ (v2 = true)) \/ (¬ (v3 = true)) then
 some (0, a0)
 else
 if (a0.Skeen.Clock = 1073741824) \/ ((a0.Skeen.Waits.length : Int) = 200) then
 some (9, a0)
 else
 Option.bind (zbu a2.Groups) fun v4 =>
 if 0 <= v1.1 /\ v1.1 <= (a0.Skeen.Waits.length : Int) then
 if a0.Skeen.Waits.length < 1000000 then
 some (0, (⟨(⟨(wr .i64 (a0.Skeen.Clock + 1)), ((a0.Skeen.Waits.take v1.1.toNat) ++ ((⟨(⟨a2.Id, v4, a2.Topic, a2.Key, a2.Body⟩ : TMessage), (wr .i64 (a0.Skeen.Clock + 1)), false⟩ : TWait) :: (a0.Skeen.Waits.drop v1.1.toNat))), a0.Skeen.Done⟩ : TSkeen)⟩ : Tskeen_clock))
 else none
 else none
def zcc (v1 : (List TWait)) : Nat -> (List TWait) -> Int -> Option ((List TWait))
 | 0, _, _ => none
 | fu1 + 1, l2, n1 =>
  if n1 < (v1.length : Int) then
  if (0 <= n1 /\ n1 < (l2.length : Int)) then
  Option.bind (zbu ((l2.getD n1.toNat default).Message.Groups)) fun v3 =>
  if l2.length < 1000000 then
  zcc v1 fu1 (l2.set n1.toNat (⟨(⟨(l2.getD n1.toNat default).Message.Id, v3, (l2.getD n1.toNat default).Message.Topic, (l2.getD n1.toNat default).Message.Key, (l2.getD n1.toNat default).Message.Body⟩ : TMessage), (l2.getD n1.toNat default).Time, (l2.getD n1.toNat default).Final⟩ : TWait)) (wr .i64 (n1 + 1))
  else none
  else none
  else
  if l2.length <= n1.toNat then
  some l2
  else none
def zcd (a0 : TSkeen) : Option TSkeen :=
 Option.bind (zd8 a0.Waits) fun v1 =>
 Option.bind (zcz a0.Done) fun v2 =>
 Option.bind (α := (List TWait)) (zcc v1 (a0.Waits.length + 1) v1 0) fun l1 =>
 some (⟨a0.Clock, l1, v2⟩ : TSkeen)
def zed : Option TSkeen :=
 some (⟨0, [], []⟩ : TSkeen)
def zdj (a0 : TWait) (a1 : TWait) : Option Bool :=
 Option.bind (zbm a0.Message a1.Message) fun v1 =>
 some ((v1 && (a0.Time == a1.Time)) && (a0.Final == a1.Final))
def zgj (a0 : TSkeen) (a1 : TSkeen) : Option Bool :=
 Option.bind (if a0.Clock = a1.Clock then zbn a0.Done a1.Done else some default) fun v1 =>
 Option.bind (if (a0.Clock = a1.Clock) /\ (v1 = true) then zb6 a0.Waits a1.Waits zdj else some default) fun v2 =>
 some (((a0.Clock == a1.Clock) && v1) && v2)
def zdi (a0 : TStamp) (a1 : TStamp) : Option Bool :=
 Option.bind (zdm a0.Time a1.Time) fun v1 =>
 Option.bind (zdm a0.Id a1.Id) fun v2 =>
 Option.bind (zgl [v1, v2]) fun v3 =>
 some (decide (v3 < 0))
def zck (a0 : List TStamp) : Nat -> Int -> Option (Bool ⊕ Unit)
 | 0, _ => none
 | fu1 + 1, n1 =>
  if n1 < (max 0 (wr .i64 ((a0.length : Int) - 1))) then
  if (0 <= n1 /\ n1 < (a0.length : Int)) then
  if (0 <= (wr .i64 (n1 + 1)) /\ (wr .i64 (n1 + 1)) < (a0.length : Int)) then
  Option.bind (zdi (a0.getD n1.toNat default) (a0.getD (wr .i64 (n1 + 1)).toNat default)) fun v1 =>
  if ¬ (v1 = true) then
  some (.inl false)
  else
  zck a0 fu1 (wr .i64 (n1 + 1))
  else none
  else none
  else
  some (.inr ())
def zec (a0 : List TStamp) : Option Bool :=
 Option.bind (α := Bool ⊕ Unit) (zck a0 (a0.length + 1) 0) fun z => match z with
 | (.inl r) => some r
 | (.inr _) =>
 some true
def zet (a0 : TCommand) : Option (TCommand × Bool) :=
 Option.bind (zeu a0.Id) fun v1 =>
 Option.bind (if v1 = true then zce a0.Topic 0 3 else some default) fun v2 =>
 Option.bind (if (v1 = true) /\ (v2 = true) then zce a0.N 0 1073741824 else some default) fun v3 =>
 Option.bind (α := Bool ⊕ ((TCommand × Bool) ⊕ (Int × Bool))) (if a0.Kind = 0 then
 some (.inr (.inl ((⟨a0.Kind, (⟨0, [], 0, [], []⟩ : TMessage), 0, 0, [], 0, 0, 0⟩ : TCommand), true)))
 else
 if a0.Kind = 1 then
 Option.bind (zar a0.Message) fun v4 =>
 some (.inr (.inl ((⟨a0.Kind, a0.Message, 0, 0, [], 0, 0, 0⟩ : TCommand), (v4 == 0))))
 else
 if a0.Kind = 2 then
 Option.bind (zeu a0.Id) fun v5 =>
 Option.bind (if v5 = true then zce a0.Time 1 1073741824 else some default) fun v6 =>
 some (.inr (.inl ((⟨a0.Kind, (⟨0, [], 0, [], []⟩ : TMessage), a0.Id, a0.Time, [], 0, 0, 0⟩ : TCommand), (v5 && v6))))
 else
 if a0.Kind = 3 then
 Option.bind (zf7 a0.Members) fun v7 =>
 some (.inr (.inl ((⟨a0.Kind, (⟨0, [], 0, [], []⟩ : TMessage), 0, 0, a0.Members, 0, 0, 0⟩ : TCommand), (v7 == 0))))
 else
 if a0.Kind = 4 then
 Option.bind (if ((v1 = true) /\ (v2 = true)) /\ (v3 = true) then zce a0.Who 0 7 else some default) fun v8 =>
 some (.inr (.inr (a0.Who, (((v1 && v2) && v3) && v8))))
 else
 Option.bind (α := Bool) (if a0.Kind = 5 then
 some (a0.Kind == 5)
 else
 some (a0.Kind == 6)) fun b3 =>
 if b3 = true then
 some (.inr (.inr (0, ((v1 && v2) && v3))))
 else
 some (.inl b3)) fun z => match z with
 | (.inl b2) => some ((⟨a0.Kind, (⟨0, [], 0, [], []⟩ : TMessage), 0, 0, [], 0, 0, 0⟩ : TCommand), false)
 | (.inr (.inl r)) => some r
 | (.inr (.inr (n1, b1))) =>
 some ((⟨a0.Kind, (⟨0, [], 0, [], []⟩ : TMessage), a0.Id, 0, [], a0.Topic, n1, a0.N⟩ : TCommand), b1)
def zdq (a0 : TCommand) : Option Int :=
 Option.bind (zet a0) fun v1 =>
 Option.bind (if ¬ (¬ (v1.2 = true)) then zfa v1.1 a0 else some default) fun v2 =>
 if (¬ (v1.2 = true)) \/ (¬ (v2 = true)) then
 some 120
 else
 some 0
def zct (a0 : TWait) (a1 : TWait) : Option Int :=
 Option.bind (ze6 a0) fun v1 =>
 Option.bind (ze6 a1) fun v2 =>
 Option.bind (zdi v1 v2) fun v3 =>
 if v3 = true then
 some (-1)
 else
 Option.bind (ze6 a1) fun v4 =>
 Option.bind (ze6 a0) fun v5 =>
 Option.bind (zdi v4 v5) fun v6 =>
 if v6 = true then
 some 1
 else
 some 0
def zak (a0 : Tskeen_clock) : Nat -> (List TWait) -> (List TStamp) -> (List TMessage) -> Option ((List TWait) × (List TStamp) × (List TMessage))
 | 0, _, _, _ => none
 | fu1 + 1, l4, l5, l6 =>
  if (l4.length : Int) > 0 then
  Option.bind (zbw l4 zct) fun v1 =>
  if ¬ (v1.Final = true) then
  some (l4, l5, l6)
  else
  Option.bind (zcu (⟨(⟨a0.Skeen.Clock, l4, l5⟩ : TSkeen)⟩ : Tskeen_clock) v1.Message.Id) fun v2 =>
  if 0 <= v2.1 /\ v2.1 < (l4.length : Int) then
  if l4.length < 1000000 then
  Option.bind (ze6 v1) fun v3 =>
  if l5.length + [v3].length < 1000000 then
  if l6.length + [v1.Message].length < 1000000 then
  zak a0 fu1 (l4.eraseIdx v2.1.toNat) (l5 ++ [v3]) (l6 ++ [v1.Message])
  else none
  else none
  else none
  else none
  else
  some (l4, l5, l6)
def zc1 (a0 : Tskeen_clock) : Option ((List TMessage) × Tskeen_clock) :=
 Option.bind (α := (List TWait) × (List TStamp) × (List TMessage)) (zak a0 (a0.Skeen.Waits.length + 1) a0.Skeen.Waits a0.Skeen.Done []) fun (l1, l2, l3) =>
 some (l3, (⟨(⟨a0.Skeen.Clock, l1, l2⟩ : TSkeen)⟩ : Tskeen_clock))
def zb9 (a0 : TSkeen) : List TStamp -> Nat -> (List (Int × Int)) -> Int -> Int -> Option (Int ⊕ ((List (Int × Int)) × Int × Int))
 | [], n5, m2, n3, n4 =>
  some (.inr (m2, n3, n4))
 | y1 :: rest1, n5, m2, n3, n4 =>
  Option.bind (zfp (y1)) fun v1 =>
  Option.bind (if (¬ (((¬ (v1 = 0)) \/ (y1.Time < 1)) \/ (y1.Time > a0.Clock))) /\ ((n5 : Int) > 0) then zdi (⟨n3, n4⟩ : TStamp) (y1) else some default) fun v2 =>
  if ((((¬ (v1 = 0)) \/ (y1.Time < 1)) \/ (y1.Time > a0.Clock)) \/ (((n5 : Int) > 0) /\ (¬ (v2 = true)))) \/ (((mget (y1.Id) m2).getD 0) > 0) then
  some (.inl 8)
  else
  zb9 a0 rest1 (n5 + 1) (mput (y1.Id) 1 m2) (y1.Time) (y1.Id)
def zb8 (a0 : TSkeen) (m1 : List (Int × Int)) (n1 : Int) (n2 : Int) : List TWait -> Nat -> Option (Int ⊕ Unit)
 | [], n6 =>
  some (.inr ())
 | y2 :: rest2, n6 =>
  Option.bind (zar (y2.Message)) fun v3 =>
  Option.bind (if (¬ (((((¬ (v3 = 0)) \/ (y2.Time < 1)) \/ (y2.Time > a0.Clock)) \/ (((n6 : Int) > 0) /\ (y2.Message.Id <= (a0.Waits.getD (n6 - 1) default).Message.Id))) \/ (((mget (y2.Message.Id) m1).getD 0) > 0))) /\ ((a0.Done.length : Int) > 0) then ze6 (y2) else some default) fun v4 =>
  Option.bind (if (¬ (((((¬ (v3 = 0)) \/ (y2.Time < 1)) \/ (y2.Time > a0.Clock)) \/ (((n6 : Int) > 0) /\ (y2.Message.Id <= (a0.Waits.getD (n6 - 1) default).Message.Id))) \/ (((mget (y2.Message.Id) m1).getD 0) > 0))) /\ ((a0.Done.length : Int) > 0) then zdi (⟨n1, n2⟩ : TStamp) v4 else some default) fun v5 =>
  if (((((¬ (v3 = 0)) \/ (y2.Time < 1)) \/ (y2.Time > a0.Clock)) \/ (((n6 : Int) > 0) /\ (y2.Message.Id <= (a0.Waits.getD (n6 - 1) default).Message.Id))) \/ (((mget (y2.Message.Id) m1).getD 0) > 0)) \/ (((a0.Done.length : Int) > 0) /\ (¬ (v5 = true))) then
  some (.inl 8)
  else
  zb8 a0 m1 n1 n2 rest2 (n6 + 1) 
def zew (a0 : TSkeen) : Option Int :=
 if (((a0.Clock < 0) \/ (a0.Clock > 1073741824)) \/ ((a0.Waits.length : Int) > 200)) \/ ((a0.Done.length : Int) > 200) then
 some 8
 else
 Option.bind (α := Int ⊕ ((List (Int × Int)) × Int × Int)) (zb9 a0 a0.Done 0 [] 0 0) fun z => match z with
 | (.inl r) => some r
 | (.inr (m1, n1, n2)) =>
 Option.bind (α := Int ⊕ Unit) (zb8 a0 m1 n1 n2 a0.Waits 0 ) fun z => match z with
 | (.inl r) => some r
 | (.inr _) =>
 Option.bind (if (a0.Waits.length : Int) > 0 then zbi a0.Waits zct else some default) fun v6 =>
 if ((a0.Waits.length : Int) > 0) /\ (v6.Final = true) then
 some 8
 else
 some 0
def zbk (a0 : TSkeen) (a1 : Int) (a2 : TCommand) : Option (TSkeen × (List TMessage) × Int) :=
 Option.bind (zew a0) fun v1 =>
 if ¬ (v1 = 0) then
 some ((⟨0, [], []⟩ : TSkeen), [], v1)
 else
 if (a1 < 0) \/ (a1 >= 4) then
 some ((⟨0, [], []⟩ : TSkeen), [], 2)
 else
 Option.bind (zdq a2) fun v2 =>
 if ¬ (v2 = 0) then
 some ((⟨0, [], []⟩ : TSkeen), [], v2)
 else
 Option.bind (zcd a0) fun v3 =>
 Option.bind (α := (TSkeen × (List TMessage) × Int) ⊕ (Int × (List TWait) × (List TStamp))) (if a2.Kind = 1 then
 Option.bind (zbq (⟨v3⟩ : Tskeen_clock) a1 a2.Message) fun v4 =>
 if ¬ (v4.1 = 0) then
 some (.inl ((⟨0, [], []⟩ : TSkeen), [], v4.1))
 else
 some (.inr (v4.2.Skeen.Clock, v4.2.Skeen.Waits, v4.2.Skeen.Done))
 else
 if a2.Kind = 2 then
 Option.bind (zbo (⟨v3⟩ : Tskeen_clock) a2.Id a2.Time) fun v5 =>
 some (.inr (v5.Skeen.Clock, v5.Skeen.Waits, v5.Skeen.Done))
 else
 some (.inr (v3.Clock, v3.Waits, v3.Done))) fun z => match z with
 | (.inl r) => some r
 | (.inr (n1, l1, l2)) =>
 Option.bind (zc1 (⟨(⟨n1, l1, l2⟩ : TSkeen)⟩ : Tskeen_clock)) fun v6 =>
 if (v6.2.Skeen.Done.length : Int) > 200 then
 some ((⟨0, [], []⟩ : TSkeen), [], 9)
 else
 some (v6.2.Skeen, v6.1, 0)
end Go.Proofs
end
