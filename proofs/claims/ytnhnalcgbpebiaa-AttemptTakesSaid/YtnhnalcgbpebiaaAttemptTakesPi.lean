/- Models of functions, printed by gw.py. -/
import Derived.Test.YtnhnalcgbpebiaaAttemptTakesPf
import Derived.Test.YtnhnalcgbpebiaaAttemptTakesPh
import Derived.Test.YtnhnalcgbpebiaaAttemptTakesPg
section
namespace Go.Proofs
open Go.Tm
set_option linter.unusedVariables false

def m_quorum_set_loop1 : List Int → Int → Option (Int)
  | [], n2 =>
    some n2
  | y1 :: rest1, n2 =>
    Option.bind (α := Int) (if (y1 ≥ 0) ∧ (y1 < 6) then
    if 0 ≤ y1 then
    some (bitw .or .u64 n2 (shw true .u64 1 (y1)))
    else none
    else
    some n2) fun n4 =>
    m_quorum_set_loop1 rest1 n4
def m_quorum_set (a0 : List Int) : Option Int :=
  Option.bind (α := Int) (m_quorum_set_loop1 a0 0) fun n1 =>
  some n1

def m_quorum_Most (a0 : List Int) (a1 : List Int) : Option (Bool × Int) :=
  Option.bind (m_quorum_Need a0) fun v1 =>
  if ¬ (v1.2 = 0) then
  some (false, v1.2)
  else
  if (a1.length : Int) > 1000 then
  some (false, 4)
  else
  Option.bind (m_quorum_set a0) fun v2 =>
  Option.bind (m_quorum_set a1) fun v3 =>
  Option.bind (m_math_bits_OnesCount (bitw .and .u64 v2 v3)) fun v4 =>
  some ((decide (v4 ≥ v1.1)), 0)

def m_attempt_most (a0 : List Int) (a1 : List Int) : Option Bool :=
  Option.bind (m_quorum_Most a0 a1) fun v1 =>
  some v1.1

def m_attempt_Same (a0 : TAttempt) (a1 : TAttempt) : Option Bool :=
  Option.bind (if (a0.Phase = a1.Phase) ∧ (a0.Ballot = a1.Ballot) then m_slices_Equal_int_int a0.Members a1.Members else some default) fun v1 =>
  Option.bind (if ((((a0.Phase = a1.Phase) ∧ (a0.Ballot = a1.Ballot)) ∧ (v1 = true)) ∧ (a0.Wish = a1.Wish)) ∧ (a0.Value = a1.Value) then m_slices_Equal_Promise_Promise a0.Promises a1.Promises else some default) fun v2 =>
  Option.bind (if (((((a0.Phase = a1.Phase) ∧ (a0.Ballot = a1.Ballot)) ∧ (v1 = true)) ∧ (a0.Wish = a1.Wish)) ∧ (a0.Value = a1.Value)) ∧ (v2 = true) then m_slices_Equal_int_int a0.Accepted a1.Accepted else some default) fun v3 =>
  some (((((((a0.Phase == a1.Phase) && (a0.Ballot == a1.Ballot)) && v1) && (a0.Wish == a1.Wish)) && (a0.Value == a1.Value)) && v2) && v3)

def m_towncrierref08_Same_loop1 (a1 : TAttempt) : List TPromise → Nat → Option (Bool ⊕ Unit)
  | [], n1 =>
    some (.inr ())
  | y1 :: rest1, n1 =>
    if n1 < a1.Promises.length then
    if ¬ ((y1.Node = (a1.Promises.getD n1 default).Node) ∧ (y1.Ballot = (a1.Promises.getD n1 default).Ballot) ∧ (y1.Value = (a1.Promises.getD n1 default).Value)) then
    some (.inl false)
    else
    m_towncrierref08_Same_loop1 a1 rest1 (n1 + 1) 
    else none
def m_towncrierref08_Same (a0 : TAttempt) (a1 : TAttempt) : Option Bool :=
  Option.bind (if ¬ ((¬ (a0.Phase = a1.Phase)) ∨ (¬ (a0.Ballot = a1.Ballot))) then m_towncrierref01_SameInts a0.Members a1.Members else some default) fun v1 =>
  Option.bind (if ¬ ((((((¬ (a0.Phase = a1.Phase)) ∨ (¬ (a0.Ballot = a1.Ballot))) ∨ (¬ (v1 = true))) ∨ (¬ (a0.Wish = a1.Wish))) ∨ (¬ (a0.Value = a1.Value))) ∨ (¬ ((a0.Promises.length : Int) = (a1.Promises.length : Int)))) then m_towncrierref01_SameInts a0.Accepted a1.Accepted else some default) fun v2 =>
  if ((((((¬ (a0.Phase = a1.Phase)) ∨ (¬ (a0.Ballot = a1.Ballot))) ∨ (¬ (v1 = true))) ∨ (¬ (a0.Wish = a1.Wish))) ∨ (¬ (a0.Value = a1.Value))) ∨ (¬ ((a0.Promises.length : Int) = (a1.Promises.length : Int)))) ∨ (¬ (v2 = true)) then
  some false
  else
  Option.bind (α := Bool ⊕ Unit) (m_towncrierref08_Same_loop1 a1 a0.Promises 0 ) fun z => match z with
  | (.inl r) => some r
  | (.inr _) =>
  some true

def m_towncrierref08_Twin (a0 : TAttempt) : Option TAttempt :=
  if a0.Members.length < 1000000 then
  if a0.Promises.length < 1000000 then
  if a0.Accepted.length < 1000000 then
  some a0
  else none
  else none
  else none
end Go.Proofs
end
section
/- The walks of functions, printed by gw.py. -/






namespace Go.Proofs
open Go.Tm Go.RowKit Go.WideShapes
set_option maxRecDepth 100000
set_option maxHeartbeats 4000000
set_option linter.unusedSimpArgs false
set_option linter.unusedVariables false
attribute [local go_sem] argVars runE runK isCallV stepE aop opd opdsL opds opdO ev ofVal keep List.any natbeq Bool.false_or Bool.true_or aggEq cond_true cond_false Bool.cond_false_right Bool.cond_true_left beq_true beq_false imp_self implies_true getR getL put St.app effL del nwB blt_dec Nat.lt_irrefl Nat.lt_add_one ble_dec Nat.le_refl Nat.beq_refl roomNZ appendIn capS capK mkZ_zero mkZL_zero zeroEl D.ids D.idsL Option.getD bin arith sarith binT dpick Tm.part splice fillD oneD loadD storeD srcD sliceD idxOk decide_true gval dstAt D.cells List.map_cons List.map_nil List.take List.drop List.length_map List.append Int.toNat_natCast and_true true_and decide_false List.length_cons List.length_nil List.append_nil List.nil_append Bool.and_true Bool.true_and Bool.not_false Bool.not_true ne_eq not_false_eq_true BEq.rfl List.getElem?_cons_zero List.getElem?_cons_succ List.getElem?_nil Nat.zero_add List.all_cons List.all_nil List.isEmpty_cons List.isEmpty_nil List.any_cons List.any_nil List.drop_succ_cons List.drop_zero unfL unf okM okML low3 List.cons_append true_or or_true Nat.zero_mul Nat.zero_le bytesD_map map_ub mkZ_one mkZL_one mkM mkML mk1_int mk1_str mk1_bool drop_map take_map take_map_len List.take_length Int.toNat_zero toNat_pred fpOf metIds opIds mvV mvH mvF pickL D.ren D.renL Blk.ren List.map_append List.length_append Bool.not_not Bool.or_not_self Bool.not_or_self Bool.or_true
attribute [local go_sem] Try.tm_1 Try.tm_2 Try.tm_3 Try.tm_4 Try.tm_5 Try.tm_6 Try.tm_7 Try.tm_8 Try.tm_9 Try.tm_10 Try.tm_11 Try.tm_12 Try.tm_13 Try.tm_14 Try.tm_15 Try.tm_16 Try.tm_17 Try.tm_18 Try.tm_19 Try.tm_20 Try.tm_21 Try.tm_22 Try.tm_23 Try.tm_24 Try.tm_25 Try.tm_26 Try.tm_27 Try.tm_28 Try.tm_29 Try.tm_30 Try.tm_32 Try.tm_34 Try.tm_35 Try.tm_36 Try.tm_37 Try.tm_38 Try.tm_39 Try.tm_40 Try.tm_41 Try.tm_42 Try.tm_43 Try.tm_44 Try.tm_45 Try.tm_46 Try.tm_47 Try.tm_48 Try.tm_50 Try.tm_51 Try.tm_52 Try.tm_53 Try.tm_54 Try.tm_55 Try.tm_57 Try.tm_58 Try.tm_59 Try.tm_61 Try.tm_63 Try.tm_64 Try.tm_65 Try.tm_66 Try.tm_67 Try.tm_68 Try.tm_69 Try.tm_70 Try.tm_71 Try.tm_73 Try.tm_75 Try.tm_76 Try.tm_78 Try.tm_79 Try.tm_80 Try.tm_81 Try.tm_82 Try.tm_83 Try.tm_84 Try.tm_85 Try.tm_86 Try.tm_87 Try.tm_88 Try.tm_89 Try.tm_90 Try.tm_91 Try.tm_93 Try.tm_94 Try.tm_95 Try.tm_96 Try.tm_97 Try.tm_98 Try.tm_99 Try.tm_100 Try.tm_101 Try.tm_102 Try.tm_103 Try.tm_104 Try.tm_105 Try.tm_106 Try.tm_107 Try.tm_109 Try.tm_111 Try.tm_113 Try.tm_114 Try.tm_115 Try.tm_116 Try.tm_117 Try.tm_118 Try.tm_119 Try.tm_120 Try.tm_121 Try.tm_123 Try.tm_124 Try.tm_125 Try.tm_127 Try.tm_128 Try.tm_129 Try.tm_130 Try.tm_131 Try.tm_132 Try.tm_133 Try.tm_134 Try.tm_135 Try.tm_136 Try.tm_137 Try.tm_138 Try.tm_139 Try.tm_140 Try.tm_141 Try.tm_142 Try.tm_143 Try.tm_144 Try.tm_145 Try.tm_146 Try.tm_147 Try.tm_149 Try.tm_150 Try.tm_151 Try.tm_152 Try.tm_153 Try.tm_154 Try.tm_155 Try.tm_156 Try.tm_157 Try.tm_158 Try.tm_159 Try.tm_160 Try.tm_162 Try.tm_163 Try.tm_164 Try.tm_165 Try.tm_166 Try.tm_167 Try.tm_168 Try.tm_169 Try.tm_170 Try.tm_171 Try.tm_172 Try.tm_173 Try.tm_175 Try.tm_177 Try.tm_178 Try.tm_179 Try.tm_180 Try.tm_181 Try.tm_182 Try.tm_184 Try.tm_185 Try.tm_187 Try.tm_189 Try.tm_191 Try.tm_192 Try.tm_193 Try.tm_194 Try.tm_195 Try.tm_196 Try.tm_197 Try.tm_198 Try.tm_199 Try.tm_200 Try.tm_201 Try.tm_202 Try.tm_203 Try.tm_204 Try.tm_205 Try.tm_206 Try.tm_207 Try.tm_208 Try.tm_209 Try.tm_210 Try.tm_211 Try.tm_212 Try.tm_213 Try.tm_214 Try.tm_215 Try.tm_216 Try.tm_217 Try.tm_218 Try.tm_219 Try.tm_220 Try.tm_221 Try.tm_223 Try.tm_224 Try.tm_225 Try.tm_226 Try.tm_227 Try.tm_229 Try.tm_230 Try.tm_231 Try.tm_232 Try.tm_233 Try.tm_235 Try.tm_236 Try.tm_237 Try.tm_238 Try.tm_239 Try.tm_240 Try.tm_241 Try.tm_242 Try.tm_243 Try.tm_244 Try.tm_245 Try.tm_246 Try.tm_247 Try.tm_248 Try.tm_249 Try.tm_250 Try.tm_251 Try.tm_252 Try.tm_253 Try.tm_254 Try.tm_255 Try.tm_256 Try.tm_257 Try.tm_258 Try.tm_259 Try.tm_260 Try.tm_262 Try.tm_263 Try.tm_264 Try.tm_265 Try.tm_266 Try.tm_267 Try.tm_269 Try.tm_270 Try.tm_271 Try.tm_272 Try.tm_273 Try.tm_274 Try.tm_275 Try.tm_276 Try.tm_277 Try.tm_278 Try.tm_280 Try.tm_281 Try.tm_282 Try.tm_283 Try.tm_284 Try.tm_286 Try.tm_288 Try.tm_289 Try.tm_290 Try.tm_291 Try.tm_292 Try.tm_294 Try.tm_296 Try.tm_297 Try.tm_298 Try.tm_299 Try.tm_300 Try.tm_302 Try.tm_303 Try.tm_304 Try.tm_305 Try.tm_306 Try.tm_307 Try.tm_308 Try.tm_309 Try.tm_310 Try.tm_311 Try.tm_312 Try.tm_313 Try.tm_314 Try.tm_315 Try.tm_316 Try.tm_317 Try.tm_318 Try.tm_319 Try.tm_320 Try.tm_321 Try.tm_322 Try.tm_324 Try.tm_325 Try.tm_326 Try.tm_327 Try.tm_330 Try.tm_331 Try.tm_332 Try.tm_333 Try.tm_334 Try.tm_335 Try.tm_336 Try.tm_337 TPromise.d TAttempt.d TAttempt.n dL_str nL_str TVote.d TSeen.d TStable.d TStable.n TRecord.d TMessage.d TMessage.n TWait.d TWait.n TStamp.d TSkeen.d TSkeen.n TCommand.d TCommand.n mk1_TPromise mk1_TAttempt mk1_dL_str mk1_TVote mk1_TSeen mk1_TStable mk1_TRecord mk1_TMessage mk1_TWait mk1_TStamp mk1_TSkeen mk1_TCommand Try.f235 Try.f183 Try.f83 Try.f24 Try.f21 Try.f15

def Try.St_quorum_set_1 (n1 : Int) : St := ⟨[(2, .int .u64 n1)], [], 0⟩
attribute [local go_sem] Try.St_quorum_set_1
def Try.St_quorum_set_3 (a0 : List Int) (n3 : Nat) (n2 : Int) : St := ⟨[(2, .int .u64 n2), (5, .imm 1 (a0.map (D.int .i64)) 4), (6, .int .i64 (a0.length : Int)), (7, .int .i64 (n3 : Int))], [], 0⟩
attribute [local go_sem] Try.St_quorum_set_3
def Try.St_quorum_set_5 (a0 : List Int) (n3 : Nat) (n4 : Int) : St := ⟨[(2, .int .u64 n4), (5, .imm 1 (a0.map (D.int .i64)) 4), (6, .int .i64 (a0.length : Int)), (7, .int .i64 (n3 : Int))], [], 0⟩
attribute [local go_sem] Try.St_quorum_set_5
theorem callP_quorum_set (a0 : List Int) (r : Int) (h : m_quorum_set a0 = some r) : CallP Try.prog 235 [.imm 1 (a0.map (D.int .i64)) 4] (.int .u64 r) := by
  refine callP_intro Try.tmOk 2 Try.func235 rfl (by decide) rfl rfl (Nat.le_of_ble_eq_true rfl) ?_
  intro hwf
  unfold m_quorum_set at h
  refine .seq ?_
  refine .pl Try.S [0] ?_
  obtain ⟨x1, hx1, h⟩ := bind_some h
  refine .seqM 0 (fun (j : Int) => Try.St_quorum_set_1 j) (fun j => x1 = j) (Nat.le_of_ble_eq_true rfl) ?_ ?_
  · skip
    refine .seq ?_
    refine .pl Try.S [0, 2] ?_
    refine .block ?_
    refine .loopG 0 (fun (j : Nat × Int) => Try.St_quorum_set_3 a0 j.1 j.2) (fun j => j.1 ≤ a0.length ∧ m_quorum_set_loop1 (a0.drop j.1) j.2 = some x1) (fun j => a0.length - j.1) (0, 0) (Nat.le_of_ble_eq_true rfl) ?_ ⟨Nat.zero_le _, hx1⟩ ?_
    · skip
      exact .m [2, 5, 6, 7] [] []
    rintro ⟨n3, n2⟩ ⟨hi1, hx1⟩
    simp only [Try.St_quorum_set_3]
    simp only at hi1 hx1
    refine .wf 6 (.int .i64 (a0.length : Int)) rfl ?_
    intro hln3
    replace hln3 : (a0.length : Int) ≤ 9223372036854775807 := by simp only [wf, wfL, IntKind.max, IntKind.min, IntKind.signed, IntKind.bits, List.length_map] at hln3; first | exact hln3.2 | exact hln3.1 | (simp at hln3; omega)
    refine .seq ?_
    refine .pl Try.S [2, 5, 6, 7] ?_
    refine .seq ?_
    refine .cond rfl rfl (fun hc1 => ?_) (fun hc1 => ?_)
    · skip
      have h1 : n3 < a0.length := by simpa using hc1
      have hwn3 : wr .i64 ((n3 : Int) + 1) = ((n3 + 1 : Nat) : Int) := wr_succ h1 hln3
      have hpn3 : wr .i64 ((n3 : Int) - 1) = (n3 : Int) - 1 := wr_pred h1 hln3
      rw [List.drop_eq_getElem_cons h1, m_quorum_set_loop1] at hx1
      refine .skip ?_
      obtain ⟨x2, hx2, hx1⟩ := bind_some hx1
      refine .seqM 0 (fun (j : Int) => Try.St_quorum_set_5 a0 n3 j) (fun j => x2 = j) (Nat.le_of_ble_eq_true rfl) ?_ ?_
      · skip
        refine .block ?_
        refine .seq ?_
        have e1 := nth_map (D.int .i64) a0 n3 h1
        refine .plx Try.S (And.intro e1 hwn3) [2, 5, 6, 7] ?_
        refine .seq ?_
        refine .plx Try.S hwn3 [2, 4, 5, 6, 7] ?_
        refine .cond rfl rfl (fun hc2 => ?_) (fun hc2 => ?_)
        · skip
          replace hx2 := ite_lc hx2 hc2
          obtain ⟨k1, hx2⟩ := ite_ck hx2
          refine .plx Try.S hwn3 [2, 4, 5, 6, 7] ?_
          refine ⟨_, ?_, (Option.some.inj hx2).symm⟩
          exact .m [2, 5, 6, 7] [] []
        · skip
          replace hx2 := ite_rc hx2 hc2
          refine .skip ?_
          refine ⟨_, ?_, (Option.some.inj hx2).symm⟩
          exact .m [2, 5, 6, 7] [] []
      · skip
        rintro n4 hj1
        subst x2
        try dsimp only at hx1
        simp only [Try.St_quorum_set_5]
        refine .plx Try.S hwn3 [2, 5, 6, 7] ?_
        refine ⟨(n3 + 1, _), ?_, ⟨by omega, hx1⟩, by dsimp only; omega⟩
        exact .m [2, 5, 6, 7] [] []
    · skip
      have h2 : n3 = a0.length := by have h2b := of_decide_eq_false hc1; omega
      rw [List.drop_of_length_le (by omega), m_quorum_set_loop1] at hx1
      refine .exit ?_
      refine ⟨_, ?_, (Option.some.inj hx1).symm⟩
      exact .m [2] [] []
  · skip
    rintro n1 hj2
    subst x1
    try dsimp only at h
    simp only [Try.St_quorum_set_1]
    refine .seq ?_
    refine .pl Try.S [2] ?_
    have hq := Option.some.inj h
    subst r
    exact .ret ⟨.inr rfl, rsi⟩


theorem callP_quorum_Most (a0 : List Int) (a1 : List Int) (r : Bool × Int) (h : m_quorum_Most a0 a1 = some r) : CallP Try.prog 183 [.imm 1 (a0.map (D.int .i64)) 4, .imm 1 (a1.map (D.int .i64)) 4] (.tuple [.bool r.1, .int .i64 r.2]) := by
  refine callP_intro Try.tmOk 2 Try.func183 rfl (by decide) rfl rfl (Nat.le_of_ble_eq_true rfl) ?_
  intro hwf
  unfold m_quorum_Most at h
  refine .seq ?_
  refine .pl Try.S [0, 1] ?_
  refine .seq ?_
  obtain ⟨v1, hv1, h⟩ := bind_some h
  refine .rg Try.S [0, 1] ?_
  refine .rn 1 ?_
  refine .call (r := .tuple [.int .i64 v1.1, .int .i64 v1.2]) rfl rfl rfl rfl rfl rfl (callP_quorum_Need a0 v1 hv1) ?_
  refine .rn 5 ?_
  refine .nil ⟨nofun, ?_⟩
  refine .seq ?_
  refine .seq ?_
  refine .pl Try.S [0, 1, 6, 7] ?_
  refine .cond rfl rfl (fun hc1 => ?_) (fun hc1 => ?_)
  · skip
    replace h := ite_lc h hc1
    refine .seq ?_
    refine .pl Try.S [7] ?_
    have hq := Option.some.inj h
    subst r
    exact .ret ⟨.inr rfl, rsi⟩
  · skip
    replace h := ite_rc h hc1
    refine .skip ?_
    refine .seq ?_
    refine .seq ?_
    refine .pl Try.S [0, 1, 6] ?_
    refine .cond rfl rfl (fun hc2 => ?_) (fun hc2 => ?_)
    · skip
      replace h := ite_lc h hc2
      refine .seq ?_
      refine .pl Try.S [] ?_
      have hq := Option.some.inj h
      subst r
      exact .ret ⟨.inr rfl, rsi⟩
    · skip
      replace h := ite_rc h hc2
      refine .skip ?_
      refine .seq ?_
      obtain ⟨v2, hv2, h⟩ := bind_some h
      obtain ⟨v3, hv3, h⟩ := bind_some h
      obtain ⟨v4, hv4, h⟩ := bind_some h
      refine .rg Try.S [0, 1, 6] ?_
      refine .rn 1 ?_
      refine .call (r := .int .u64 v2) rfl rfl rfl rfl rfl rfl (callP_quorum_set a0 v2 hv2) ?_
      refine .rn 1 ?_
      refine .call (r := .int .u64 v3) rfl rfl rfl rfl rfl rfl (callP_quorum_set a1 v3 hv3) ?_
      refine .rn 1 ?_
      refine .call (r := .int .i64 v4) rfl rfl rfl rfl rfl rfl (callP_math_bits_OnesCount (bitw .and .u64 v2 v3) v4 hv4) ?_
      refine .rn 4 ?_
      refine .nil ⟨nofun, ?_⟩
      have hq := Option.some.inj h
      subst r
      exact .ret ⟨.inr rfl, rsi⟩


theorem callP_attempt_most (a0 : List Int) (a1 : List Int) (r : Bool) (h : m_attempt_most a0 a1 = some r) : CallP Try.prog 83 [.imm 1 (a0.map (D.int .i64)) 4, .imm 1 (a1.map (D.int .i64)) 4] (.bool r) := by
  refine callP_intro Try.tmOk 2 Try.func83 rfl (by decide) rfl rfl (Nat.le_of_ble_eq_true rfl) ?_
  intro hwf
  unfold m_attempt_most at h
  refine .seq ?_
  refine .pl Try.S [0, 1] ?_
  refine .seq ?_
  obtain ⟨v1, hv1, h⟩ := bind_some h
  refine .rg Try.S [0, 1] ?_
  refine .rn 2 ?_
  refine .call (r := .tuple [.bool v1.1, .int .i64 v1.2]) rfl rfl rfl rfl rfl rfl (callP_quorum_Most a0 a1 v1 hv1) ?_
  refine .rn 5 ?_
  refine .nil ⟨nofun, ?_⟩
  refine .seq ?_
  refine .pl Try.S [5] ?_
  have hq := Option.some.inj h
  subst r
  exact .ret ⟨.inr rfl, rsi⟩


theorem callP_attempt_Same (a0 : TAttempt) (a1 : TAttempt) (r : Bool) (h : m_attempt_Same a0 a1 = some r) : CallP Try.prog 24 [.agg [.int .u8 a0.Phase, .int .i64 a0.Ballot, .imm 1 (a0.Members.map (D.int .i64)) 4, .str a0.Wish, .str a0.Value, .imm 3 (a0.Promises.map TPromise.d) 4, .imm 1 (a0.Accepted.map (D.int .i64)) 4], .agg [.int .u8 a1.Phase, .int .i64 a1.Ballot, .imm 1 (a1.Members.map (D.int .i64)) 4, .str a1.Wish, .str a1.Value, .imm 3 (a1.Promises.map TPromise.d) 4, .imm 1 (a1.Accepted.map (D.int .i64)) 4]] (.bool r) := by
  refine callP_intro Try.tmOk 4 Try.func24 rfl (by decide) rfl rfl (Nat.le_of_ble_eq_true rfl) ?_
  intro hwf
  unfold m_attempt_Same at h
  refine .seq ?_
  refine .pl Try.S [0, 1] ?_
  refine .seq ?_
  obtain ⟨v1, hv1, h⟩ := bind_some h
  obtain ⟨v2, hv2, h⟩ := bind_some h
  obtain ⟨v3, hv3, h⟩ := bind_some h
  refine .rg Try.S [2, 3] ?_
  refine .rn 6 ?_
  refine .rn 6 ?_
  refine .rn 5 ?_
  refine .gcall (r := .bool v1) rfl rfl rfl rfl rfl (fun hg => ⟨[], [.imm 1 (a0.Members.map (D.int .i64)) 4, .imm 1 (a1.Members.map (D.int .i64)) 4], _, rfl, gd hg, rfl, (callP_slices_Equal_int_int a0.Members a1.Members v1 (ite_lc hv1 hg))⟩) ?_
  refine .rn 6 ?_
  refine .rn 6 ?_
  refine .rn 8 ?_
  refine .gcall (r := .bool v2) rfl rfl rfl rfl rfl (fun hg => ⟨[], [.imm 3 (a0.Promises.map TPromise.d) 4, .imm 3 (a1.Promises.map TPromise.d) 4], _, rfl, gd hg, rfl, (callP_slices_Equal_Promise_Promise a0.Promises a1.Promises v2 (ite_lc hv2 hg))⟩) ?_
  refine .rn 6 ?_
  refine .gcall (r := .bool v3) rfl rfl rfl rfl rfl (fun hg => ⟨[], [.imm 1 (a0.Accepted.map (D.int .i64)) 4, .imm 1 (a1.Accepted.map (D.int .i64)) 4], _, rfl, gd hg, rfl, (callP_slices_Equal_int_int a0.Accepted a1.Accepted v3 (ite_lc hv3 hg))⟩) ?_
  refine .rn 2 ?_
  refine .nil ⟨nofun, ?_⟩
  have hq := Option.some.inj h
  subst r
  exact .ret ⟨.inr rfl, rsi⟩

def Try.St_towncrierref08_Same_1 : St := ⟨[], [], 2⟩
attribute [local go_sem] Try.St_towncrierref08_Same_1
def Try.St_towncrierref08_Same_3 (a0 : TAttempt) (a1 : TAttempt) (n1 : Nat) : St := ⟨[(2, .ptr 0 0), (3, .ptr 1 0), (5, .int .i64 (n1 : Int))], [(0, .box [.int .u8 a0.Phase, .int .i64 a0.Ballot, .imm 1 (a0.Members.map (D.int .i64)) 4, .str a0.Wish, .str a0.Value, .imm 3 (a0.Promises.map TPromise.d) 4, .imm 1 (a0.Accepted.map (D.int .i64)) 4]), (1, .box [.int .u8 a1.Phase, .int .i64 a1.Ballot, .imm 1 (a1.Members.map (D.int .i64)) 4, .str a1.Wish, .str a1.Value, .imm 3 (a1.Promises.map TPromise.d) 4, .imm 1 (a1.Accepted.map (D.int .i64)) 4])], 2⟩
attribute [local go_sem] Try.St_towncrierref08_Same_3
theorem callP_towncrierref08_Same (a0 : TAttempt) (a1 : TAttempt) (r : Bool) (h : m_towncrierref08_Same a0 a1 = some r) : CallP Try.prog 21 [.agg [.int .u8 a0.Phase, .int .i64 a0.Ballot, .imm 1 (a0.Members.map (D.int .i64)) 4, .str a0.Wish, .str a0.Value, .imm 3 (a0.Promises.map TPromise.d) 4, .imm 1 (a0.Accepted.map (D.int .i64)) 4], .agg [.int .u8 a1.Phase, .int .i64 a1.Ballot, .imm 1 (a1.Members.map (D.int .i64)) 4, .str a1.Wish, .str a1.Value, .imm 3 (a1.Promises.map TPromise.d) 4, .imm 1 (a1.Accepted.map (D.int .i64)) 4]] (.bool r) := by
  refine callP_intro Try.tmOk 4 Try.func21 rfl (by decide) rfl rfl (Nat.le_of_ble_eq_true rfl) ?_
  intro hwf
  unfold m_towncrierref08_Same at h
  refine .seq ?_
  refine .pl Try.S [0, 1] ?_
  refine .seq ?_
  refine .seq ?_
  obtain ⟨v1, hv1, h⟩ := bind_some h
  obtain ⟨v2, hv2, h⟩ := bind_some h
  refine .rg Try.S [2, 3] ?_
  refine .rn 6 ?_
  refine .rn 6 ?_
  refine .rn 5 ?_
  refine .gcall (r := .bool v1) rfl rfl rfl rfl rfl (fun hg => ⟨[], [.imm 1 (a0.Members.map (D.int .i64)) 4, .imm 1 (a1.Members.map (D.int .i64)) 4], _, rfl, gd hg, rfl, (callP_towncrierref01_SameInts a0.Members a1.Members v1 (ite_lc hv1 hg))⟩) ?_
  refine .rn 6 ?_
  refine .rn 6 ?_
  refine .rn 6 ?_
  refine .rn 6 ?_
  refine .rn 6 ?_
  refine .gcall (r := .bool v2) rfl rfl rfl rfl rfl (fun hg => ⟨[], [.imm 1 (a0.Accepted.map (D.int .i64)) 4, .imm 1 (a1.Accepted.map (D.int .i64)) 4], _, rfl, gd hg, rfl, (callP_towncrierref01_SameInts a0.Accepted a1.Accepted v2 (ite_lc hv2 hg))⟩) ?_
  refine .rn 2 ?_
  refine .nil ⟨nofun, ?_⟩
  refine .cond rfl rfl (fun hc1 => ?_) (fun hc1 => ?_)
  · skip
    replace h := ite_lc h hc1
    refine .seq ?_
    refine .pl Try.S [] ?_
    have hq := Option.some.inj h
    subst r
    exact .ret ⟨.inr rfl, rsi⟩
  · skip
    replace h := ite_rc h hc1
    refine .skip ?_
    obtain ⟨x1, hx1, h⟩ := bind_some h
    refine .seqM 2 (fun (j : Unit) => Try.St_towncrierref08_Same_1) (fun j => x1 = (.inr j)) (Nat.le_of_ble_eq_true rfl) ?_ ?_
    · skip
      refine .seq ?_
      refine .pl Try.S [2, 3] ?_
      refine .block ?_
      refine .loopG 2 (fun (j : Nat) => Try.St_towncrierref08_Same_3 a0 a1 j) (fun j => j ≤ a0.Promises.length ∧ m_towncrierref08_Same_loop1 a1 (a0.Promises.drop j) j  = some x1) (fun j => a0.Promises.length - j) (0) (Nat.le_of_ble_eq_true rfl) ?_ ⟨Nat.zero_le _, hx1⟩ ?_
      · skip
        exact .m [2, 3, 5] [0, 1] []
      rintro n1 ⟨hi1, hx1⟩
      simp only [Try.St_towncrierref08_Same_3]
      refine .wfb 0 [.int .u8 a0.Phase, .int .i64 a0.Ballot, .imm 1 (a0.Members.map (D.int .i64)) 4, .str a0.Wish, .str a0.Value, .imm 3 (a0.Promises.map TPromise.d) 4, .imm 1 (a0.Accepted.map (D.int .i64)) 4] rfl ?_
      intro hln1
      replace hln1 : (a0.Promises.length : Int) ≤ 9223372036854775807 := by simp only [wf, wfL, IntKind.max, IntKind.min, IntKind.signed, IntKind.bits, List.length_map] at hln1; first | exact hln1.2 | exact hln1.1 | (simp at hln1; omega)
      refine .seq ?_
      refine .seq ?_
      refine .pl Try.S [2, 3, 5] ?_
      refine .cond rfl rfl (fun hc2 => ?_) (fun hc2 => ?_)
      · skip
        have h1 : n1 < a0.Promises.length := by simpa using hc2
        have hwn1 : wr .i64 ((n1 : Int) + 1) = ((n1 + 1 : Nat) : Int) := wr_succ h1 hln1
        have hpn1 : wr .i64 ((n1 : Int) - 1) = (n1 : Int) - 1 := wr_pred h1 hln1
        rw [List.drop_eq_getElem_cons h1, m_towncrierref08_Same_loop1] at hx1
        refine .skip ?_
        refine .seq ?_
        refine .block ?_
        refine .seq ?_
        obtain ⟨k1, hx1⟩ := ite_ck hx1
        have e1 := nth_map TPromise.d a0.Promises n1 h1
        have e2 := nth_mapD TPromise.d a1.Promises n1
        replace e2 := e2 k1
        refine .rg Try.S [2, 3, 5] ?_
        refine .rdx 6 (And.intro e1 (And.intro e2 hwn1)) ?_
        refine .rdx 5 (And.intro e1 (And.intro e2 hwn1)) ?_
        refine .nil ⟨fun _ => schedB_of (by kernel_rfl), ?_⟩
        refine .cond rfl rfl (fun hc3 => ?_) (fun hc3 => ?_)
        · skip
          replace hx1 := ite_lc hx1 hc3
          refine .seq ?_
          refine .plx Try.S hwn1 [] ?_
          have hq := Option.some.inj hx1
          subst x1
          try dsimp only at h
          have hq := Option.some.inj h
          subst r
          exact .ret ⟨.inr rfl, rsi⟩
        · skip
          replace hx1 := ite_rc hx1 hc3
          refine .skip ?_
          refine .plx Try.S hwn1 [2, 3, 5] ?_
          refine ⟨n1 + 1, ?_, ⟨by omega, hx1⟩, by dsimp only; omega⟩
          exact .m [2, 3, 5] [0, 1] []
      · skip
        have h2 : n1 = a0.Promises.length := by have h2b := of_decide_eq_false hc2; omega
        rw [List.drop_of_length_le (by omega), m_towncrierref08_Same_loop1] at hx1
        refine .exit ?_
        refine ⟨_, ?_, (Option.some.inj hx1).symm⟩
        exact .m [] [] []
    · skip
      rintro ⟨⟩ hj1
      subst x1
      try dsimp only at h
      simp only [Try.St_towncrierref08_Same_1]
      refine .seq ?_
      refine .pl Try.S [] ?_
      have hq := Option.some.inj h
      subst r
      exact .ret ⟨.inr rfl, rsi⟩

def Try.Re_towncrierref08_Twin (r : TAttempt) : St := ⟨[(2, .ptr 3 0)], [(0, .arr 3 1 true (r.Members.map (D.int .i64))), (1, .arr 27 3 true (r.Promises.map TPromise.d)), (2, .arr 3 1 true (r.Accepted.map (D.int .i64))), (3, .box [.int .u8 r.Phase, .int .i64 r.Ballot, .ref 0 1 0 r.Members.length (some unkC), .str r.Wish, .str r.Value, .ref 1 3 0 r.Promises.length (some unkC), .ref 2 1 0 r.Accepted.length (some unkC)])], 4⟩
attribute [local go_sem] Try.Re_towncrierref08_Twin
theorem callH_towncrierref08_Twin (a0 : TAttempt) (r : TAttempt) (h : m_towncrierref08_Twin a0 = some r) : CallH Try.prog 15 [.agg [.int .u8 a0.Phase, .int .i64 a0.Ballot, .imm 1 (a0.Members.map (D.int .i64)) 4, .str a0.Wish, .str a0.Value, .imm 3 (a0.Promises.map TPromise.d) 4, .imm 1 (a0.Accepted.map (D.int .i64)) 4]] [] (.agg [.int .u8 r.Phase, .int .i64 r.Ballot, .ref 0 1 0 r.Members.length (some unkC), .str r.Wish, .str r.Value, .ref 1 3 0 r.Promises.length (some unkC), .ref 2 1 0 r.Accepted.length (some unkC)]) [(0, some (.arr 3 1 true (r.Members.map (D.int .i64)))), (1, some (.arr 27 3 true (r.Promises.map TPromise.d))), (2, some (.arr 3 1 true (r.Accepted.map (D.int .i64))))] (0, 8) := by
  refine callH_intro' Try.tmOk Try.func15 rfl (by decide) (Nat.le_of_ble_eq_true rfl) (by simp) ?_
  intro hwf
  unfold m_towncrierref08_Twin at h
  refine .ends 0 (Nat.le_refl _) ?_
  refine .seq ?_
  refine .pl Try.S [0] ?_
  refine .seq ?_
  refine .pl Try.S [1, 2] ?_
  obtain ⟨k1, h⟩ := ite_ck h
  refine .seqM 3 (fun (_ : Unit) => ⟨[(1, .ptr 0 0), (2, .ptr 1 0), (3, .ptr 2 0)], [(0, .box [.int .u8 a0.Phase, .int .i64 a0.Ballot, .imm 1 (a0.Members.map (D.int .i64)) 4, .str a0.Wish, .str a0.Value, .imm 3 (a0.Promises.map TPromise.d) 4, .imm 1 (a0.Accepted.map (D.int .i64)) 4]), (1, .box [.int .u8 0, .int .i64 0, .imm 0 [] 0, .str [], .str [], .imm 0 [] 0, .imm 0 [] 0]), (2, .box [.int .u8 a0.Phase, .int .i64 a0.Ballot, .ref 3 1 0 a0.Members.length (some unkC), .str a0.Wish, .str a0.Value, .imm 3 (a0.Promises.map TPromise.d) 4, .imm 1 (a0.Accepted.map (D.int .i64)) 4]), (3, .arr 3 1 true (a0.Members.map (D.int .i64)))], 4⟩) (fun _ => True) (Nat.le_of_ble_eq_true rfl) ?_ (fun _ _ => ?_)
  · skip
    rcases list_cases a0.Members with hE1 | ⟨y, ys, hE1⟩
    · skip
      have hM1 : a0.Members.map (D.int .i64) = [] := by rw [hE1]; simp
      refine .plain Try.tmOk Try.tmMixed [1, 2, 3] (by decide +kernel) (by intro q hq; simp only [go_sem, Nat.reduceSub, Int.reduceEq, Nat.reduceLT, Nat.reduceDiv, Nat.reduceAdd, Nat.reduceBEq, Nat.reduceLeDiff, reduceCtorEq, Nat.reduceEqDiff, Nat.reduceMod, Nat.reduceMul, Try.tm_22, Try.tm_25, appendD_nil hM1, TAttempt.d]; exact hq) (by first | rfl | (simp only [go_sem, Nat.reduceLeDiff]; done) | (simp only [go_sem, Nat.reduceLeDiff]; rfl) | (simp; done) | (simp [oneD] <;> omega) | (simp_all; done) | (simp_all [oneD] <;> omega)) (by first | exact Nat.le_refl _ | exact Nat.le_of_ble_eq_true rfl | (dsimp only; omega) | (simp <;> omega)) ?_
      refine ⟨(), ?_, trivial⟩
      refine Goes.new0 1 3 (Nat.le_of_ble_eq_true rfl) ?_
      refine Goes.boxs 2 _ [.int .u8 a0.Phase, .int .i64 a0.Ballot, .ref 3 1 0 0 (some unkC), .str a0.Wish, .str a0.Value, .imm 3 (a0.Promises.map TPromise.d) 4, .imm 1 (a0.Accepted.map (D.int .i64)) 4] rfl (.keep (.keep (.cons (.own0 3 _ _ _ (by decide)) (.refl _)))) ?_
      exact .mx hE1 [1, 2, 3] [0, 1, 2, 3] []
    · skip
      have hM1 : a0.Members.map (D.int .i64) ≠ [] := by rw [hE1]; simp
      refine .plain Try.tmOk Try.tmMixed [1, 2, 3] (by decide +kernel) (by intro q hq; simp only [go_sem, Nat.reduceSub, Int.reduceEq, Nat.reduceLT, Nat.reduceDiv, Nat.reduceAdd, Nat.reduceBEq, Nat.reduceLeDiff, reduceCtorEq, Nat.reduceEqDiff, Nat.reduceMod, Nat.reduceMul, Try.tm_22, Try.tm_25, appendD_cons hM1, TAttempt.d]; exact hq) (by first | rfl | (simp only [go_sem, Nat.reduceLeDiff]; done) | (simp only [go_sem, Nat.reduceLeDiff]; rfl) | (simp; done) | (simp [oneD] <;> omega) | (simp_all; done) | (simp_all [oneD] <;> omega)) (by first | exact Nat.le_refl _ | exact Nat.le_of_ble_eq_true rfl | (dsimp only; omega) | (simp <;> omega)) ?_
      refine ⟨(), ?_, trivial⟩
      refine Goes.boxs 2 _ [.int .u8 a0.Phase, .int .i64 a0.Ballot, .ref 3 1 0 a0.Members.length (some unkC), .str a0.Wish, .str a0.Value, .imm 3 (a0.Promises.map TPromise.d) 4, .imm 1 (a0.Accepted.map (D.int .i64)) 4] rfl (.keep (.keep (.cons (.unk _ _ _ _ _) (.refl _)))) ?_
      exact .mx hE1 [1, 2, 3] [0, 1, 2, 3] []
  obtain ⟨k2, h⟩ := ite_ck h
  refine .seqM 4 (fun (_ : Unit) => ⟨[(1, .ptr 0 0), (2, .ptr 1 0), (3, .ptr 2 0)], [(0, .box [.int .u8 a0.Phase, .int .i64 a0.Ballot, .imm 1 (a0.Members.map (D.int .i64)) 4, .str a0.Wish, .str a0.Value, .imm 3 (a0.Promises.map TPromise.d) 4, .imm 1 (a0.Accepted.map (D.int .i64)) 4]), (1, .box [.int .u8 0, .int .i64 0, .imm 0 [] 0, .str [], .str [], .imm 0 [] 0, .imm 0 [] 0]), (2, .box [.int .u8 a0.Phase, .int .i64 a0.Ballot, .ref 3 1 0 a0.Members.length (some unkC), .str a0.Wish, .str a0.Value, .ref 4 3 0 a0.Promises.length (some unkC), .imm 1 (a0.Accepted.map (D.int .i64)) 4]), (3, .arr 3 1 true (a0.Members.map (D.int .i64))), (4, .arr 27 3 true (a0.Promises.map TPromise.d))], 5⟩) (fun _ => True) (Nat.le_of_ble_eq_true rfl) ?_ (fun _ _ => ?_)
  · skip
    rcases list_cases a0.Promises with hE2 | ⟨y, ys, hE2⟩
    · skip
      have hM2 : a0.Promises.map TPromise.d = [] := by rw [hE2]; simp
      refine .plain Try.tmOk Try.tmMixed [1, 2, 3] (by decide +kernel) (by intro q hq; simp only [go_sem, Nat.reduceSub, Int.reduceEq, Nat.reduceLT, Nat.reduceDiv, Nat.reduceAdd, Nat.reduceBEq, Nat.reduceLeDiff, reduceCtorEq, Nat.reduceEqDiff, Nat.reduceMod, Nat.reduceMul, Try.tm_23, Try.tm_25, appendD_nil hM2, TAttempt.d, TPromise.d]; exact hq) (by first | rfl | (simp only [go_sem, Nat.reduceLeDiff]; done) | (simp only [go_sem, Nat.reduceLeDiff]; rfl) | (simp; done) | (simp [oneD] <;> omega) | (simp_all; done) | (simp_all [oneD] <;> omega)) (by first | exact Nat.le_refl _ | exact Nat.le_of_ble_eq_true rfl | (dsimp only; omega) | (simp <;> omega)) ?_
      refine ⟨(), ?_, trivial⟩
      refine Goes.new0 3 27 (Nat.le_of_ble_eq_true rfl) ?_
      refine Goes.boxs 2 _ [.int .u8 a0.Phase, .int .i64 a0.Ballot, .ref 3 1 0 a0.Members.length (some unkC), .str a0.Wish, .str a0.Value, .ref 4 3 0 0 (some unkC), .imm 1 (a0.Accepted.map (D.int .i64)) 4] rfl (.keep (.keep (.keep (.keep (.keep (.cons (.own0 4 _ _ _ (by decide)) (.refl _))))))) ?_
      exact .mx hE2 [1, 2, 3] [0, 1, 2, 3, 4] []
    · skip
      have hM2 : a0.Promises.map TPromise.d ≠ [] := by rw [hE2]; simp
      refine .plain Try.tmOk Try.tmMixed [1, 2, 3] (by decide +kernel) (by intro q hq; simp only [go_sem, Nat.reduceSub, Int.reduceEq, Nat.reduceLT, Nat.reduceDiv, Nat.reduceAdd, Nat.reduceBEq, Nat.reduceLeDiff, reduceCtorEq, Nat.reduceEqDiff, Nat.reduceMod, Nat.reduceMul, Try.tm_23, Try.tm_25, appendD_cons hM2, TAttempt.d, TPromise.d]; exact hq) (by first | rfl | (simp only [go_sem, Nat.reduceLeDiff]; done) | (simp only [go_sem, Nat.reduceLeDiff]; rfl) | (simp; done) | (simp [oneD] <;> omega) | (simp_all; done) | (simp_all [oneD] <;> omega)) (by first | exact Nat.le_refl _ | exact Nat.le_of_ble_eq_true rfl | (dsimp only; omega) | (simp <;> omega)) ?_
      refine ⟨(), ?_, trivial⟩
      refine Goes.boxs 2 _ [.int .u8 a0.Phase, .int .i64 a0.Ballot, .ref 3 1 0 a0.Members.length (some unkC), .str a0.Wish, .str a0.Value, .ref 4 3 0 a0.Promises.length (some unkC), .imm 1 (a0.Accepted.map (D.int .i64)) 4] rfl (.keep (.keep (.keep (.keep (.keep (.cons (.unk _ _ _ _ _) (.refl _))))))) ?_
      exact .mx hE2 [1, 2, 3] [0, 1, 2, 3, 4] []
  obtain ⟨k3, h⟩ := ite_ck h
  refine .seqM 5 (fun (_ : Unit) => ⟨[(2, .ptr 1 0), (3, .ptr 2 0)], [(1, .box [.int .u8 0, .int .i64 0, .imm 0 [] 0, .str [], .str [], .imm 0 [] 0, .imm 0 [] 0]), (2, .box [.int .u8 a0.Phase, .int .i64 a0.Ballot, .ref 3 1 0 a0.Members.length (some unkC), .str a0.Wish, .str a0.Value, .ref 4 3 0 a0.Promises.length (some unkC), .ref 5 1 0 a0.Accepted.length (some unkC)]), (3, .arr 3 1 true (a0.Members.map (D.int .i64))), (4, .arr 27 3 true (a0.Promises.map TPromise.d)), (5, .arr 3 1 true (a0.Accepted.map (D.int .i64)))], 6⟩) (fun _ => True) (Nat.le_of_ble_eq_true rfl) ?_ (fun _ _ => ?_)
  · skip
    rcases list_cases a0.Accepted with hE3 | ⟨y, ys, hE3⟩
    · skip
      have hM3 : a0.Accepted.map (D.int .i64) = [] := by rw [hE3]; simp
      refine .plain Try.tmOk Try.tmMixed [1, 2, 3] (by decide +kernel) (by intro q hq; simp only [go_sem, Nat.reduceSub, Int.reduceEq, Nat.reduceLT, Nat.reduceDiv, Nat.reduceAdd, Nat.reduceBEq, Nat.reduceLeDiff, reduceCtorEq, Nat.reduceEqDiff, Nat.reduceMod, Nat.reduceMul, Try.tm_22, Try.tm_25, appendD_nil hM3, TAttempt.d]; exact hq) (by first | rfl | (simp only [go_sem, Nat.reduceLeDiff]; done) | (simp only [go_sem, Nat.reduceLeDiff]; rfl) | (simp; done) | (simp [oneD] <;> omega) | (simp_all; done) | (simp_all [oneD] <;> omega)) (by first | exact Nat.le_refl _ | exact Nat.le_of_ble_eq_true rfl | (dsimp only; omega) | (simp <;> omega)) ?_
      refine ⟨(), ?_, trivial⟩
      refine Goes.new0 1 3 (Nat.le_of_ble_eq_true rfl) ?_
      refine Goes.boxs 2 _ [.int .u8 a0.Phase, .int .i64 a0.Ballot, .ref 3 1 0 a0.Members.length (some unkC), .str a0.Wish, .str a0.Value, .ref 4 3 0 a0.Promises.length (some unkC), .ref 5 1 0 0 (some unkC)] rfl (.keep (.keep (.keep (.keep (.keep (.keep (.cons (.own0 5 _ _ _ (by decide)) (.refl _)))))))) ?_
      exact .mx hE3 [2, 3] [1, 2, 3, 4, 5] []
    · skip
      have hM3 : a0.Accepted.map (D.int .i64) ≠ [] := by rw [hE3]; simp
      refine .plain Try.tmOk Try.tmMixed [1, 2, 3] (by decide +kernel) (by intro q hq; simp only [go_sem, Nat.reduceSub, Int.reduceEq, Nat.reduceLT, Nat.reduceDiv, Nat.reduceAdd, Nat.reduceBEq, Nat.reduceLeDiff, reduceCtorEq, Nat.reduceEqDiff, Nat.reduceMod, Nat.reduceMul, Try.tm_22, Try.tm_25, appendD_cons hM3, TAttempt.d]; exact hq) (by first | rfl | (simp only [go_sem, Nat.reduceLeDiff]; done) | (simp only [go_sem, Nat.reduceLeDiff]; rfl) | (simp; done) | (simp [oneD] <;> omega) | (simp_all; done) | (simp_all [oneD] <;> omega)) (by first | exact Nat.le_refl _ | exact Nat.le_of_ble_eq_true rfl | (dsimp only; omega) | (simp <;> omega)) ?_
      refine ⟨(), ?_, trivial⟩
      refine Goes.boxs 2 _ [.int .u8 a0.Phase, .int .i64 a0.Ballot, .ref 3 1 0 a0.Members.length (some unkC), .str a0.Wish, .str a0.Value, .ref 4 3 0 a0.Promises.length (some unkC), .ref 5 1 0 a0.Accepted.length (some unkC)] rfl (.keep (.keep (.keep (.keep (.keep (.keep (.cons (.unk _ _ _ _ _) (.refl _)))))))) ?_
      exact .mx hE3 [2, 3] [1, 2, 3, 4, 5] []
  refine .seq ?_
  refine .pl Try.S [2, 3] ?_
  have hq := Option.some.inj h
  subst r
  refine .ret ⟨Try.Re_towncrierref08_Twin a0, ?_, .inr rfl, retH [2, 1, 0] ?_ ?_⟩
  · skip
    exact .m [2] [3, 4, 5, 1] [(3, 0), (4, 1), (5, 2), (1, 3)]
  · exact rsi0
  · rfl

end Go.Proofs
end
section
/- Models of functions, printed by gw.py. -/




namespace Go.Proofs
open Go.Tm
set_option linter.unusedVariables false

def m_towncrierref08_May_loop1 (a0 : TAttempt) : List TPromise → Option (Bool ⊕ Unit)
  | [] =>
    some (.inr ())
  | y1 :: rest1 =>
    Option.bind (m_towncrierref08_MayPromise (y1) a0.Ballot) fun v6 =>
    if ¬ (v6 = true) then
    some (.inl false)
    else
    m_towncrierref08_May_loop1 a0 rest1 
def m_towncrierref08_May (a0 : TAttempt) : Option Bool :=
  if a0.Phase = 0 then
  some ((((((a0.Ballot == 0) && ((a0.Members.length : Int) == 0)) && (a0.Wish == [])) && (a0.Value == [])) && ((a0.Promises.length : Int) == 0)) && ((a0.Accepted.length : Int) == 0))
  else
  Option.bind (if ¬ (a0.Phase > 3) then m_towncrierref05_May a0.Ballot else some default) fun v1 =>
  Option.bind (if ¬ ((a0.Phase > 3) ∨ (¬ (v1 = true))) then m_towncrierref06_May a0.Members else some default) fun v2 =>
  Option.bind (if ¬ ((((a0.Phase > 3) ∨ (¬ (v1 = true))) ∨ (¬ (v2 = true))) ∨ ((a0.Wish.length : Int) > 1024)) then m_towncrierref08_nodes a0.Promises else some default) fun v3 =>
  Option.bind (if ¬ ((((a0.Phase > 3) ∨ (¬ (v1 = true))) ∨ (¬ (v2 = true))) ∨ ((a0.Wish.length : Int) > 1024)) then m_towncrierref08_rising v3 a0.Members else some default) fun v4 =>
  Option.bind (if ¬ (((((a0.Phase > 3) ∨ (¬ (v1 = true))) ∨ (¬ (v2 = true))) ∨ ((a0.Wish.length : Int) > 1024)) ∨ (¬ (v4 = true))) then m_towncrierref08_rising a0.Accepted a0.Members else some default) fun v5 =>
  if (((((a0.Phase > 3) ∨ (¬ (v1 = true))) ∨ (¬ (v2 = true))) ∨ ((a0.Wish.length : Int) > 1024)) ∨ (¬ (v4 = true))) ∨ (¬ (v5 = true)) then
  some false
  else
  Option.bind (α := Bool ⊕ Unit) (m_towncrierref08_May_loop1 a0 a0.Promises ) fun z => match z with
  | (.inl r) => some r
  | (.inr _) =>
  Option.bind (m_towncrierref08_nodes a0.Promises) fun v7 =>
  Option.bind (m_towncrierref06_Counts a0.Members v7) fun v8 =>
  if a0.Phase = 1 then
  some (((!v8) && (a0.Value == [])) && ((a0.Accepted.length : Int) == 0))
  else
  Option.bind (if v8 = true then m_towncrierref08_Best a0.Promises a0.Wish else some default) fun v9 =>
  Option.bind (if (v8 = true) ∧ (a0.Value = v9) then m_towncrierref06_Counts a0.Members a0.Accepted else some default) fun v10 =>
  some ((v8 && (a0.Value == v9)) && (v10 == (a0.Phase == 3)))

def m_attempt_Check_1 (a0 : TPromise) (c0 : TAttempt) : Option Bool :=
  Option.bind (m_attempt_may a0 c0.Ballot) fun v1 =>
  some (!v1)

def m_attempt_Check (a0 : TAttempt) : Option Int :=
  Option.bind (α := Bool) (Option.bind (α := Bool ⊕ (Bool ⊕ Bool)) (if a0.Phase = 0 then
  Option.bind (m_attempt_Same a0 (⟨0, 0, [], [], [], [], []⟩ : TAttempt)) fun v1 =>
  some (.inl v1)
  else
  if a0.Phase = 1 then
  some (.inr (.inr ((a0.Value == []) && ((a0.Accepted.length : Int) == 0))))
  else
  Option.bind (α := Bool) (if a0.Phase = 2 then
  some (a0.Phase == 2)
  else
  some (a0.Phase == 3)) fun b5 =>
  if b5 = true then
  some (.inr (.inr true))
  else
  some (.inr (.inl b5))) fun z => match z with
  | (.inl b3) => some b3
  | (.inr (.inl b4)) => some false
  | (.inr (.inr b2)) =>
  Option.bind (if b2 = true then m_ballot_Check a0.Ballot else some default) fun v2 =>
  Option.bind (if (b2 = true) ∧ (v2 = 0) then m_quorum_Check a0.Members else some default) fun v3 =>
  Option.bind (if (((b2 = true) ∧ (v2 = 0)) ∧ (v3 = 0)) ∧ ((a0.Wish.length : Int) ≤ 1024) then m_attempt_nodes a0.Promises else some default) fun v4 =>
  Option.bind (if (((b2 = true) ∧ (v2 = 0)) ∧ (v3 = 0)) ∧ ((a0.Wish.length : Int) ≤ 1024) then m_attempt_rising v4 a0.Members else some default) fun v5 =>
  Option.bind (if ((((b2 = true) ∧ (v2 = 0)) ∧ (v3 = 0)) ∧ ((a0.Wish.length : Int) ≤ 1024)) ∧ (v5 = true) then m_attempt_rising a0.Accepted a0.Members else some default) fun v6 =>
  Option.bind (if (((((b2 = true) ∧ (v2 = 0)) ∧ (v3 = 0)) ∧ ((a0.Wish.length : Int) ≤ 1024)) ∧ (v5 = true)) ∧ (v6 = true) then m_slices_ContainsFunc_Promise_Promise a0.Promises (fun x0 => m_attempt_Check_1 x0 a0) else some default) fun v7 =>
  Option.bind (if ((((((b2 = true) ∧ (v2 = 0)) ∧ (v3 = 0)) ∧ ((a0.Wish.length : Int) ≤ 1024)) ∧ (v5 = true)) ∧ (v6 = true)) ∧ (¬ (v7 = true)) then m_attempt_nodes a0.Promises else some default) fun v8 =>
  Option.bind (if ((((((b2 = true) ∧ (v2 = 0)) ∧ (v3 = 0)) ∧ ((a0.Wish.length : Int) ≤ 1024)) ∧ (v5 = true)) ∧ (v6 = true)) ∧ (¬ (v7 = true)) then m_attempt_most a0.Members v8 else some default) fun v9 =>
  Option.bind (if (((((((b2 = true) ∧ (v2 = 0)) ∧ (v3 = 0)) ∧ ((a0.Wish.length : Int) ≤ 1024)) ∧ (v5 = true)) ∧ (v6 = true)) ∧ (¬ (v7 = true))) ∧ ((v9 == (decide (a0.Phase > 1))) = true) then m_attempt_most a0.Members a0.Accepted else some default) fun v10 =>
  Option.bind (if (((((((((b2 = true) ∧ (v2 = 0)) ∧ (v3 = 0)) ∧ ((a0.Wish.length : Int) ≤ 1024)) ∧ (v5 = true)) ∧ (v6 = true)) ∧ (¬ (v7 = true))) ∧ ((v9 == (decide (a0.Phase > 1))) = true)) ∧ ((v10 == (a0.Phase == 3)) = true)) ∧ (¬ (a0.Phase = 1)) then m_attempt_Best a0.Promises a0.Wish else some default) fun v11 =>
  some (((((((((b2 && (v2 == 0)) && (v3 == 0)) && (decide ((a0.Wish.length : Int) ≤ 1024))) && v5) && v6) && (!v7)) && (v9 == (decide (a0.Phase > 1)))) && (v10 == (a0.Phase == 3))) && ((a0.Phase == 1) || (a0.Value == v11)))) fun b1 =>
  if ¬ (b1 = true) then
  some 8
  else
  some 0

def m_towncrierref08_Great_loop1 : List TPromise → Nat → Int → Option (Int)
  | [], n3, n2 =>
    some n2
  | y1 :: rest1, n3, n2 =>
    if ((n3 : Int) < 100) then
    m_towncrierref08_Great_loop1 rest1 (n3 + 1) (wr .i64 (n2 + (min ((y1.Value).length : Int) 100000)))
    else
    some n2
theorem m_towncrierref08_Great_loop1_n (n3 : Nat) (n2 : Int) : m_towncrierref08_Great_loop1 [] n3 n2 =
    (some n2 : Option (Int)) := rfl
theorem m_towncrierref08_Great_loop1_c (y1 : TPromise) (rest1 : List TPromise) (n3 : Nat) (n2 : Int) : m_towncrierref08_Great_loop1 (y1 :: rest1) n3 n2 =
    (if ((n3 : Int) < 100) then
    m_towncrierref08_Great_loop1 rest1 (n3 + 1) (wr .i64 (n2 + (min ((y1.Value).length : Int) 100000)))
    else
    some n2 : Option (Int)) := rfl
def m_towncrierref08_Great (a0 : TAttempt) : Option Bool :=
  Option.bind (α := Int) (m_towncrierref08_Great_loop1 a0.Promises 0 (wr .i64 ((a0.Wish.length : Int) + (a0.Value.length : Int)))) fun n1 =>
  some ((((decide ((a0.Members.length : Int) > 100)) || (decide ((a0.Promises.length : Int) > 50))) || (decide ((a0.Accepted.length : Int) > 100))) || (decide (n1 > 50000)))
end Go.Proofs
end
section
/- The walks of functions, printed by gw.py. -/






namespace Go.Proofs
open Go.Tm Go.RowKit Go.WideShapes
set_option maxRecDepth 100000
set_option maxHeartbeats 4000000
set_option linter.unusedSimpArgs false
set_option linter.unusedVariables false
attribute [local go_sem] argVars runE runK isCallV stepE aop opd opdsL opds opdO ev ofVal keep List.any natbeq Bool.false_or Bool.true_or aggEq cond_true cond_false Bool.cond_false_right Bool.cond_true_left beq_true beq_false imp_self implies_true getR getL put St.app effL del nwB blt_dec Nat.lt_irrefl Nat.lt_add_one ble_dec Nat.le_refl Nat.beq_refl roomNZ appendIn capS capK mkZ_zero mkZL_zero zeroEl D.ids D.idsL Option.getD bin arith sarith binT dpick Tm.part splice fillD oneD loadD storeD srcD sliceD idxOk decide_true gval dstAt D.cells List.map_cons List.map_nil List.take List.drop List.length_map List.append Int.toNat_natCast and_true true_and decide_false List.length_cons List.length_nil List.append_nil List.nil_append Bool.and_true Bool.true_and Bool.not_false Bool.not_true ne_eq not_false_eq_true BEq.rfl List.getElem?_cons_zero List.getElem?_cons_succ List.getElem?_nil Nat.zero_add List.all_cons List.all_nil List.isEmpty_cons List.isEmpty_nil List.any_cons List.any_nil List.drop_succ_cons List.drop_zero unfL unf okM okML low3 List.cons_append true_or or_true Nat.zero_mul Nat.zero_le bytesD_map map_ub mkZ_one mkZL_one mkM mkML mk1_int mk1_str mk1_bool drop_map take_map take_map_len List.take_length Int.toNat_zero toNat_pred fpOf metIds opIds mvV mvH mvF pickL D.ren D.renL Blk.ren List.map_append List.length_append Bool.not_not Bool.or_not_self Bool.not_or_self Bool.or_true
attribute [local go_sem] Try.tm_1 Try.tm_2 Try.tm_3 Try.tm_4 Try.tm_5 Try.tm_6 Try.tm_7 Try.tm_8 Try.tm_9 Try.tm_10 Try.tm_11 Try.tm_12 Try.tm_13 Try.tm_14 Try.tm_15 Try.tm_16 Try.tm_17 Try.tm_18 Try.tm_19 Try.tm_20 Try.tm_21 Try.tm_22 Try.tm_23 Try.tm_24 Try.tm_25 Try.tm_26 Try.tm_27 Try.tm_28 Try.tm_29 Try.tm_30 Try.tm_32 Try.tm_34 Try.tm_35 Try.tm_36 Try.tm_37 Try.tm_38 Try.tm_39 Try.tm_40 Try.tm_41 Try.tm_42 Try.tm_43 Try.tm_44 Try.tm_45 Try.tm_46 Try.tm_47 Try.tm_48 Try.tm_50 Try.tm_51 Try.tm_52 Try.tm_53 Try.tm_54 Try.tm_55 Try.tm_57 Try.tm_58 Try.tm_59 Try.tm_61 Try.tm_63 Try.tm_64 Try.tm_65 Try.tm_66 Try.tm_67 Try.tm_68 Try.tm_69 Try.tm_70 Try.tm_71 Try.tm_73 Try.tm_75 Try.tm_76 Try.tm_78 Try.tm_79 Try.tm_80 Try.tm_81 Try.tm_82 Try.tm_83 Try.tm_84 Try.tm_85 Try.tm_86 Try.tm_87 Try.tm_88 Try.tm_89 Try.tm_90 Try.tm_91 Try.tm_93 Try.tm_94 Try.tm_95 Try.tm_96 Try.tm_97 Try.tm_98 Try.tm_99 Try.tm_100 Try.tm_101 Try.tm_102 Try.tm_103 Try.tm_104 Try.tm_105 Try.tm_106 Try.tm_107 Try.tm_109 Try.tm_111 Try.tm_113 Try.tm_114 Try.tm_115 Try.tm_116 Try.tm_117 Try.tm_118 Try.tm_119 Try.tm_120 Try.tm_121 Try.tm_123 Try.tm_124 Try.tm_125 Try.tm_127 Try.tm_128 Try.tm_129 Try.tm_130 Try.tm_131 Try.tm_132 Try.tm_133 Try.tm_134 Try.tm_135 Try.tm_136 Try.tm_137 Try.tm_138 Try.tm_139 Try.tm_140 Try.tm_141 Try.tm_142 Try.tm_143 Try.tm_144 Try.tm_145 Try.tm_146 Try.tm_147 Try.tm_149 Try.tm_150 Try.tm_151 Try.tm_152 Try.tm_153 Try.tm_154 Try.tm_155 Try.tm_156 Try.tm_157 Try.tm_158 Try.tm_159 Try.tm_160 Try.tm_162 Try.tm_163 Try.tm_164 Try.tm_165 Try.tm_166 Try.tm_167 Try.tm_168 Try.tm_169 Try.tm_170 Try.tm_171 Try.tm_172 Try.tm_173 Try.tm_175 Try.tm_177 Try.tm_178 Try.tm_179 Try.tm_180 Try.tm_181 Try.tm_182 Try.tm_184 Try.tm_185 Try.tm_187 Try.tm_189 Try.tm_191 Try.tm_192 Try.tm_193 Try.tm_194 Try.tm_195 Try.tm_196 Try.tm_197 Try.tm_198 Try.tm_199 Try.tm_200 Try.tm_201 Try.tm_202 Try.tm_203 Try.tm_204 Try.tm_205 Try.tm_206 Try.tm_207 Try.tm_208 Try.tm_209 Try.tm_210 Try.tm_211 Try.tm_212 Try.tm_213 Try.tm_214 Try.tm_215 Try.tm_216 Try.tm_217 Try.tm_218 Try.tm_219 Try.tm_220 Try.tm_221 Try.tm_223 Try.tm_224 Try.tm_225 Try.tm_226 Try.tm_227 Try.tm_229 Try.tm_230 Try.tm_231 Try.tm_232 Try.tm_233 Try.tm_235 Try.tm_236 Try.tm_237 Try.tm_238 Try.tm_239 Try.tm_240 Try.tm_241 Try.tm_242 Try.tm_243 Try.tm_244 Try.tm_245 Try.tm_246 Try.tm_247 Try.tm_248 Try.tm_249 Try.tm_250 Try.tm_251 Try.tm_252 Try.tm_253 Try.tm_254 Try.tm_255 Try.tm_256 Try.tm_257 Try.tm_258 Try.tm_259 Try.tm_260 Try.tm_262 Try.tm_263 Try.tm_264 Try.tm_265 Try.tm_266 Try.tm_267 Try.tm_269 Try.tm_270 Try.tm_271 Try.tm_272 Try.tm_273 Try.tm_274 Try.tm_275 Try.tm_276 Try.tm_277 Try.tm_278 Try.tm_280 Try.tm_281 Try.tm_282 Try.tm_283 Try.tm_284 Try.tm_286 Try.tm_288 Try.tm_289 Try.tm_290 Try.tm_291 Try.tm_292 Try.tm_294 Try.tm_296 Try.tm_297 Try.tm_298 Try.tm_299 Try.tm_300 Try.tm_302 Try.tm_303 Try.tm_304 Try.tm_305 Try.tm_306 Try.tm_307 Try.tm_308 Try.tm_309 Try.tm_310 Try.tm_311 Try.tm_312 Try.tm_313 Try.tm_314 Try.tm_315 Try.tm_316 Try.tm_317 Try.tm_318 Try.tm_319 Try.tm_320 Try.tm_321 Try.tm_322 Try.tm_324 Try.tm_325 Try.tm_326 Try.tm_327 Try.tm_330 Try.tm_331 Try.tm_332 Try.tm_333 Try.tm_334 Try.tm_335 Try.tm_336 Try.tm_337 TPromise.d TAttempt.d TAttempt.n dL_str nL_str TVote.d TSeen.d TStable.d TStable.n TRecord.d TMessage.d TMessage.n TWait.d TWait.n TStamp.d TSkeen.d TSkeen.n TCommand.d TCommand.n mk1_TPromise mk1_TAttempt mk1_dL_str mk1_TVote mk1_TSeen mk1_TStable mk1_TRecord mk1_TMessage mk1_TWait mk1_TStamp mk1_TSkeen mk1_TCommand Try.f23 Try.f100 Try.f22 Try.f14

def Try.St_towncrierref08_May_1 (a0 : TAttempt) : St := ⟨[(1, .ptr 0 0)], [(0, .box [.int .u8 a0.Phase, .int .i64 a0.Ballot, .imm 1 (a0.Members.map (D.int .i64)) 4, .str a0.Wish, .str a0.Value, .imm 3 (a0.Promises.map TPromise.d) 4, .imm 1 (a0.Accepted.map (D.int .i64)) 4])], 1⟩
attribute [local go_sem] Try.St_towncrierref08_May_1
def Try.St_towncrierref08_May_3 (a0 : TAttempt) (n1 : Nat) : St := ⟨[(1, .ptr 0 0), (3, .int .i64 (n1 : Int))], [(0, .box [.int .u8 a0.Phase, .int .i64 a0.Ballot, .imm 1 (a0.Members.map (D.int .i64)) 4, .str a0.Wish, .str a0.Value, .imm 3 (a0.Promises.map TPromise.d) 4, .imm 1 (a0.Accepted.map (D.int .i64)) 4])], 1⟩
attribute [local go_sem] Try.St_towncrierref08_May_3
theorem callP_towncrierref08_May (a0 : TAttempt) (r : Bool) (h : m_towncrierref08_May a0 = some r) : CallP Try.prog 23 [.agg [.int .u8 a0.Phase, .int .i64 a0.Ballot, .imm 1 (a0.Members.map (D.int .i64)) 4, .str a0.Wish, .str a0.Value, .imm 3 (a0.Promises.map TPromise.d) 4, .imm 1 (a0.Accepted.map (D.int .i64)) 4]] (.bool r) := by
  refine callP_intro Try.tmOk 12 Try.func23 rfl (by decide) rfl rfl (Nat.le_of_ble_eq_true rfl) ?_
  intro hwf
  unfold m_towncrierref08_May at h
  refine .seq ?_
  refine .pl Try.S [0] ?_
  refine .seq ?_
  refine .seq ?_
  refine .pl Try.S [1] ?_
  refine .cond rfl rfl (fun hc1 => ?_) (fun hc1 => ?_)
  · skip
    replace h := ite_lc h hc1
    refine .seq ?_
    refine .rg Try.S [1] ?_
    refine .rn 6 ?_
    refine .rn 6 ?_
    refine .rn 6 ?_
    refine .rn 6 ?_
    refine .rn 8 ?_
    refine .nil ⟨nofun, ?_⟩
    have hq := Option.some.inj h
    subst r
    exact .ret ⟨.inr rfl, rsi⟩
  · skip
    replace h := ite_rc h hc1
    refine .skip ?_
    refine .seq ?_
    refine .seq ?_
    obtain ⟨v1, hv1, h⟩ := bind_some h
    obtain ⟨v2, hv2, h⟩ := bind_some h
    obtain ⟨v3, hv3, h⟩ := bind_some h
    obtain ⟨v4, hv4, h⟩ := bind_some h
    obtain ⟨v5, hv5, h⟩ := bind_some h
    refine .rg Try.S [1] ?_
    refine .rd 6 ?_
    refine .gcall (r := .bool v1) rfl rfl rfl rfl rfl (fun hg => ⟨[], [.int .i64 a0.Ballot], _, rfl, gd hg, rfl, (callP_towncrierref05_May a0.Ballot v1 (ite_lc hv1 hg))⟩) ?_
    refine .rd 5 ?_
    refine .gcall (r := .bool v2) rfl rfl rfl rfl rfl (fun hg => ⟨[], [.imm 1 (a0.Members.map (D.int .i64)) 4], _, rfl, gd hg, rfl, (callP_towncrierref06_May a0.Members v2 (ite_lc hv2 hg))⟩) ?_
    refine .rd 6 ?_
    refine .rd 5 ?_
    refine .gcall (r := .imm 1 (v3.map (D.int .i64)) 12) rfl rfl rfl rfl rfl (fun hg => ⟨[], [.imm 3 (a0.Promises.map TPromise.d) 4], _, rfl, gd hg, rfl, (callP_towncrierref08_nodes a0.Promises v3 (ite_lc hv3 hg))⟩) ?_
    refine .rd 2 ?_
    refine .gcall (r := .bool v4) rfl rfl rfl rfl rfl (fun hg => ⟨[], [.imm 1 (v3.map (D.int .i64)) 12, .imm 1 (a0.Members.map (D.int .i64)) 4], _, rfl, gd hg, rfl, (callP_towncrierref08_rising v3 a0.Members v4 (ite_lc hv4 hg))⟩) ?_
    refine .rd 7 ?_
    refine .gcall (r := .bool v5) rfl rfl rfl rfl rfl (fun hg => ⟨[], [.imm 1 (a0.Accepted.map (D.int .i64)) 4, .imm 1 (a0.Members.map (D.int .i64)) 4], _, rfl, gd hg, rfl, (callP_towncrierref08_rising a0.Accepted a0.Members v5 (ite_lc hv5 hg))⟩) ?_
    refine .rd 2 ?_
    refine .nil ⟨fun _ => schedB_of (by kernel_rfl), ?_⟩
    refine .cond rfl rfl (fun hc2 => ?_) (fun hc2 => ?_)
    · skip
      replace h := ite_lc h hc2
      refine .seq ?_
      refine .pl Try.S [] ?_
      have hq := Option.some.inj h
      subst r
      exact .ret ⟨.inr rfl, rsi⟩
    · skip
      replace h := ite_rc h hc2
      refine .skip ?_
      obtain ⟨x1, hx1, h⟩ := bind_some h
      refine .seqM 1 (fun (j : Unit) => Try.St_towncrierref08_May_1 a0) (fun j => x1 = (.inr j)) (Nat.le_of_ble_eq_true rfl) ?_ ?_
      · skip
        refine .seq ?_
        refine .pl Try.S [1] ?_
        refine .block ?_
        refine .loopG 1 (fun (j : Nat) => Try.St_towncrierref08_May_3 a0 j) (fun j => j ≤ a0.Promises.length ∧ m_towncrierref08_May_loop1 a0 (a0.Promises.drop j)  = some x1) (fun j => a0.Promises.length - j) (0) (Nat.le_of_ble_eq_true rfl) ?_ ⟨Nat.zero_le _, hx1⟩ ?_
        · skip
          exact .m [1, 3] [0] []
        rintro n1 ⟨hi1, hx1⟩
        simp only [Try.St_towncrierref08_May_3]
        refine .wfb 0 [.int .u8 a0.Phase, .int .i64 a0.Ballot, .imm 1 (a0.Members.map (D.int .i64)) 4, .str a0.Wish, .str a0.Value, .imm 3 (a0.Promises.map TPromise.d) 4, .imm 1 (a0.Accepted.map (D.int .i64)) 4] rfl ?_
        intro hln1
        replace hln1 : (a0.Promises.length : Int) ≤ 9223372036854775807 := by simp only [wf, wfL, IntKind.max, IntKind.min, IntKind.signed, IntKind.bits, List.length_map] at hln1; first | exact hln1.2 | exact hln1.1 | (simp at hln1; omega)
        refine .seq ?_
        refine .seq ?_
        refine .pl Try.S [1, 3] ?_
        refine .cond rfl rfl (fun hc3 => ?_) (fun hc3 => ?_)
        · skip
          have h1 : n1 < a0.Promises.length := by simpa using hc3
          have hwn1 : wr .i64 ((n1 : Int) + 1) = ((n1 + 1 : Nat) : Int) := wr_succ h1 hln1
          have hpn1 : wr .i64 ((n1 : Int) - 1) = (n1 : Int) - 1 := wr_pred h1 hln1
          rw [List.drop_eq_getElem_cons h1, m_towncrierref08_May_loop1] at hx1
          refine .skip ?_
          refine .seq ?_
          refine .block ?_
          refine .seq ?_
          obtain ⟨v6, hv6, hx1⟩ := bind_some hx1
          have e1 := nth_map TPromise.d a0.Promises n1 h1
          refine .rg Try.S [1, 3] ?_
          refine .rdx 7 (And.intro e1 hwn1) ?_
          refine .call (r := .bool v6) rfl rfl rfl rfl rfl rfl (callP_towncrierref08_MayPromise (a0.Promises[n1]) a0.Ballot v6 hv6) ?_
          refine .rdx 1 (And.intro e1 hwn1) ?_
          refine .nil ⟨fun _ => schedB_of (by kernel_rfl), ?_⟩
          refine .cond rfl rfl (fun hc4 => ?_) (fun hc4 => ?_)
          · skip
            replace hx1 := ite_lc hx1 hc4
            refine .seq ?_
            refine .plx Try.S hwn1 [] ?_
            have hq := Option.some.inj hx1
            subst x1
            try dsimp only at h
            have hq := Option.some.inj h
            subst r
            exact .ret ⟨.inr rfl, rsi⟩
          · skip
            replace hx1 := ite_rc hx1 hc4
            refine .skip ?_
            refine .plx Try.S hwn1 [1, 3] ?_
            refine ⟨n1 + 1, ?_, ⟨by omega, hx1⟩, by dsimp only; omega⟩
            exact .m [1, 3] [0] []
        · skip
          have h2 : n1 = a0.Promises.length := by have h2b := of_decide_eq_false hc3; omega
          rw [List.drop_of_length_le (by omega), m_towncrierref08_May_loop1] at hx1
          refine .exit ?_
          refine ⟨_, ?_, (Option.some.inj hx1).symm⟩
          exact .m [1] [0] []
      · skip
        rintro ⟨⟩ hj1
        subst x1
        try dsimp only at h
        simp only [Try.St_towncrierref08_May_1]
        refine .seq ?_
        obtain ⟨v7, hv7, h⟩ := bind_some h
        obtain ⟨v8, hv8, h⟩ := bind_some h
        refine .rg Try.S [1] ?_
        refine .rd 4 ?_
        refine .ncall (r := .ref 5 1 0 v7.length (some unkC)) (eff := [(5, some (.arr 3 1 true (v7.map (D.int .i64))))]) (nw := (5, 10)) [] rfl rfl rfl rfl rfl (lend2s_cons rfl lend2s_nil) rfl (callH_at 5 (Nat.le_of_ble_eq_true rfl) (callH_towncrierref08_nodes a0.Promises v7 hv7)) (newE_cons rfl rfl (newB_arr pl0_i64 _ _ _) newE_nil) (by intro i hi; simp [D.ids, D.idsL] at hi; omega) rfl ⟨Nat.le_of_ble_eq_true rfl, Nat.le_of_ble_eq_true rfl⟩ ?_
        refine .rd 0 ?_
        refine .lcall (r := .bool v8) [] rfl rfl rfl rfl rfl (lend2s_cons rfl (lend2s_cons (lend2_of (lend_ref (pl_int .i64) (by first | rfl | (simp only [go_sem, Nat.reduceBEq]; rfl)) (by first | rfl | (simp; done) | (simp <;> omega))) trivial) lend2s_nil)) rfl (callP_towncrierref06_Counts a0.Members v7 v8 hv8) ?_
        refine .rd 1 ?_
        refine .nil ⟨fun _ => schedB_of (by kernel_rfl), ?_⟩
        refine .seq ?_
        refine .seq ?_
        refine .pl Try.S [1, 4] ?_
        refine .cond rfl rfl (fun hc5 => ?_) (fun hc5 => ?_)
        · skip
          replace h := ite_lc h hc5
          refine .seq ?_
          refine .rg Try.S [1, 4] ?_
          refine .rn 6 ?_
          refine .rn 8 ?_
          refine .nil ⟨nofun, ?_⟩
          have hq := Option.some.inj h
          subst r
          exact .ret ⟨.inr rfl, rsi⟩
        · skip
          replace h := ite_rc h hc5
          refine .skip ?_
          refine .seq ?_
          obtain ⟨v9, hv9, h⟩ := bind_some h
          obtain ⟨v10, hv10, h⟩ := bind_some h
          refine .rg Try.S [1, 4] ?_
          refine .rd 8 ?_
          refine .gcall (r := .str v9) rfl rfl rfl rfl rfl (fun hg => ⟨[], [.imm 3 (a0.Promises.map TPromise.d) 4, .str a0.Wish], _, rfl, gd hg, rfl, (callP_towncrierref08_Best a0.Promises a0.Wish v9 (ite_lc hv9 hg))⟩) ?_
          refine .rd 7 ?_
          refine .gcall (r := .bool v10) rfl rfl rfl rfl rfl (fun hg => ⟨[], [.imm 1 (a0.Members.map (D.int .i64)) 4, .imm 1 (a0.Accepted.map (D.int .i64)) 4], _, rfl, gd hg, rfl, (callP_towncrierref06_Counts a0.Members a0.Accepted v10 (ite_lc hv10 hg))⟩) ?_
          refine .rd 6 ?_
          refine .nil ⟨fun _ => schedB_of (by kernel_rfl), ?_⟩
          have hq := Option.some.inj h
          subst r
          exact .ret ⟨.inr rfl, rsi⟩


theorem callP_attempt_Check_1 (a0 : TPromise) (c0 : TAttempt) (r : Bool) (h : m_attempt_Check_1 a0 c0 = some r) : CallP Try.prog 100 [.agg [.int .i64 a0.Node, .int .i64 a0.Ballot, .str a0.Value], .iptr 0 [.int .u8 c0.Phase, .int .i64 c0.Ballot, .imm 1 (c0.Members.map (D.int .i64)) 4, .str c0.Wish, .str c0.Value, .imm 3 (c0.Promises.map TPromise.d) 4, .imm 1 (c0.Accepted.map (D.int .i64)) 4]] (.bool r) := by
  refine callP_intro Try.tmOk 3 Try.func100 rfl (by decide) rfl rfl (Nat.le_of_ble_eq_true rfl) ?_
  intro hwf
  unfold m_attempt_Check_1 at h
  refine .seq ?_
  refine .pl Try.S [0, 1] ?_
  refine .seq ?_
  obtain ⟨v1, hv1, h⟩ := bind_some h
  refine .rg Try.S [1, 2] ?_
  refine .rn 3 ?_
  refine .call (r := .bool v1) rfl rfl rfl rfl rfl rfl (callP_attempt_may a0 c0.Ballot v1 hv1) ?_
  refine .rn 2 ?_
  refine .nil ⟨nofun, ?_⟩
  have hq := Option.some.inj h
  subst r
  exact .ret ⟨.inr rfl, rsi⟩

def Try.St_attempt_Check_1 (b1 : Bool) : St := ⟨[(3, .bool b1)], [], 1⟩
attribute [local go_sem] Try.St_attempt_Check_1
def Try.St_attempt_Check_3 (a0 : TAttempt) (b2 : Bool) : St := ⟨[(1, .ptr 0 0), (3, .bool b2)], [(0, .box [.int .u8 a0.Phase, .int .i64 a0.Ballot, .imm 1 (a0.Members.map (D.int .i64)) 4, .str a0.Wish, .str a0.Value, .imm 3 (a0.Promises.map TPromise.d) 4, .imm 1 (a0.Accepted.map (D.int .i64)) 4])], 1⟩
attribute [local go_sem] Try.St_attempt_Check_3
def Try.St_attempt_Check_5 (a0 : TAttempt) (b5 : Bool) : St := ⟨[(1, .ptr 0 0), (3, .bool true), (10, .bool b5)], [(0, .box [.int .u8 a0.Phase, .int .i64 a0.Ballot, .imm 1 (a0.Members.map (D.int .i64)) 4, .str a0.Wish, .str a0.Value, .imm 3 (a0.Promises.map TPromise.d) 4, .imm 1 (a0.Accepted.map (D.int .i64)) 4])], 1⟩
attribute [local go_sem] Try.St_attempt_Check_5
theorem callP_attempt_Check (a0 : TAttempt) (r : Int) (h : m_attempt_Check a0 = some r) : CallP Try.prog 22 [.agg [.int .u8 a0.Phase, .int .i64 a0.Ballot, .imm 1 (a0.Members.map (D.int .i64)) 4, .str a0.Wish, .str a0.Value, .imm 3 (a0.Promises.map TPromise.d) 4, .imm 1 (a0.Accepted.map (D.int .i64)) 4]] (.int .i64 r) := by
  refine callP_intro Try.tmOk 3 Try.func22 rfl (by decide) rfl rfl (Nat.le_of_ble_eq_true rfl) ?_
  intro hwf
  unfold m_attempt_Check at h
  refine .seq ?_
  refine .pl Try.S [0] ?_
  refine .seq ?_
  refine .pl Try.S [1] ?_
  obtain ⟨x1, hx1, h⟩ := bind_some h
  refine .seqM 1 (fun (j : Bool) => Try.St_attempt_Check_1 j) (fun j => x1 = j) (Nat.le_of_ble_eq_true rfl) ?_ ?_
  · skip
    refine .seq ?_
    refine .pl Try.S [1, 3] ?_
    refine .block ?_
    refine .seq ?_
    refine .block ?_
    obtain ⟨x2, hx2, hx1⟩ := bind_some hx1
    refine .seqM 1 (fun (j : Bool) => Try.St_attempt_Check_3 a0 j) (fun j => x2 = (.inr (.inr j))) (Nat.le_of_ble_eq_true rfl) ?_ ?_
    · skip
      refine .block ?_
      refine .seq ?_
      refine .block ?_
      refine .seq ?_
      refine .block ?_
      refine .seq ?_
      refine .seq ?_
      refine .seq ?_
      refine .pl Try.S [1, 3, 5] ?_
      refine .cond rfl rfl (fun hc1 => ?_) (fun hc1 => ?_)
      · skip
        replace hx2 := ite_lc hx2 hc1
        refine .exit ?_
        refine .seq ?_
        obtain ⟨v1, hv1, hx2⟩ := bind_some hx2
        refine .rg Try.S [1] ?_
        refine .rn 2 ?_
        refine .call (r := .bool v1) rfl rfl rfl rfl rfl rfl (callP_wk (WkL.cons (Wk.refl _) (WkL.cons (Wk.agg (WkL.cons (Wk.refl _) (WkL.cons (Wk.refl _) (WkL.cons (Wk.nil4 0 1 0 rfl) (WkL.cons (Wk.refl _) (WkL.cons (Wk.refl _) (WkL.cons (Wk.nil4 0 3 0 rfl) (WkL.cons (Wk.nil4 0 1 0 rfl) (WkL.refl _))))))))) (WkL.refl _))) (callP_attempt_Same a0 (⟨0, 0, [], [], [], [], []⟩ : TAttempt) v1 hv1)) ?_
        refine .rn 1 ?_
        refine .nil ⟨nofun, ?_⟩
        refine .exit ?_
        have hq := Option.some.inj hx2
        subst x2
        try dsimp only at hx1
        refine ⟨_, ?_, (Option.some.inj hx1).symm⟩
        exact .m [3] [] []
      · skip
        replace hx2 := ite_rc hx2 hc1
        refine .skip ?_
        refine .seq ?_
        refine .seq ?_
        refine .pl Try.S [1, 3, 5] ?_
        refine .cond rfl rfl (fun hc2 => ?_) (fun hc2 => ?_)
        · skip
          replace hx2 := ite_lc hx2 hc2
          refine .exit ?_
          refine .rg Try.S [1] ?_
          refine .rn 6 ?_
          refine .rn 4 ?_
          refine .nil ⟨nofun, ?_⟩
          refine ⟨_, ?_, (Option.some.inj hx2).symm⟩
          exact .m [1, 3] [0] []
        · skip
          replace hx2 := ite_rc hx2 hc2
          refine .skip ?_
          obtain ⟨x3, hx3, hx2⟩ := bind_some hx2
          refine .seqM 1 (fun (j : Bool) => Try.St_attempt_Check_5 a0 j) (fun j => x3 = j) (Nat.le_of_ble_eq_true rfl) ?_ ?_
          · skip
            refine .seq ?_
            refine .pl Try.S [1, 3, 5] ?_
            refine .cond rfl rfl (fun hc3 => ?_) (fun hc3 => ?_)
            · skip
              replace hx3 := ite_lc hx3 hc3
              refine .skip ?_
              refine ⟨_, ?_, (Option.some.inj hx3).symm⟩
              exact .m [1, 3, 10] [0] []
            · skip
              replace hx3 := ite_rc hx3 hc3
              refine .pl Try.S [1, 3, 5] ?_
              refine ⟨_, ?_, (Option.some.inj hx3).symm⟩
              exact .m [1, 3, 10] [0] []
          · skip
            rintro b5 hj1
            subst x3
            try dsimp only at hx2
            simp only [Try.St_attempt_Check_5]
            refine .cond rfl rfl (fun hc4 => ?_) (fun hc4 => ?_)
            · skip
              replace hx2 := ite_lc hx2 hc4
              refine .exit ?_
              refine ⟨_, ?_, (Option.some.inj hx2).symm⟩
              exact .m [1, 3] [0] []
            · skip
              replace hx2 := ite_rc hx2 hc4
              refine .skip ?_
              refine .exit ?_
              have hq := Option.some.inj hx2
              subst x2
              try dsimp only at hx1
              refine .seq ?_
              refine .pl Try.S [] ?_
              refine .exit ?_
              refine ⟨_, ?_, (Option.some.inj hx1).symm⟩
              exact .m [3] [] []
    · skip
      rintro b2 hj2
      subst x2
      try dsimp only at hx1
      simp only [Try.St_attempt_Check_3]
      refine .seq ?_
      refine .seq ?_
      obtain ⟨v2, hv2, hx1⟩ := bind_some hx1
      obtain ⟨v3, hv3, hx1⟩ := bind_some hx1
      refine .rg Try.S [1, 3] ?_
      refine .rn 4 ?_
      refine .gcall (r := .int .i64 v2) rfl rfl rfl rfl rfl (fun hg => ⟨[], [.int .i64 a0.Ballot], _, rfl, gd hg, rfl, (callP_ballot_Check a0.Ballot v2 (ite_lc hv2 hg))⟩) ?_
      refine .rn 5 ?_
      refine .gcall (r := .int .i64 v3) rfl rfl rfl rfl rfl (fun hg => ⟨[], [.imm 1 (a0.Members.map (D.int .i64)) 4], _, rfl, gd hg, rfl, (callP_quorum_Check a0.Members v3 (ite_lc hv3 hg))⟩) ?_
      refine .rn 6 ?_
      refine .rn 3 ?_
      refine .nil ⟨nofun, ?_⟩
      refine .seq ?_
      obtain ⟨v4, hv4, hx1⟩ := bind_some hx1
      obtain ⟨v5, hv5, hx1⟩ := bind_some hx1
      obtain ⟨v6, hv6, hx1⟩ := bind_some hx1
      refine .rg Try.S [1, 3] ?_
      refine .rd 4 ?_
      refine .gcall (r := .imm 1 (v4.map (D.int .i64)) 12) rfl rfl rfl rfl rfl (fun hg => ⟨[], [.imm 3 (a0.Promises.map TPromise.d) 4], _, rfl, gd hg, rfl, (callP_attempt_nodes a0.Promises v4 (ite_lc hv4 hg))⟩) ?_
      refine .rd 2 ?_
      refine .gcall (r := .bool v5) rfl rfl rfl rfl rfl (fun hg => ⟨[], [.imm 1 (v4.map (D.int .i64)) 12, .imm 1 (a0.Members.map (D.int .i64)) 4], _, rfl, gd hg, rfl, (callP_attempt_rising v4 a0.Members v5 (ite_lc hv5 hg))⟩) ?_
      refine .rd 6 ?_
      refine .gcall (r := .bool v6) rfl rfl rfl rfl rfl (fun hg => ⟨[], [.imm 1 (a0.Accepted.map (D.int .i64)) 4, .imm 1 (a0.Members.map (D.int .i64)) 4], _, rfl, gd hg, rfl, (callP_attempt_rising a0.Accepted a0.Members v6 (ite_lc hv6 hg))⟩) ?_
      refine .rd 2 ?_
      refine .nil ⟨fun _ => schedB_of (by kernel_rfl), ?_⟩
      refine .seq ?_
      obtain ⟨v7, hv7, hx1⟩ := bind_some hx1
      refine .rg Try.S [1, 3] ?_
      refine .rn 5 ?_
      refine .glcall (r := .bool v7) [] rfl rfl rfl rfl rfl (fun hg => ⟨[], [.imm 3 (a0.Promises.map TPromise.d) 4, .fn (.func 100) [.ptr 0 0]], _, rfl, gd hg, (lend2s_cons rfl (lend2s_cons (lend2_fn (lend2s_cons (lend2_ptr rfl (lends_cons rfl (lends_cons rfl (lends_cons rfl (lends_cons rfl (lends_cons rfl (lends_cons rfl (lends_cons rfl lends_nil)))))))) lend2s_nil)) lend2s_nil)), rfl, (callP_slices_ContainsFunc_Promise_Promise a0.Promises 100 [.iptr 0 [.int .u8 a0.Phase, .int .i64 a0.Ballot, .imm 1 (a0.Members.map (D.int .i64)) 4, .str a0.Wish, .str a0.Value, .imm 3 (a0.Promises.map TPromise.d) 4, .imm 1 (a0.Accepted.map (D.int .i64)) 4]] (fun _ => rfl) (fun _ => rfl) (fun _ => rfl) (fun x0 => m_attempt_Check_1 x0 a0) (fun x0 y hy => callP_attempt_Check_1 x0 a0 y hy) v7 (ite_lc hv7 hg))⟩) ?_
      refine .rn 3 ?_
      refine .nil ⟨nofun, ?_⟩
      refine .seq ?_
      obtain ⟨v8, hv8, hx1⟩ := bind_some hx1
      obtain ⟨v9, hv9, hx1⟩ := bind_some hx1
      obtain ⟨v10, hv10, hx1⟩ := bind_some hx1
      refine .rg Try.S [1, 3] ?_
      refine .rd 6 ?_
      refine .gcall (r := .imm 1 (v8.map (D.int .i64)) 12) rfl rfl rfl rfl rfl (fun hg => ⟨[], [.imm 3 (a0.Promises.map TPromise.d) 4], _, rfl, gd hg, rfl, (callP_attempt_nodes a0.Promises v8 (ite_lc hv8 hg))⟩) ?_
      refine .rd 0 ?_
      refine .gcall (r := .bool v9) rfl rfl rfl rfl rfl (fun hg => ⟨[], [.imm 1 (a0.Members.map (D.int .i64)) 4, .imm 1 (v8.map (D.int .i64)) 12], _, rfl, gd hg, rfl, (callP_attempt_most a0.Members v8 v9 (ite_lc hv9 hg))⟩) ?_
      refine .rd 6 ?_
      refine .rd 4 ?_
      refine .gcall (r := .bool v10) rfl rfl rfl rfl rfl (fun hg => ⟨[], [.imm 1 (a0.Members.map (D.int .i64)) 4, .imm 1 (a0.Accepted.map (D.int .i64)) 4], _, rfl, gd hg, rfl, (callP_attempt_most a0.Members a0.Accepted v10 (ite_lc hv10 hg))⟩) ?_
      refine .rd 6 ?_
      refine .nil ⟨fun _ => schedB_of (by kernel_rfl), ?_⟩
      obtain ⟨v11, hv11, hx1⟩ := bind_some hx1
      refine .rg Try.S [1, 3] ?_
      refine .rd 6 ?_
      refine .rd 6 ?_
      refine .gcall (r := .str v11) rfl rfl rfl rfl rfl (fun hg => ⟨[], [.imm 3 (a0.Promises.map TPromise.d) 4, .str a0.Wish], _, rfl, gd hg, rfl, (callP_attempt_Best a0.Promises a0.Wish v11 (ite_lc hv11 hg))⟩) ?_
      refine .rd 4 ?_
      refine .nil ⟨fun _ => schedB_of (by kernel_rfl), ?_⟩
      refine .exit ?_
      refine ⟨_, ?_, (Option.some.inj hx1).symm⟩
      exact .m [3] [] []
  · skip
    rintro b1 hj3
    subst x1
    try dsimp only at h
    simp only [Try.St_attempt_Check_1]
    refine .seq ?_
    refine .seq ?_
    refine .pl Try.S [3] ?_
    refine .cond rfl rfl (fun hc5 => ?_) (fun hc5 => ?_)
    · skip
      replace h := ite_lc h hc5
      refine .seq ?_
      refine .pl Try.S [] ?_
      have hq := Option.some.inj h
      subst r
      exact .ret ⟨.inr rfl, rsi⟩
    · skip
      replace h := ite_rc h hc5
      refine .skip ?_
      refine .seq ?_
      refine .pl Try.S [] ?_
      have hq := Option.some.inj h
      subst r
      exact .ret ⟨.inr rfl, rsi⟩

def Try.St_towncrierref08_Great_1 (a0 : TAttempt) (n1 : Int) : St := ⟨[(1, .ptr 0 0), (3, .int .i64 n1)], [(0, .box [.int .u8 a0.Phase, .int .i64 a0.Ballot, .imm 1 (a0.Members.map (D.int .i64)) 4, .str a0.Wish, .str a0.Value, .imm 3 (a0.Promises.map TPromise.d) 4, .imm 1 (a0.Accepted.map (D.int .i64)) 4])], 1⟩
attribute [local go_sem] Try.St_towncrierref08_Great_1
def Try.St_towncrierref08_Great_3 (a0 : TAttempt) (n3 : Nat) (n2 : Int) : St := ⟨[(1, .ptr 0 0), (3, .int .i64 n2), (4, .int .i64 (n3 : Int))], [(0, .box [.int .u8 a0.Phase, .int .i64 a0.Ballot, .imm 1 (a0.Members.map (D.int .i64)) 4, .str a0.Wish, .str a0.Value, .imm 3 (a0.Promises.map TPromise.d) 4, .imm 1 (a0.Accepted.map (D.int .i64)) 4])], 1⟩
attribute [local go_sem] Try.St_towncrierref08_Great_3
theorem callP_towncrierref08_Great (a0 : TAttempt) (r : Bool) (h : m_towncrierref08_Great a0 = some r) : CallP Try.prog 14 [.agg [.int .u8 a0.Phase, .int .i64 a0.Ballot, .imm 1 (a0.Members.map (D.int .i64)) 4, .str a0.Wish, .str a0.Value, .imm 3 (a0.Promises.map TPromise.d) 4, .imm 1 (a0.Accepted.map (D.int .i64)) 4]] (.bool r) := by
  refine callP_intro Try.tmOk 3 Try.func14 rfl (by decide) rfl rfl (Nat.le_of_ble_eq_true rfl) ?_
  intro hwf
  unfold m_towncrierref08_Great at h
  refine .seq ?_
  refine .pl Try.S [0] ?_
  refine .seq ?_
  refine .pl Try.S [1] ?_
  obtain ⟨x1, hx1, h⟩ := bind_some h
  refine .seqM 1 (fun (j : Int) => Try.St_towncrierref08_Great_1 a0 j) (fun j => x1 = j) (Nat.le_of_ble_eq_true rfl) ?_ ?_
  · skip
    refine .seq ?_
    refine .pl Try.S [1, 3] ?_
    refine .block ?_
    refine .loopG 1 (fun (j : Nat × Int) => Try.St_towncrierref08_Great_3 a0 j.1 j.2) (fun j => j.1 ≤ a0.Promises.length ∧ m_towncrierref08_Great_loop1 (a0.Promises.drop j.1) j.1 j.2 = some x1) (fun j => a0.Promises.length - j.1) (0, (wr .i64 ((a0.Wish.length : Int) + (a0.Value.length : Int)))) (Nat.le_of_ble_eq_true rfl) ?_ ⟨Nat.zero_le _, hx1⟩ ?_
    · skip
      exact .m [1, 3, 4] [0] []
    rintro ⟨n3, n2⟩ ⟨hi1, hx1⟩
    simp only [Try.St_towncrierref08_Great_3]
    simp only at hi1 hx1
    refine .wfb 0 [.int .u8 a0.Phase, .int .i64 a0.Ballot, .imm 1 (a0.Members.map (D.int .i64)) 4, .str a0.Wish, .str a0.Value, .imm 3 (a0.Promises.map TPromise.d) 4, .imm 1 (a0.Accepted.map (D.int .i64)) 4] rfl ?_
    intro hln3
    replace hln3 : (a0.Promises.length : Int) ≤ 9223372036854775807 := by simp only [wf, wfL, IntKind.max, IntKind.min, IntKind.signed, IntKind.bits, List.length_map] at hln3; first | exact hln3.2 | exact hln3.1 | (simp at hln3; omega)
    refine .seq ?_
    refine .seq ?_
    refine .rg Try.S [1, 3, 4] ?_
    refine .rn 6 ?_
    refine .rn 3 ?_
    refine .nil ⟨nofun, ?_⟩
    refine .cond rfl rfl (fun hc1 => ?_) (fun hc1 => ?_)
    · skip
      have h1 : n3 < a0.Promises.length := by have hq := hc1; simp at hq; omega
      have hwn3 : wr .i64 ((n3 : Int) + 1) = ((n3 + 1 : Nat) : Int) := wr_succ h1 hln3
      have hpn3 : wr .i64 ((n3 : Int) - 1) = (n3 : Int) - 1 := wr_pred h1 hln3
      rw [List.drop_eq_getElem_cons h1, m_towncrierref08_Great_loop1_c] at hx1
      replace hx1 := ite_lc hx1 hc1
      refine .skip ?_
      refine .seq ?_
      refine .block ?_
      have e1 := nth_map TPromise.d a0.Promises n3 h1
      refine .rg Try.S [1, 3, 4] ?_
      refine .rnx 6 (And.intro e1 hwn3) ?_
      refine .rnx 5 (And.intro e1 hwn3) ?_
      refine .nil ⟨nofun, ?_⟩
      refine .plx Try.S hwn3 [1, 3, 4] ?_
      refine ⟨(n3 + 1, _), ?_, ⟨by omega, hx1⟩, by dsimp only; omega⟩
      exact .m [1, 3, 4] [0] []
    · skip
      by_cases h2 : n3 < a0.Promises.length
      · skip
        rw [List.drop_eq_getElem_cons h2, m_towncrierref08_Great_loop1_c] at hx1
        replace hx1 := ite_r hx1 (by have hq := hc1; simp at hq ⊢; first | exact hq (by omega) | omega | grind)
        refine .exit ?_
        refine ⟨_, ?_, (Option.some.inj hx1).symm⟩
        exact .m [1, 3] [0] []
      · skip
        rw [List.drop_of_length_le (by omega), m_towncrierref08_Great_loop1_n] at hx1
        refine .exit ?_
        refine ⟨_, ?_, (Option.some.inj hx1).symm⟩
        exact .m [1, 3] [0] []
  · skip
    rintro n1 hj1
    subst x1
    try dsimp only at h
    simp only [Try.St_towncrierref08_Great_1]
    refine .seq ?_
    refine .rg Try.S [1, 3] ?_
    refine .rn 6 ?_
    refine .rn 6 ?_
    refine .rn 6 ?_
    refine .rn 3 ?_
    refine .nil ⟨nofun, ?_⟩
    have hq := Option.some.inj h
    subst r
    exact .ret ⟨.inr rfl, rsi⟩
end Go.Proofs
end
section
/- Models of functions, printed by gw.py. -/





namespace Go.Proofs
open Go.Tm
set_option linter.unusedVariables false

def m_slices_Clone_int_int (a0 : List Int) : Option ((List Int)) :=
  if a0.length < 1000000 then
  some a0
  else none

def m_slices_Clone_Promise_Promise (a0 : List TPromise) : Option ((List TPromise)) :=
  if a0.length < 1000000 then
  some a0
  else none

def m_attempt_Twin (a0 : TAttempt) : Option TAttempt :=
  Option.bind (m_slices_Clone_int_int a0.Members) fun v1 =>
  Option.bind (m_slices_Clone_Promise_Promise a0.Promises) fun v2 =>
  Option.bind (m_slices_Clone_int_int a0.Accepted) fun v3 =>
  some (⟨a0.Phase, a0.Ballot, v1, a0.Wish, a0.Value, v2, v3⟩ : TAttempt)
end Go.Proofs
end
section
/- The walks of functions, printed by gw.py. -/







namespace Go.Proofs
open Go.Tm Go.RowKit Go.WideShapes
set_option maxRecDepth 100000
set_option maxHeartbeats 4000000
set_option linter.unusedSimpArgs false
set_option linter.unusedVariables false
attribute [local go_sem] argVars runE runK isCallV stepE aop opd opdsL opds opdO ev ofVal keep List.any natbeq Bool.false_or Bool.true_or aggEq cond_true cond_false Bool.cond_false_right Bool.cond_true_left beq_true beq_false imp_self implies_true getR getL put St.app effL del nwB blt_dec Nat.lt_irrefl Nat.lt_add_one ble_dec Nat.le_refl Nat.beq_refl roomNZ appendIn capS capK mkZ_zero mkZL_zero zeroEl D.ids D.idsL Option.getD bin arith sarith binT dpick Tm.part splice fillD oneD loadD storeD srcD sliceD idxOk decide_true gval dstAt D.cells List.map_cons List.map_nil List.take List.drop List.length_map List.append Int.toNat_natCast and_true true_and decide_false List.length_cons List.length_nil List.append_nil List.nil_append Bool.and_true Bool.true_and Bool.not_false Bool.not_true ne_eq not_false_eq_true BEq.rfl List.getElem?_cons_zero List.getElem?_cons_succ List.getElem?_nil Nat.zero_add List.all_cons List.all_nil List.isEmpty_cons List.isEmpty_nil List.any_cons List.any_nil List.drop_succ_cons List.drop_zero unfL unf okM okML low3 List.cons_append true_or or_true Nat.zero_mul Nat.zero_le bytesD_map map_ub mkZ_one mkZL_one mkM mkML mk1_int mk1_str mk1_bool drop_map take_map take_map_len List.take_length Int.toNat_zero toNat_pred fpOf metIds opIds mvV mvH mvF pickL D.ren D.renL Blk.ren List.map_append List.length_append Bool.not_not Bool.or_not_self Bool.not_or_self Bool.or_true
attribute [local go_sem] Try.tm_1 Try.tm_2 Try.tm_3 Try.tm_4 Try.tm_5 Try.tm_6 Try.tm_7 Try.tm_8 Try.tm_9 Try.tm_10 Try.tm_11 Try.tm_12 Try.tm_13 Try.tm_14 Try.tm_15 Try.tm_16 Try.tm_17 Try.tm_18 Try.tm_19 Try.tm_20 Try.tm_21 Try.tm_22 Try.tm_23 Try.tm_24 Try.tm_25 Try.tm_26 Try.tm_27 Try.tm_28 Try.tm_29 Try.tm_30 Try.tm_32 Try.tm_34 Try.tm_35 Try.tm_36 Try.tm_37 Try.tm_38 Try.tm_39 Try.tm_40 Try.tm_41 Try.tm_42 Try.tm_43 Try.tm_44 Try.tm_45 Try.tm_46 Try.tm_47 Try.tm_48 Try.tm_50 Try.tm_51 Try.tm_52 Try.tm_53 Try.tm_54 Try.tm_55 Try.tm_57 Try.tm_58 Try.tm_59 Try.tm_61 Try.tm_63 Try.tm_64 Try.tm_65 Try.tm_66 Try.tm_67 Try.tm_68 Try.tm_69 Try.tm_70 Try.tm_71 Try.tm_73 Try.tm_75 Try.tm_76 Try.tm_78 Try.tm_79 Try.tm_80 Try.tm_81 Try.tm_82 Try.tm_83 Try.tm_84 Try.tm_85 Try.tm_86 Try.tm_87 Try.tm_88 Try.tm_89 Try.tm_90 Try.tm_91 Try.tm_93 Try.tm_94 Try.tm_95 Try.tm_96 Try.tm_97 Try.tm_98 Try.tm_99 Try.tm_100 Try.tm_101 Try.tm_102 Try.tm_103 Try.tm_104 Try.tm_105 Try.tm_106 Try.tm_107 Try.tm_109 Try.tm_111 Try.tm_113 Try.tm_114 Try.tm_115 Try.tm_116 Try.tm_117 Try.tm_118 Try.tm_119 Try.tm_120 Try.tm_121 Try.tm_123 Try.tm_124 Try.tm_125 Try.tm_127 Try.tm_128 Try.tm_129 Try.tm_130 Try.tm_131 Try.tm_132 Try.tm_133 Try.tm_134 Try.tm_135 Try.tm_136 Try.tm_137 Try.tm_138 Try.tm_139 Try.tm_140 Try.tm_141 Try.tm_142 Try.tm_143 Try.tm_144 Try.tm_145 Try.tm_146 Try.tm_147 Try.tm_149 Try.tm_150 Try.tm_151 Try.tm_152 Try.tm_153 Try.tm_154 Try.tm_155 Try.tm_156 Try.tm_157 Try.tm_158 Try.tm_159 Try.tm_160 Try.tm_162 Try.tm_163 Try.tm_164 Try.tm_165 Try.tm_166 Try.tm_167 Try.tm_168 Try.tm_169 Try.tm_170 Try.tm_171 Try.tm_172 Try.tm_173 Try.tm_175 Try.tm_177 Try.tm_178 Try.tm_179 Try.tm_180 Try.tm_181 Try.tm_182 Try.tm_184 Try.tm_185 Try.tm_187 Try.tm_189 Try.tm_191 Try.tm_192 Try.tm_193 Try.tm_194 Try.tm_195 Try.tm_196 Try.tm_197 Try.tm_198 Try.tm_199 Try.tm_200 Try.tm_201 Try.tm_202 Try.tm_203 Try.tm_204 Try.tm_205 Try.tm_206 Try.tm_207 Try.tm_208 Try.tm_209 Try.tm_210 Try.tm_211 Try.tm_212 Try.tm_213 Try.tm_214 Try.tm_215 Try.tm_216 Try.tm_217 Try.tm_218 Try.tm_219 Try.tm_220 Try.tm_221 Try.tm_223 Try.tm_224 Try.tm_225 Try.tm_226 Try.tm_227 Try.tm_229 Try.tm_230 Try.tm_231 Try.tm_232 Try.tm_233 Try.tm_235 Try.tm_236 Try.tm_237 Try.tm_238 Try.tm_239 Try.tm_240 Try.tm_241 Try.tm_242 Try.tm_243 Try.tm_244 Try.tm_245 Try.tm_246 Try.tm_247 Try.tm_248 Try.tm_249 Try.tm_250 Try.tm_251 Try.tm_252 Try.tm_253 Try.tm_254 Try.tm_255 Try.tm_256 Try.tm_257 Try.tm_258 Try.tm_259 Try.tm_260 Try.tm_262 Try.tm_263 Try.tm_264 Try.tm_265 Try.tm_266 Try.tm_267 Try.tm_269 Try.tm_270 Try.tm_271 Try.tm_272 Try.tm_273 Try.tm_274 Try.tm_275 Try.tm_276 Try.tm_277 Try.tm_278 Try.tm_280 Try.tm_281 Try.tm_282 Try.tm_283 Try.tm_284 Try.tm_286 Try.tm_288 Try.tm_289 Try.tm_290 Try.tm_291 Try.tm_292 Try.tm_294 Try.tm_296 Try.tm_297 Try.tm_298 Try.tm_299 Try.tm_300 Try.tm_302 Try.tm_303 Try.tm_304 Try.tm_305 Try.tm_306 Try.tm_307 Try.tm_308 Try.tm_309 Try.tm_310 Try.tm_311 Try.tm_312 Try.tm_313 Try.tm_314 Try.tm_315 Try.tm_316 Try.tm_317 Try.tm_318 Try.tm_319 Try.tm_320 Try.tm_321 Try.tm_322 Try.tm_324 Try.tm_325 Try.tm_326 Try.tm_327 Try.tm_330 Try.tm_331 Try.tm_332 Try.tm_333 Try.tm_334 Try.tm_335 Try.tm_336 Try.tm_337 TPromise.d TAttempt.d TAttempt.n dL_str nL_str TVote.d TSeen.d TStable.d TStable.n TRecord.d TMessage.d TMessage.n TWait.d TWait.n TStamp.d TSkeen.d TSkeen.n TCommand.d TCommand.n mk1_TPromise mk1_TAttempt mk1_dL_str mk1_TVote mk1_TSeen mk1_TStable mk1_TRecord mk1_TMessage mk1_TWait mk1_TStamp mk1_TSkeen mk1_TCommand Try.f93 Try.f94 Try.f20

def Try.Re_slices_Clone_int_int (r : (List Int)) : St := ⟨[(2, .ref 0 1 0 r.length (some unkC))], [(0, .arr 3 1 true (r.map (D.int .i64)))], 1⟩
attribute [local go_sem] Try.Re_slices_Clone_int_int
theorem callH_slices_Clone_int_int (a0 : List Int) (r : (List Int)) (h : m_slices_Clone_int_int a0 = some r) : CallH Try.prog 93 [.imm 1 (a0.map (D.int .i64)) 4] [] (.ref 0 1 0 r.length (some unkC)) [(0, some (.arr 3 1 true (r.map (D.int .i64))))] (0, 3) := by
  refine callH_intro' Try.tmOk Try.func93 rfl (by decide) (Nat.le_of_ble_eq_true rfl) (by simp) ?_
  intro hwf
  unfold m_slices_Clone_int_int at h
  refine .ends 0 (Nat.le_refl _) ?_
  refine .nil4 0 1 (a0.map (D.int .i64)) rfl ?_ (fun hl => ?_)
  · skip
    refine .seq ?_
    refine .pl Try.S [0] ?_
    refine .seq ?_
    refine .seq ?_
    refine .pl Try.S [0] ?_
    refine .cond rfl rfl (fun hc => by cases hc) (fun hc => ?_)
    refine .skip ?_
    obtain ⟨k1, h⟩ := ite_ck h
    refine .seqM 0 (fun (_ : Unit) => ⟨[(2, .ref 0 1 0 a0.length (some unkC))], [(0, .arr 3 1 true (a0.map (D.int .i64)))], 1⟩) (fun _ => True) (Nat.le_of_ble_eq_true rfl) ?_ (fun _ _ => ?_)
    · skip
      rcases list_cases a0 with hE1 | ⟨y, ys, hE1⟩
      · skip
        have hM1 : a0.map (D.int .i64) = [] := by rw [hE1]; simp
        refine .plain Try.tmOk Try.tmMixed [0] (by decide +kernel) (by intro q hq; simp only [go_sem, Nat.reduceSub, Int.reduceEq, Nat.reduceLT, Nat.reduceDiv, Nat.reduceAdd, Nat.reduceBEq, Nat.reduceLeDiff, reduceCtorEq, Nat.reduceEqDiff, Nat.reduceMod, Nat.reduceMul, Try.tm_22, appendD_nil hM1]; exact hq) (by first | rfl | (simp only [go_sem, Nat.reduceLeDiff]; done) | (simp only [go_sem, Nat.reduceLeDiff]; rfl) | (simp; done) | (simp [oneD] <;> omega) | (simp_all; done) | (simp_all [oneD] <;> omega)) (by first | exact Nat.le_refl _ | exact Nat.le_of_ble_eq_true rfl | (dsimp only; omega) | (simp <;> omega)) ?_
        refine ⟨(), ?_, trivial⟩
        refine Goes.new0 1 3 (Nat.le_of_ble_eq_true rfl) ?_
        refine Goes.wk 2 _ (.ref 0 1 0 0 (some unkC)) rfl (.own0 0 _ _ _ (by decide)) ?_
        exact .mx hE1 [2] [0] []
      · skip
        have hM1 : a0.map (D.int .i64) ≠ [] := by rw [hE1]; simp
        refine .plain Try.tmOk Try.tmMixed [0] (by decide +kernel) (by intro q hq; simp only [go_sem, Nat.reduceSub, Int.reduceEq, Nat.reduceLT, Nat.reduceDiv, Nat.reduceAdd, Nat.reduceBEq, Nat.reduceLeDiff, reduceCtorEq, Nat.reduceEqDiff, Nat.reduceMod, Nat.reduceMul, Try.tm_22, appendD_cons hM1]; exact hq) (by first | rfl | (simp only [go_sem, Nat.reduceLeDiff]; done) | (simp only [go_sem, Nat.reduceLeDiff]; rfl) | (simp; done) | (simp [oneD] <;> omega) | (simp_all; done) | (simp_all [oneD] <;> omega)) (by first | exact Nat.le_refl _ | exact Nat.le_of_ble_eq_true rfl | (dsimp only; omega) | (simp <;> omega)) ?_
        refine ⟨(), ?_, trivial⟩
        refine Goes.wk 2 _ (.ref 0 1 0 a0.length (some unkC)) rfl (.unk _ _ _ _ _) ?_
        exact .mx hE1 [2] [0] []
    have hq := Option.some.inj h
    subst r
    refine .ret ⟨Try.Re_slices_Clone_int_int a0, ?_, .inr rfl, retH [0] ?_ ?_⟩
    · skip
      exact .m [2] [0] []
    · exact rsi0
    · rfl
  · skip
    have hE0 : a0 = [] := by simpa using hl
    obtain ⟨k1, h⟩ := ite_ck h
    refine .seq ?_
    refine .pl Try.S [0] ?_
    refine .seq ?_
    refine .seq ?_
    refine .pl Try.S [0] ?_
    refine .cond rfl rfl (fun hc => ?_) (fun hc => by cases hc)
    refine .seq ?_
    refine .pl Try.S [] ?_
    have hq := Option.some.inj h
    subst r
    refine .ret ⟨Try.Re_slices_Clone_int_int a0, ?_, .inr rfl, retH [0] ?_ ?_⟩
    · skip
      refine Goes.new0 1 3 (Nat.le_of_ble_eq_true rfl) ?_
      refine Goes.wk 2 _ (.ref 0 1 0 0 (some unkC)) rfl (.own0 0 _ _ _ (by decide)) ?_
      exact .mx hE0 [2] [0] []
    · exact rsi0
    · rfl

def Try.Re_slices_Clone_Promise_Promise (r : (List TPromise)) : St := ⟨[(2, .ref 0 3 0 r.length (some unkC))], [(0, .arr 27 3 true (r.map TPromise.d))], 1⟩
attribute [local go_sem] Try.Re_slices_Clone_Promise_Promise
theorem callH_slices_Clone_Promise_Promise (a0 : List TPromise) (r : (List TPromise)) (h : m_slices_Clone_Promise_Promise a0 = some r) : CallH Try.prog 94 [.imm 3 (a0.map TPromise.d) 4] [] (.ref 0 3 0 r.length (some unkC)) [(0, some (.arr 27 3 true (r.map TPromise.d)))] (0, 3) := by
  refine callH_intro' Try.tmOk Try.func94 rfl (by decide) (Nat.le_of_ble_eq_true rfl) (by simp) ?_
  intro hwf
  unfold m_slices_Clone_Promise_Promise at h
  refine .ends 0 (Nat.le_refl _) ?_
  refine .nil4 0 3 (a0.map TPromise.d) rfl ?_ (fun hl => ?_)
  · skip
    refine .seq ?_
    refine .pl Try.S [0] ?_
    refine .seq ?_
    refine .seq ?_
    refine .pl Try.S [0] ?_
    refine .cond rfl rfl (fun hc => by cases hc) (fun hc => ?_)
    refine .skip ?_
    obtain ⟨k1, h⟩ := ite_ck h
    refine .seqM 0 (fun (_ : Unit) => ⟨[(2, .ref 0 3 0 a0.length (some unkC))], [(0, .arr 27 3 true (a0.map TPromise.d))], 1⟩) (fun _ => True) (Nat.le_of_ble_eq_true rfl) ?_ (fun _ _ => ?_)
    · skip
      rcases list_cases a0 with hE1 | ⟨y, ys, hE1⟩
      · skip
        have hM1 : a0.map TPromise.d = [] := by rw [hE1]; simp
        refine .plain Try.tmOk Try.tmMixed [0] (by decide +kernel) (by intro q hq; simp only [go_sem, Nat.reduceSub, Int.reduceEq, Nat.reduceLT, Nat.reduceDiv, Nat.reduceAdd, Nat.reduceBEq, Nat.reduceLeDiff, reduceCtorEq, Nat.reduceEqDiff, Nat.reduceMod, Nat.reduceMul, Try.tm_23, appendD_nil hM1, TPromise.d]; exact hq) (by first | rfl | (simp only [go_sem, Nat.reduceLeDiff]; done) | (simp only [go_sem, Nat.reduceLeDiff]; rfl) | (simp; done) | (simp [oneD] <;> omega) | (simp_all; done) | (simp_all [oneD] <;> omega)) (by first | exact Nat.le_refl _ | exact Nat.le_of_ble_eq_true rfl | (dsimp only; omega) | (simp <;> omega)) ?_
        refine ⟨(), ?_, trivial⟩
        refine Goes.new0 3 27 (Nat.le_of_ble_eq_true rfl) ?_
        refine Goes.wk 2 _ (.ref 0 3 0 0 (some unkC)) rfl (.own0 0 _ _ _ (by decide)) ?_
        exact .mx hE1 [2] [0] []
      · skip
        have hM1 : a0.map TPromise.d ≠ [] := by rw [hE1]; simp
        refine .plain Try.tmOk Try.tmMixed [0] (by decide +kernel) (by intro q hq; simp only [go_sem, Nat.reduceSub, Int.reduceEq, Nat.reduceLT, Nat.reduceDiv, Nat.reduceAdd, Nat.reduceBEq, Nat.reduceLeDiff, reduceCtorEq, Nat.reduceEqDiff, Nat.reduceMod, Nat.reduceMul, Try.tm_23, appendD_cons hM1, TPromise.d]; exact hq) (by first | rfl | (simp only [go_sem, Nat.reduceLeDiff]; done) | (simp only [go_sem, Nat.reduceLeDiff]; rfl) | (simp; done) | (simp [oneD] <;> omega) | (simp_all; done) | (simp_all [oneD] <;> omega)) (by first | exact Nat.le_refl _ | exact Nat.le_of_ble_eq_true rfl | (dsimp only; omega) | (simp <;> omega)) ?_
        refine ⟨(), ?_, trivial⟩
        refine Goes.wk 2 _ (.ref 0 3 0 a0.length (some unkC)) rfl (.unk _ _ _ _ _) ?_
        exact .mx hE1 [2] [0] []
    have hq := Option.some.inj h
    subst r
    refine .ret ⟨Try.Re_slices_Clone_Promise_Promise a0, ?_, .inr rfl, retH [0] ?_ ?_⟩
    · skip
      exact .m [2] [0] []
    · exact rsi0
    · rfl
  · skip
    have hE0 : a0 = [] := by simpa using hl
    obtain ⟨k1, h⟩ := ite_ck h
    refine .seq ?_
    refine .pl Try.S [0] ?_
    refine .seq ?_
    refine .seq ?_
    refine .pl Try.S [0] ?_
    refine .cond rfl rfl (fun hc => ?_) (fun hc => by cases hc)
    refine .seq ?_
    refine .pl Try.S [] ?_
    have hq := Option.some.inj h
    subst r
    refine .ret ⟨Try.Re_slices_Clone_Promise_Promise a0, ?_, .inr rfl, retH [0] ?_ ?_⟩
    · skip
      refine Goes.new0 3 27 (Nat.le_of_ble_eq_true rfl) ?_
      refine Goes.wk 2 _ (.ref 0 3 0 0 (some unkC)) rfl (.own0 0 _ _ _ (by decide)) ?_
      exact .mx hE0 [2] [0] []
    · exact rsi0
    · rfl

def Try.Re_attempt_Twin (r : TAttempt) : St := ⟨[(2, .ptr 3 0)], [(0, .arr 3 1 true (r.Members.map (D.int .i64))), (1, .arr 27 3 true (r.Promises.map TPromise.d)), (2, .arr 3 1 true (r.Accepted.map (D.int .i64))), (3, .box [.int .u8 r.Phase, .int .i64 r.Ballot, .ref 0 1 0 r.Members.length (some unkC), .str r.Wish, .str r.Value, .ref 1 3 0 r.Promises.length (some unkC), .ref 2 1 0 r.Accepted.length (some unkC)])], 4⟩
attribute [local go_sem] Try.Re_attempt_Twin
theorem callH_attempt_Twin (a0 : TAttempt) (r : TAttempt) (h : m_attempt_Twin a0 = some r) : CallH Try.prog 20 [.agg [.int .u8 a0.Phase, .int .i64 a0.Ballot, .imm 1 (a0.Members.map (D.int .i64)) 4, .str a0.Wish, .str a0.Value, .imm 3 (a0.Promises.map TPromise.d) 4, .imm 1 (a0.Accepted.map (D.int .i64)) 4]] [] (.agg [.int .u8 r.Phase, .int .i64 r.Ballot, .ref 0 1 0 r.Members.length (some unkC), .str r.Wish, .str r.Value, .ref 1 3 0 r.Promises.length (some unkC), .ref 2 1 0 r.Accepted.length (some unkC)]) [(0, some (.arr 3 1 true (r.Members.map (D.int .i64)))), (1, some (.arr 27 3 true (r.Promises.map TPromise.d))), (2, some (.arr 3 1 true (r.Accepted.map (D.int .i64))))] (0, 14) := by
  refine callH_intro' Try.tmOk Try.func20 rfl (by decide) (Nat.le_of_ble_eq_true rfl) (by simp) ?_
  intro hwf
  unfold m_attempt_Twin at h
  refine .ends 0 (Nat.le_refl _) ?_
  refine .seq ?_
  refine .pl Try.S [0] ?_
  refine .seq ?_
  obtain ⟨v1, hv1, h⟩ := bind_some h
  obtain ⟨v2, hv2, h⟩ := bind_some h
  obtain ⟨v3, hv3, h⟩ := bind_some h
  refine .rg Try.S [1, 2] ?_
  refine .rd 2 ?_
  refine .ncall (r := .ref 3 1 0 v1.length (some unkC)) (eff := [(3, some (.arr 3 1 true (v1.map (D.int .i64))))]) (nw := (3, 6)) [] rfl rfl rfl rfl rfl (lend2s_cons rfl lend2s_nil) rfl (callH_at 3 (Nat.le_of_ble_eq_true rfl) (callH_slices_Clone_int_int a0.Members v1 hv1)) (newE_cons rfl rfl (newB_arr pl0_i64 _ _ _) newE_nil) (by intro i hi; simp [D.ids, D.idsL] at hi; omega) rfl ⟨Nat.le_of_ble_eq_true rfl, Nat.le_of_ble_eq_true rfl⟩ ?_
  refine .rd 2 ?_
  refine .ncall (r := .ref 6 3 0 v2.length (some unkC)) (eff := [(6, some (.arr 27 3 true (v2.map TPromise.d)))]) (nw := (6, 9)) [] rfl rfl rfl rfl rfl (lend2s_cons rfl lend2s_nil) rfl (callH_at 6 (Nat.le_of_ble_eq_true rfl) (callH_slices_Clone_Promise_Promise a0.Promises v2 hv2)) (newE_cons rfl rfl (newB_arr pl0_TPromise _ _ _) newE_nil) (by intro i hi; simp [D.ids, D.idsL] at hi; omega) rfl ⟨Nat.le_of_ble_eq_true rfl, Nat.le_of_ble_eq_true rfl⟩ ?_
  refine .rd 2 ?_
  refine .ncall (r := .ref 9 1 0 v3.length (some unkC)) (eff := [(9, some (.arr 3 1 true (v3.map (D.int .i64))))]) (nw := (9, 12)) [] rfl rfl rfl rfl rfl (lend2s_cons rfl lend2s_nil) rfl (callH_at 9 (Nat.le_of_ble_eq_true rfl) (callH_slices_Clone_int_int a0.Accepted v3 hv3)) (newE_cons rfl rfl (newB_arr pl0_i64 _ _ _) newE_nil) (by intro i hi; simp [D.ids, D.idsL] at hi; omega) rfl ⟨Nat.le_of_ble_eq_true rfl, Nat.le_of_ble_eq_true rfl⟩ ?_
  refine .rd 6 ?_
  refine .nil ⟨fun _ => schedB_of (by kernel_rfl), ?_⟩
  refine .seq ?_
  refine .pl Try.S [1, 2] ?_
  have hq := Option.some.inj h
  subst r
  refine .ret ⟨Try.Re_attempt_Twin (⟨a0.Phase, a0.Ballot, v1, a0.Wish, a0.Value, v2, v3⟩ : TAttempt), ?_, .inr rfl, retH [2, 1, 0] ?_ ?_⟩
  · skip
    exact .m [2] [3, 6, 9, 1] [(3, 0), (6, 1), (9, 2), (1, 3)]
  · exact rsi0
  · rfl

end Go.Proofs
end
section
/- Models of functions, printed by gw.py. -/






namespace Go.Proofs
open Go.Tm
set_option linter.unusedVariables false

def m_towncrierref08_Promised_loop1 (a : TAttempt) (p : TPromise) : Nat → Int → Option (Int)
  | 0, _ => none
  | fu1 + 1, n2 =>
    if (n2 < (a.Promises.length : Int)) → (0 ≤ n2 ∧ n2 < (a.Promises.length : Int)) then
    if (n2 < (a.Promises.length : Int)) ∧ ((a.Promises.getD n2.toNat default).Node < p.Node) then
    m_towncrierref08_Promised_loop1 a p fu1 (wr .i64 (n2 + 1))
    else
    some n2
    else none
def m_towncrierref08_Promised (a : TAttempt) (ballot : Int) (p : TPromise) : Option (TAttempt × Int) :=
  Option.bind (m_towncrierref08_May a) fun v1 =>
  if ¬ (v1 = true) then
  some ((⟨0, 0, [], [], [], [], []⟩ : TAttempt), 8)
  else
  Option.bind (if ¬ ((¬ (a.Phase = 1)) ∨ (¬ (ballot = a.Ballot))) then m_towncrierref06_Has a.Members p.Node else some default) fun v2 =>
  if ((¬ (a.Phase = 1)) ∨ (¬ (ballot = a.Ballot))) ∨ (¬ (v2 = true)) then
  some ((⟨0, 0, [], [], [], [], []⟩ : TAttempt), 6)
  else
  Option.bind (m_towncrierref08_MayPromise p ballot) fun v3 =>
  if ¬ (v3 = true) then
  some ((⟨0, 0, [], [], [], [], []⟩ : TAttempt), 8)
  else
  Option.bind (m_towncrierref08_Twin a) fun v4 =>
  Option.bind (m_towncrierref08_nodes a.Promises) fun v5 =>
  Option.bind (m_towncrierref06_Has v5 p.Node) fun v6 =>
  if v6 = true then
  some (v4, 0)
  else
  Option.bind (α := Int) (m_towncrierref08_Promised_loop1 a p (a.Promises.length + 1) 0) fun n1 =>
  if (0 ≤ n1 ∧ n1 ≤ (a.Promises.length : Int)) then
  if (a.Promises.take n1.toNat).length < 1000000 then
  if (a.Promises.take n1.toNat).length + [p].length < 1000000 then
  if (0 ≤ n1 ∧ n1 ≤ (a.Promises.length : Int)) then
  if ((a.Promises.take n1.toNat) ++ [p]).length + (a.Promises.drop n1.toNat).length < 1000000 then
  Option.bind (α := Int × (List UInt8)) (Option.bind (m_towncrierref08_nodes (((a.Promises.take n1.toNat) ++ [p]) ++ (a.Promises.drop n1.toNat))) fun v7 =>
  Option.bind (m_towncrierref06_Counts a.Members v7) fun v8 =>
  if v8 = true then
  Option.bind (m_towncrierref08_Best (((a.Promises.take n1.toNat) ++ [p]) ++ (a.Promises.drop n1.toNat)) v4.Wish) fun v9 =>
  some (2, v9)
  else
  some (v4.Phase, v4.Value)) fun (n3, s1) =>
  some ((⟨n3, v4.Ballot, v4.Members, v4.Wish, s1, (((a.Promises.take n1.toNat) ++ [p]) ++ (a.Promises.drop n1.toNat)), v4.Accepted⟩ : TAttempt), 0)
  else none
  else none
  else none
  else none
  else none

def m_towncrierref08_Accepted_loop1 (a : TAttempt) (node : Int) : Nat → Int → Option (Int)
  | 0, _ => none
  | fu1 + 1, n2 =>
    if (n2 < (a.Accepted.length : Int)) → (0 ≤ n2 ∧ n2 < (a.Accepted.length : Int)) then
    if (n2 < (a.Accepted.length : Int)) ∧ ((a.Accepted.getD n2.toNat default) < node) then
    m_towncrierref08_Accepted_loop1 a node fu1 (wr .i64 (n2 + 1))
    else
    some n2
    else none
def m_towncrierref08_Accepted (a : TAttempt) (ballot : Int) (node : Int) : Option (TAttempt × Int) :=
  Option.bind (m_towncrierref08_May a) fun v1 =>
  if ¬ (v1 = true) then
  some ((⟨0, 0, [], [], [], [], []⟩ : TAttempt), 8)
  else
  Option.bind (if ¬ ((a.Phase < 2) ∨ (¬ (ballot = a.Ballot))) then m_towncrierref06_Has a.Members node else some default) fun v2 =>
  if ((a.Phase < 2) ∨ (¬ (ballot = a.Ballot))) ∨ (¬ (v2 = true)) then
  some ((⟨0, 0, [], [], [], [], []⟩ : TAttempt), 6)
  else
  Option.bind (m_towncrierref08_Twin a) fun v3 =>
  Option.bind (m_towncrierref06_Has a.Accepted node) fun v4 =>
  if v4 = true then
  some (v3, 0)
  else
  Option.bind (α := Int) (m_towncrierref08_Accepted_loop1 a node (a.Accepted.length + 1) 0) fun n1 =>
  if (0 ≤ n1 ∧ n1 ≤ (a.Accepted.length : Int)) then
  if (a.Accepted.take n1.toNat).length < 1000000 then
  if (a.Accepted.take n1.toNat).length + [node].length < 1000000 then
  if (0 ≤ n1 ∧ n1 ≤ (a.Accepted.length : Int)) then
  if ((a.Accepted.take n1.toNat) ++ [node]).length + (a.Accepted.drop n1.toNat).length < 1000000 then
  Option.bind (α := Int) (Option.bind (m_towncrierref06_Counts a.Members (((a.Accepted.take n1.toNat) ++ [node]) ++ (a.Accepted.drop n1.toNat))) fun v5 =>
  if v5 = true then
  some 3
  else
  some v3.Phase) fun n3 =>
  some ((⟨n3, v3.Ballot, v3.Members, v3.Wish, v3.Value, v3.Promises, (((a.Accepted.take n1.toNat) ++ [node]) ++ (a.Accepted.drop n1.toNat))⟩ : TAttempt), 0)
  else none
  else none
  else none
  else none
  else none
end Go.Proofs
end
