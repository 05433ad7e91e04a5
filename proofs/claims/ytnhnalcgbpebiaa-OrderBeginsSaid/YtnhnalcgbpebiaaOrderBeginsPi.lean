/- Texts of the proof. -/
import Derived.Lib.Overlaps
import Derived.KernelRfl
import Derived.Test.YtnhnalcgbpebiaaOrderBeginsPg
import Derived.Test.YtnhnalcgbpebiaaOrderBeginsPh
section
namespace Go.Proofs
open Go.Tm Go.RowKit Go.WideShapes
set_option maxRecDepth 100000
set_option maxHeartbeats 4000000
set_option linter.unusedSimpArgs false
set_option linter.unusedVariables false
attribute [local go_sem] argVars runE runK isCallV stepE aop opd opdsL opds opdO ev ofVal keep List.any natbeq Bool.false_or Bool.true_or aggEq cond_true cond_false Bool.cond_false_right Bool.cond_true_left beq_true beq_false imp_self implies_true getR getL put St.app effL del nwB blt_dec Nat.lt_irrefl Nat.lt_add_one ble_dec Nat.le_refl Nat.beq_refl roomNZ appendIn capS capK mkZ_zero mkZL_zero zeroEl D.ids D.idsL bin arith sarith binT dpick Tm.part splice fillD oneD loadD storeD srcD sliceD idxOk decide_true gval dstAt D.cells List.map_cons List.map_nil List.take List.drop List.length_map List.append Int.toNat_natCast and_true true_and decide_false List.length_cons List.length_nil List.append_nil List.nil_append Bool.and_true Bool.true_and Bool.not_false Bool.not_true ne_eq not_false_eq_true BEq.rfl List.getElem?_cons_zero List.getElem?_cons_succ List.getElem?_nil Nat.zero_add List.all_cons List.all_nil List.isEmpty_cons List.isEmpty_nil Option.getD_some Option.getD_none List.any_cons List.any_nil List.drop_succ_cons List.drop_zero unfL unf okM okML low3 List.cons_append true_or or_true Nat.zero_mul Nat.zero_le findD_int findD_str  getD_int getD_str getD_bool Option.isSome_map keyD List.length_replicate List.map_replicate setEl List.length_set bytesD_map map_ub mx_len mkZ_one mkZL_one mkM mkML mk1_int mk1_str mk1_bool drop_map take_map take_map_len List.take_length Int.toNat_zero toNat_pred fpOf metIds opIds mvV mvH mvF pickL D.ren D.renL Blk.ren List.map_append List.length_append Bool.not_not Bool.or_not_self Bool.not_or_self Bool.or_true
attribute [local go_sem] Try.tm_1 Try.tm_2 Try.tm_3 Try.tm_4 Try.tm_5 Try.tm_6 Try.tm_7 Try.tm_8 Try.tm_9 Try.tm_10 Try.tm_11 Try.tm_12 Try.tm_13 Try.tm_14 Try.tm_15 Try.tm_16 Try.tm_17 Try.tm_18 Try.tm_19 Try.tm_20 Try.tm_21 Try.tm_22 Try.tm_23 Try.tm_24 Try.tm_25 Try.tm_26 Try.tm_27 Try.tm_28 Try.tm_29 Try.tm_30 Try.tm_32 Try.tm_34 Try.tm_35 Try.tm_36 Try.tm_37 Try.tm_38 Try.tm_39 Try.tm_40 Try.tm_41 Try.tm_42 Try.tm_43 Try.tm_44 Try.tm_45 Try.tm_46 Try.tm_47 Try.tm_48 Try.tm_50 Try.tm_51 Try.tm_52 Try.tm_53 Try.tm_54 Try.tm_55 Try.tm_57 Try.tm_58 Try.tm_59 Try.tm_61 Try.tm_63 Try.tm_64 Try.tm_65 Try.tm_66 Try.tm_67 Try.tm_68 Try.tm_69 Try.tm_70 Try.tm_71 Try.tm_73 Try.tm_75 Try.tm_76 Try.tm_78 Try.tm_79 Try.tm_80 Try.tm_81 Try.tm_82 Try.tm_83 Try.tm_84 Try.tm_85 Try.tm_86 Try.tm_87 Try.tm_88 Try.tm_89 Try.tm_90 Try.tm_91 Try.tm_93 Try.tm_94 Try.tm_95 Try.tm_96 Try.tm_97 Try.tm_98 Try.tm_99 Try.tm_100 Try.tm_101 Try.tm_102 Try.tm_103 Try.tm_104 Try.tm_105 Try.tm_106 Try.tm_107 Try.tm_109 Try.tm_111 Try.tm_113 Try.tm_114 Try.tm_115 Try.tm_116 Try.tm_117 Try.tm_118 Try.tm_119 Try.tm_120 Try.tm_121 Try.tm_123 Try.tm_124 Try.tm_125 Try.tm_127 Try.tm_128 Try.tm_129 Try.tm_130 Try.tm_131 Try.tm_132 Try.tm_133 Try.tm_134 Try.tm_135 Try.tm_136 Try.tm_137 Try.tm_138 Try.tm_139 Try.tm_140 Try.tm_141 Try.tm_142 Try.tm_143 Try.tm_144 Try.tm_145 Try.tm_146 Try.tm_147 Try.tm_149 Try.tm_150 Try.tm_151 Try.tm_152 Try.tm_153 Try.tm_154 Try.tm_155 Try.tm_156 Try.tm_157 Try.tm_158 Try.tm_159 Try.tm_160 Try.tm_162 Try.tm_163 Try.tm_164 Try.tm_165 Try.tm_166 Try.tm_167 Try.tm_168 Try.tm_169 Try.tm_170 Try.tm_171 Try.tm_172 Try.tm_173 Try.tm_175 Try.tm_177 Try.tm_178 Try.tm_179 Try.tm_180 Try.tm_181 Try.tm_182 Try.tm_184 Try.tm_185 Try.tm_187 Try.tm_189 Try.tm_191 Try.tm_192 Try.tm_193 Try.tm_194 Try.tm_195 Try.tm_196 Try.tm_197 Try.tm_198 Try.tm_199 Try.tm_200 Try.tm_201 Try.tm_202 Try.tm_203 Try.tm_204 Try.tm_205 Try.tm_206 Try.tm_207 Try.tm_208 Try.tm_209 Try.tm_210 Try.tm_211 Try.tm_212 Try.tm_213 Try.tm_214 Try.tm_215 Try.tm_216 Try.tm_217 Try.tm_218 Try.tm_219 Try.tm_220 Try.tm_221 Try.tm_223 Try.tm_224 Try.tm_225 Try.tm_226 Try.tm_227 Try.tm_229 Try.tm_230 Try.tm_231 Try.tm_232 Try.tm_233 Try.tm_235 Try.tm_236 Try.tm_237 Try.tm_238 Try.tm_239 Try.tm_240 Try.tm_241 Try.tm_242 Try.tm_243 Try.tm_244 Try.tm_245 Try.tm_246 Try.tm_247 Try.tm_248 Try.tm_249 Try.tm_250 Try.tm_251 Try.tm_252 Try.tm_253 Try.tm_254 Try.tm_255 Try.tm_256 Try.tm_257 Try.tm_258 Try.tm_259 Try.tm_260 Try.tm_262 Try.tm_263 Try.tm_264 Try.tm_265 Try.tm_266 Try.tm_267 Try.tm_269 Try.tm_270 Try.tm_271 Try.tm_272 Try.tm_273 Try.tm_274 Try.tm_275 Try.tm_276 Try.tm_277 Try.tm_278 Try.tm_280 Try.tm_281 Try.tm_282 Try.tm_283 Try.tm_284 Try.tm_286 Try.tm_288 Try.tm_289 Try.tm_290 Try.tm_291 Try.tm_292 Try.tm_294 Try.tm_296 Try.tm_297 Try.tm_298 Try.tm_299 Try.tm_300 Try.tm_302 Try.tm_303 Try.tm_304 Try.tm_305 Try.tm_306 Try.tm_307 Try.tm_308 Try.tm_309 Try.tm_310 Try.tm_311 Try.tm_312 Try.tm_313 Try.tm_314 Try.tm_315 Try.tm_316 Try.tm_317 Try.tm_318 Try.tm_319 Try.tm_320 Try.tm_321 Try.tm_322 Try.tm_324 Try.tm_325 Try.tm_326 Try.tm_327 Try.tm_330 Try.tm_331 Try.tm_332 Try.tm_333 Try.tm_334 Try.tm_335 Try.tm_336 Try.tm_337 TPromise.d TAttempt.d TAttempt.n dL_str nL_str TVote.d TSeen.d TStable.d TStable.n TRecord.d TMessage.d TMessage.n TWait.d TWait.n TStamp.d TSkeen.d TSkeen.n TCommand.d TCommand.n Tskeen_clock.d Tskeen_clock.n mk1_TPromise mk1_TAttempt mk1_dL_str mk1_TVote mk1_TSeen mk1_TStable mk1_TRecord mk1_TMessage mk1_TWait mk1_TStamp mk1_TSkeen mk1_TCommand mk1_Tskeen_clock Try.f237 Try.f85 Try.f90 Try.f84 Try.f88 Try.f231 Try.f95 Try.f180 Try.f78 Try.f97 Try.f187 Try.f96 Try.f233 Try.f86 Try.f189 Try.f102 Try.f217 Try.f89 Try.f101 Try.f103 Try.f87 Try.f98 Try.f79
def Try.St_slices_Index_int_int_1 : St := ⟨[], [], 0⟩
attribute [local go_sem] Try.St_slices_Index_int_int_1
def Try.St_slices_Index_int_int_3 (s : List Int) (v : Int) (n1 : Nat) : St := ⟨[(0, .imm 1 (s.map (D.int .i64)) 4), (1, .int .i64 v), (7, .int .i64 (s.length : Int)), (8, .int .i64 (n1 : Int))], [], 0⟩
attribute [local go_sem] Try.St_slices_Index_int_int_3
theorem callP_slices_Index_int_int (s : List Int) (v : Int) (r : Int) (h : m_slices_Index_int_int s v = some r) : CallP Try.prog 231 [.imm 1 (s.map (D.int .i64)) 4, .int .i64 v] (.int .i64 r) := by
  refine callP_intro Try.tmOk 2 Try.func231 rfl (by decide) rfl rfl (Nat.le_of_ble_eq_true rfl) ?_
  intro hwf
  unfold m_slices_Index_int_int at h
  refine .seq ?_
  refine .pl Try.S [0, 1] ?_
  obtain ⟨x1, hx1, h⟩ := bind_some h
  refine .seqM 0 (fun (j : Unit) => Try.St_slices_Index_int_int_1) (fun j => x1 = (.inr j)) (Nat.le_of_ble_eq_true rfl) ?_ ?_
  · skip
    refine .seq ?_
    refine .pl Try.S [0, 1] ?_
    refine .block ?_
    refine .loopG 0 (fun (j : Nat) => Try.St_slices_Index_int_int_3 s v j) (fun j => j ≤ s.length ∧ m_slices_Index_int_int_loop1 v (s.drop j) j  = some x1) (fun j => s.length - j) (0) (Nat.le_of_ble_eq_true rfl) ?_ ⟨Nat.zero_le _, hx1⟩ ?_
    · skip
      exact .m [0, 1, 7, 8] [] []
    rintro n1 ⟨hi1, hx1⟩
    simp only [Try.St_slices_Index_int_int_3]
    refine .wf 7 (.int .i64 (s.length : Int)) rfl ?_
    intro hln1
    replace hln1 : (s.length : Int) ≤ 9223372036854775807 := by simp only [wf, wfL, IntKind.max, IntKind.min, IntKind.signed, IntKind.bits, List.length_map] at hln1; first | exact hln1.2 | exact hln1.1 | (simp at hln1; omega)
    refine .seq ?_
    refine .pl Try.S [0, 1, 7, 8] ?_
    refine .seq ?_
    refine .cond rfl rfl (fun hc1 => ?_) (fun hc1 => ?_)
    · skip
      have h1 : n1 < s.length := by simpa using hc1
      have hwn1 : wr .i64 ((n1 : Int) + 1) = ((n1 + 1 : Nat) : Int) := wr_succ h1 hln1
      have hpn1 : wr .i64 ((n1 : Int) - 1) = (n1 : Int) - 1 := wr_pred h1 hln1
      rw [List.drop_eq_getElem_cons h1, m_slices_Index_int_int_loop1] at hx1
      refine .skip ?_
      refine .seq ?_
      refine .block ?_
      refine .seq ?_
      refine .plx Try.S hwn1 [0, 1, 7, 8] ?_
      refine .seq ?_
      have e1 := nth_map (D.int .i64) s n1 h1
      refine .plx Try.S (And.intro e1 hwn1) [0, 1, 5, 7, 8] ?_
      refine .cond rfl rfl (fun hc2 => ?_) (fun hc2 => ?_)
      · skip
        replace hx1 := ite_lc hx1 hc2
        refine .seq ?_
        refine .plx Try.S hwn1 [5] ?_
        have hq := Option.some.inj hx1
        subst x1
        try dsimp only at h
        have hq := Option.some.inj h
        subst r
        exact .ret ⟨.inr rfl, rsi⟩
      · skip
        replace hx1 := ite_rc hx1 hc2
        refine .skip ?_
        refine .plx Try.S hwn1 [0, 1, 7, 8] ?_
        refine ⟨n1 + 1, ?_, ⟨by omega, hx1⟩, by dsimp only; omega⟩
        exact .m [0, 1, 7, 8] [] []
    · skip
      have h2 : n1 = s.length := by have h2b := of_decide_eq_false hc1; omega
      rw [List.drop_of_length_le (by omega), m_slices_Index_int_int_loop1] at hx1
      refine .exit ?_
      refine ⟨_, ?_, (Option.some.inj hx1).symm⟩
      exact .m [] [] []
  · skip
    rintro ⟨⟩ hj1
    subst x1
    try dsimp only at h
    simp only [Try.St_slices_Index_int_int_1]
    refine .seq ?_
    refine .pl Try.S [] ?_
    have hq := Option.some.inj h
    subst r
    exact .ret ⟨.inr rfl, rsi⟩
def Try.St_towncrierref01_SameInts_1 : St := ⟨[], [], 0⟩
attribute [local go_sem] Try.St_towncrierref01_SameInts_1
def Try.St_towncrierref01_SameInts_3 (a : List Int) (b : List Int) (n1 : Nat) : St := ⟨[(0, .imm 1 (a.map (D.int .i64)) 4), (1, .imm 1 (b.map (D.int .i64)) 4), (5, .int .i64 (n1 : Int))], [], 0⟩
attribute [local go_sem] Try.St_towncrierref01_SameInts_3
theorem callP_towncrierref01_SameInts (a : List Int) (b : List Int) (r : Bool) (h : m_towncrierref01_SameInts a b = some r) : CallP Try.prog 95 [.imm 1 (a.map (D.int .i64)) 4, .imm 1 (b.map (D.int .i64)) 4] (.bool r) := by
  refine callP_intro Try.tmOk 2 Try.func95 rfl (by decide) rfl rfl (Nat.le_of_ble_eq_true rfl) ?_
  intro hwf
  unfold m_towncrierref01_SameInts at h
  refine .seq ?_
  refine .pl Try.S [0, 1] ?_
  refine .seq ?_
  refine .seq ?_
  refine .pl Try.S [0, 1] ?_
  refine .cond rfl rfl (fun hc1 => ?_) (fun hc1 => ?_)
  · skip
    replace h := ite_lc h hc1
    refine .seq ?_
    refine .pl Try.S [] ?_
    have hq := Option.some.inj h
    subst r
    exact .ret ⟨.inr rfl, rsi⟩
  · skip
    replace h := ite_rc h hc1
    refine .skip ?_
    obtain ⟨x1, hx1, h⟩ := bind_some h
    refine .seqM 0 (fun (j : Unit) => Try.St_towncrierref01_SameInts_1) (fun j => x1 = (.inr j)) (Nat.le_of_ble_eq_true rfl) ?_ ?_
    · skip
      refine .seq ?_
      refine .pl Try.S [0, 1] ?_
      refine .block ?_
      refine .loopG 0 (fun (j : Nat) => Try.St_towncrierref01_SameInts_3 a b j) (fun j => j ≤ a.length ∧ m_towncrierref01_SameInts_loop1 b (a.drop j) j  = some x1) (fun j => a.length - j) (0) (Nat.le_of_ble_eq_true rfl) ?_ ⟨Nat.zero_le _, hx1⟩ ?_
      · skip
        exact .m [0, 1, 5] [] []
      rintro n1 ⟨hi1, hx1⟩
      simp only [Try.St_towncrierref01_SameInts_3]
      refine .wf 0 (.imm 1 (a.map (D.int .i64)) 4) rfl ?_
      intro hln1
      replace hln1 : (a.length : Int) ≤ 9223372036854775807 := by simp only [wf, wfL, IntKind.max, IntKind.min, IntKind.signed, IntKind.bits, List.length_map] at hln1; first | exact hln1.2 | exact hln1.1 | (simp at hln1; omega)
      refine .seq ?_
      refine .seq ?_
      refine .pl Try.S [0, 1, 5] ?_
      refine .cond rfl rfl (fun hc2 => ?_) (fun hc2 => ?_)
      · skip
        have h1 : n1 < a.length := by simpa using hc2
        have hwn1 : wr .i64 ((n1 : Int) + 1) = ((n1 + 1 : Nat) : Int) := wr_succ h1 hln1
        have hpn1 : wr .i64 ((n1 : Int) - 1) = (n1 : Int) - 1 := wr_pred h1 hln1
        rw [List.drop_eq_getElem_cons h1, m_towncrierref01_SameInts_loop1] at hx1
        refine .skip ?_
        refine .seq ?_
        refine .block ?_
        refine .seq ?_
        obtain ⟨k1, hx1⟩ := ite_ck hx1
        have e1 := nth_map (D.int .i64) a n1 h1
        have e2 := nth_mapD (D.int .i64) b n1
        replace e2 := e2 k1
        refine .rg Try.S [0, 1, 5] ?_
        refine .rdx 6 (And.intro e1 (And.intro e2 hwn1)) ?_
        refine .rdx 3 (And.intro e1 (And.intro e2 hwn1)) ?_
        refine .nil ⟨fun _ => schedB_of (by kernel_rfl), ?_⟩
        refine .cond rfl rfl (fun hc3 => ?_) (fun hc3 => ?_)
        · skip
          replace hx1 := ite_lc hx1 hc3
          refine .seq ?_
          refine .plx Try.S hwn1 [] ?_
          have hq := Option.some.inj hx1
          subst x1
          try dsimp only at h
          have hq := Option.some.inj h
          subst r
          exact .ret ⟨.inr rfl, rsi⟩
        · skip
          replace hx1 := ite_rc hx1 hc3
          refine .skip ?_
          refine .plx Try.S hwn1 [0, 1, 5] ?_
          refine ⟨n1 + 1, ?_, ⟨by omega, hx1⟩, by dsimp only; omega⟩
          exact .m [0, 1, 5] [] []
      · skip
        have h2 : n1 = a.length := by have h2b := of_decide_eq_false hc2; omega
        rw [List.drop_of_length_le (by omega), m_towncrierref01_SameInts_loop1] at hx1
        refine .exit ?_
        refine ⟨_, ?_, (Option.some.inj hx1).symm⟩
        exact .m [] [] []
    · skip
      rintro ⟨⟩ hj1
      subst x1
      try dsimp only at h
      simp only [Try.St_towncrierref01_SameInts_1]
      refine .seq ?_
      refine .pl Try.S [] ?_
      have hq := Option.some.inj h
      subst r
      exact .ret ⟨.inr rfl, rsi⟩
theorem callP_slices_Contains_int_int (a0 : List Int) (a1 : Int) (r : Bool) (h : m_slices_Contains_int_int a0 a1 = some r) : CallP Try.prog 180 [.imm 1 (a0.map (D.int .i64)) 4, .int .i64 a1] (.bool r) := by
  refine callP_intro Try.tmOk 2 Try.func180 rfl (by decide) rfl rfl (Nat.le_of_ble_eq_true rfl) ?_
  intro hwf
  unfold m_slices_Contains_int_int at h
  refine .seq ?_
  refine .pl Try.S [0, 1] ?_
  refine .seq ?_
  obtain ⟨v1, hv1, h⟩ := bind_some h
  refine .rg Try.S [0, 1] ?_
  refine .rn 2 ?_
  refine .call (r := .int .i64 v1) rfl rfl rfl rfl rfl rfl (callP_slices_Index_int_int a0 a1 v1 hv1) ?_
  refine .rn 2 ?_
  refine .nil ⟨nofun, ?_⟩
  have hq := Option.some.inj h
  subst r
  exact .ret ⟨.inr rfl, rsi⟩
def Try.St_quorum_Check_1 (n1 : Int) : St := ⟨[(3, .int .i64 n1)], [], 0⟩
attribute [local go_sem] Try.St_quorum_Check_1
def Try.St_quorum_Check_3 (a0 : List Int) (n3 : Nat) (n2 : Int) : St := ⟨[(3, .int .i64 n2), (9, .imm 1 (a0.map (D.int .i64)) 4), (10, .int .i64 (a0.length : Int)), (11, .int .i64 (n3 : Int))], [], 0⟩
attribute [local go_sem] Try.St_quorum_Check_3
theorem callP_quorum_Check (a0 : List Int) (r : Int) (h : m_quorum_Check a0 = some r) : CallP Try.prog 97 [.imm 1 (a0.map (D.int .i64)) 4] (.int .i64 r) := by
  refine callP_intro Try.tmOk 2 Try.func97 rfl (by decide) rfl rfl (Nat.le_of_ble_eq_true rfl) ?_
  intro hwf
  unfold m_quorum_Check at h
  refine .seq ?_
  refine .pl Try.S [0] ?_
  refine .seq ?_
  refine .seq ?_
  refine .pl Try.S [0] ?_
  refine .cond rfl rfl (fun hc1 => ?_) (fun hc1 => ?_)
  · skip
    replace h := ite_lc h hc1
    refine .seq ?_
    refine .pl Try.S [] ?_
    have hq := Option.some.inj h
    subst r
    exact .ret ⟨.inr rfl, rsi⟩
  · skip
    replace h := ite_rc h hc1
    refine .skip ?_
    refine .seq ?_
    refine .pl Try.S [0] ?_
    obtain ⟨x1, hx1, h⟩ := bind_some h
    refine .seqM 0 (fun (j : Int) => Try.St_quorum_Check_1 j) (fun j => x1 = (.inr j)) (Nat.le_of_ble_eq_true rfl) ?_ ?_
    · skip
      refine .seq ?_
      refine .pl Try.S [0, 3] ?_
      refine .block ?_
      refine .loopG 0 (fun (j : Nat × Int) => Try.St_quorum_Check_3 a0 j.1 j.2) (fun j => j.1 ≤ a0.length ∧ m_quorum_Check_loop1 (a0.drop j.1) j.2 = some x1) (fun j => a0.length - j.1) (0, (-1)) (Nat.le_of_ble_eq_true rfl) ?_ ⟨Nat.zero_le _, hx1⟩ ?_
      · skip
        exact .m [3, 9, 10, 11] [] []
      rintro ⟨n3, n2⟩ ⟨hi1, hx1⟩
      simp only [Try.St_quorum_Check_3]
      simp only at hi1 hx1
      refine .wf 10 (.int .i64 (a0.length : Int)) rfl ?_
      intro hln3
      replace hln3 : (a0.length : Int) ≤ 9223372036854775807 := by simp only [wf, wfL, IntKind.max, IntKind.min, IntKind.signed, IntKind.bits, List.length_map] at hln3; first | exact hln3.2 | exact hln3.1 | (simp at hln3; omega)
      refine .seq ?_
      refine .pl Try.S [3, 9, 10, 11] ?_
      refine .seq ?_
      refine .cond rfl rfl (fun hc2 => ?_) (fun hc2 => ?_)
      · skip
        have h1 : n3 < a0.length := by simpa using hc2
        have hwn3 : wr .i64 ((n3 : Int) + 1) = ((n3 + 1 : Nat) : Int) := wr_succ h1 hln3
        have hpn3 : wr .i64 ((n3 : Int) - 1) = (n3 : Int) - 1 := wr_pred h1 hln3
        rw [List.drop_eq_getElem_cons h1, m_quorum_Check_loop1] at hx1
        refine .skip ?_
        refine .seq ?_
        refine .block ?_
        refine .seq ?_
        have e1 := nth_map (D.int .i64) a0 n3 h1
        refine .plx Try.S (And.intro e1 hwn3) [3, 9, 10, 11] ?_
        refine .seq ?_
        refine .seq ?_
        refine .plx Try.S hwn3 [3, 5, 9, 10, 11] ?_
        refine .cond rfl rfl (fun hc3 => ?_) (fun hc3 => ?_)
        · skip
          replace hx1 := ite_lc hx1 hc3
          refine .seq ?_
          refine .plx Try.S hwn3 [] ?_
          have hq := Option.some.inj hx1
          subst x1
          try dsimp only at h
          have hq := Option.some.inj h
          subst r
          exact .ret ⟨.inr rfl, rsi⟩
        · skip
          replace hx1 := ite_rc hx1 hc3
          refine .skip ?_
          refine .plx Try.S hwn3 [5, 9, 10, 11] ?_
          refine .plx Try.S hwn3 [3, 9, 10, 11] ?_
          refine ⟨(n3 + 1, _), ?_, ⟨by omega, hx1⟩, by dsimp only; omega⟩
          exact .m [3, 9, 10, 11] [] []
      · skip
        have h2 : n3 = a0.length := by have h2b := of_decide_eq_false hc2; omega
        rw [List.drop_of_length_le (by omega), m_quorum_Check_loop1] at hx1
        refine .exit ?_
        refine ⟨_, ?_, (Option.some.inj hx1).symm⟩
        exact .m [3] [] []
    · skip
      rintro n1 hj1
      subst x1
      try dsimp only at h
      simp only [Try.St_quorum_Check_1]
      refine .seq ?_
      refine .seq ?_
      refine .pl Try.S [3] ?_
      refine .cond rfl rfl (fun hc4 => ?_) (fun hc4 => ?_)
      · skip
        replace h := ite_lc h hc4
        refine .seq ?_
        refine .pl Try.S [] ?_
        have hq := Option.some.inj h
        subst r
        exact .ret ⟨.inr rfl, rsi⟩
      · skip
        replace h := ite_rc h hc4
        refine .skip ?_
        refine .seq ?_
        refine .pl Try.S [] ?_
        have hq := Option.some.inj h
        subst r
        exact .ret ⟨.inr rfl, rsi⟩
end Go.Proofs
end
section
namespace Go.Proofs
open Go.Tm
set_option linter.unusedVariables false
def m_slices_Equal_int_int_loop1 (a1 : List Int) : List Int → Nat → Option (Bool ⊕ Unit)
  | [], n1 =>
    some (.inr ())
  | y1 :: rest1, n1 =>
    if n1 < a1.length then
    if ¬ (y1 = (a1.getD n1 default)) then
    some (.inl false)
    else
    m_slices_Equal_int_int_loop1 a1 rest1 (n1 + 1) 
    else none
def m_slices_Equal_int_int (a0 : List Int) (a1 : List Int) : Option Bool :=
  if ¬ ((a0.length : Int) = (a1.length : Int)) then
  some false
  else
  Option.bind (α := Bool ⊕ Unit) (m_slices_Equal_int_int_loop1 a1 a0 0 ) fun z => match z with
  | (.inl r) => some r
  | (.inr _) =>
  some true
end Go.Proofs
end
section
namespace Go.Proofs
open Go.Tm Go.RowKit Go.WideShapes
set_option maxRecDepth 100000
set_option maxHeartbeats 4000000
set_option linter.unusedSimpArgs false
set_option linter.unusedVariables false
attribute [local go_sem] argVars runE runK isCallV stepE aop opd opdsL opds opdO ev ofVal keep List.any natbeq Bool.false_or Bool.true_or aggEq cond_true cond_false Bool.cond_false_right Bool.cond_true_left beq_true beq_false imp_self implies_true getR getL put St.app effL del nwB blt_dec Nat.lt_irrefl Nat.lt_add_one ble_dec Nat.le_refl Nat.beq_refl roomNZ appendIn capS capK mkZ_zero mkZL_zero zeroEl D.ids D.idsL bin arith sarith binT dpick Tm.part splice fillD oneD loadD storeD srcD sliceD idxOk decide_true gval dstAt D.cells List.map_cons List.map_nil List.take List.drop List.length_map List.append Int.toNat_natCast and_true true_and decide_false List.length_cons List.length_nil List.append_nil List.nil_append Bool.and_true Bool.true_and Bool.not_false Bool.not_true ne_eq not_false_eq_true BEq.rfl List.getElem?_cons_zero List.getElem?_cons_succ List.getElem?_nil Nat.zero_add List.all_cons List.all_nil List.isEmpty_cons List.isEmpty_nil Option.getD_some Option.getD_none List.any_cons List.any_nil List.drop_succ_cons List.drop_zero unfL unf okM okML low3 List.cons_append true_or or_true Nat.zero_mul Nat.zero_le findD_int findD_str  getD_int getD_str getD_bool Option.isSome_map keyD List.length_replicate List.map_replicate setEl List.length_set bytesD_map map_ub mx_len mkZ_one mkZL_one mkM mkML mk1_int mk1_str mk1_bool drop_map take_map take_map_len List.take_length Int.toNat_zero toNat_pred fpOf metIds opIds mvV mvH mvF pickL D.ren D.renL Blk.ren List.map_append List.length_append Bool.not_not Bool.or_not_self Bool.not_or_self Bool.or_true
attribute [local go_sem] Try.tm_1 Try.tm_2 Try.tm_3 Try.tm_4 Try.tm_5 Try.tm_6 Try.tm_7 Try.tm_8 Try.tm_9 Try.tm_10 Try.tm_11 Try.tm_12 Try.tm_13 Try.tm_14 Try.tm_15 Try.tm_16 Try.tm_17 Try.tm_18 Try.tm_19 Try.tm_20 Try.tm_21 Try.tm_22 Try.tm_23 Try.tm_24 Try.tm_25 Try.tm_26 Try.tm_27 Try.tm_28 Try.tm_29 Try.tm_30 Try.tm_32 Try.tm_34 Try.tm_35 Try.tm_36 Try.tm_37 Try.tm_38 Try.tm_39 Try.tm_40 Try.tm_41 Try.tm_42 Try.tm_43 Try.tm_44 Try.tm_45 Try.tm_46 Try.tm_47 Try.tm_48 Try.tm_50 Try.tm_51 Try.tm_52 Try.tm_53 Try.tm_54 Try.tm_55 Try.tm_57 Try.tm_58 Try.tm_59 Try.tm_61 Try.tm_63 Try.tm_64 Try.tm_65 Try.tm_66 Try.tm_67 Try.tm_68 Try.tm_69 Try.tm_70 Try.tm_71 Try.tm_73 Try.tm_75 Try.tm_76 Try.tm_78 Try.tm_79 Try.tm_80 Try.tm_81 Try.tm_82 Try.tm_83 Try.tm_84 Try.tm_85 Try.tm_86 Try.tm_87 Try.tm_88 Try.tm_89 Try.tm_90 Try.tm_91 Try.tm_93 Try.tm_94 Try.tm_95 Try.tm_96 Try.tm_97 Try.tm_98 Try.tm_99 Try.tm_100 Try.tm_101 Try.tm_102 Try.tm_103 Try.tm_104 Try.tm_105 Try.tm_106 Try.tm_107 Try.tm_109 Try.tm_111 Try.tm_113 Try.tm_114 Try.tm_115 Try.tm_116 Try.tm_117 Try.tm_118 Try.tm_119 Try.tm_120 Try.tm_121 Try.tm_123 Try.tm_124 Try.tm_125 Try.tm_127 Try.tm_128 Try.tm_129 Try.tm_130 Try.tm_131 Try.tm_132 Try.tm_133 Try.tm_134 Try.tm_135 Try.tm_136 Try.tm_137 Try.tm_138 Try.tm_139 Try.tm_140 Try.tm_141 Try.tm_142 Try.tm_143 Try.tm_144 Try.tm_145 Try.tm_146 Try.tm_147 Try.tm_149 Try.tm_150 Try.tm_151 Try.tm_152 Try.tm_153 Try.tm_154 Try.tm_155 Try.tm_156 Try.tm_157 Try.tm_158 Try.tm_159 Try.tm_160 Try.tm_162 Try.tm_163 Try.tm_164 Try.tm_165 Try.tm_166 Try.tm_167 Try.tm_168 Try.tm_169 Try.tm_170 Try.tm_171 Try.tm_172 Try.tm_173 Try.tm_175 Try.tm_177 Try.tm_178 Try.tm_179 Try.tm_180 Try.tm_181 Try.tm_182 Try.tm_184 Try.tm_185 Try.tm_187 Try.tm_189 Try.tm_191 Try.tm_192 Try.tm_193 Try.tm_194 Try.tm_195 Try.tm_196 Try.tm_197 Try.tm_198 Try.tm_199 Try.tm_200 Try.tm_201 Try.tm_202 Try.tm_203 Try.tm_204 Try.tm_205 Try.tm_206 Try.tm_207 Try.tm_208 Try.tm_209 Try.tm_210 Try.tm_211 Try.tm_212 Try.tm_213 Try.tm_214 Try.tm_215 Try.tm_216 Try.tm_217 Try.tm_218 Try.tm_219 Try.tm_220 Try.tm_221 Try.tm_223 Try.tm_224 Try.tm_225 Try.tm_226 Try.tm_227 Try.tm_229 Try.tm_230 Try.tm_231 Try.tm_232 Try.tm_233 Try.tm_235 Try.tm_236 Try.tm_237 Try.tm_238 Try.tm_239 Try.tm_240 Try.tm_241 Try.tm_242 Try.tm_243 Try.tm_244 Try.tm_245 Try.tm_246 Try.tm_247 Try.tm_248 Try.tm_249 Try.tm_250 Try.tm_251 Try.tm_252 Try.tm_253 Try.tm_254 Try.tm_255 Try.tm_256 Try.tm_257 Try.tm_258 Try.tm_259 Try.tm_260 Try.tm_262 Try.tm_263 Try.tm_264 Try.tm_265 Try.tm_266 Try.tm_267 Try.tm_269 Try.tm_270 Try.tm_271 Try.tm_272 Try.tm_273 Try.tm_274 Try.tm_275 Try.tm_276 Try.tm_277 Try.tm_278 Try.tm_280 Try.tm_281 Try.tm_282 Try.tm_283 Try.tm_284 Try.tm_286 Try.tm_288 Try.tm_289 Try.tm_290 Try.tm_291 Try.tm_292 Try.tm_294 Try.tm_296 Try.tm_297 Try.tm_298 Try.tm_299 Try.tm_300 Try.tm_302 Try.tm_303 Try.tm_304 Try.tm_305 Try.tm_306 Try.tm_307 Try.tm_308 Try.tm_309 Try.tm_310 Try.tm_311 Try.tm_312 Try.tm_313 Try.tm_314 Try.tm_315 Try.tm_316 Try.tm_317 Try.tm_318 Try.tm_319 Try.tm_320 Try.tm_321 Try.tm_322 Try.tm_324 Try.tm_325 Try.tm_326 Try.tm_327 Try.tm_330 Try.tm_331 Try.tm_332 Try.tm_333 Try.tm_334 Try.tm_335 Try.tm_336 Try.tm_337 TPromise.d TAttempt.d TAttempt.n dL_str nL_str TVote.d TSeen.d TStable.d TStable.n TRecord.d TMessage.d TMessage.n TWait.d TWait.n TStamp.d TSkeen.d TSkeen.n TCommand.d TCommand.n Tskeen_clock.d Tskeen_clock.n mk1_TPromise mk1_TAttempt mk1_dL_str mk1_TVote mk1_TSeen mk1_TStable mk1_TRecord mk1_TMessage mk1_TWait mk1_TStamp mk1_TSkeen mk1_TCommand mk1_Tskeen_clock Try.f104 Try.f105 Try.f188 Try.f99 Try.f80 Try.f184 Try.f91
def Try.St_slices_Equal_int_int_1 : St := ⟨[], [], 0⟩
attribute [local go_sem] Try.St_slices_Equal_int_int_1
def Try.St_slices_Equal_int_int_3 (a0 : List Int) (a1 : List Int) (n1 : Nat) : St := ⟨[(0, .imm 1 (a0.map (D.int .i64)) 4), (1, .imm 1 (a1.map (D.int .i64)) 4), (12, .int .i64 (a0.length : Int)), (13, .int .i64 (n1 : Int))], [], 0⟩
attribute [local go_sem] Try.St_slices_Equal_int_int_3
theorem callP_slices_Equal_int_int (a0 : List Int) (a1 : List Int) (r : Bool) (h : m_slices_Equal_int_int a0 a1 = some r) : CallP Try.prog 104 [.imm 1 (a0.map (D.int .i64)) 4, .imm 1 (a1.map (D.int .i64)) 4] (.bool r) := by
  refine callP_intro Try.tmOk 2 Try.func104 rfl (by decide) rfl rfl (Nat.le_of_ble_eq_true rfl) ?_
  intro hwf
  unfold m_slices_Equal_int_int at h
  refine .seq ?_
  refine .pl Try.S [0, 1] ?_
  refine .seq ?_
  refine .seq ?_
  refine .pl Try.S [0, 1] ?_
  refine .cond rfl rfl (fun hc1 => ?_) (fun hc1 => ?_)
  · skip
    replace h := ite_lc h hc1
    refine .seq ?_
    refine .pl Try.S [] ?_
    have hq := Option.some.inj h
    subst r
    exact .ret ⟨.inr rfl, rsi⟩
  · skip
    replace h := ite_rc h hc1
    refine .skip ?_
    obtain ⟨x1, hx1, h⟩ := bind_some h
    refine .seqM 0 (fun (j : Unit) => Try.St_slices_Equal_int_int_1) (fun j => x1 = (.inr j)) (Nat.le_of_ble_eq_true rfl) ?_ ?_
    · skip
      refine .seq ?_
      refine .pl Try.S [0, 1] ?_
      refine .block ?_
      refine .loopG 0 (fun (j : Nat) => Try.St_slices_Equal_int_int_3 a0 a1 j) (fun j => j ≤ a0.length ∧ m_slices_Equal_int_int_loop1 a1 (a0.drop j) j  = some x1) (fun j => a0.length - j) (0) (Nat.le_of_ble_eq_true rfl) ?_ ⟨Nat.zero_le _, hx1⟩ ?_
      · skip
        exact .m [0, 1, 12, 13] [] []
      rintro n1 ⟨hi1, hx1⟩
      simp only [Try.St_slices_Equal_int_int_3]
      refine .wf 12 (.int .i64 (a0.length : Int)) rfl ?_
      intro hln1
      replace hln1 : (a0.length : Int) ≤ 9223372036854775807 := by simp only [wf, wfL, IntKind.max, IntKind.min, IntKind.signed, IntKind.bits, List.length_map] at hln1; first | exact hln1.2 | exact hln1.1 | (simp at hln1; omega)
      refine .seq ?_
      refine .pl Try.S [0, 1, 12, 13] ?_
      refine .seq ?_
      refine .cond rfl rfl (fun hc2 => ?_) (fun hc2 => ?_)
      · skip
        have h1 : n1 < a0.length := by simpa using hc2
        have hwn1 : wr .i64 ((n1 : Int) + 1) = ((n1 + 1 : Nat) : Int) := wr_succ h1 hln1
        have hpn1 : wr .i64 ((n1 : Int) - 1) = (n1 : Int) - 1 := wr_pred h1 hln1
        rw [List.drop_eq_getElem_cons h1, m_slices_Equal_int_int_loop1] at hx1
        refine .skip ?_
        refine .seq ?_
        refine .block ?_
        refine .seq ?_
        refine .plx Try.S hwn1 [0, 1, 12, 13] ?_
        refine .seq ?_
        obtain ⟨k1, hx1⟩ := ite_ck hx1
        have e1 := nth_map (D.int .i64) a0 n1 h1
        have e2 := nth_mapD (D.int .i64) a1 n1
        replace e2 := e2 k1
        refine .rg Try.S [0, 1, 5, 12, 13] ?_
        refine .rdx 6 (And.intro e1 (And.intro e2 hwn1)) ?_
        refine .rdx 3 (And.intro e1 (And.intro e2 hwn1)) ?_
        refine .nil ⟨fun _ => schedB_of (by kernel_rfl), ?_⟩
        refine .cond rfl rfl (fun hc3 => ?_) (fun hc3 => ?_)
        · skip
          replace hx1 := ite_lc hx1 hc3
          refine .seq ?_
          refine .plx Try.S hwn1 [] ?_
          have hq := Option.some.inj hx1
          subst x1
          try dsimp only at h
          have hq := Option.some.inj h
          subst r
          exact .ret ⟨.inr rfl, rsi⟩
        · skip
          replace hx1 := ite_rc hx1 hc3
          refine .skip ?_
          refine .plx Try.S hwn1 [0, 1, 12, 13] ?_
          refine ⟨n1 + 1, ?_, ⟨by omega, hx1⟩, by dsimp only; omega⟩
          exact .m [0, 1, 12, 13] [] []
      · skip
        have h2 : n1 = a0.length := by have h2b := of_decide_eq_false hc2; omega
        rw [List.drop_of_length_le (by omega), m_slices_Equal_int_int_loop1] at hx1
        refine .exit ?_
        refine ⟨_, ?_, (Option.some.inj hx1).symm⟩
        exact .m [] [] []
    · skip
      rintro ⟨⟩ hj1
      subst x1
      try dsimp only at h
      simp only [Try.St_slices_Equal_int_int_1]
      refine .seq ?_
      refine .pl Try.S [] ?_
      have hq := Option.some.inj h
      subst r
      exact .ret ⟨.inr rfl, rsi⟩
end Go.Proofs
end
section
namespace Go.Proofs
open Go.Tm
set_option linter.unusedVariables false
end Go.Proofs
end
section
namespace Go.Proofs
open Go.Tm Go.RowKit Go.WideShapes
set_option maxRecDepth 100000
set_option maxHeartbeats 4000000
set_option linter.unusedSimpArgs false
set_option linter.unusedVariables false
attribute [local go_sem] argVars runE runK isCallV stepE aop opd opdsL opds opdO ev ofVal keep List.any natbeq Bool.false_or Bool.true_or aggEq cond_true cond_false Bool.cond_false_right Bool.cond_true_left beq_true beq_false imp_self implies_true getR getL put St.app effL del nwB blt_dec Nat.lt_irrefl Nat.lt_add_one ble_dec Nat.le_refl Nat.beq_refl roomNZ appendIn capS capK mkZ_zero mkZL_zero zeroEl D.ids D.idsL bin arith sarith binT dpick Tm.part splice fillD oneD loadD storeD srcD sliceD idxOk decide_true gval dstAt D.cells List.map_cons List.map_nil List.take List.drop List.length_map List.append Int.toNat_natCast and_true true_and decide_false List.length_cons List.length_nil List.append_nil List.nil_append Bool.and_true Bool.true_and Bool.not_false Bool.not_true ne_eq not_false_eq_true BEq.rfl List.getElem?_cons_zero List.getElem?_cons_succ List.getElem?_nil Nat.zero_add List.all_cons List.all_nil List.isEmpty_cons List.isEmpty_nil Option.getD_some Option.getD_none List.any_cons List.any_nil List.drop_succ_cons List.drop_zero unfL unf okM okML low3 List.cons_append true_or or_true Nat.zero_mul Nat.zero_le findD_int findD_str  getD_int getD_str getD_bool Option.isSome_map keyD List.length_replicate List.map_replicate setEl List.length_set bytesD_map map_ub mx_len mkZ_one mkZL_one mkM mkML mk1_int mk1_str mk1_bool drop_map take_map take_map_len List.take_length Int.toNat_zero toNat_pred fpOf metIds opIds mvV mvH mvF pickL D.ren D.renL Blk.ren List.map_append List.length_append Bool.not_not Bool.or_not_self Bool.not_or_self Bool.or_true
attribute [local go_sem] Try.tm_1 Try.tm_2 Try.tm_3 Try.tm_4 Try.tm_5 Try.tm_6 Try.tm_7 Try.tm_8 Try.tm_9 Try.tm_10 Try.tm_11 Try.tm_12 Try.tm_13 Try.tm_14 Try.tm_15 Try.tm_16 Try.tm_17 Try.tm_18 Try.tm_19 Try.tm_20 Try.tm_21 Try.tm_22 Try.tm_23 Try.tm_24 Try.tm_25 Try.tm_26 Try.tm_27 Try.tm_28 Try.tm_29 Try.tm_30 Try.tm_32 Try.tm_34 Try.tm_35 Try.tm_36 Try.tm_37 Try.tm_38 Try.tm_39 Try.tm_40 Try.tm_41 Try.tm_42 Try.tm_43 Try.tm_44 Try.tm_45 Try.tm_46 Try.tm_47 Try.tm_48 Try.tm_50 Try.tm_51 Try.tm_52 Try.tm_53 Try.tm_54 Try.tm_55 Try.tm_57 Try.tm_58 Try.tm_59 Try.tm_61 Try.tm_63 Try.tm_64 Try.tm_65 Try.tm_66 Try.tm_67 Try.tm_68 Try.tm_69 Try.tm_70 Try.tm_71 Try.tm_73 Try.tm_75 Try.tm_76 Try.tm_78 Try.tm_79 Try.tm_80 Try.tm_81 Try.tm_82 Try.tm_83 Try.tm_84 Try.tm_85 Try.tm_86 Try.tm_87 Try.tm_88 Try.tm_89 Try.tm_90 Try.tm_91 Try.tm_93 Try.tm_94 Try.tm_95 Try.tm_96 Try.tm_97 Try.tm_98 Try.tm_99 Try.tm_100 Try.tm_101 Try.tm_102 Try.tm_103 Try.tm_104 Try.tm_105 Try.tm_106 Try.tm_107 Try.tm_109 Try.tm_111 Try.tm_113 Try.tm_114 Try.tm_115 Try.tm_116 Try.tm_117 Try.tm_118 Try.tm_119 Try.tm_120 Try.tm_121 Try.tm_123 Try.tm_124 Try.tm_125 Try.tm_127 Try.tm_128 Try.tm_129 Try.tm_130 Try.tm_131 Try.tm_132 Try.tm_133 Try.tm_134 Try.tm_135 Try.tm_136 Try.tm_137 Try.tm_138 Try.tm_139 Try.tm_140 Try.tm_141 Try.tm_142 Try.tm_143 Try.tm_144 Try.tm_145 Try.tm_146 Try.tm_147 Try.tm_149 Try.tm_150 Try.tm_151 Try.tm_152 Try.tm_153 Try.tm_154 Try.tm_155 Try.tm_156 Try.tm_157 Try.tm_158 Try.tm_159 Try.tm_160 Try.tm_162 Try.tm_163 Try.tm_164 Try.tm_165 Try.tm_166 Try.tm_167 Try.tm_168 Try.tm_169 Try.tm_170 Try.tm_171 Try.tm_172 Try.tm_173 Try.tm_175 Try.tm_177 Try.tm_178 Try.tm_179 Try.tm_180 Try.tm_181 Try.tm_182 Try.tm_184 Try.tm_185 Try.tm_187 Try.tm_189 Try.tm_191 Try.tm_192 Try.tm_193 Try.tm_194 Try.tm_195 Try.tm_196 Try.tm_197 Try.tm_198 Try.tm_199 Try.tm_200 Try.tm_201 Try.tm_202 Try.tm_203 Try.tm_204 Try.tm_205 Try.tm_206 Try.tm_207 Try.tm_208 Try.tm_209 Try.tm_210 Try.tm_211 Try.tm_212 Try.tm_213 Try.tm_214 Try.tm_215 Try.tm_216 Try.tm_217 Try.tm_218 Try.tm_219 Try.tm_220 Try.tm_221 Try.tm_223 Try.tm_224 Try.tm_225 Try.tm_226 Try.tm_227 Try.tm_229 Try.tm_230 Try.tm_231 Try.tm_232 Try.tm_233 Try.tm_235 Try.tm_236 Try.tm_237 Try.tm_238 Try.tm_239 Try.tm_240 Try.tm_241 Try.tm_242 Try.tm_243 Try.tm_244 Try.tm_245 Try.tm_246 Try.tm_247 Try.tm_248 Try.tm_249 Try.tm_250 Try.tm_251 Try.tm_252 Try.tm_253 Try.tm_254 Try.tm_255 Try.tm_256 Try.tm_257 Try.tm_258 Try.tm_259 Try.tm_260 Try.tm_262 Try.tm_263 Try.tm_264 Try.tm_265 Try.tm_266 Try.tm_267 Try.tm_269 Try.tm_270 Try.tm_271 Try.tm_272 Try.tm_273 Try.tm_274 Try.tm_275 Try.tm_276 Try.tm_277 Try.tm_278 Try.tm_280 Try.tm_281 Try.tm_282 Try.tm_283 Try.tm_284 Try.tm_286 Try.tm_288 Try.tm_289 Try.tm_290 Try.tm_291 Try.tm_292 Try.tm_294 Try.tm_296 Try.tm_297 Try.tm_298 Try.tm_299 Try.tm_300 Try.tm_302 Try.tm_303 Try.tm_304 Try.tm_305 Try.tm_306 Try.tm_307 Try.tm_308 Try.tm_309 Try.tm_310 Try.tm_311 Try.tm_312 Try.tm_313 Try.tm_314 Try.tm_315 Try.tm_316 Try.tm_317 Try.tm_318 Try.tm_319 Try.tm_320 Try.tm_321 Try.tm_322 Try.tm_324 Try.tm_325 Try.tm_326 Try.tm_327 Try.tm_330 Try.tm_331 Try.tm_332 Try.tm_333 Try.tm_334 Try.tm_335 Try.tm_336 Try.tm_337 TPromise.d TAttempt.d TAttempt.n dL_str nL_str TVote.d TSeen.d TStable.d TStable.n TRecord.d TMessage.d TMessage.n TWait.d TWait.n TStamp.d TSkeen.d TSkeen.n TCommand.d TCommand.n Tskeen_clock.d Tskeen_clock.n mk1_TPromise mk1_TAttempt mk1_dL_str mk1_TVote mk1_TSeen mk1_TStable mk1_TRecord mk1_TMessage mk1_TWait mk1_TStamp mk1_TSkeen mk1_TCommand mk1_Tskeen_clock Try.f257 Try.f234
end Go.Proofs
end
section
namespace Go.Proofs
open Go.Tm
set_option linter.unusedVariables false
end Go.Proofs
end
section
namespace Go.Proofs
open Go.Tm Go.RowKit Go.WideShapes
set_option maxRecDepth 100000
set_option maxHeartbeats 4000000
set_option linter.unusedSimpArgs false
set_option linter.unusedVariables false
attribute [local go_sem] argVars runE runK isCallV stepE aop opd opdsL opds opdO ev ofVal keep List.any natbeq Bool.false_or Bool.true_or aggEq cond_true cond_false Bool.cond_false_right Bool.cond_true_left beq_true beq_false imp_self implies_true getR getL put St.app effL del nwB blt_dec Nat.lt_irrefl Nat.lt_add_one ble_dec Nat.le_refl Nat.beq_refl roomNZ appendIn capS capK mkZ_zero mkZL_zero zeroEl D.ids D.idsL bin arith sarith binT dpick Tm.part splice fillD oneD loadD storeD srcD sliceD idxOk decide_true gval dstAt D.cells List.map_cons List.map_nil List.take List.drop List.length_map List.append Int.toNat_natCast and_true true_and decide_false List.length_cons List.length_nil List.append_nil List.nil_append Bool.and_true Bool.true_and Bool.not_false Bool.not_true ne_eq not_false_eq_true BEq.rfl List.getElem?_cons_zero List.getElem?_cons_succ List.getElem?_nil Nat.zero_add List.all_cons List.all_nil List.isEmpty_cons List.isEmpty_nil Option.getD_some Option.getD_none List.any_cons List.any_nil List.drop_succ_cons List.drop_zero unfL unf okM okML low3 List.cons_append true_or or_true Nat.zero_mul Nat.zero_le findD_int findD_str  getD_int getD_str getD_bool Option.isSome_map keyD List.length_replicate List.map_replicate setEl List.length_set bytesD_map map_ub mx_len mkZ_one mkZL_one mkM mkML mk1_int mk1_str mk1_bool drop_map take_map take_map_len List.take_length Int.toNat_zero toNat_pred fpOf metIds opIds mvV mvH mvF pickL D.ren D.renL Blk.ren List.map_append List.length_append Bool.not_not Bool.or_not_self Bool.not_or_self Bool.or_true
attribute [local go_sem] Try.tm_1 Try.tm_2 Try.tm_3 Try.tm_4 Try.tm_5 Try.tm_6 Try.tm_7 Try.tm_8 Try.tm_9 Try.tm_10 Try.tm_11 Try.tm_12 Try.tm_13 Try.tm_14 Try.tm_15 Try.tm_16 Try.tm_17 Try.tm_18 Try.tm_19 Try.tm_20 Try.tm_21 Try.tm_22 Try.tm_23 Try.tm_24 Try.tm_25 Try.tm_26 Try.tm_27 Try.tm_28 Try.tm_29 Try.tm_30 Try.tm_32 Try.tm_34 Try.tm_35 Try.tm_36 Try.tm_37 Try.tm_38 Try.tm_39 Try.tm_40 Try.tm_41 Try.tm_42 Try.tm_43 Try.tm_44 Try.tm_45 Try.tm_46 Try.tm_47 Try.tm_48 Try.tm_50 Try.tm_51 Try.tm_52 Try.tm_53 Try.tm_54 Try.tm_55 Try.tm_57 Try.tm_58 Try.tm_59 Try.tm_61 Try.tm_63 Try.tm_64 Try.tm_65 Try.tm_66 Try.tm_67 Try.tm_68 Try.tm_69 Try.tm_70 Try.tm_71 Try.tm_73 Try.tm_75 Try.tm_76 Try.tm_78 Try.tm_79 Try.tm_80 Try.tm_81 Try.tm_82 Try.tm_83 Try.tm_84 Try.tm_85 Try.tm_86 Try.tm_87 Try.tm_88 Try.tm_89 Try.tm_90 Try.tm_91 Try.tm_93 Try.tm_94 Try.tm_95 Try.tm_96 Try.tm_97 Try.tm_98 Try.tm_99 Try.tm_100 Try.tm_101 Try.tm_102 Try.tm_103 Try.tm_104 Try.tm_105 Try.tm_106 Try.tm_107 Try.tm_109 Try.tm_111 Try.tm_113 Try.tm_114 Try.tm_115 Try.tm_116 Try.tm_117 Try.tm_118 Try.tm_119 Try.tm_120 Try.tm_121 Try.tm_123 Try.tm_124 Try.tm_125 Try.tm_127 Try.tm_128 Try.tm_129 Try.tm_130 Try.tm_131 Try.tm_132 Try.tm_133 Try.tm_134 Try.tm_135 Try.tm_136 Try.tm_137 Try.tm_138 Try.tm_139 Try.tm_140 Try.tm_141 Try.tm_142 Try.tm_143 Try.tm_144 Try.tm_145 Try.tm_146 Try.tm_147 Try.tm_149 Try.tm_150 Try.tm_151 Try.tm_152 Try.tm_153 Try.tm_154 Try.tm_155 Try.tm_156 Try.tm_157 Try.tm_158 Try.tm_159 Try.tm_160 Try.tm_162 Try.tm_163 Try.tm_164 Try.tm_165 Try.tm_166 Try.tm_167 Try.tm_168 Try.tm_169 Try.tm_170 Try.tm_171 Try.tm_172 Try.tm_173 Try.tm_175 Try.tm_177 Try.tm_178 Try.tm_179 Try.tm_180 Try.tm_181 Try.tm_182 Try.tm_184 Try.tm_185 Try.tm_187 Try.tm_189 Try.tm_191 Try.tm_192 Try.tm_193 Try.tm_194 Try.tm_195 Try.tm_196 Try.tm_197 Try.tm_198 Try.tm_199 Try.tm_200 Try.tm_201 Try.tm_202 Try.tm_203 Try.tm_204 Try.tm_205 Try.tm_206 Try.tm_207 Try.tm_208 Try.tm_209 Try.tm_210 Try.tm_211 Try.tm_212 Try.tm_213 Try.tm_214 Try.tm_215 Try.tm_216 Try.tm_217 Try.tm_218 Try.tm_219 Try.tm_220 Try.tm_221 Try.tm_223 Try.tm_224 Try.tm_225 Try.tm_226 Try.tm_227 Try.tm_229 Try.tm_230 Try.tm_231 Try.tm_232 Try.tm_233 Try.tm_235 Try.tm_236 Try.tm_237 Try.tm_238 Try.tm_239 Try.tm_240 Try.tm_241 Try.tm_242 Try.tm_243 Try.tm_244 Try.tm_245 Try.tm_246 Try.tm_247 Try.tm_248 Try.tm_249 Try.tm_250 Try.tm_251 Try.tm_252 Try.tm_253 Try.tm_254 Try.tm_255 Try.tm_256 Try.tm_257 Try.tm_258 Try.tm_259 Try.tm_260 Try.tm_262 Try.tm_263 Try.tm_264 Try.tm_265 Try.tm_266 Try.tm_267 Try.tm_269 Try.tm_270 Try.tm_271 Try.tm_272 Try.tm_273 Try.tm_274 Try.tm_275 Try.tm_276 Try.tm_277 Try.tm_278 Try.tm_280 Try.tm_281 Try.tm_282 Try.tm_283 Try.tm_284 Try.tm_286 Try.tm_288 Try.tm_289 Try.tm_290 Try.tm_291 Try.tm_292 Try.tm_294 Try.tm_296 Try.tm_297 Try.tm_298 Try.tm_299 Try.tm_300 Try.tm_302 Try.tm_303 Try.tm_304 Try.tm_305 Try.tm_306 Try.tm_307 Try.tm_308 Try.tm_309 Try.tm_310 Try.tm_311 Try.tm_312 Try.tm_313 Try.tm_314 Try.tm_315 Try.tm_316 Try.tm_317 Try.tm_318 Try.tm_319 Try.tm_320 Try.tm_321 Try.tm_322 Try.tm_324 Try.tm_325 Try.tm_326 Try.tm_327 Try.tm_330 Try.tm_331 Try.tm_332 Try.tm_333 Try.tm_334 Try.tm_335 Try.tm_336 Try.tm_337 TPromise.d TAttempt.d TAttempt.n dL_str nL_str TVote.d TSeen.d TStable.d TStable.n TRecord.d TMessage.d TMessage.n TWait.d TWait.n TStamp.d TSkeen.d TSkeen.n TCommand.d TCommand.n Tskeen_clock.d Tskeen_clock.n mk1_TPromise mk1_TAttempt mk1_dL_str mk1_TVote mk1_TSeen mk1_TStable mk1_TRecord mk1_TMessage mk1_TWait mk1_TStamp mk1_TSkeen mk1_TCommand mk1_Tskeen_clock Try.f235 Try.f183 Try.f83 Try.f24 Try.f21 Try.f15
end Go.Proofs
end
section
namespace Go.Proofs
open Go.Tm
set_option linter.unusedVariables false
end Go.Proofs
end
section
namespace Go.Proofs
open Go.Tm Go.RowKit Go.WideShapes
set_option maxRecDepth 100000
set_option maxHeartbeats 4000000
set_option linter.unusedSimpArgs false
set_option linter.unusedVariables false
attribute [local go_sem] argVars runE runK isCallV stepE aop opd opdsL opds opdO ev ofVal keep List.any natbeq Bool.false_or Bool.true_or aggEq cond_true cond_false Bool.cond_false_right Bool.cond_true_left beq_true beq_false imp_self implies_true getR getL put St.app effL del nwB blt_dec Nat.lt_irrefl Nat.lt_add_one ble_dec Nat.le_refl Nat.beq_refl roomNZ appendIn capS capK mkZ_zero mkZL_zero zeroEl D.ids D.idsL bin arith sarith binT dpick Tm.part splice fillD oneD loadD storeD srcD sliceD idxOk decide_true gval dstAt D.cells List.map_cons List.map_nil List.take List.drop List.length_map List.append Int.toNat_natCast and_true true_and decide_false List.length_cons List.length_nil List.append_nil List.nil_append Bool.and_true Bool.true_and Bool.not_false Bool.not_true ne_eq not_false_eq_true BEq.rfl List.getElem?_cons_zero List.getElem?_cons_succ List.getElem?_nil Nat.zero_add List.all_cons List.all_nil List.isEmpty_cons List.isEmpty_nil Option.getD_some Option.getD_none List.any_cons List.any_nil List.drop_succ_cons List.drop_zero unfL unf okM okML low3 List.cons_append true_or or_true Nat.zero_mul Nat.zero_le findD_int findD_str  getD_int getD_str getD_bool Option.isSome_map keyD List.length_replicate List.map_replicate setEl List.length_set bytesD_map map_ub mx_len mkZ_one mkZL_one mkM mkML mk1_int mk1_str mk1_bool drop_map take_map take_map_len List.take_length Int.toNat_zero toNat_pred fpOf metIds opIds mvV mvH mvF pickL D.ren D.renL Blk.ren List.map_append List.length_append Bool.not_not Bool.or_not_self Bool.not_or_self Bool.or_true
attribute [local go_sem] Try.tm_1 Try.tm_2 Try.tm_3 Try.tm_4 Try.tm_5 Try.tm_6 Try.tm_7 Try.tm_8 Try.tm_9 Try.tm_10 Try.tm_11 Try.tm_12 Try.tm_13 Try.tm_14 Try.tm_15 Try.tm_16 Try.tm_17 Try.tm_18 Try.tm_19 Try.tm_20 Try.tm_21 Try.tm_22 Try.tm_23 Try.tm_24 Try.tm_25 Try.tm_26 Try.tm_27 Try.tm_28 Try.tm_29 Try.tm_30 Try.tm_32 Try.tm_34 Try.tm_35 Try.tm_36 Try.tm_37 Try.tm_38 Try.tm_39 Try.tm_40 Try.tm_41 Try.tm_42 Try.tm_43 Try.tm_44 Try.tm_45 Try.tm_46 Try.tm_47 Try.tm_48 Try.tm_50 Try.tm_51 Try.tm_52 Try.tm_53 Try.tm_54 Try.tm_55 Try.tm_57 Try.tm_58 Try.tm_59 Try.tm_61 Try.tm_63 Try.tm_64 Try.tm_65 Try.tm_66 Try.tm_67 Try.tm_68 Try.tm_69 Try.tm_70 Try.tm_71 Try.tm_73 Try.tm_75 Try.tm_76 Try.tm_78 Try.tm_79 Try.tm_80 Try.tm_81 Try.tm_82 Try.tm_83 Try.tm_84 Try.tm_85 Try.tm_86 Try.tm_87 Try.tm_88 Try.tm_89 Try.tm_90 Try.tm_91 Try.tm_93 Try.tm_94 Try.tm_95 Try.tm_96 Try.tm_97 Try.tm_98 Try.tm_99 Try.tm_100 Try.tm_101 Try.tm_102 Try.tm_103 Try.tm_104 Try.tm_105 Try.tm_106 Try.tm_107 Try.tm_109 Try.tm_111 Try.tm_113 Try.tm_114 Try.tm_115 Try.tm_116 Try.tm_117 Try.tm_118 Try.tm_119 Try.tm_120 Try.tm_121 Try.tm_123 Try.tm_124 Try.tm_125 Try.tm_127 Try.tm_128 Try.tm_129 Try.tm_130 Try.tm_131 Try.tm_132 Try.tm_133 Try.tm_134 Try.tm_135 Try.tm_136 Try.tm_137 Try.tm_138 Try.tm_139 Try.tm_140 Try.tm_141 Try.tm_142 Try.tm_143 Try.tm_144 Try.tm_145 Try.tm_146 Try.tm_147 Try.tm_149 Try.tm_150 Try.tm_151 Try.tm_152 Try.tm_153 Try.tm_154 Try.tm_155 Try.tm_156 Try.tm_157 Try.tm_158 Try.tm_159 Try.tm_160 Try.tm_162 Try.tm_163 Try.tm_164 Try.tm_165 Try.tm_166 Try.tm_167 Try.tm_168 Try.tm_169 Try.tm_170 Try.tm_171 Try.tm_172 Try.tm_173 Try.tm_175 Try.tm_177 Try.tm_178 Try.tm_179 Try.tm_180 Try.tm_181 Try.tm_182 Try.tm_184 Try.tm_185 Try.tm_187 Try.tm_189 Try.tm_191 Try.tm_192 Try.tm_193 Try.tm_194 Try.tm_195 Try.tm_196 Try.tm_197 Try.tm_198 Try.tm_199 Try.tm_200 Try.tm_201 Try.tm_202 Try.tm_203 Try.tm_204 Try.tm_205 Try.tm_206 Try.tm_207 Try.tm_208 Try.tm_209 Try.tm_210 Try.tm_211 Try.tm_212 Try.tm_213 Try.tm_214 Try.tm_215 Try.tm_216 Try.tm_217 Try.tm_218 Try.tm_219 Try.tm_220 Try.tm_221 Try.tm_223 Try.tm_224 Try.tm_225 Try.tm_226 Try.tm_227 Try.tm_229 Try.tm_230 Try.tm_231 Try.tm_232 Try.tm_233 Try.tm_235 Try.tm_236 Try.tm_237 Try.tm_238 Try.tm_239 Try.tm_240 Try.tm_241 Try.tm_242 Try.tm_243 Try.tm_244 Try.tm_245 Try.tm_246 Try.tm_247 Try.tm_248 Try.tm_249 Try.tm_250 Try.tm_251 Try.tm_252 Try.tm_253 Try.tm_254 Try.tm_255 Try.tm_256 Try.tm_257 Try.tm_258 Try.tm_259 Try.tm_260 Try.tm_262 Try.tm_263 Try.tm_264 Try.tm_265 Try.tm_266 Try.tm_267 Try.tm_269 Try.tm_270 Try.tm_271 Try.tm_272 Try.tm_273 Try.tm_274 Try.tm_275 Try.tm_276 Try.tm_277 Try.tm_278 Try.tm_280 Try.tm_281 Try.tm_282 Try.tm_283 Try.tm_284 Try.tm_286 Try.tm_288 Try.tm_289 Try.tm_290 Try.tm_291 Try.tm_292 Try.tm_294 Try.tm_296 Try.tm_297 Try.tm_298 Try.tm_299 Try.tm_300 Try.tm_302 Try.tm_303 Try.tm_304 Try.tm_305 Try.tm_306 Try.tm_307 Try.tm_308 Try.tm_309 Try.tm_310 Try.tm_311 Try.tm_312 Try.tm_313 Try.tm_314 Try.tm_315 Try.tm_316 Try.tm_317 Try.tm_318 Try.tm_319 Try.tm_320 Try.tm_321 Try.tm_322 Try.tm_324 Try.tm_325 Try.tm_326 Try.tm_327 Try.tm_330 Try.tm_331 Try.tm_332 Try.tm_333 Try.tm_334 Try.tm_335 Try.tm_336 Try.tm_337 TPromise.d TAttempt.d TAttempt.n dL_str nL_str TVote.d TSeen.d TStable.d TStable.n TRecord.d TMessage.d TMessage.n TWait.d TWait.n TStamp.d TSkeen.d TSkeen.n TCommand.d TCommand.n Tskeen_clock.d Tskeen_clock.n mk1_TPromise mk1_TAttempt mk1_dL_str mk1_TVote mk1_TSeen mk1_TStable mk1_TRecord mk1_TMessage mk1_TWait mk1_TStamp mk1_TSkeen mk1_TCommand mk1_Tskeen_clock Try.f23 Try.f100 Try.f22 Try.f14
end Go.Proofs
end
section
namespace Go.Proofs
open Go.Tm
set_option linter.unusedVariables false
def m_slices_Clone_int_int (a0 : List Int) : Option ((List Int)) :=
  if a0.length * 8 ≤ 140737488355328 then
  some a0
  else none
end Go.Proofs
end
section
namespace Go.Proofs
open Go.Tm Go.RowKit Go.WideShapes
set_option maxRecDepth 100000
set_option maxHeartbeats 4000000
set_option linter.unusedSimpArgs false
set_option linter.unusedVariables false
attribute [local go_sem] argVars runE runK isCallV stepE aop opd opdsL opds opdO ev ofVal keep List.any natbeq Bool.false_or Bool.true_or aggEq cond_true cond_false Bool.cond_false_right Bool.cond_true_left beq_true beq_false imp_self implies_true getR getL put St.app effL del nwB blt_dec Nat.lt_irrefl Nat.lt_add_one ble_dec Nat.le_refl Nat.beq_refl roomNZ appendIn capS capK mkZ_zero mkZL_zero zeroEl D.ids D.idsL bin arith sarith binT dpick Tm.part splice fillD oneD loadD storeD srcD sliceD idxOk decide_true gval dstAt D.cells List.map_cons List.map_nil List.take List.drop List.length_map List.append Int.toNat_natCast and_true true_and decide_false List.length_cons List.length_nil List.append_nil List.nil_append Bool.and_true Bool.true_and Bool.not_false Bool.not_true ne_eq not_false_eq_true BEq.rfl List.getElem?_cons_zero List.getElem?_cons_succ List.getElem?_nil Nat.zero_add List.all_cons List.all_nil List.isEmpty_cons List.isEmpty_nil Option.getD_some Option.getD_none List.any_cons List.any_nil List.drop_succ_cons List.drop_zero unfL unf okM okML low3 List.cons_append true_or or_true Nat.zero_mul Nat.zero_le findD_int findD_str  getD_int getD_str getD_bool Option.isSome_map keyD List.length_replicate List.map_replicate setEl List.length_set bytesD_map map_ub mx_len mkZ_one mkZL_one mkM mkML mk1_int mk1_str mk1_bool drop_map take_map take_map_len List.take_length Int.toNat_zero toNat_pred fpOf metIds opIds mvV mvH mvF pickL D.ren D.renL Blk.ren List.map_append List.length_append Bool.not_not Bool.or_not_self Bool.not_or_self Bool.or_true
attribute [local go_sem] Try.tm_1 Try.tm_2 Try.tm_3 Try.tm_4 Try.tm_5 Try.tm_6 Try.tm_7 Try.tm_8 Try.tm_9 Try.tm_10 Try.tm_11 Try.tm_12 Try.tm_13 Try.tm_14 Try.tm_15 Try.tm_16 Try.tm_17 Try.tm_18 Try.tm_19 Try.tm_20 Try.tm_21 Try.tm_22 Try.tm_23 Try.tm_24 Try.tm_25 Try.tm_26 Try.tm_27 Try.tm_28 Try.tm_29 Try.tm_30 Try.tm_32 Try.tm_34 Try.tm_35 Try.tm_36 Try.tm_37 Try.tm_38 Try.tm_39 Try.tm_40 Try.tm_41 Try.tm_42 Try.tm_43 Try.tm_44 Try.tm_45 Try.tm_46 Try.tm_47 Try.tm_48 Try.tm_50 Try.tm_51 Try.tm_52 Try.tm_53 Try.tm_54 Try.tm_55 Try.tm_57 Try.tm_58 Try.tm_59 Try.tm_61 Try.tm_63 Try.tm_64 Try.tm_65 Try.tm_66 Try.tm_67 Try.tm_68 Try.tm_69 Try.tm_70 Try.tm_71 Try.tm_73 Try.tm_75 Try.tm_76 Try.tm_78 Try.tm_79 Try.tm_80 Try.tm_81 Try.tm_82 Try.tm_83 Try.tm_84 Try.tm_85 Try.tm_86 Try.tm_87 Try.tm_88 Try.tm_89 Try.tm_90 Try.tm_91 Try.tm_93 Try.tm_94 Try.tm_95 Try.tm_96 Try.tm_97 Try.tm_98 Try.tm_99 Try.tm_100 Try.tm_101 Try.tm_102 Try.tm_103 Try.tm_104 Try.tm_105 Try.tm_106 Try.tm_107 Try.tm_109 Try.tm_111 Try.tm_113 Try.tm_114 Try.tm_115 Try.tm_116 Try.tm_117 Try.tm_118 Try.tm_119 Try.tm_120 Try.tm_121 Try.tm_123 Try.tm_124 Try.tm_125 Try.tm_127 Try.tm_128 Try.tm_129 Try.tm_130 Try.tm_131 Try.tm_132 Try.tm_133 Try.tm_134 Try.tm_135 Try.tm_136 Try.tm_137 Try.tm_138 Try.tm_139 Try.tm_140 Try.tm_141 Try.tm_142 Try.tm_143 Try.tm_144 Try.tm_145 Try.tm_146 Try.tm_147 Try.tm_149 Try.tm_150 Try.tm_151 Try.tm_152 Try.tm_153 Try.tm_154 Try.tm_155 Try.tm_156 Try.tm_157 Try.tm_158 Try.tm_159 Try.tm_160 Try.tm_162 Try.tm_163 Try.tm_164 Try.tm_165 Try.tm_166 Try.tm_167 Try.tm_168 Try.tm_169 Try.tm_170 Try.tm_171 Try.tm_172 Try.tm_173 Try.tm_175 Try.tm_177 Try.tm_178 Try.tm_179 Try.tm_180 Try.tm_181 Try.tm_182 Try.tm_184 Try.tm_185 Try.tm_187 Try.tm_189 Try.tm_191 Try.tm_192 Try.tm_193 Try.tm_194 Try.tm_195 Try.tm_196 Try.tm_197 Try.tm_198 Try.tm_199 Try.tm_200 Try.tm_201 Try.tm_202 Try.tm_203 Try.tm_204 Try.tm_205 Try.tm_206 Try.tm_207 Try.tm_208 Try.tm_209 Try.tm_210 Try.tm_211 Try.tm_212 Try.tm_213 Try.tm_214 Try.tm_215 Try.tm_216 Try.tm_217 Try.tm_218 Try.tm_219 Try.tm_220 Try.tm_221 Try.tm_223 Try.tm_224 Try.tm_225 Try.tm_226 Try.tm_227 Try.tm_229 Try.tm_230 Try.tm_231 Try.tm_232 Try.tm_233 Try.tm_235 Try.tm_236 Try.tm_237 Try.tm_238 Try.tm_239 Try.tm_240 Try.tm_241 Try.tm_242 Try.tm_243 Try.tm_244 Try.tm_245 Try.tm_246 Try.tm_247 Try.tm_248 Try.tm_249 Try.tm_250 Try.tm_251 Try.tm_252 Try.tm_253 Try.tm_254 Try.tm_255 Try.tm_256 Try.tm_257 Try.tm_258 Try.tm_259 Try.tm_260 Try.tm_262 Try.tm_263 Try.tm_264 Try.tm_265 Try.tm_266 Try.tm_267 Try.tm_269 Try.tm_270 Try.tm_271 Try.tm_272 Try.tm_273 Try.tm_274 Try.tm_275 Try.tm_276 Try.tm_277 Try.tm_278 Try.tm_280 Try.tm_281 Try.tm_282 Try.tm_283 Try.tm_284 Try.tm_286 Try.tm_288 Try.tm_289 Try.tm_290 Try.tm_291 Try.tm_292 Try.tm_294 Try.tm_296 Try.tm_297 Try.tm_298 Try.tm_299 Try.tm_300 Try.tm_302 Try.tm_303 Try.tm_304 Try.tm_305 Try.tm_306 Try.tm_307 Try.tm_308 Try.tm_309 Try.tm_310 Try.tm_311 Try.tm_312 Try.tm_313 Try.tm_314 Try.tm_315 Try.tm_316 Try.tm_317 Try.tm_318 Try.tm_319 Try.tm_320 Try.tm_321 Try.tm_322 Try.tm_324 Try.tm_325 Try.tm_326 Try.tm_327 Try.tm_330 Try.tm_331 Try.tm_332 Try.tm_333 Try.tm_334 Try.tm_335 Try.tm_336 Try.tm_337 TPromise.d TAttempt.d TAttempt.n dL_str nL_str TVote.d TSeen.d TStable.d TStable.n TRecord.d TMessage.d TMessage.n TWait.d TWait.n TStamp.d TSkeen.d TSkeen.n TCommand.d TCommand.n Tskeen_clock.d Tskeen_clock.n mk1_TPromise mk1_TAttempt mk1_dL_str mk1_TVote mk1_TSeen mk1_TStable mk1_TRecord mk1_TMessage mk1_TWait mk1_TStamp mk1_TSkeen mk1_TCommand mk1_Tskeen_clock Try.f93 Try.f94 Try.f20
def Try.Re_slices_Clone_int_int (r : (List Int)) : St := ⟨[(2, .ref 0 1 0 r.length (some unkC))], [(0, .arr 3 1 true (r.map (D.int .i64)))], 1⟩
attribute [local go_sem] Try.Re_slices_Clone_int_int
theorem callH_slices_Clone_int_int (a0 : List Int) (r : (List Int)) (h : m_slices_Clone_int_int a0 = some r) : CallH Try.prog 93 [.imm 1 (a0.map (D.int .i64)) 4] [] (.ref 0 1 0 r.length (some unkC)) [(0, some (.arr 3 1 true (r.map (D.int .i64))))] (0, 3) := by
  refine callH_intro' Try.tmOk Try.func93 rfl (by decide) (Nat.le_of_ble_eq_true rfl) (by simp) ?_
  intro hwf
  unfold m_slices_Clone_int_int at h
  refine .ends 0 (Nat.le_refl _) ?_
  refine .nil4 0 1 (a0.map (D.int .i64)) rfl ?_ (fun hl => ?_)
  · skip
    refine .seq ?_
    refine .pl Try.S [0] ?_
    refine .seq ?_
    refine .seq ?_
    refine .pl Try.S [0] ?_
    refine .cond rfl rfl (fun hc => by cases hc) (fun hc => ?_)
    refine .skip ?_
    obtain ⟨k1, h⟩ := ite_ck h
    refine .seqM 0 (fun (_ : Unit) => ⟨[(2, .ref 0 1 0 a0.length (some unkC))], [(0, .arr 3 1 true (a0.map (D.int .i64)))], 1⟩) (fun _ => True) (Nat.le_of_ble_eq_true rfl) ?_ (fun _ _ => ?_)
    · skip
      rcases list_cases a0 with hE1 | ⟨y, ys, hE1⟩
      · skip
        have hM1 : a0.map (D.int .i64) = [] := by rw [hE1]; simp
        refine .plain Try.tmOk Try.tmMixed [0] (by decide +kernel) (by intro q hq; simp only [go_sem, Nat.reduceSub, Int.reduceEq, Nat.reduceLT, Nat.reduceDiv, Nat.reduceAdd, Nat.reduceBEq, Nat.reduceLeDiff, reduceCtorEq, Nat.reduceEqDiff, Nat.reduceMod, Nat.reduceMul, Try.tm_22, appendD_nil hM1]; exact hq) (by first | rfl | (simp only [go_sem, Nat.reduceLeDiff]; done) | (simp only [go_sem, Nat.reduceLeDiff]; rfl) | (simp; done) | (simp [oneD] <;> omega) | (simp_all; done) | (simp_all [oneD] <;> omega)) (by first | exact Nat.le_refl _ | exact Nat.le_of_ble_eq_true rfl | (dsimp only; omega) | (simp <;> omega)) ?_
        refine ⟨(), ?_, trivial⟩
        refine Goes.new0 1 3 (Nat.le_of_ble_eq_true rfl) ?_
        refine Goes.wk 2 _ (.ref 0 1 0 0 (some unkC)) rfl (.own0 0 _ _ _ (by decide)) ?_
        exact .mx hE1 [2] [0] []
      · skip
        have hM1 : a0.map (D.int .i64) ≠ [] := by rw [hE1]; simp
        refine .plain Try.tmOk Try.tmMixed [0] (by decide +kernel) (by intro q hq; simp only [go_sem, Nat.reduceSub, Int.reduceEq, Nat.reduceLT, Nat.reduceDiv, Nat.reduceAdd, Nat.reduceBEq, Nat.reduceLeDiff, reduceCtorEq, Nat.reduceEqDiff, Nat.reduceMod, Nat.reduceMul, Try.tm_22, appendD_cons hM1]; exact hq) (by first | rfl | (simp only [go_sem, Nat.reduceLeDiff]; done) | (simp only [go_sem, Nat.reduceLeDiff]; rfl) | (simp; done) | (simp [oneD] <;> omega) | (simp_all; done) | (simp_all [oneD] <;> omega)) (by first | exact Nat.le_refl _ | exact Nat.le_of_ble_eq_true rfl | (dsimp only; omega) | (simp <;> omega)) ?_
        refine ⟨(), ?_, trivial⟩
        refine Goes.wk 2 _ (.ref 0 1 0 a0.length (some unkC)) rfl (.unk _ _ _ _ _) ?_
        exact .mx hE1 [2] [0] []
    have hq := Option.some.inj h
    subst r
    refine .ret ⟨Try.Re_slices_Clone_int_int a0, ?_, .inr rfl, retH [0] ?_ ?_⟩
    · skip
      exact .m [2] [0] []
    · exact rsi0
    · rfl
  · skip
    have hE0 : a0 = [] := by simpa using hl
    obtain ⟨k1, h⟩ := ite_ck h
    refine .seq ?_
    refine .pl Try.S [0] ?_
    refine .seq ?_
    refine .seq ?_
    refine .pl Try.S [0] ?_
    refine .cond rfl rfl (fun hc => ?_) (fun hc => by cases hc)
    refine .seq ?_
    refine .pl Try.S [] ?_
    have hq := Option.some.inj h
    subst r
    refine .ret ⟨Try.Re_slices_Clone_int_int a0, ?_, .inr rfl, retH [0] ?_ ?_⟩
    · skip
      refine Goes.new0 1 3 (Nat.le_of_ble_eq_true rfl) ?_
      refine Goes.wk 2 _ (.ref 0 1 0 0 (some unkC)) rfl (.own0 0 _ _ _ (by decide)) ?_
      exact .mx hE0 [2] [0] []
    · exact rsi0
    · rfl
theorem callP_slices_Clone_int_int (a0 : List Int) (r : (List Int)) (h : m_slices_Clone_int_int a0 = some r) : CallP Try.prog 93 [.imm 1 (a0.map (D.int .i64)) 4] (.imm 1 (r.map (D.int .i64)) 12) :=
  callP_frz (frz_ref0 pl0_i64 rfl rfl) (callH_slices_Clone_int_int a0 r h)
end Go.Proofs
end
section
namespace Go.Tm
open Go.RowKit Go.WideShapes
theorem overs_of {P : Program} {K : FuncId} {fn : Func} {t r : TypeId} (hf : P.funcs[K]? = some fn) (hname : (fn.name == "runtime.NumGoroutine") = false) (hb : fn.body.isNone = true) (hn : Extern.findNext fn = none)
    (he : Extern.find fn = some (Extern.SlicesOverlaps.overlaps #[t, t] #[r])) {ti : TI} (ht : tiChk P t ti = true) (hk : ti.kind = 3) : Overs P K := by
  intro w x y la ca lb cb cx cy Tx Ty hne hs hx hy hz
  obtain ⟨el, j, hu, hj, hj1, hj2, hj3, hj4, _, hel'⟩ := ti_slice ht hk
  subst hel'
  have hsz : ∀ w : World, (sizeOf ti.el).run P w = .ok j.size w := fun w => by simp [sizeOf, typeInfo, hj]
  obtain ⟨xb, xo, xs⟩ := x
  simp only at hs hx hne
  subst hs
  rw [run_callFunc_extern hf hname hb hn he, Go.Lib.run_overlaps_apart w t r ti.el hu j.size hsz ⟨xb, xo, none⟩ y la ca lb cb hne Tx Ty cx.size cy.size (by simp [World.shape?, hx]) (by simp [World.shape?, hy]) hz (by simp [World.frozen?, hx]) (by simp [World.frozen?, hx])]
  rfl
theorem callH_cap {P : Program} {K : FuncId} {i k s n m : Nat} {e s' : Nat} {p p' : Bool} {l l' : List D} {post : List D} {H : List (Nat × Blk)} (hE : Enters P K) (hH : getL H i = some (.arr e s p l)) (hik : i ≠ k)
    (hin : ∀ c, capK c = true → n ≤ c → m ≤ c → CallH P K (.ref i s 0 n (some c) :: post) H (.ref i s 0 m (some c)) [(i, some (.arr e s' p' l'))] (k, k))
    (hout : ∀ c, capK c = true → n ≤ c → c < m → CallH P K (.ref i s 0 n (some c) :: post) H (.ref k s 0 m none) [(k, some (.arr e s' p' l')), (i, none)] (k, k + 1)) :
    CallH P K (.ref i s 0 n none :: post) H (.ref k s 0 m none) [(k, some (.arr e s' p' l')), (i, none)] (k, k + 1) := by
  refine ⟨hE, fun fr w g hp nu vs hM hHs hnw hvs => ?_⟩
  simp only [reps] at hvs
  obtain ⟨v0, vs, rfl, h0, hvs⟩ := hvs
  have h0' := h0
  simp only [rep] at h0
  obtain ⟨q1, ad, cap, rfl, q2, q3, q4, q5, q6⟩ := h0
  obtain ⟨b1, T1, n1, z1, z2, z3⟩ := q5.2 (by simp)
  have hc : rep (cx w g hp) (.ref i s 0 n (some cap)) (.slice ad n cap) := by
    simp only [rep]
    exact ⟨q1, ad, cap, rfl, q2, q3, q4, ⟨fun c h _ => by cases h; rfl, fun h => by cases h⟩, q6⟩
  have hargs : reps (cx w g hp) (.ref i s 0 n (some cap) :: post) (.slice ad n cap :: vs) := by
    simp only [reps]
    exact ⟨_, _, rfl, hc, hvs⟩
  have hck : capK cap = true := Nat.ble_eq_true_of_le (by omega)
  by_cases hcase : cap < m
  · exact (hout cap hck q2 hcase).2 fr w g hp nu _ hM hHs hnw hargs
  · refine ((hin cap hck q2 (by omega)).2 fr w g hp nu _ hM hHs (fun id h1 h2 => by have h1 : k ≤ id := h1; have h2 : id < k := h2; omega) hargs).mono ?_
    rintro ee w' ⟨v, g', he, ha⟩
    have hki : Nat.beq k i = false := beq_ne fun e => hik e.symm
    have hnk : nu k = true := hnw k (Nat.le_refl _) (Nat.lt_succ_self _)
    have hpi : hp i = some (.arr e s p l) := hHs i _ hH
    have hni : nu i = false := by
      cases h : nu i
      · rfl
      · rw [(hM.nw i h).2] at hpi; cases hpi
    have hσi : g'.σ i = some (b1, 0) := (ha.gs i hni).trans z1
    let E0 : En := ⟨w', fr, fun _ => True, g', effN nu (k, k)⟩
    let F0 : FrS := ⟨fun _ => .undef, effH hp [(i, some (.arr e s' p' l'))], effN nu (k, k)⟩
    let a0 : Act := ⟨#[], []⟩
    have hR0 : Rel E0 0 F0 a0 w' g' := ⟨Nat.zero_le _, rfl, fun _ => by simp only [F0, rep], ha.mem, fun _ _ _ _ _ => .inr trivial, Keep.refl _ _, ⟨rfl, rfl⟩, fun _ _ => rfl, fun _ h => h⟩
    have hpi' : effH hp [(i, some (.arr e s' p' l'))] i = some (.arr e s' p' l') := by simp [effH, getL]
    have hnk0 : F0.nu k = true := by
      show effN nu (k, k) k = true
      simp [effN, hnk]
    obtain ⟨r1, _⟩ := Rel.made hR0 (m := k) (blk := .arr e s' p' l') (loc := some (b1, 0)) (kl := some i) (w' := w') hnk0 ((Keep.refl _ w').mono fun _ _ h => h)
      (by rintro b o h; cases h; exact .inr ⟨i, 0, rfl, by show effH hp [(i, some (.arr e s' p' l'))] i ≠ none; rw [hpi']; simp, hσi⟩)
      (by
        intro C hC hle hrf hσ
        rcases ha.mem.hd i _ hpi' with ⟨_, h⟩ | ⟨b', cs, h1, h2, h3, h4⟩
        · have h : g'.σ i = none := h
          rw [hσi] at h; cases h
        · have h1 : g'.σ i = some (b', 0) := h1
          rw [hσi] at h1
          simp only [Option.some.injEq, Prod.mk.injEq] at h1
          obtain ⟨rfl, _⟩ := h1
          exact .inr ⟨b1, cs, hσ, by subst hC; exact h2, h3, elems_le (C := { cx w' g' (effH hp [(i, some (.arr e s' p' l'))]) with rf := !p' }) (C' := { C with rf := !p' }) (le_rf hle rfl _ _ id) _ _ _ _ (by subst hC; rfl) h4⟩)
    have hhp : effH (effH hp [(i, some (.arr e s' p' l'))]) ((k, some (.arr e s' p' l')) :: kill (some i)) = effH hp [(k, some (.arr e s' p' l')), (i, none)] := by
      funext x
      simp only [effH, kill, getL]
      cases h1 : Nat.beq k x
      · cases h2 : Nat.beq i x <;> simp
      · simp
    have hnn : effN (effN nu (k, k)) (k, k + 1) = effN nu (k, k + 1) := by
      funext x
      simp only [effN]
      have : (decide (k ≤ x) && decide (x < k)) = false := by
        cases hx : decide (k ≤ x) <;> simp at hx ⊢
        omega
      rw [this]; simp
    have hmem := r1.mem
    simp only [FrS.eff, F0] at hmem
    rw [hhp, hnn] at hmem
    have hpk : effH hp [(k, some (.arr e s' p' l')), (i, none)] i = none := by simp [effH, getL, hki]
    refine ⟨v, setσ g' k (some (b1, 0)), he, ha.gz, fun id hid => ?_, ha.keep, hmem, ?_, ?_⟩
    · have : id ≠ k := by rintro rfl; rw [hnk] at hid; cases hid
      show (if id = k then _ else g'.σ id) = g.σ id
      rw [if_neg this]
      exact ha.gs id hid
    · rintro b0 ⟨id, o, h1, h2⟩
      have h2 : (if id = k then some (b1, 0) else g'.σ id) = some (b0, o) := h2
      by_cases hidk : id = k
      · rw [if_pos hidk] at h2
        simp only [Option.some.injEq, Prod.mk.injEq] at h2
        obtain ⟨rfl, rfl⟩ := h2
        exact ha.own b1 ⟨i, 0, by rw [hpi']; simp, hσi⟩
      · rw [if_neg hidk] at h2
        by_cases hidi : id = i
        · subst hidi
          rw [hpk] at h1
          exact absurd rfl h1
        · refine ha.own b0 ⟨id, o, ?_, h2⟩
          have a1 : Nat.beq k id = false := beq_ne fun e => hidk e.symm
          have a2 : Nat.beq i id = false := beq_ne fun e => hidi e.symm
          simp only [effH, getL, a1, a2] at h1 ⊢
          exact h1
    · have hres := ha.res
      simp only [rep] at hres ⊢
      obtain ⟨_, ad', cap', hv, k1, k2, k3, k4, k5⟩ := hres
      have hcc := k4.1 cap rfl (Nat.ble_eq_true_of_le (by omega))
      subst hcc
      have hsh : w'.shape? b1 = some (T1, n1) := by
        have := ha.keep.shp b1 (shape_lt (w := w) z2)
        rw [this]; exact z2
      refine ⟨by simp [cx], ad', cap', hv, k1, k2, k3, ⟨(fun c h => by cases h), fun _ => ⟨b1, T1, n1, by simp [cx, setσ], hsh, by omega⟩⟩, ?_⟩
      rcases k5 with k5 | ⟨b, T, nn, y1, y2, y3, y4⟩
      · exact .inl k5
      · have y1 : g'.σ i = some (b, 0) := y1
        rw [hσi] at y1
        simp only [Option.some.injEq, Prod.mk.injEq] at y1
        obtain ⟨rfl, _⟩ := y1
        exact .inr ⟨b1, T, nn, by simp [cx, setσ], y2, y3, y4⟩
theorem callH_capW {P : Program} {K : FuncId} {i k s n m : Nat} {e s' : Nat} {p p' : Bool} {l l' : List D} {post : List D} {H : List (Nat × Blk)} (hE : Enters P K) (hH : getL H i = some (.arr e s p l)) (hik : i ≠ k) (hm0 : 0 < m ∨ 0 < n)
    (hin : ∀ c, capK c = true → n ≤ c → m ≤ c → CallH P K (.ref i s 0 n (some c) :: post) H (.ref i s 0 m (some c)) [(i, some (.arr e s' p' l'))] (k, k))
    (hout : ∀ c, capK c = true → n ≤ c → c < m → CallH P K (.ref i s 0 n (some c) :: post) H (.ref k s 0 m none) [(k, some (.arr e s' p' l')), (i, none)] (k, k + 1)) :
    CallH P K (.ref i s 0 n (some unkC) :: post) H (.ref k s 0 m (some unkC)) [(k, some (.arr e s' p' l')), (i, none)] (k, k + 1) := by
  refine ⟨hE, fun fr w g hp nu vs hM hHs hnw hvs => ?_⟩
  simp only [reps] at hvs
  obtain ⟨v0, vs, rfl, h0, hvs⟩ := hvs
  have h0' := h0
  simp only [rep] at h0
  obtain ⟨q1, ad, cap, rfl, q2, q3, q4, q5, q6⟩ := h0
  have hc : rep (cx w g hp) (.ref i s 0 n (some cap)) (.slice ad n cap) := by
    simp only [rep]
    exact ⟨q1, ad, cap, rfl, q2, q3, q4, ⟨fun c h _ => by cases h; rfl, fun h => by cases h⟩, q6⟩
  have hargs : reps (cx w g hp) (.ref i s 0 n (some cap) :: post) (.slice ad n cap :: vs) := by
    simp only [reps]
    exact ⟨_, _, rfl, hc, hvs⟩
  have hck : capK cap = true := Nat.ble_eq_true_of_le (by omega)
  by_cases hcase : cap < m
  · refine ((hout cap hck q2 hcase).2 fr w g hp nu _ hM hHs hnw hargs).mono ?_
    rintro ee w' ⟨v, g', he, ha⟩
    exact ⟨v, g', he, ha.gz, ha.gs, ha.keep, ha.mem, ha.own, rep_unk ha.res rfl⟩
  · have hq6 := q6
    rcases q6 with q6 | ⟨b1, T1, n1, z1, _, z2, z3⟩
    · omega
    refine ((hin cap hck q2 (by omega)).2 fr w g hp nu _ hM hHs (fun id h1 h2 => by have h1 : k ≤ id := h1; have h2 : id < k := h2; omega) hargs).mono ?_
    rintro ee w' ⟨v, g', he, ha⟩
    have hki : Nat.beq k i = false := beq_ne fun e => hik e.symm
    have hnk : nu k = true := hnw k (Nat.le_refl _) (Nat.lt_succ_self _)
    have hpi : hp i = some (.arr e s p l) := hHs i _ hH
    have hni : nu i = false := by
      cases h : nu i
      · rfl
      · rw [(hM.nw i h).2] at hpi; cases hpi
    have hσi : g'.σ i = some (b1, 0) := (ha.gs i hni).trans z1
    let E0 : En := ⟨w', fr, fun _ => True, g', effN nu (k, k)⟩
    let F0 : FrS := ⟨fun _ => .undef, effH hp [(i, some (.arr e s' p' l'))], effN nu (k, k)⟩
    let a0 : Act := ⟨#[], []⟩
    have hR0 : Rel E0 0 F0 a0 w' g' := ⟨Nat.zero_le _, rfl, fun _ => by simp only [F0, rep], ha.mem, fun _ _ _ _ _ => .inr trivial, Keep.refl _ _, ⟨rfl, rfl⟩, fun _ _ => rfl, fun _ h => h⟩
    have hpi' : effH hp [(i, some (.arr e s' p' l'))] i = some (.arr e s' p' l') := by simp [effH, getL]
    have hnk0 : F0.nu k = true := by
      show effN nu (k, k) k = true
      simp [effN, hnk]
    obtain ⟨r1, _⟩ := Rel.made hR0 (m := k) (blk := .arr e s' p' l') (loc := some (b1, 0)) (kl := some i) (w' := w') hnk0 ((Keep.refl _ w').mono fun _ _ h => h)
      (by rintro b o h; cases h; exact .inr ⟨i, 0, rfl, by show effH hp [(i, some (.arr e s' p' l'))] i ≠ none; rw [hpi']; simp, hσi⟩)
      (by
        intro C hC hle hrf hσ
        rcases ha.mem.hd i _ hpi' with ⟨_, h⟩ | ⟨b', cs, h1, h2, h3, h4⟩
        · have h : g'.σ i = none := h
          rw [hσi] at h; cases h
        · have h1 : g'.σ i = some (b', 0) := h1
          rw [hσi] at h1
          simp only [Option.some.injEq, Prod.mk.injEq] at h1
          obtain ⟨rfl, _⟩ := h1
          exact .inr ⟨b1, cs, hσ, by subst hC; exact h2, h3, elems_le (C := { cx w' g' (effH hp [(i, some (.arr e s' p' l'))]) with rf := !p' }) (C' := { C with rf := !p' }) (le_rf hle rfl _ _ id) _ _ _ _ (by subst hC; rfl) h4⟩)
    have hhp : effH (effH hp [(i, some (.arr e s' p' l'))]) ((k, some (.arr e s' p' l')) :: kill (some i)) = effH hp [(k, some (.arr e s' p' l')), (i, none)] := by
      funext x
      simp only [effH, kill, getL]
      cases h1 : Nat.beq k x
      · cases h2 : Nat.beq i x <;> simp
      · simp
    have hnn : effN (effN nu (k, k)) (k, k + 1) = effN nu (k, k + 1) := by
      funext x
      simp only [effN]
      have : (decide (k ≤ x) && decide (x < k)) = false := by
        cases hx : decide (k ≤ x) <;> simp at hx ⊢
        omega
      rw [this]; simp
    have hmem := r1.mem
    simp only [FrS.eff, F0] at hmem
    rw [hhp, hnn] at hmem
    have hpk : effH hp [(k, some (.arr e s' p' l')), (i, none)] i = none := by simp [effH, getL, hki]
    refine ⟨v, setσ g' k (some (b1, 0)), he, ha.gz, fun id hid => ?_, ha.keep, hmem, ?_, ?_⟩
    · have : id ≠ k := by rintro rfl; rw [hnk] at hid; cases hid
      show (if id = k then _ else g'.σ id) = g.σ id
      rw [if_neg this]
      exact ha.gs id hid
    · rintro b0 ⟨id, o, h1, h2⟩
      have h2 : (if id = k then some (b1, 0) else g'.σ id) = some (b0, o) := h2
      by_cases hidk : id = k
      · rw [if_pos hidk] at h2
        simp only [Option.some.injEq, Prod.mk.injEq] at h2
        obtain ⟨rfl, rfl⟩ := h2
        exact ha.own b1 ⟨i, 0, by rw [hpi']; simp, hσi⟩
      · rw [if_neg hidk] at h2
        by_cases hidi : id = i
        · subst hidi
          rw [hpk] at h1
          exact absurd rfl h1
        · refine ha.own b0 ⟨id, o, ?_, h2⟩
          have a1 : Nat.beq k id = false := beq_ne fun e => hidk e.symm
          have a2 : Nat.beq i id = false := beq_ne fun e => hidi e.symm
          simp only [effH, getL, a1, a2] at h1 ⊢
          exact h1
    · have hres := ha.res
      simp only [rep] at hres ⊢
      obtain ⟨_, ad', cap', hv, k1, k2, k3, k4, k5⟩ := hres
      have hcc := k4.1 cap rfl (Nat.ble_eq_true_of_le (by omega))
      subst hcc
      have hsh : w'.shape? b1 = some (T1, n1) := by
        have := ha.keep.shp b1 (shape_lt (w := w) z2)
        rw [this]; exact z2
      refine ⟨by simp [cx], ad', cap', hv, k1, k2, k3, ⟨(fun c h hk => by cases h; cases hk), (fun h => by cases h)⟩, ?_⟩
      rcases k5 with k5 | ⟨b, T, nn, y1, y2, y3, y4⟩
      · exact .inl k5
      · have y1 : g'.σ i = some (b, 0) := y1
        rw [hσi] at y1
        simp only [Option.some.injEq, Prod.mk.injEq] at y1
        obtain ⟨rfl, _⟩ := y1
        exact .inr ⟨b1, T, nn, by simp [cx, setσ], y2, y3, y4⟩
end Go.Tm
end
section
namespace Go.Proofs
open Go.Tm Go.RowKit Go.WideShapes
set_option maxRecDepth 100000
set_option linter.unusedSimpArgs false
set_option linter.unusedVariables false
attribute [local go_sem] argVars runE runK isCallV stepE aop opd opdsL opds opdO ev ofVal keep List.any natbeq Bool.false_or Bool.true_or aggEq cond_true cond_false Bool.cond_false_right Bool.cond_true_left beq_true beq_false imp_self implies_true getR getL put St.app effL del nwB blt_dec Nat.lt_irrefl Nat.lt_add_one ble_dec Nat.le_refl Nat.beq_refl roomNZ appendIn capS mkZ_zero mkZL_zero zeroEl D.ids D.idsL bin arith sarith binT dpick Tm.part splice fillD oneD loadD storeD srcD sliceD idxOk decide_true gval dstAt D.cells List.map_cons List.map_nil List.take List.drop List.length_map List.append Int.toNat_natCast and_true true_and decide_false List.length_cons List.length_nil List.append_nil List.nil_append Bool.and_true Bool.true_and Bool.not_false Bool.not_true ne_eq not_false_eq_true BEq.rfl List.getElem?_cons_zero List.getElem?_cons_succ List.getElem?_nil Nat.zero_add List.all_cons List.all_nil List.isEmpty_cons List.isEmpty_nil Option.getD_some Option.getD_none List.any_cons List.any_nil List.drop_succ_cons List.drop_zero unfL unf okM okML low3 List.cons_append true_or or_true Nat.zero_mul Nat.zero_le fpOf opIds
end Go.Proofs
end
section
namespace Go.Proofs
open Go.Tm Go.RowKit Go.WideShapes
set_option maxRecDepth 100000
set_option linter.unusedSimpArgs false
set_option linter.unusedVariables false
attribute [local go_sem] argVars runE runK isCallV stepE aop opd opdsL opds opdO ev ofVal keep List.any natbeq Bool.false_or Bool.true_or aggEq cond_true cond_false Bool.cond_false_right Bool.cond_true_left beq_true beq_false imp_self implies_true getR getL put St.app effL del nwB blt_dec Nat.lt_irrefl Nat.lt_add_one ble_dec Nat.le_refl Nat.beq_refl roomNZ appendIn capS mkZ_zero mkZL_zero zeroEl D.ids D.idsL bin arith sarith binT dpick Tm.part splice fillD oneD loadD storeD srcD sliceD idxOk decide_true gval dstAt D.cells List.map_cons List.map_nil List.take List.drop List.length_map List.append Int.toNat_natCast and_true true_and decide_false List.length_cons List.length_nil List.append_nil List.nil_append Bool.and_true Bool.true_and Bool.not_false Bool.not_true ne_eq not_false_eq_true BEq.rfl List.getElem?_cons_zero List.getElem?_cons_succ List.getElem?_nil Nat.zero_add List.all_cons List.all_nil List.isEmpty_cons List.isEmpty_nil Option.getD_some Option.getD_none List.any_cons List.any_nil List.drop_succ_cons List.drop_zero unfL unf okM okML low3 List.cons_append true_or or_true Nat.zero_mul Nat.zero_le fpOf opIds
end Go.Proofs
end
section
namespace Go.Proofs
open Go.Tm Go.RowKit Go.WideShapes
set_option maxRecDepth 100000
set_option linter.unusedSimpArgs false
set_option linter.unusedVariables false
attribute [local go_sem] argVars runE runK isCallV stepE aop opd opdsL opds opdO ev ofVal keep List.any natbeq Bool.false_or Bool.true_or aggEq cond_true cond_false Bool.cond_false_right Bool.cond_true_left beq_true beq_false imp_self implies_true getR getL put St.app effL del nwB blt_dec Nat.lt_irrefl Nat.lt_add_one ble_dec Nat.le_refl Nat.beq_refl roomNZ appendIn capS mkZ_zero mkZL_zero zeroEl D.ids D.idsL bin arith sarith binT dpick Tm.part splice fillD oneD loadD storeD srcD sliceD idxOk decide_true gval dstAt D.cells List.map_cons List.map_nil List.take List.drop List.length_map List.append Int.toNat_natCast and_true true_and decide_false List.length_cons List.length_nil List.append_nil List.nil_append Bool.and_true Bool.true_and Bool.not_false Bool.not_true ne_eq not_false_eq_true BEq.rfl List.getElem?_cons_zero List.getElem?_cons_succ List.getElem?_nil Nat.zero_add List.all_cons List.all_nil List.isEmpty_cons List.isEmpty_nil Option.getD_some Option.getD_none List.any_cons List.any_nil List.drop_succ_cons List.drop_zero unfL unf okM okML low3 List.cons_append true_or or_true Nat.zero_mul Nat.zero_le fpOf opIds
end Go.Proofs
end
section
namespace Go.Proofs
open Go.Tm Go.RowKit Go.WideShapes
set_option maxRecDepth 100000
set_option linter.unusedSimpArgs false
set_option linter.unusedVariables false
attribute [local go_sem] argVars runE runK isCallV stepE aop opd opdsL opds opdO ev ofVal keep List.any natbeq Bool.false_or Bool.true_or aggEq cond_true cond_false Bool.cond_false_right Bool.cond_true_left beq_true beq_false imp_self implies_true getR getL put St.app effL del nwB blt_dec Nat.lt_irrefl Nat.lt_add_one ble_dec Nat.le_refl Nat.beq_refl roomNZ appendIn capS mkZ_zero mkZL_zero zeroEl D.ids D.idsL bin arith sarith binT dpick Tm.part splice fillD oneD loadD storeD srcD sliceD idxOk decide_true gval dstAt D.cells List.map_cons List.map_nil List.take List.drop List.length_map List.append Int.toNat_natCast and_true true_and decide_false List.length_cons List.length_nil List.append_nil List.nil_append Bool.and_true Bool.true_and Bool.not_false Bool.not_true ne_eq not_false_eq_true BEq.rfl List.getElem?_cons_zero List.getElem?_cons_succ List.getElem?_nil Nat.zero_add List.all_cons List.all_nil List.isEmpty_cons List.isEmpty_nil Option.getD_some Option.getD_none List.any_cons List.any_nil List.drop_succ_cons List.drop_zero unfL unf okM okML low3 List.cons_append true_or or_true Nat.zero_mul Nat.zero_le fpOf opIds
theorem overs247 : Overs Try.prog 247 := overs_of (r := 4) Try.func247 (by kernel_rfl) (by kernel_rfl) (by kernel_rfl) (by kernel_rfl) (Try.tmOk.1 80 (by decide)) rfl
theorem ins213e (i j k : Nat) (hij : i ≠ j) (hik : i ≠ k) (hjk : j ≠ k) (L : List D) (x : D) (P Q : Bool) (hL : L.length < 1000000) :
    CallH Try.prog 213 [.ref i 7 0 L.length (some unkC), .int .i64 (L.length : Int), .ref j 7 0 1 (some 1)] [(i, .arr 90 7 P L), (j, .arr 90 7 Q [x])] (.ref k 7 0 (L.length + 1) (some unkC)) [(k, some (.arr 90 7 (P && Q) (L ++ [x]))), (i, none)] (k, k + 1) := by
  have bij : Nat.beq i j = false := beq_ne hij
  have bik : Nat.beq i k = false := beq_ne hik
  have bjk : Nat.beq j k = false := beq_ne hjk
  have bji : Nat.beq j i = false := beq_ne (Ne.symm hij)
  have bki : Nat.beq k i = false := beq_ne (Ne.symm hik)
  have bkj : Nat.beq k j = false := beq_ne (Ne.symm hjk)
  have n10 : ¬ ((1 : Int) = 0) := by omega
  have hx : (1 : Nat) ≤ 1 := Nat.le_refl _
  refine callH_intro' Try.tmOk Try.func213 rfl (by decide) (Nat.le_of_ble_eq_true rfl) (by simp) ?_
  intro hwf
  refine .seq ?_
  refine .plain Try.tmOk Try.tmMixed [0, 1, 2] (by decide +kernel) (by intro q hq; simp only [go_sem, appendD, Nat.reduceSub, Int.reduceEq, Nat.reduceLT, Nat.reduceDiv, Nat.reduceAdd, Nat.reduceBEq, Nat.reduceLeDiff, reduceCtorEq, Nat.reduceEqDiff, Nat.reduceMod, capK, bij, bik, bjk, bji, bki, bkj]; exact hq) (by first | rfl | (simp only [go_sem, Nat.reduceLeDiff]; done) | (simp only [go_sem, Nat.reduceLeDiff]; rfl) | (simp; done) | (simp [oneD] <;> omega) | (simp_all; done) | (simp_all [oneD] <;> omega)) (by first | exact Nat.le_refl _ | exact Nat.le_of_ble_eq_true rfl | (dsimp only; omega) | (simp <;> omega)) ?_
  refine .seq ?_
  refine .plain Try.tmOk Try.tmMixed [0, 1, 2] (by decide +kernel) (by intro q hq; simp only [go_sem, appendD, Nat.reduceSub, Int.reduceEq, Nat.reduceLT, Nat.reduceDiv, Nat.reduceAdd, Nat.reduceBEq, Nat.reduceLeDiff, reduceCtorEq, Nat.reduceEqDiff, Nat.reduceMod, capK, Try.tm_80, Try.tm_3, bij, bik, bjk, bji, bki, bkj]; exact hq) (by first | rfl | (simp only [go_sem, Nat.reduceLeDiff]; done) | (simp only [go_sem, Nat.reduceLeDiff]; rfl) | (simp; done) | (simp [oneD] <;> omega) | (simp_all; done) | (simp_all [oneD] <;> omega)) (by first | exact Nat.le_refl _ | exact Nat.le_of_ble_eq_true rfl | (dsimp only; omega) | (simp <;> omega)) ?_
  refine .seq ?_
  refine .plain Try.tmOk Try.tmMixed [0, 1, 2] (by decide +kernel) (by intro q hq; simp only [go_sem, appendD, Nat.reduceSub, Int.reduceEq, Nat.reduceLT, Nat.reduceDiv, Nat.reduceAdd, Nat.reduceBEq, Nat.reduceLeDiff, reduceCtorEq, Nat.reduceEqDiff, Nat.reduceMod, capK, Try.tm_80, Try.tm_3, bij, bik, bjk, bji, bki, bkj]; exact hq) (by first | rfl | (simp only [go_sem, Nat.reduceLeDiff]; done) | (simp only [go_sem, Nat.reduceLeDiff]; rfl) | (simp; done) | (simp [oneD] <;> omega) | (simp_all; done) | (simp_all [oneD] <;> omega)) (by first | exact Nat.le_refl _ | exact Nat.le_of_ble_eq_true rfl | (dsimp only; omega) | (simp <;> omega)) ?_
  refine .seq ?_
  refine .seq ?_
  refine .plain Try.tmOk Try.tmMixed [0, 1, 2, 7] (by decide +kernel) (by intro q hq; simp only [go_sem, appendD, Nat.reduceSub, Int.reduceEq, Nat.reduceLT, Nat.reduceDiv, Nat.reduceAdd, Nat.reduceBEq, Nat.reduceLeDiff, reduceCtorEq, Nat.reduceEqDiff, Nat.reduceMod, capK, Try.tm_80, Try.tm_3]; exact hq) (by first | rfl | (simp only [go_sem, Nat.reduceLeDiff]; done) | (simp only [go_sem, Nat.reduceLeDiff]; rfl) | (simp; done) | (simp [oneD] <;> omega) | (simp_all; done) | (simp_all [oneD] <;> omega)) (by first | exact Nat.le_refl _ | exact Nat.le_of_ble_eq_true rfl | (dsimp only; omega) | (simp <;> omega)) ?_
  refine .cond rfl rfl (fun hc => by simp at hc) (fun hc => ?_)
  refine .skip ?_
  refine .seq ?_
  refine .plain Try.tmOk Try.tmMixed [0, 1, 2, 7] (by decide +kernel) (by intro q hq; simp only [go_sem, appendD, Nat.reduceSub, Int.reduceEq, Nat.reduceLT, Nat.reduceDiv, Nat.reduceAdd, Nat.reduceBEq, Nat.reduceLeDiff, reduceCtorEq, Nat.reduceEqDiff, Nat.reduceMod, capK, Try.tm_80, Try.tm_3]; exact hq) (by first | rfl | (simp only [go_sem, Nat.reduceLeDiff]; done) | (simp only [go_sem, Nat.reduceLeDiff]; rfl) | (simp; done) | (simp [oneD] <;> omega) | (simp_all; done) | (simp_all [oneD] <;> omega)) (by first | exact Nat.le_refl _ | exact Nat.le_of_ble_eq_true rfl | (dsimp only; omega) | (simp <;> omega)) ?_
  refine .seq ?_
  refine .seq ?_
  refine .plain Try.tmOk Try.tmMixed [0, 1, 2, 7, 8] (by decide +kernel) (by intro q hq; simp only [go_sem, appendD, Nat.reduceSub, Int.reduceEq, Nat.reduceLT, Nat.reduceDiv, Nat.reduceAdd, Nat.reduceBEq, Nat.reduceLeDiff, reduceCtorEq, Nat.reduceEqDiff, Nat.reduceMod, capK, Try.tm_80, Try.tm_3]; exact hq) (by first | rfl | (simp only [go_sem, Nat.reduceLeDiff]; done) | (simp only [go_sem, Nat.reduceLeDiff]; rfl) | (simp; done) | (simp [oneD] <;> omega) | (simp_all; done) | (simp_all [oneD] <;> omega)) (by first | exact Nat.le_refl _ | exact Nat.le_of_ble_eq_true rfl | (dsimp only; omega) | (simp <;> omega)) ?_
  refine .cond rfl rfl (fun hc => ?_) (fun hc => by simp at hc)
  refine .seq ?_
  refine .plain Try.tmOk Try.tmMixed [0, 2] (by decide +kernel) (by intro q hq; simp only [go_sem, appendD, Nat.reduceSub, Int.reduceEq, Nat.reduceLT, Nat.reduceDiv, Nat.reduceAdd, Nat.reduceBEq, Nat.reduceLeDiff, reduceCtorEq, Nat.reduceEqDiff, Nat.reduceMod, capK, Try.tm_80, Try.tm_3, bij, bik, bjk, bji, bki, bkj]; exact hq) (by first | rfl | (simp only [go_sem, Nat.reduceLeDiff]; done) | (simp only [go_sem, Nat.reduceLeDiff]; rfl) | (simp; done) | (simp [oneD] <;> omega) | (simp_all; done) | (simp_all [oneD] <;> omega)) (by first | exact Nat.le_refl _ | exact Nat.le_of_ble_eq_true rfl | (dsimp only; omega) | (simp <;> omega)) ?_
  refine .ret ⟨.inr rfl, retH [j, k] ?_ ?_⟩
  · simp only [ResIs, resL, resD, resT, go_sem, appendD, Nat.reduceSub, Int.reduceEq, Nat.reduceLT, Nat.reduceDiv, Nat.reduceAdd, Nat.reduceBEq, Nat.reduceLeDiff, reduceCtorEq, Nat.reduceEqDiff, Nat.reduceMod, Try.f213]
  · simp only [pickL, getL, effL, put, del, Nat.beq_refl, cond_true, cond_false, bij, bik, bjk, bji, bki, bkj, List.take_length]
theorem ins213g (i j k : Nat) (hij : i ≠ j) (hik : i ≠ k) (hjk : j ≠ k) (L : List D) (x : D) (P Q : Bool) (at' c : Nat) (hck : capK c = true) (hat : at' < L.length) (hL : L.length < 1000000) (h1 : L.length ≤ c) (h2 : c < L.length + 1) :
    CallH Try.prog 213 [.ref i 7 0 L.length (some c), .int .i64 (at' : Int), .ref j 7 0 1 (some 1)] [(i, .arr 90 7 P L), (j, .arr 90 7 Q [x])] (.ref k 7 0 (L.length + 1) none) [(k, some (.arr 90 7 (P && Q) (L.take at' ++ x :: L.drop at'))), (i, none)] (k, k + 1) := by
  obtain rfl : c = L.length := by omega
  have hck2 := hck
  have bij : Nat.beq i j = false := beq_ne hij
  have bik : Nat.beq i k = false := beq_ne hik
  have bjk : Nat.beq j k = false := beq_ne hjk
  have bji : Nat.beq j i = false := beq_ne (Ne.symm hij)
  have bki : Nat.beq k i = false := beq_ne (Ne.symm hik)
  have bkj : Nat.beq k j = false := beq_ne (Ne.symm hjk)
  have hw : wr .i64 ((L.length : Int) + ((1 : Nat) : Int)) = ((L.length + 1 : Nat) : Int) := wr_eq _ _ (by show (-9223372036854775808 : Int) ≤ _; omega) (by show _ ≤ (9223372036854775807 : Int); omega)
  have hw2 : wr .i64 (((L.length + 1 : Nat) : Int) - (at' : Int)) = ((L.length + 1 - at' : Nat) : Int) := by
    rw [wr_eq _ _ (by show (-9223372036854775808 : Int) ≤ _; omega) (by show _ ≤ (9223372036854775807 : Int); omega)]
    omega
  have hw3 : wr .i64 ((at' : Int) + ((1 : Nat) : Int)) = ((at' + 1 : Nat) : Int) := wr_eq _ _ (by show (-9223372036854775808 : Int) ≤ _; omega) (by show _ ≤ (9223372036854775807 : Int); omega)
  have ha : at' + (L.length + 1 - at') = L.length + 1 := by omega
  have pq : (P && Q && P) = (P && Q) := by cases P <;> cases Q <;> rfl
  have hm1 : Nat.min 1 (L.length + 1 - at') = 1 := by show min 1 (L.length + 1 - at') = 1; omega
  have hm2 : Nat.min (L.length - at') (L.length + 1 - (at' + 1)) = L.length - at' := by show min (L.length - at') (L.length + 1 - (at' + 1)) = L.length - at'; omega
  have tk : (L.take at').length = at' := by simp; omega
  have e1 : List.take at' (List.take at' L ++ List.replicate (L.length + 1 - at') (D.agg [D.int .i64 0, D.imm 0 [] 0, D.int .i64 0, D.str [], D.str [], D.int .i64 0, D.bool false])) = List.take at' L := by
    rw [List.take_append_of_le_length (by omega), List.take_of_length_le (by omega)]
  have e2 : List.drop (at' + 1) (List.take at' L ++ List.replicate (L.length + 1 - at') (D.agg [D.int .i64 0, D.imm 0 [] 0, D.int .i64 0, D.str [], D.str [], D.int .i64 0, D.bool false])) = List.replicate (L.length - at') (D.agg [D.int .i64 0, D.imm 0 [] 0, D.int .i64 0, D.str [], D.str [], D.int .i64 0, D.bool false]) := by
    rw [List.drop_append, List.drop_eq_nil_of_le (by omega), tk, List.nil_append, List.drop_replicate]
    congr 1; omega
  have e3 : List.take (at' + 1) (List.take at' L ++ [x] ++ List.replicate (L.length - at') (D.agg [D.int .i64 0, D.imm 0 [] 0, D.int .i64 0, D.str [], D.str [], D.int .i64 0, D.bool false])) = List.take at' L ++ [x] := by
    rw [List.take_append_of_le_length (by simp; omega), List.take_of_length_le (by simp; omega)]
  have e4 : List.drop (at' + 1 + (L.length - at')) (List.take at' L ++ [x] ++ List.replicate (L.length - at') (D.agg [D.int .i64 0, D.imm 0 [] 0, D.int .i64 0, D.str [], D.str [], D.int .i64 0, D.bool false])) = [] := List.drop_eq_nil_of_le (by simp; omega)
  have e5 : List.take (L.length - at') (List.drop at' L) = List.drop at' L := List.take_of_length_le (by simp)
  have l1 : (List.take at' L ++ List.replicate (L.length + 1 - at') (D.agg [D.int .i64 0, D.imm 0 [] 0, D.int .i64 0, D.str [], D.str [], D.int .i64 0, D.bool false])).length = L.length + 1 := by simp; omega
  have l2 : (List.take at' L ++ [x] ++ List.replicate (L.length - at') (D.agg [D.int .i64 0, D.imm 0 [] 0, D.int .i64 0, D.str [], D.str [], D.int .i64 0, D.bool false])).length = L.length + 1 := by simp; omega
  refine callH_intro' Try.tmOk Try.func213 rfl (by decide) (Nat.le_of_ble_eq_true rfl) (by simp) ?_
  intro hwf
  refine .seq ?_
  refine .plain Try.tmOk Try.tmMixed [0, 1, 2] (by decide +kernel) (by intro q hq; simp only [go_sem, appendD, Nat.reduceSub, Int.reduceEq, Nat.reduceLT, Nat.reduceDiv, Nat.reduceAdd, Nat.reduceBEq, Nat.reduceLeDiff, reduceCtorEq, Nat.reduceEqDiff, Nat.reduceMod, hck]; exact hq) (by first | rfl | (simp only [go_sem, Nat.reduceLeDiff]; done) | (simp only [go_sem, Nat.reduceLeDiff]; rfl) | (simp; done) | (simp [oneD] <;> omega) | (simp_all; done) | (simp_all [oneD] <;> omega)) (by first | exact Nat.le_refl _ | exact Nat.le_of_ble_eq_true rfl | (dsimp only; omega) | (simp <;> omega)) ?_
  refine .seq ?_
  refine .plain Try.tmOk Try.tmMixed [0, 1, 2] (by decide +kernel) (by intro q hq; simp only [go_sem, appendD, Nat.reduceSub, Int.reduceEq, Nat.reduceLT, Nat.reduceDiv, Nat.reduceAdd, Nat.reduceBEq, Nat.reduceLeDiff, reduceCtorEq, Nat.reduceEqDiff, Nat.reduceMod, Try.tm_80, Try.tm_3, hck]; exact hq) (by first | rfl | (simp only [go_sem, Nat.reduceLeDiff]; done) | (simp only [go_sem, Nat.reduceLeDiff]; rfl) | (simp; done) | (simp [oneD] <;> omega) | (simp_all; done) | (simp_all [oneD] <;> omega)) (by first | exact Nat.le_refl _ | exact Nat.le_of_ble_eq_true rfl | (dsimp only; omega) | (simp <;> omega)) ?_
  refine .seq ?_
  refine .plain Try.tmOk Try.tmMixed [0, 1, 2] (by decide +kernel) (by intro q hq; simp only [go_sem, appendD, Nat.reduceSub, Int.reduceEq, Nat.reduceLT, Nat.reduceDiv, Nat.reduceAdd, Nat.reduceBEq, Nat.reduceLeDiff, reduceCtorEq, Nat.reduceEqDiff, Nat.reduceMod, Try.tm_80, Try.tm_3, hck]; exact hq) (by first | rfl | (simp only [go_sem, Nat.reduceLeDiff]; done) | (simp only [go_sem, Nat.reduceLeDiff]; rfl) | (simp; done) | (simp [oneD] <;> omega) | (simp_all; done) | (simp_all [oneD] <;> omega)) (by first | exact Nat.le_refl _ | exact Nat.le_of_ble_eq_true rfl | (dsimp only; omega) | (simp <;> omega)) ?_
  refine .seq ?_
  refine .seq ?_
  refine .plain Try.tmOk Try.tmMixed [0, 1, 2, 7] (by decide +kernel) (by intro q hq; simp only [go_sem, appendD, Nat.reduceSub, Int.reduceEq, Nat.reduceLT, Nat.reduceDiv, Nat.reduceAdd, Nat.reduceBEq, Nat.reduceLeDiff, reduceCtorEq, Nat.reduceEqDiff, Nat.reduceMod, Try.tm_80, Try.tm_3, hck]; exact hq) (by first | rfl | (simp only [go_sem, Nat.reduceLeDiff]; done) | (simp only [go_sem, Nat.reduceLeDiff]; rfl) | (simp; done) | (simp [oneD] <;> omega) | (simp_all; done) | (simp_all [oneD] <;> omega)) (by first | exact Nat.le_refl _ | exact Nat.le_of_ble_eq_true rfl | (dsimp only; omega) | (simp <;> omega)) ?_
  refine .cond rfl rfl (fun hc => by simp at hc) (fun hc => ?_)
  refine .skip ?_
  refine .seq ?_
  refine .plain Try.tmOk Try.tmMixed [0, 1, 2, 7] (by decide +kernel) (by intro q hq; simp only [go_sem, appendD, Nat.reduceSub, Int.reduceEq, Nat.reduceLT, Nat.reduceDiv, Nat.reduceAdd, Nat.reduceBEq, Nat.reduceLeDiff, reduceCtorEq, Nat.reduceEqDiff, Nat.reduceMod, Try.tm_80, Try.tm_3, hck]; exact hq) (by first | rfl | (simp only [go_sem, Nat.reduceLeDiff]; done) | (simp only [go_sem, Nat.reduceLeDiff]; rfl) | (simp; done) | (simp [oneD] <;> omega) | (simp_all; done) | (simp_all [oneD] <;> omega)) (by first | exact Nat.le_refl _ | exact Nat.le_of_ble_eq_true rfl | (dsimp only; omega) | (simp <;> omega)) ?_
  refine .seq ?_
  refine .seq ?_
  refine .plain Try.tmOk Try.tmMixed [0, 1, 2, 7, 8] (by decide +kernel) (by intro q hq; simp only [go_sem, appendD, Nat.reduceSub, Int.reduceEq, Nat.reduceLT, Nat.reduceDiv, Nat.reduceAdd, Nat.reduceBEq, Nat.reduceLeDiff, reduceCtorEq, Nat.reduceEqDiff, Nat.reduceMod, Try.tm_80, Try.tm_3, hck]; exact hq) (by first | rfl | (simp only [go_sem, Nat.reduceLeDiff]; done) | (simp only [go_sem, Nat.reduceLeDiff]; rfl) | (simp; done) | (simp [oneD] <;> omega) | (simp_all; done) | (simp_all [oneD] <;> omega)) (by first | exact Nat.le_refl _ | exact Nat.le_of_ble_eq_true rfl | (dsimp only; omega) | (simp <;> omega)) ?_
  refine .cond rfl rfl (fun hc => by simp at hc; omega) (fun hc => ?_)
  refine .skip ?_
  refine .seq ?_
  refine .seq ?_
  refine .plain Try.tmOk Try.tmMixed [0, 1, 2, 7, 8] (by decide +kernel) (by intro q hq; simp only [go_sem, appendD, Nat.reduceSub, Int.reduceEq, Nat.reduceLT, Nat.reduceDiv, Nat.reduceAdd, Nat.reduceBEq, Nat.reduceLeDiff, reduceCtorEq, Nat.reduceEqDiff, Nat.reduceMod, Try.tm_80, Try.tm_3, hck, hw]; exact hq) (by first | rfl | (simp only [go_sem, Nat.reduceLeDiff]; done) | (simp only [go_sem, Nat.reduceLeDiff]; rfl) | (simp; done) | (simp [oneD] <;> omega) | (simp_all; done) | (simp_all [oneD] <;> omega)) (by first | exact Nat.le_refl _ | exact Nat.le_of_ble_eq_true rfl | (dsimp only; omega) | (simp <;> omega)) ?_
  refine .cond rfl rfl (fun hc => ?_) (fun hc => by simp at hc; omega)
  refine .seq ?_
  refine .plain Try.tmOk Try.tmMixed [0, 1, 2, 7, 8] (by decide +kernel) (by intro q hq; simp only [go_sem, appendD, Nat.reduceSub, Int.reduceEq, Nat.reduceLT, Nat.reduceDiv, Nat.reduceAdd, Nat.reduceBEq, Nat.reduceLeDiff, reduceCtorEq, Nat.reduceEqDiff, Nat.reduceMod, Try.tm_80, Try.tm_3, hck, hw, hw2, ha, appendZ, Int.sub_zero, Int.toNat_zero, Int.toNat_sub, bij, bik, bjk, bji, bki, bkj]; exact hq) (by first | rfl | (simp only [go_sem, Nat.reduceLeDiff]; done) | (simp only [go_sem, Nat.reduceLeDiff]; rfl) | (simp; done) | (simp [oneD] <;> omega) | (simp_all; done) | (simp_all [oneD] <;> omega)) (by first | exact Nat.le_refl _ | exact Nat.le_of_ble_eq_true rfl | (dsimp only; omega) | (simp <;> omega)) ?_
  refine .seq ?_
  refine .plain Try.tmOk Try.tmMixed [0, 1, 2, 7, 8, 9] (by decide +kernel) (by intro q hq; simp only [go_sem, appendD, Nat.reduceSub, Int.reduceEq, Nat.reduceLT, Nat.reduceDiv, Nat.reduceAdd, Nat.reduceBEq, Nat.reduceLeDiff, reduceCtorEq, Nat.reduceEqDiff, Nat.reduceMod, Try.tm_80, Try.tm_3, hck, hw, hw2, ha, appendZ, Int.sub_zero, Int.toNat_zero, Int.toNat_sub, bij, bik, bjk, bji, bki, bkj, Int.toNat_sub, hm1, e1, e2, List.take_one, List.take_succ_cons]; exact hq) (by first | rfl | (simp only [go_sem, Nat.reduceLeDiff]; done) | (simp only [go_sem, Nat.reduceLeDiff]; rfl) | (simp; done) | (simp [oneD] <;> omega) | (simp_all; done) | (simp_all [oneD] <;> omega)) (by first | exact Nat.le_refl _ | exact Nat.le_of_ble_eq_true rfl | (dsimp only; omega) | (simp <;> omega)) ?_
  refine .seq ?_
  refine .drawn Try.tmOk Try.tmMixed [0, 1, 2, 7, 8, 9] (by decide +kernel) (by intro q hq; simp only [go_sem, appendD, Nat.reduceSub, Int.reduceEq, Nat.reduceLT, Nat.reduceDiv, Nat.reduceAdd, Nat.reduceBEq, Nat.reduceLeDiff, reduceCtorEq, Nat.reduceEqDiff, Nat.reduceMod, Try.tm_80, Try.tm_3, hck, hw, hw2, hw3, ha, appendZ, capS, bij, bik, bjk, bji, bki, bkj, Int.toNat_sub, hm1, hm2, e3, e4, e5]; exact hq) (schedB_of (by kernel_rfl)) (by first | rfl | (simp only [go_sem, Nat.reduceLeDiff]; done) | (simp only [go_sem, Nat.reduceLeDiff]; rfl) | (simp; done) | (simp [oneD] <;> omega) | (simp_all; done) | (simp_all [oneD] <;> omega)) (by first | exact Nat.le_refl _ | exact Nat.le_of_ble_eq_true rfl | (dsimp only; omega) | (simp <;> omega)) ?_
  refine .seq ?_
  refine .plain Try.tmOk Try.tmMixed [9] (by decide +kernel) (by intro q hq; simp only [go_sem, appendD, Nat.reduceSub, Int.reduceEq, Nat.reduceLT, Nat.reduceDiv, Nat.reduceAdd, Nat.reduceBEq, Nat.reduceLeDiff, reduceCtorEq, Nat.reduceEqDiff, Nat.reduceMod, Try.tm_80, Try.tm_3, hck]; exact hq) (by first | rfl | (simp only [go_sem, Nat.reduceLeDiff]; done) | (simp only [go_sem, Nat.reduceLeDiff]; rfl) | (simp; done) | (simp [oneD] <;> omega) | (simp_all; done) | (simp_all [oneD] <;> omega)) (by first | exact Nat.le_refl _ | exact Nat.le_of_ble_eq_true rfl | (dsimp only; omega) | (simp <;> omega)) ?_
  refine .ret ⟨.inr rfl, retH [j, k] ?_ ?_⟩
  · simp only [ResIs, resL, resD, resT, go_sem, appendD, Nat.reduceSub, Int.reduceEq, Nat.reduceLT, Nat.reduceDiv, Nat.reduceAdd, Nat.reduceBEq, Nat.reduceLeDiff, reduceCtorEq, Nat.reduceEqDiff, Nat.reduceMod, Try.f213]
  · simp only [pickL, getL, effL, put, del, Nat.beq_refl, cond_true, cond_false, bij, bik, bjk, bji, bki, bkj, pq, List.append_assoc, List.singleton_append, List.append_nil]
theorem ins213r (i j k : Nat) (hij : i ≠ j) (L : List D) (x : D) (P Q : Bool) (at' c : Nat) (hck : capK c = true) (hat : at' < L.length) (hL : L.length < 1000000) (h1 : L.length + 1 ≤ c) :
    CallH Try.prog 213 [.ref i 7 0 L.length (some c), .int .i64 (at' : Int), .ref j 7 0 1 (some 1)] [(i, .arr 90 7 P L), (j, .arr 90 7 Q [x])] (.ref i 7 0 (L.length + 1) (some c)) [(i, some (.arr 90 7 (P && Q) (L.take at' ++ x :: L.drop at')))] (k, k) := by
  have bij : Nat.beq i j = false := beq_ne hij
  have bji : Nat.beq j i = false := beq_ne (Ne.symm hij)
  have hw : wr .i64 ((L.length : Int) + ((1 : Nat) : Int)) = ((L.length + 1 : Nat) : Int) := wr_eq _ _ (by show (-9223372036854775808 : Int) ≤ _; omega) (by show _ ≤ (9223372036854775807 : Int); omega)
  have hw3 : wr .i64 ((at' : Int) + ((1 : Nat) : Int)) = ((at' + 1 : Nat) : Int) := wr_eq _ _ (by show (-9223372036854775808 : Int) ≤ _; omega) (by show _ ≤ (9223372036854775807 : Int); omega)
  have hm1 : Nat.min 1 (L.length + 1 - at') = 1 := by show min 1 (L.length + 1 - at') = 1; omega
  have hm2 : Nat.min (L.length + 1 - at') (L.length + 1 - (at' + 1)) = L.length - at' := by show min (L.length + 1 - at') (L.length + 1 - (at' + 1)) = L.length - at'; omega
  have hn1 : L.length + 1 - (at' + 1) = (L.length - at' - 1) + 1 := by omega
  have tk : (L.take at').length = at' := by simp; omega
  have tk1 : (L.take (at' + 1)).length = at' + 1 := by simp; omega
  have e5 : List.take (L.length - at') (List.drop at' L) = List.drop at' L := List.take_of_length_le (by simp)
  have e4 : List.drop (at' + 1 + (L.length - at')) L = [] := List.drop_eq_nil_of_le (by omega)
  have e1 : List.take at' (List.take (at' + 1) L ++ List.drop at' L) = List.take at' L := by
    rw [List.take_append_of_le_length (by omega), List.take_take]
    congr 1; omega
  have e2 : List.drop (at' + 1) (List.take (at' + 1) L ++ List.drop at' L) = List.drop at' L := by
    rw [List.drop_append, List.drop_eq_nil_of_le (by omega), tk1, Nat.sub_self, List.drop_zero, List.nil_append]
  refine callH_intro' Try.tmOk Try.func213 rfl (by decide) (Nat.le_of_ble_eq_true rfl) (by simp) ?_
  intro hwf
  refine .seq ?_
  refine .plain Try.tmOk Try.tmMixed [0, 1, 2] (by decide +kernel) (by intro q hq; simp only [go_sem, appendD, Nat.reduceSub, Int.reduceEq, Nat.reduceLT, Nat.reduceDiv, Nat.reduceAdd, Nat.reduceBEq, Nat.reduceLeDiff, reduceCtorEq, Nat.reduceEqDiff, Nat.reduceMod, hck]; exact hq) (by first | rfl | (simp only [go_sem, Nat.reduceLeDiff]; done) | (simp only [go_sem, Nat.reduceLeDiff]; rfl) | (simp; done) | (simp [oneD] <;> omega) | (simp_all; done) | (simp_all [oneD] <;> omega)) (by first | exact Nat.le_refl _ | exact Nat.le_of_ble_eq_true rfl | (dsimp only; omega) | (simp <;> omega)) ?_
  refine .seq ?_
  refine .plain Try.tmOk Try.tmMixed [0, 1, 2] (by decide +kernel) (by intro q hq; simp only [go_sem, appendD, Nat.reduceSub, Int.reduceEq, Nat.reduceLT, Nat.reduceDiv, Nat.reduceAdd, Nat.reduceBEq, Nat.reduceLeDiff, reduceCtorEq, Nat.reduceEqDiff, Nat.reduceMod, Try.tm_80, Try.tm_3, hck]; exact hq) (by first | rfl | (simp only [go_sem, Nat.reduceLeDiff]; done) | (simp only [go_sem, Nat.reduceLeDiff]; rfl) | (simp; done) | (simp [oneD] <;> omega) | (simp_all; done) | (simp_all [oneD] <;> omega)) (by first | exact Nat.le_refl _ | exact Nat.le_of_ble_eq_true rfl | (dsimp only; omega) | (simp <;> omega)) ?_
  refine .seq ?_
  refine .plain Try.tmOk Try.tmMixed [0, 1, 2] (by decide +kernel) (by intro q hq; simp only [go_sem, appendD, Nat.reduceSub, Int.reduceEq, Nat.reduceLT, Nat.reduceDiv, Nat.reduceAdd, Nat.reduceBEq, Nat.reduceLeDiff, reduceCtorEq, Nat.reduceEqDiff, Nat.reduceMod, Try.tm_80, Try.tm_3, hck]; exact hq) (by first | rfl | (simp only [go_sem, Nat.reduceLeDiff]; done) | (simp only [go_sem, Nat.reduceLeDiff]; rfl) | (simp; done) | (simp [oneD] <;> omega) | (simp_all; done) | (simp_all [oneD] <;> omega)) (by first | exact Nat.le_refl _ | exact Nat.le_of_ble_eq_true rfl | (dsimp only; omega) | (simp <;> omega)) ?_
  refine .seq ?_
  refine .seq ?_
  refine .plain Try.tmOk Try.tmMixed [0, 1, 2, 7] (by decide +kernel) (by intro q hq; simp only [go_sem, appendD, Nat.reduceSub, Int.reduceEq, Nat.reduceLT, Nat.reduceDiv, Nat.reduceAdd, Nat.reduceBEq, Nat.reduceLeDiff, reduceCtorEq, Nat.reduceEqDiff, Nat.reduceMod, Try.tm_80, Try.tm_3, hck]; exact hq) (by first | rfl | (simp only [go_sem, Nat.reduceLeDiff]; done) | (simp only [go_sem, Nat.reduceLeDiff]; rfl) | (simp; done) | (simp [oneD] <;> omega) | (simp_all; done) | (simp_all [oneD] <;> omega)) (by first | exact Nat.le_refl _ | exact Nat.le_of_ble_eq_true rfl | (dsimp only; omega) | (simp <;> omega)) ?_
  refine .cond rfl rfl (fun hc => by simp at hc) (fun hc => ?_)
  refine .skip ?_
  refine .seq ?_
  refine .plain Try.tmOk Try.tmMixed [0, 1, 2, 7] (by decide +kernel) (by intro q hq; simp only [go_sem, appendD, Nat.reduceSub, Int.reduceEq, Nat.reduceLT, Nat.reduceDiv, Nat.reduceAdd, Nat.reduceBEq, Nat.reduceLeDiff, reduceCtorEq, Nat.reduceEqDiff, Nat.reduceMod, Try.tm_80, Try.tm_3, hck]; exact hq) (by first | rfl | (simp only [go_sem, Nat.reduceLeDiff]; done) | (simp only [go_sem, Nat.reduceLeDiff]; rfl) | (simp; done) | (simp [oneD] <;> omega) | (simp_all; done) | (simp_all [oneD] <;> omega)) (by first | exact Nat.le_refl _ | exact Nat.le_of_ble_eq_true rfl | (dsimp only; omega) | (simp <;> omega)) ?_
  refine .seq ?_
  refine .seq ?_
  refine .plain Try.tmOk Try.tmMixed [0, 1, 2, 7, 8] (by decide +kernel) (by intro q hq; simp only [go_sem, appendD, Nat.reduceSub, Int.reduceEq, Nat.reduceLT, Nat.reduceDiv, Nat.reduceAdd, Nat.reduceBEq, Nat.reduceLeDiff, reduceCtorEq, Nat.reduceEqDiff, Nat.reduceMod, Try.tm_80, Try.tm_3, hck]; exact hq) (by first | rfl | (simp only [go_sem, Nat.reduceLeDiff]; done) | (simp only [go_sem, Nat.reduceLeDiff]; rfl) | (simp; done) | (simp [oneD] <;> omega) | (simp_all; done) | (simp_all [oneD] <;> omega)) (by first | exact Nat.le_refl _ | exact Nat.le_of_ble_eq_true rfl | (dsimp only; omega) | (simp <;> omega)) ?_
  refine .cond rfl rfl (fun hc => by simp at hc; omega) (fun hc => ?_)
  refine .skip ?_
  refine .seq ?_
  refine .seq ?_
  refine .plain Try.tmOk Try.tmMixed [0, 1, 2, 7, 8] (by decide +kernel) (by intro q hq; simp only [go_sem, appendD, Nat.reduceSub, Int.reduceEq, Nat.reduceLT, Nat.reduceDiv, Nat.reduceAdd, Nat.reduceBEq, Nat.reduceLeDiff, reduceCtorEq, Nat.reduceEqDiff, Nat.reduceMod, Try.tm_80, Try.tm_3, hck, hw]; exact hq) (by first | rfl | (simp only [go_sem, Nat.reduceLeDiff]; done) | (simp only [go_sem, Nat.reduceLeDiff]; rfl) | (simp; done) | (simp [oneD] <;> omega) | (simp_all; done) | (simp_all [oneD] <;> omega)) (by first | exact Nat.le_refl _ | exact Nat.le_of_ble_eq_true rfl | (dsimp only; omega) | (simp <;> omega)) ?_
  refine .cond rfl rfl (fun hc => by simp at hc; omega) (fun hc => ?_)
  refine .skip ?_
  refine .seq ?_
  refine .plain Try.tmOk Try.tmMixed [0, 1, 2, 7, 8] (by decide +kernel) (by intro q hq; simp only [go_sem, appendD, Nat.reduceSub, Int.reduceEq, Nat.reduceLT, Nat.reduceDiv, Nat.reduceAdd, Nat.reduceBEq, Nat.reduceLeDiff, reduceCtorEq, Nat.reduceEqDiff, Nat.reduceMod, Try.tm_80, Try.tm_3, hck, hw, roomV, Option.isSome, Int.sub_zero, Int.toNat_zero, Nat.sub_zero, bij, bji]; exact hq) (by first | rfl | (simp only [go_sem, Nat.reduceLeDiff]; done) | (simp only [go_sem, Nat.reduceLeDiff]; rfl) | (simp; done) | (simp [oneD] <;> omega) | (simp_all; done) | (simp_all [oneD] <;> omega)) (by first | exact Nat.le_refl _ | exact Nat.le_of_ble_eq_true rfl | (dsimp only; omega) | (simp <;> omega)) ?_
  refine .seq ?_
  refine .seq ?_
  refine .reg Try.tmOk Try.tmMixed [0, 1, 2, 7] (by decide +kernel) ?_
  refine .R (dr := false) (.inr fun _ _ _ h => ⟨nofun, h.2⟩) (by intro q hq; simp only [go_sem, appendD, Nat.reduceSub, Int.reduceEq, Nat.reduceLT, Nat.reduceDiv, Nat.reduceAdd, Nat.reduceBEq, Nat.reduceLeDiff, reduceCtorEq, Nat.reduceEqDiff, Nat.reduceMod, Try.tm_80, Try.tm_3, hck, hw3, Int.toNat_sub, bij, bji]; exact hq) (by first | rfl | (simp only [go_sem, Nat.reduceLeDiff]; done) | (simp only [go_sem, Nat.reduceLeDiff]; rfl) | (simp; done) | (simp [oneD] <;> omega) | (simp_all; done) | (simp_all [oneD] <;> omega)) (by first | exact Nat.le_refl _ | exact Nat.le_of_ble_eq_true rfl | (dsimp only; omega) | (simp <;> omega)) ?_
  refine .overs (i := j) (j := i) rfl rfl rfl rfl rfl overs247 ⟨7, 0, 0, some 1, 7 - 1, at' + 1, L.length - at' - 1, some (c - (at' + 1)), 90, 7, Q, [x], 90, 7, P, L, by
    show [D.ref j 7 0 1 (some 1), D.ref i 7 (at' + 1) (L.length + 1 - (at' + 1)) (some (c - (at' + 1)))] = _
    rw [hn1], by simp only [getL, bij, cond_false, Nat.beq_refl, cond_true], by simp only [getL, Nat.beq_refl, cond_true], Ne.symm hij⟩ ?_
  refine .R (dr := false) (.inr fun _ _ _ h => ⟨nofun, h.2⟩) (by intro q hq; simp only [go_sem, appendD, Nat.reduceSub, Int.reduceEq, Nat.reduceLT, Nat.reduceDiv, Nat.reduceAdd, Nat.reduceBEq, Nat.reduceLeDiff, reduceCtorEq, Nat.reduceEqDiff, Nat.reduceMod, Try.tm_80, Try.tm_3, hck]; exact hq) (by first | rfl | (simp only [go_sem, Nat.reduceLeDiff]; done) | (simp only [go_sem, Nat.reduceLeDiff]; rfl) | (simp; done) | (simp [oneD] <;> omega) | (simp_all; done) | (simp_all [oneD] <;> omega)) (by first | exact Nat.le_refl _ | exact Nat.le_of_ble_eq_true rfl | (dsimp only; omega) | (simp <;> omega)) ?_
  refine .nil ⟨nofun, ?_⟩
  refine .cond rfl rfl (fun hc => ?_) (fun hc => by cases hc)
  refine .seq ?_
  refine .drawn Try.tmOk Try.tmMixed [0, 1, 2, 7] (by decide +kernel) (by intro q hq; simp only [go_sem, appendD, Nat.reduceSub, Int.reduceEq, Nat.reduceLT, Nat.reduceDiv, Nat.reduceAdd, Nat.reduceBEq, Nat.reduceLeDiff, reduceCtorEq, Nat.reduceEqDiff, Nat.reduceMod, Try.tm_80, Try.tm_3, hck, hw3, Int.toNat_sub, hm2, e4, e5, bij, bji, Bool.and_self, List.append_nil]; exact hq) (schedB_of (by kernel_rfl)) (by first | rfl | (simp only [go_sem, Nat.reduceLeDiff]; done) | (simp only [go_sem, Nat.reduceLeDiff]; rfl) | (simp; done) | (simp [oneD] <;> omega) | (simp_all; done) | (simp_all [oneD] <;> omega)) (by first | exact Nat.le_refl _ | exact Nat.le_of_ble_eq_true rfl | (dsimp only; omega) | (simp <;> omega)) ?_
  refine .seq ?_
  refine .plain Try.tmOk Try.tmMixed [0, 1, 2] (by decide +kernel) (by intro q hq; simp only [go_sem, appendD, Nat.reduceSub, Int.reduceEq, Nat.reduceLT, Nat.reduceDiv, Nat.reduceAdd, Nat.reduceBEq, Nat.reduceLeDiff, reduceCtorEq, Nat.reduceEqDiff, Nat.reduceMod, Try.tm_80, Try.tm_3, hck, Int.toNat_sub, hm1, e1, e2, bij, bji, List.take_succ_cons]; exact hq) (by first | rfl | (simp only [go_sem, Nat.reduceLeDiff]; done) | (simp only [go_sem, Nat.reduceLeDiff]; rfl) | (simp; done) | (simp [oneD] <;> omega) | (simp_all; done) | (simp_all [oneD] <;> omega)) (by first | exact Nat.le_refl _ | exact Nat.le_of_ble_eq_true rfl | (dsimp only; omega) | (simp <;> omega)) ?_
  refine .seq ?_
  refine .plain Try.tmOk Try.tmMixed [0] (by decide +kernel) (by intro q hq; simp only [go_sem, appendD, Nat.reduceSub, Int.reduceEq, Nat.reduceLT, Nat.reduceDiv, Nat.reduceAdd, Nat.reduceBEq, Nat.reduceLeDiff, reduceCtorEq, Nat.reduceEqDiff, Nat.reduceMod, Try.tm_80, Try.tm_3, hck]; exact hq) (by first | rfl | (simp only [go_sem, Nat.reduceLeDiff]; done) | (simp only [go_sem, Nat.reduceLeDiff]; rfl) | (simp; done) | (simp [oneD] <;> omega) | (simp_all; done) | (simp_all [oneD] <;> omega)) (by first | exact Nat.le_refl _ | exact Nat.le_of_ble_eq_true rfl | (dsimp only; omega) | (simp <;> omega)) ?_
  refine .ret ⟨.inr rfl, retH [i, j] ?_ ?_⟩
  · simp only [ResIs, resL, resD, resT, go_sem, appendD, Nat.reduceSub, Int.reduceEq, Nat.reduceLT, Nat.reduceDiv, Nat.reduceAdd, Nat.reduceBEq, Nat.reduceLeDiff, reduceCtorEq, Nat.reduceEqDiff, Nat.reduceMod, Try.f213]
  · simp only [pickL, getL, effL, put, del, Nat.beq_refl, cond_true, cond_false, bij, bji, List.append_assoc, List.singleton_append, List.append_nil]
theorem ins213 (i j k : Nat) (hij : i ≠ j) (hik : i ≠ k) (hjk : j ≠ k) (L : List D) (x : D) (P Q : Bool) (at' : Nat) (hat : at' ≤ L.length) (hL : L.length < 1000000) :
    CallH Try.prog 213 [.ref i 7 0 L.length (some unkC), .int .i64 (at' : Int), .ref j 7 0 1 (some 1)] [(i, .arr 90 7 P L), (j, .arr 90 7 Q [x])] (.ref k 7 0 (L.length + 1) (some unkC)) [(k, some (.arr 90 7 (P && Q) (L.take at' ++ x :: L.drop at'))), (i, none)] (k, k + 1) := by
  by_cases h : at' = L.length
  · subst h
    have := ins213e i j k hij hik hjk L x P Q hL
    rw [List.take_length, List.drop_length]
    exact this
  · exact callH_capW (l := L) (p := P) (ins213e i j k hij hik hjk L x P Q hL).1 (by simp only [getL, Nat.beq_refl, cond_true]) hik (by omega)
      (fun c hc _ h2 => ins213r i j k hij L x P Q at' c hc (by omega) hL h2)
      (fun c hc h1 h2 => ins213g i j k hij hik hjk L x P Q at' c hc (by omega) hL h1 h2)
theorem ins213eN (i j k : Nat) (hij : i ≠ j) (hik : i ≠ k) (hjk : j ≠ k) (L : List D) (x : D) (P Q : Bool) (hL : L.length < 1000000) :
    CallH Try.prog 213 [.ref i 7 0 L.length none, .int .i64 (L.length : Int), .ref j 7 0 1 (some 1)] [(i, .arr 90 7 P L), (j, .arr 90 7 Q [x])] (.ref k 7 0 (L.length + 1) none) [(k, some (.arr 90 7 (P && Q) (L ++ [x]))), (i, none)] (k, k + 1) := by
  have bij : Nat.beq i j = false := beq_ne hij
  have bik : Nat.beq i k = false := beq_ne hik
  have bjk : Nat.beq j k = false := beq_ne hjk
  have bji : Nat.beq j i = false := beq_ne (Ne.symm hij)
  have bki : Nat.beq k i = false := beq_ne (Ne.symm hik)
  have bkj : Nat.beq k j = false := beq_ne (Ne.symm hjk)
  have n10 : ¬ ((1 : Int) = 0) := by omega
  have hx : (1 : Nat) ≤ 1 := Nat.le_refl _
  refine callH_intro' Try.tmOk Try.func213 rfl (by decide) (Nat.le_of_ble_eq_true rfl) (by simp) ?_
  intro hwf
  refine .seq ?_
  refine .plain Try.tmOk Try.tmMixed [0, 1, 2] (by decide +kernel) (by intro q hq; simp only [go_sem, appendD, Nat.reduceSub, Int.reduceEq, Nat.reduceLT, Nat.reduceDiv, Nat.reduceAdd, Nat.reduceBEq, Nat.reduceLeDiff, reduceCtorEq, Nat.reduceEqDiff, Nat.reduceMod, capK, bij, bik, bjk, bji, bki, bkj]; exact hq) (by first | rfl | (simp only [go_sem, Nat.reduceLeDiff]; done) | (simp only [go_sem, Nat.reduceLeDiff]; rfl) | (simp; done) | (simp [oneD] <;> omega) | (simp_all; done) | (simp_all [oneD] <;> omega)) (by first | exact Nat.le_refl _ | exact Nat.le_of_ble_eq_true rfl | (dsimp only; omega) | (simp <;> omega)) ?_
  refine .seq ?_
  refine .plain Try.tmOk Try.tmMixed [0, 1, 2] (by decide +kernel) (by intro q hq; simp only [go_sem, appendD, Nat.reduceSub, Int.reduceEq, Nat.reduceLT, Nat.reduceDiv, Nat.reduceAdd, Nat.reduceBEq, Nat.reduceLeDiff, reduceCtorEq, Nat.reduceEqDiff, Nat.reduceMod, capK, Try.tm_80, Try.tm_3, bij, bik, bjk, bji, bki, bkj]; exact hq) (by first | rfl | (simp only [go_sem, Nat.reduceLeDiff]; done) | (simp only [go_sem, Nat.reduceLeDiff]; rfl) | (simp; done) | (simp [oneD] <;> omega) | (simp_all; done) | (simp_all [oneD] <;> omega)) (by first | exact Nat.le_refl _ | exact Nat.le_of_ble_eq_true rfl | (dsimp only; omega) | (simp <;> omega)) ?_
  refine .seq ?_
  refine .plain Try.tmOk Try.tmMixed [0, 1, 2] (by decide +kernel) (by intro q hq; simp only [go_sem, appendD, Nat.reduceSub, Int.reduceEq, Nat.reduceLT, Nat.reduceDiv, Nat.reduceAdd, Nat.reduceBEq, Nat.reduceLeDiff, reduceCtorEq, Nat.reduceEqDiff, Nat.reduceMod, capK, Try.tm_80, Try.tm_3, bij, bik, bjk, bji, bki, bkj]; exact hq) (by first | rfl | (simp only [go_sem, Nat.reduceLeDiff]; done) | (simp only [go_sem, Nat.reduceLeDiff]; rfl) | (simp; done) | (simp [oneD] <;> omega) | (simp_all; done) | (simp_all [oneD] <;> omega)) (by first | exact Nat.le_refl _ | exact Nat.le_of_ble_eq_true rfl | (dsimp only; omega) | (simp <;> omega)) ?_
  refine .seq ?_
  refine .seq ?_
  refine .plain Try.tmOk Try.tmMixed [0, 1, 2, 7] (by decide +kernel) (by intro q hq; simp only [go_sem, appendD, Nat.reduceSub, Int.reduceEq, Nat.reduceLT, Nat.reduceDiv, Nat.reduceAdd, Nat.reduceBEq, Nat.reduceLeDiff, reduceCtorEq, Nat.reduceEqDiff, Nat.reduceMod, capK, Try.tm_80, Try.tm_3]; exact hq) (by first | rfl | (simp only [go_sem, Nat.reduceLeDiff]; done) | (simp only [go_sem, Nat.reduceLeDiff]; rfl) | (simp; done) | (simp [oneD] <;> omega) | (simp_all; done) | (simp_all [oneD] <;> omega)) (by first | exact Nat.le_refl _ | exact Nat.le_of_ble_eq_true rfl | (dsimp only; omega) | (simp <;> omega)) ?_
  refine .cond rfl rfl (fun hc => by simp at hc) (fun hc => ?_)
  refine .skip ?_
  refine .seq ?_
  refine .plain Try.tmOk Try.tmMixed [0, 1, 2, 7] (by decide +kernel) (by intro q hq; simp only [go_sem, appendD, Nat.reduceSub, Int.reduceEq, Nat.reduceLT, Nat.reduceDiv, Nat.reduceAdd, Nat.reduceBEq, Nat.reduceLeDiff, reduceCtorEq, Nat.reduceEqDiff, Nat.reduceMod, capK, Try.tm_80, Try.tm_3]; exact hq) (by first | rfl | (simp only [go_sem, Nat.reduceLeDiff]; done) | (simp only [go_sem, Nat.reduceLeDiff]; rfl) | (simp; done) | (simp [oneD] <;> omega) | (simp_all; done) | (simp_all [oneD] <;> omega)) (by first | exact Nat.le_refl _ | exact Nat.le_of_ble_eq_true rfl | (dsimp only; omega) | (simp <;> omega)) ?_
  refine .seq ?_
  refine .seq ?_
  refine .plain Try.tmOk Try.tmMixed [0, 1, 2, 7, 8] (by decide +kernel) (by intro q hq; simp only [go_sem, appendD, Nat.reduceSub, Int.reduceEq, Nat.reduceLT, Nat.reduceDiv, Nat.reduceAdd, Nat.reduceBEq, Nat.reduceLeDiff, reduceCtorEq, Nat.reduceEqDiff, Nat.reduceMod, capK, Try.tm_80, Try.tm_3]; exact hq) (by first | rfl | (simp only [go_sem, Nat.reduceLeDiff]; done) | (simp only [go_sem, Nat.reduceLeDiff]; rfl) | (simp; done) | (simp [oneD] <;> omega) | (simp_all; done) | (simp_all [oneD] <;> omega)) (by first | exact Nat.le_refl _ | exact Nat.le_of_ble_eq_true rfl | (dsimp only; omega) | (simp <;> omega)) ?_
  refine .cond rfl rfl (fun hc => ?_) (fun hc => by simp at hc)
  refine .seq ?_
  refine .plain Try.tmOk Try.tmMixed [0, 2] (by decide +kernel) (by intro q hq; simp only [go_sem, appendD, Nat.reduceSub, Int.reduceEq, Nat.reduceLT, Nat.reduceDiv, Nat.reduceAdd, Nat.reduceBEq, Nat.reduceLeDiff, reduceCtorEq, Nat.reduceEqDiff, Nat.reduceMod, capK, Try.tm_80, Try.tm_3, bij, bik, bjk, bji, bki, bkj]; exact hq) (by first | rfl | (simp only [go_sem, Nat.reduceLeDiff]; done) | (simp only [go_sem, Nat.reduceLeDiff]; rfl) | (simp; done) | (simp [oneD] <;> omega) | (simp_all; done) | (simp_all [oneD] <;> omega)) (by first | exact Nat.le_refl _ | exact Nat.le_of_ble_eq_true rfl | (dsimp only; omega) | (simp <;> omega)) ?_
  refine .ret ⟨.inr rfl, retH [j, k] ?_ ?_⟩
  · simp only [ResIs, resL, resD, resT, go_sem, appendD, Nat.reduceSub, Int.reduceEq, Nat.reduceLT, Nat.reduceDiv, Nat.reduceAdd, Nat.reduceBEq, Nat.reduceLeDiff, reduceCtorEq, Nat.reduceEqDiff, Nat.reduceMod, Try.f213]
  · simp only [pickL, getL, effL, put, del, Nat.beq_refl, cond_true, cond_false, bij, bik, bjk, bji, bki, bkj, List.take_length]
theorem ins213N (i j k : Nat) (hij : i ≠ j) (hik : i ≠ k) (hjk : j ≠ k) (L : List D) (x : D) (P Q : Bool) (at' : Nat) (hat : at' ≤ L.length) (hL : L.length < 1000000) :
    CallH Try.prog 213 [.ref i 7 0 L.length none, .int .i64 (at' : Int), .ref j 7 0 1 (some 1)] [(i, .arr 90 7 P L), (j, .arr 90 7 Q [x])] (.ref k 7 0 (L.length + 1) none) [(k, some (.arr 90 7 (P && Q) (L.take at' ++ x :: L.drop at'))), (i, none)] (k, k + 1) := by
  by_cases h : at' = L.length
  · subst h
    have := ins213eN i j k hij hik hjk L x P Q hL
    rw [List.take_length, List.drop_length]
    exact this
  · exact callH_cap (l := L) (p := P) (ins213e i j k hij hik hjk L x P Q hL).1 (by simp only [getL, Nat.beq_refl, cond_true]) hik
      (fun c hc _ h2 => ins213r i j k hij L x P Q at' c hc (by omega) hL h2)
      (fun c hc h1 h2 => ins213g i j k hij hik hjk L x P Q at' c hc (by omega) hL h1 h2)
end Go.Proofs
end
section
namespace Go.Proofs
open Go.Tm
theorem insT213n (i j k : Nat) (hij : i ≠ j) (hik : i ≠ k) (hjk : j ≠ k) (l : List TWait) (x : TWait) (at' : Int) (h : 0 ≤ at' ∧ at' ≤ (l.length : Int)) (hl : l.length < 1000000) :
    CallH Try.prog 213 [.ref i 7 0 l.length (some unkC), .int .i64 at', .ref j 7 0 1 (some 1)] [(i, .arr 90 7 true (l.map TWait.n)), (j, .arr 90 7 true [x.n])] (.ref k 7 0 (l.take at'.toNat ++ x :: l.drop at'.toNat).length (some unkC)) [(k, some (.arr 90 7 true ((l.take at'.toNat ++ x :: l.drop at'.toNat).map TWait.n))), (i, none)] (k, k + 1) := by
  have t := ins213 i j k hij hik hjk (l.map TWait.n) x.n true true at'.toNat (by rw [List.length_map]; omega) (by rw [List.length_map]; exact hl)
  rw [Int.toNat_of_nonneg h.1, List.length_map, take_map, drop_map, ← List.map_cons, ← List.map_append] at t
  have e : l.length + 1 = (l.take at'.toNat ++ x :: l.drop at'.toNat).length := by simp; omega
  rw [e] at t
  exact t
end Go.Proofs
end
