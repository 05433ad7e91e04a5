/- The walks of functions, printed by gw.py. -/
import Derived.Lib.Overlaps
import Derived.KernelRfl
import Derived.Test.YtnhnalcgbpebiaaAttemptTakesPf
import Derived.Test.YtnhnalcgbpebiaaAttemptTakesPg
import Derived.Test.YtnhnalcgbpebiaaAttemptTakesPh
import Derived.Test.YtnhnalcgbpebiaaAttemptTakesPi
section
namespace Go.Proofs
open Go.Tm Go.RowKit Go.WideShapes
set_option maxRecDepth 100000
set_option maxHeartbeats 4000000
set_option linter.unusedSimpArgs false
set_option linter.unusedVariables false
attribute [local go_sem] argVars runE runK isCallV stepE aop opd opdsL opds opdO ev ofVal keep List.any natbeq Bool.false_or Bool.true_or aggEq cond_true cond_false Bool.cond_false_right Bool.cond_true_left beq_true beq_false imp_self implies_true getR getL put St.app effL del nwB blt_dec Nat.lt_irrefl Nat.lt_add_one ble_dec Nat.le_refl Nat.beq_refl roomNZ appendIn capS capK mkZ_zero mkZL_zero zeroEl D.ids D.idsL Option.getD bin arith sarith binT dpick Tm.part splice fillD oneD loadD storeD srcD sliceD idxOk decide_true gval dstAt D.cells List.map_cons List.map_nil List.take List.drop List.length_map List.append Int.toNat_natCast and_true true_and decide_false List.length_cons List.length_nil List.append_nil List.nil_append Bool.and_true Bool.true_and Bool.not_false Bool.not_true ne_eq not_false_eq_true BEq.rfl List.getElem?_cons_zero List.getElem?_cons_succ List.getElem?_nil Nat.zero_add List.all_cons List.all_nil List.isEmpty_cons List.isEmpty_nil List.any_cons List.any_nil List.drop_succ_cons List.drop_zero unfL unf okM okML low3 List.cons_append true_or or_true Nat.zero_mul Nat.zero_le bytesD_map map_ub mkZ_one mkZL_one mkM mkML mk1_int mk1_str mk1_bool drop_map take_map take_map_len List.take_length Int.toNat_zero toNat_pred fpOf metIds opIds mvV mvH mvF pickL D.ren D.renL Blk.ren List.map_append List.length_append Bool.not_not Bool.or_not_self Bool.not_or_self Bool.or_true
attribute [local go_sem] Try.tm_1 Try.tm_2 Try.tm_3 Try.tm_4 Try.tm_5 Try.tm_6 Try.tm_7 Try.tm_8 Try.tm_9 Try.tm_10 Try.tm_11 Try.tm_12 Try.tm_13 Try.tm_14 Try.tm_15 Try.tm_16 Try.tm_17 Try.tm_18 Try.tm_19 Try.tm_20 Try.tm_21 Try.tm_22 Try.tm_23 Try.tm_24 Try.tm_25 Try.tm_26 Try.tm_27 Try.tm_28 Try.tm_29 Try.tm_30 Try.tm_32 Try.tm_34 Try.tm_35 Try.tm_36 Try.tm_37 Try.tm_38 Try.tm_39 Try.tm_40 Try.tm_41 Try.tm_42 Try.tm_43 Try.tm_44 Try.tm_45 Try.tm_46 Try.tm_47 Try.tm_48 Try.tm_50 Try.tm_51 Try.tm_52 Try.tm_53 Try.tm_54 Try.tm_55 Try.tm_57 Try.tm_58 Try.tm_59 Try.tm_61 Try.tm_63 Try.tm_64 Try.tm_65 Try.tm_66 Try.tm_67 Try.tm_68 Try.tm_69 Try.tm_70 Try.tm_71 Try.tm_73 Try.tm_75 Try.tm_76 Try.tm_78 Try.tm_79 Try.tm_80 Try.tm_81 Try.tm_82 Try.tm_83 Try.tm_84 Try.tm_85 Try.tm_86 Try.tm_87 Try.tm_88 Try.tm_89 Try.tm_90 Try.tm_91 Try.tm_93 Try.tm_94 Try.tm_95 Try.tm_96 Try.tm_97 Try.tm_98 Try.tm_99 Try.tm_100 Try.tm_101 Try.tm_102 Try.tm_103 Try.tm_104 Try.tm_105 Try.tm_106 Try.tm_107 Try.tm_109 Try.tm_111 Try.tm_113 Try.tm_114 Try.tm_115 Try.tm_116 Try.tm_117 Try.tm_118 Try.tm_119 Try.tm_120 Try.tm_121 Try.tm_123 Try.tm_124 Try.tm_125 Try.tm_127 Try.tm_128 Try.tm_129 Try.tm_130 Try.tm_131 Try.tm_132 Try.tm_133 Try.tm_134 Try.tm_135 Try.tm_136 Try.tm_137 Try.tm_138 Try.tm_139 Try.tm_140 Try.tm_141 Try.tm_142 Try.tm_143 Try.tm_144 Try.tm_145 Try.tm_146 Try.tm_147 Try.tm_149 Try.tm_150 Try.tm_151 Try.tm_152 Try.tm_153 Try.tm_154 Try.tm_155 Try.tm_156 Try.tm_157 Try.tm_158 Try.tm_159 Try.tm_160 Try.tm_162 Try.tm_163 Try.tm_164 Try.tm_165 Try.tm_166 Try.tm_167 Try.tm_168 Try.tm_169 Try.tm_170 Try.tm_171 Try.tm_172 Try.tm_173 Try.tm_175 Try.tm_177 Try.tm_178 Try.tm_179 Try.tm_180 Try.tm_181 Try.tm_182 Try.tm_184 Try.tm_185 Try.tm_187 Try.tm_189 Try.tm_191 Try.tm_192 Try.tm_193 Try.tm_194 Try.tm_195 Try.tm_196 Try.tm_197 Try.tm_198 Try.tm_199 Try.tm_200 Try.tm_201 Try.tm_202 Try.tm_203 Try.tm_204 Try.tm_205 Try.tm_206 Try.tm_207 Try.tm_208 Try.tm_209 Try.tm_210 Try.tm_211 Try.tm_212 Try.tm_213 Try.tm_214 Try.tm_215 Try.tm_216 Try.tm_217 Try.tm_218 Try.tm_219 Try.tm_220 Try.tm_221 Try.tm_223 Try.tm_224 Try.tm_225 Try.tm_226 Try.tm_227 Try.tm_229 Try.tm_230 Try.tm_231 Try.tm_232 Try.tm_233 Try.tm_235 Try.tm_236 Try.tm_237 Try.tm_238 Try.tm_239 Try.tm_240 Try.tm_241 Try.tm_242 Try.tm_243 Try.tm_244 Try.tm_245 Try.tm_246 Try.tm_247 Try.tm_248 Try.tm_249 Try.tm_250 Try.tm_251 Try.tm_252 Try.tm_253 Try.tm_254 Try.tm_255 Try.tm_256 Try.tm_257 Try.tm_258 Try.tm_259 Try.tm_260 Try.tm_262 Try.tm_263 Try.tm_264 Try.tm_265 Try.tm_266 Try.tm_267 Try.tm_269 Try.tm_270 Try.tm_271 Try.tm_272 Try.tm_273 Try.tm_274 Try.tm_275 Try.tm_276 Try.tm_277 Try.tm_278 Try.tm_280 Try.tm_281 Try.tm_282 Try.tm_283 Try.tm_284 Try.tm_286 Try.tm_288 Try.tm_289 Try.tm_290 Try.tm_291 Try.tm_292 Try.tm_294 Try.tm_296 Try.tm_297 Try.tm_298 Try.tm_299 Try.tm_300 Try.tm_302 Try.tm_303 Try.tm_304 Try.tm_305 Try.tm_306 Try.tm_307 Try.tm_308 Try.tm_309 Try.tm_310 Try.tm_311 Try.tm_312 Try.tm_313 Try.tm_314 Try.tm_315 Try.tm_316 Try.tm_317 Try.tm_318 Try.tm_319 Try.tm_320 Try.tm_321 Try.tm_322 Try.tm_324 Try.tm_325 Try.tm_326 Try.tm_327 Try.tm_330 Try.tm_331 Try.tm_332 Try.tm_333 Try.tm_334 Try.tm_335 Try.tm_336 Try.tm_337 TPromise.d TAttempt.d TAttempt.n dL_str nL_str TVote.d TSeen.d TStable.d TStable.n TRecord.d TMessage.d TMessage.n TWait.d TWait.n TStamp.d TSkeen.d TSkeen.n TCommand.d TCommand.n mk1_TPromise mk1_TAttempt mk1_dL_str mk1_TVote mk1_TSeen mk1_TStable mk1_TRecord mk1_TMessage mk1_TWait mk1_TStamp mk1_TSkeen mk1_TCommand Try.f17 Try.f19

def Try.St_towncrierref08_Promised_1 (a : TAttempt) (p : TPromise) (v4 : TAttempt) (n1 : Int) : St := ⟨[(3, .ptr 0 0), (5, .ptr 1 0), (6, .ptr 2 0), (8, .ptr 16 0), (9, .int .i64 n1)], [(0, .box [.int .u8 a.Phase, .int .i64 a.Ballot, .imm 1 (a.Members.map (D.int .i64)) 4, .str a.Wish, .str a.Value, .imm 3 (a.Promises.map TPromise.d) 4, .imm 1 (a.Accepted.map (D.int .i64)) 4]), (1, .box [.int .i64 p.Node, .int .i64 p.Ballot, .str p.Value]), (2, .box [.int .u8 0, .int .i64 0, .imm 0 [] 0, .str [], .str [], .imm 0 [] 0, .imm 0 [] 0]), (16, .box [.int .u8 v4.Phase, .int .i64 v4.Ballot, .ref 22 1 0 v4.Members.length (some unkC), .str v4.Wish, .str v4.Value, .ref 23 3 0 v4.Promises.length (some unkC), .ref 24 1 0 v4.Accepted.length (some unkC)]), (22, .arr 3 1 true (v4.Members.map (D.int .i64))), (23, .arr 27 3 true (v4.Promises.map TPromise.d)), (24, .arr 3 1 true (v4.Accepted.map (D.int .i64)))], 25⟩
attribute [local go_sem] Try.St_towncrierref08_Promised_1
def Try.St_towncrierref08_Promised_3 (a : TAttempt) (p : TPromise) (v4 : TAttempt) (n2 : Int) : St := ⟨[(3, .ptr 0 0), (5, .ptr 1 0), (6, .ptr 2 0), (8, .ptr 16 0), (9, .int .i64 n2)], [(0, .box [.int .u8 a.Phase, .int .i64 a.Ballot, .imm 1 (a.Members.map (D.int .i64)) 4, .str a.Wish, .str a.Value, .imm 3 (a.Promises.map TPromise.d) 4, .imm 1 (a.Accepted.map (D.int .i64)) 4]), (1, .box [.int .i64 p.Node, .int .i64 p.Ballot, .str p.Value]), (2, .box [.int .u8 0, .int .i64 0, .imm 0 [] 0, .str [], .str [], .imm 0 [] 0, .imm 0 [] 0]), (16, .box [.int .u8 v4.Phase, .int .i64 v4.Ballot, .ref 22 1 0 v4.Members.length (some unkC), .str v4.Wish, .str v4.Value, .ref 23 3 0 v4.Promises.length (some unkC), .ref 24 1 0 v4.Accepted.length (some unkC)]), (22, .arr 3 1 true (v4.Members.map (D.int .i64))), (23, .arr 27 3 true (v4.Promises.map TPromise.d)), (24, .arr 3 1 true (v4.Accepted.map (D.int .i64)))], 25⟩
attribute [local go_sem] Try.St_towncrierref08_Promised_3
def Try.St_towncrierref08_Promised_5 (a : TAttempt) (p : TPromise) (v4 : TAttempt) (n1 : Int) (n3 : Int) (s1 : List UInt8) : St := ⟨[(6, .ptr 2 0), (8, .ptr 16 0)], [(2, .box [.int .u8 0, .int .i64 0, .imm 0 [] 0, .str [], .str [], .imm 0 [] 0, .imm 0 [] 0]), (16, .box [.int .u8 n3, .int .i64 v4.Ballot, .ref 29 1 0 v4.Members.length (some unkC), .str v4.Wish, .str s1, .ref 30 3 0 ((((a.Promises.take n1.toNat) ++ [p]) ++ (a.Promises.drop n1.toNat)).length) (some unkC), .ref 31 1 0 v4.Accepted.length (some unkC)]), (29, .arr 3 1 true (v4.Members.map (D.int .i64))), (30, .arr 27 3 true ((((a.Promises.take n1.toNat) ++ [p]) ++ (a.Promises.drop n1.toNat)).map TPromise.d)), (31, .arr 3 1 true (v4.Accepted.map (D.int .i64)))], 32⟩
attribute [local go_sem] Try.St_towncrierref08_Promised_5
def Try.Re_towncrierref08_Promised (r : TAttempt × Int) : St := ⟨[(6, .ptr 3 0), (7, .int .i64 r.2)], [(0, .arr 3 1 true (r.1.Members.map (D.int .i64))), (1, .arr 27 3 true (r.1.Promises.map TPromise.d)), (2, .arr 3 1 true (r.1.Accepted.map (D.int .i64))), (3, .box [.int .u8 r.1.Phase, .int .i64 r.1.Ballot, .ref 0 1 0 r.1.Members.length (some unkC), .str r.1.Wish, .str r.1.Value, .ref 1 3 0 r.1.Promises.length (some unkC), .ref 2 1 0 r.1.Accepted.length (some unkC)])], 4⟩
attribute [local go_sem] Try.Re_towncrierref08_Promised
theorem callH_towncrierref08_Promised (a : TAttempt) (ballot : Int) (p : TPromise) (r : TAttempt × Int) (h : m_towncrierref08_Promised a ballot p = some r) : CallH Try.prog 17 [.agg [.int .u8 a.Phase, .int .i64 a.Ballot, .imm 1 (a.Members.map (D.int .i64)) 4, .str a.Wish, .str a.Value, .imm 3 (a.Promises.map TPromise.d) 4, .imm 1 (a.Accepted.map (D.int .i64)) 4], .int .i64 ballot, .agg [.int .i64 p.Node, .int .i64 p.Ballot, .str p.Value]] [] (.tuple [.agg [.int .u8 r.1.Phase, .int .i64 r.1.Ballot, .ref 0 1 0 r.1.Members.length (some unkC), .str r.1.Wish, .str r.1.Value, .ref 1 3 0 r.1.Promises.length (some unkC), .ref 2 1 0 r.1.Accepted.length (some unkC)], .int .i64 r.2]) [(0, some (.arr 3 1 true (r.1.Members.map (D.int .i64)))), (1, some (.arr 27 3 true (r.1.Promises.map TPromise.d))), (2, some (.arr 3 1 true (r.1.Accepted.map (D.int .i64))))] (0, 36) := by
  refine callH_intro' Try.tmOk Try.func17 rfl (by decide) (Nat.le_of_ble_eq_true rfl) (by simp) ?_
  intro hwf
  unfold m_towncrierref08_Promised at h
  refine .ends 0 (Nat.le_refl _) ?_
  refine .seq ?_
  refine .pl Try.S [0, 1, 2] ?_
  refine .seq ?_
  refine .seq ?_
  obtain ⟨v1, hv1, h⟩ := bind_some h
  refine .rg Try.S [1, 3, 5, 6] ?_
  refine .rn 1 ?_
  refine .call (r := .bool v1) rfl rfl rfl rfl rfl rfl (callP_towncrierref08_May a v1 hv1) ?_
  refine .rn 1 ?_
  refine .nil ⟨nofun, ?_⟩
  refine .cond rfl rfl (fun hc1 => ?_) (fun hc1 => ?_)
  · skip
    replace h := ite_lc h hc1
    refine .seq ?_
    refine .pl Try.S [6] ?_
    have hq := Option.some.inj h
    subst r
    refine .ret ⟨Try.Re_towncrierref08_Promised ((⟨0, 0, [], [], [], [], []⟩ : TAttempt), 8), ?_, .inr rfl, retH [2, 1, 0] ?_ ?_⟩
    · skip
      refine Goes.new0 1 3 (Nat.le_of_ble_eq_true rfl) ?_
      refine Goes.new0 3 27 (Nat.le_of_ble_eq_true rfl) ?_
      refine Goes.new0 1 3 (Nat.le_of_ble_eq_true rfl) ?_
      refine Goes.boxs 2 _ [.int .u8 0, .int .i64 0, .ref 3 1 0 0 (some unkC), .str [], .str [], .ref 4 3 0 0 (some unkC), .ref 5 1 0 0 (some unkC)] rfl (.keep (.keep (.cons (.own0 3 _ _ _ (by decide)) (.keep (.keep (.cons (.own0 4 _ _ _ (by decide)) (.cons (.own0 5 _ _ _ (by decide)) (.refl _)))))))) ?_
      exact .m [6, 7] [3, 4, 5, 2] [(3, 0), (4, 1), (5, 2), (2, 3)]
    · exact rsi0
    · rfl
  · skip
    replace h := ite_rc h hc1
    refine .skip ?_
    refine .seq ?_
    refine .seq ?_
    obtain ⟨v2, hv2, h⟩ := bind_some h
    refine .rg Try.S [1, 3, 5, 6] ?_
    refine .rn 6 ?_
    refine .rn 8 ?_
    refine .gcall (r := .bool v2) rfl rfl rfl rfl rfl (fun hg => ⟨[], [.imm 1 (a.Members.map (D.int .i64)) 4, .int .i64 p.Node], _, rfl, gd hg, rfl, (callP_towncrierref06_Has a.Members p.Node v2 (ite_lc hv2 hg))⟩) ?_
    refine .rn 2 ?_
    refine .nil ⟨nofun, ?_⟩
    refine .cond rfl rfl (fun hc2 => ?_) (fun hc2 => ?_)
    · skip
      replace h := ite_lc h hc2
      refine .seq ?_
      refine .pl Try.S [6] ?_
      have hq := Option.some.inj h
      subst r
      refine .ret ⟨Try.Re_towncrierref08_Promised ((⟨0, 0, [], [], [], [], []⟩ : TAttempt), 6), ?_, .inr rfl, retH [2, 1, 0] ?_ ?_⟩
      · skip
        refine Goes.new0 1 3 (Nat.le_of_ble_eq_true rfl) ?_
        refine Goes.new0 3 27 (Nat.le_of_ble_eq_true rfl) ?_
        refine Goes.new0 1 3 (Nat.le_of_ble_eq_true rfl) ?_
        refine Goes.boxs 2 _ [.int .u8 0, .int .i64 0, .ref 3 1 0 0 (some unkC), .str [], .str [], .ref 4 3 0 0 (some unkC), .ref 5 1 0 0 (some unkC)] rfl (.keep (.keep (.cons (.own0 3 _ _ _ (by decide)) (.keep (.keep (.cons (.own0 4 _ _ _ (by decide)) (.cons (.own0 5 _ _ _ (by decide)) (.refl _)))))))) ?_
        exact .m [6, 7] [3, 4, 5, 2] [(3, 0), (4, 1), (5, 2), (2, 3)]
      · exact rsi0
      · rfl
    · skip
      replace h := ite_rc h hc2
      refine .skip ?_
      refine .seq ?_
      refine .seq ?_
      obtain ⟨v3, hv3, h⟩ := bind_some h
      refine .rg Try.S [1, 3, 5, 6] ?_
      refine .rn 2 ?_
      refine .call (r := .bool v3) rfl rfl rfl rfl rfl rfl (callP_towncrierref08_MayPromise p ballot v3 hv3) ?_
      refine .rn 1 ?_
      refine .nil ⟨nofun, ?_⟩
      refine .cond rfl rfl (fun hc3 => ?_) (fun hc3 => ?_)
      · skip
        replace h := ite_lc h hc3
        refine .seq ?_
        refine .pl Try.S [6] ?_
        have hq := Option.some.inj h
        subst r
        refine .ret ⟨Try.Re_towncrierref08_Promised ((⟨0, 0, [], [], [], [], []⟩ : TAttempt), 8), ?_, .inr rfl, retH [2, 1, 0] ?_ ?_⟩
        · skip
          refine Goes.new0 1 3 (Nat.le_of_ble_eq_true rfl) ?_
          refine Goes.new0 3 27 (Nat.le_of_ble_eq_true rfl) ?_
          refine Goes.new0 1 3 (Nat.le_of_ble_eq_true rfl) ?_
          refine Goes.boxs 2 _ [.int .u8 0, .int .i64 0, .ref 3 1 0 0 (some unkC), .str [], .str [], .ref 4 3 0 0 (some unkC), .ref 5 1 0 0 (some unkC)] rfl (.keep (.keep (.cons (.own0 3 _ _ _ (by decide)) (.keep (.keep (.cons (.own0 4 _ _ _ (by decide)) (.cons (.own0 5 _ _ _ (by decide)) (.refl _)))))))) ?_
          exact .m [6, 7] [3, 4, 5, 2] [(3, 0), (4, 1), (5, 2), (2, 3)]
        · exact rsi0
        · rfl
      · skip
        replace h := ite_rc h hc3
        refine .skip ?_
        refine .seq ?_
        obtain ⟨v4, hv4, h⟩ := bind_some h
        refine .rg Try.S [3, 5, 6] ?_
        refine .rn 1 ?_
        refine .ncall (r := .agg [.int .u8 v4.Phase, .int .i64 v4.Ballot, .ref 8 1 0 v4.Members.length (some unkC), .str v4.Wish, .str v4.Value, .ref 9 3 0 v4.Promises.length (some unkC), .ref 10 1 0 v4.Accepted.length (some unkC)]) (eff := [(8, some (.arr 3 1 true (v4.Members.map (D.int .i64)))), (9, some (.arr 27 3 true (v4.Promises.map TPromise.d))), (10, some (.arr 3 1 true (v4.Accepted.map (D.int .i64))))]) (nw := (8, 16)) [] rfl rfl rfl rfl rfl (lend2s_cons rfl lend2s_nil) rfl (callH_at 8 (Nat.le_of_ble_eq_true rfl) (callH_towncrierref08_Twin a v4 hv4)) (newE_cons rfl rfl (newB_arr pl0_i64 _ _ _) (newE_cons rfl rfl (newB_arr pl0_TPromise _ _ _) (newE_cons rfl rfl (newB_arr pl0_i64 _ _ _) newE_nil))) (by intro i hi; simp [D.ids, D.idsL] at hi; omega) rfl ⟨Nat.le_of_ble_eq_true rfl, Nat.le_of_ble_eq_true rfl⟩ ?_
        refine .rn 2 ?_
        refine .nil ⟨nofun, ?_⟩
        refine .seq ?_
        refine .seq ?_
        obtain ⟨v5, hv5, h⟩ := bind_some h
        obtain ⟨v6, hv6, h⟩ := bind_some h
        refine .rg Try.S [3, 5, 6, 8] ?_
        refine .rd 2 ?_
        refine .ncall (r := .ref 17 1 0 v5.length (some unkC)) (eff := [(17, some (.arr 3 1 true (v5.map (D.int .i64))))]) (nw := (17, 22)) [] rfl rfl rfl rfl rfl (lend2s_cons rfl lend2s_nil) rfl (callH_at 17 (Nat.le_of_ble_eq_true rfl) (callH_towncrierref08_nodes a.Promises v5 hv5)) (newE_cons rfl rfl (newB_arr pl0_i64 _ _ _) newE_nil) (by intro i hi; simp [D.ids, D.idsL] at hi; omega) rfl ⟨Nat.le_of_ble_eq_true rfl, Nat.le_of_ble_eq_true rfl⟩ ?_
        refine .rd 2 ?_
        refine .lcall (r := .bool v6) [] rfl rfl rfl rfl rfl (lend2s_cons (lend2_of (lend_ref (pl_int .i64) (by first | rfl | (simp only [go_sem, Nat.reduceBEq]; rfl)) (by first | rfl | (simp; done) | (simp <;> omega))) trivial) (lend2s_cons rfl lend2s_nil)) rfl (callP_towncrierref06_Has v5 p.Node v6 hv6) ?_
        refine .nil ⟨fun _ => schedB_of (by kernel_rfl), ?_⟩
        refine .cond rfl rfl (fun hc4 => ?_) (fun hc4 => ?_)
        · skip
          replace h := ite_lc h hc4
          refine .seq ?_
          refine .pl Try.S [6, 8] ?_
          have hq := Option.some.inj h
          subst r
          refine .ret ⟨Try.Re_towncrierref08_Promised (v4, 0), ?_, .inr rfl, retH [2, 1, 0] ?_ ?_⟩
          · skip
            exact .m [6, 7] [8, 9, 10, 2] [(8, 0), (9, 1), (10, 2), (2, 3)]
          · exact rsi0
          · rfl
        · skip
          replace h := ite_rc h hc4
          refine .skip ?_
          refine .seq ?_
          refine .pl Try.S [3, 5, 6, 8] ?_
          obtain ⟨x1, hx1, h⟩ := bind_some h
          refine .seqM 22 (fun (j : Int) => Try.St_towncrierref08_Promised_1 a p v4 j) (fun j => x1 = j) (Nat.le_of_ble_eq_true rfl) ?_ ?_
          · skip
            refine .block ?_
            refine .loopG 22 (fun (j : Nat × Int) => Try.St_towncrierref08_Promised_3 a p v4 j.2) (fun j => m_towncrierref08_Promised_loop1 a p j.1 j.2 = some x1) (fun j => j.1) (a.Promises.length + 1, 0) (Nat.le_of_ble_eq_true rfl) ?_ hx1 ?_
            · skip
              exact .m [3, 5, 6, 8, 9] [0, 1, 2, 16, 8, 9, 10] [(8, 22), (9, 23), (10, 24)]
            rintro ⟨fu1, n2⟩ hx1
            simp only [Try.St_towncrierref08_Promised_3]
            try simp only at hx1
            obtain ⟨fu1, rfl⟩ : ∃ k, fu1 = k + 1 := by cases fu1 with | zero => (rw [m_towncrierref08_Promised_loop1] at hx1; cases hx1) | succ k => exact ⟨k, rfl⟩
            rw [m_towncrierref08_Promised_loop1] at hx1
            refine .seq ?_
            obtain ⟨k2, hx1⟩ := ite_ck hx1
            refine .seqM 25 (fun (_ : Unit) => ⟨[(3, .ptr 0 0), (5, .ptr 1 0), (6, .ptr 2 0), (8, .ptr 16 0), (9, .int .i64 n2), (61, .bool ((decide (n2 < (a.Promises.length : Int))) && (decide ((a.Promises.getD n2.toNat default).Node < p.Node))))], [(0, .box [.int .u8 a.Phase, .int .i64 a.Ballot, .imm 1 (a.Members.map (D.int .i64)) 4, .str a.Wish, .str a.Value, .imm 3 (a.Promises.map TPromise.d) 4, .imm 1 (a.Accepted.map (D.int .i64)) 4]), (1, .box [.int .i64 p.Node, .int .i64 p.Ballot, .str p.Value]), (2, .box [.int .u8 0, .int .i64 0, .imm 0 [] 0, .str [], .str [], .imm 0 [] 0, .imm 0 [] 0]), (16, .box [.int .u8 v4.Phase, .int .i64 v4.Ballot, .ref 22 1 0 v4.Members.length (some unkC), .str v4.Wish, .str v4.Value, .ref 23 3 0 v4.Promises.length (some unkC), .ref 24 1 0 v4.Accepted.length (some unkC)]), (22, .arr 3 1 true (v4.Members.map (D.int .i64))), (23, .arr 27 3 true (v4.Promises.map TPromise.d)), (24, .arr 3 1 true (v4.Accepted.map (D.int .i64)))], 25⟩) (fun _ => True) (Nat.le_of_ble_eq_true rfl) ?_ (fun _ _ => ?_)
            · skip
              by_cases hgd : n2 < (a.Promises.length : Int)
              · skip
                have eg10 := nth_mapI TPromise.d a.Promises n2 (k2 hgd)
                refine .rg Try.S [3, 5, 6, 8, 9] ?_
                refine .rdx 6 eg10 ?_
                refine .rdx 6 eg10 ?_
                refine .rdx 4 eg10 ?_
                refine .nil ⟨fun _ => schedB_of (by kernel_rfl), ?_⟩
                refine ⟨(), ?_, trivial⟩
                exact .m [3, 5, 6, 8, 9, 61] [0, 1, 2, 16, 22, 23, 24] []
              · skip
                have hgf1 : (decide (n2 < (a.Promises.length : Int))) = false := by first | simpa using hgd | (simp at hgd ⊢; omega) | grind
                rcases nth_or TPromise.d a.Promises n2.toNat with eg10 | eg10
                · skip
                  refine .rg Try.S [3, 5, 6, 8, 9] ?_
                  refine .rdx 6 (And.intro eg10 hgf1) ?_
                  refine .rdx 6 (And.intro eg10 hgf1) ?_
                  refine .rdx 4 (And.intro eg10 hgf1) ?_
                  refine .nil ⟨fun _ => schedB_of (by kernel_rfl), ?_⟩
                  refine ⟨(), ?_, trivial⟩
                  exact .mx hgf1 [3, 5, 6, 8, 9, 61] [0, 1, 2, 16, 22, 23, 24] []
                · skip
                  refine .rg Try.S [3, 5, 6, 8, 9] ?_
                  refine .rdx 6 (And.intro eg10 hgf1) ?_
                  refine .rdx 6 (And.intro eg10 hgf1) ?_
                  refine .rdx 4 (And.intro eg10 hgf1) ?_
                  refine .nil ⟨fun _ => schedB_of (by kernel_rfl), ?_⟩
                  refine ⟨(), ?_, trivial⟩
                  exact .mx hgf1 [3, 5, 6, 8, 9, 61] [0, 1, 2, 16, 22, 23, 24] []
            refine .cond rfl rfl (fun hc5 => ?_) (fun hc5 => ?_)
            · skip
              replace hx1 := ite_lc hx1 hc5
              refine .skip ?_
              refine .block ?_
              refine .pl Try.S [3, 5, 6, 8, 9] ?_
              refine ⟨(fu1, _), ?_, hx1, by dsimp only; omega⟩
              exact .m [3, 5, 6, 8, 9] [0, 1, 2, 16, 22, 23, 24] []
            · skip
              replace hx1 := ite_rc hx1 hc5
              refine .exit ?_
              refine ⟨_, ?_, (Option.some.inj hx1).symm⟩
              exact .m [3, 5, 6, 8, 9] [0, 1, 2, 16, 22, 23, 24] []
          · skip
            rintro n1 hj1
            subst x1
            try dsimp only at h
            simp only [Try.St_towncrierref08_Promised_1]
            obtain ⟨k3, h⟩ := ite_ck h
            obtain ⟨k4, h⟩ := ite_ck h
            refine .seqM 25 (fun (_ : Unit) => ⟨[(3, .ptr 0 0), (5, .ptr 1 0), (6, .ptr 2 0), (8, .ptr 16 0), (9, .int .i64 n1)], [(0, .box [.int .u8 a.Phase, .int .i64 a.Ballot, .imm 1 (a.Members.map (D.int .i64)) 4, .str a.Wish, .str a.Value, .imm 3 (a.Promises.map TPromise.d) 4, .imm 1 (a.Accepted.map (D.int .i64)) 4]), (1, .box [.int .i64 p.Node, .int .i64 p.Ballot, .str p.Value]), (2, .box [.int .u8 0, .int .i64 0, .imm 0 [] 0, .str [], .str [], .imm 0 [] 0, .imm 0 [] 0]), (16, .box [.int .u8 v4.Phase, .int .i64 v4.Ballot, .ref 22 1 0 v4.Members.length (some unkC), .str v4.Wish, .str v4.Value, .ref 25 3 0 ((a.Promises.take n1.toNat).length) (some unkC), .ref 24 1 0 v4.Accepted.length (some unkC)]), (22, .arr 3 1 true (v4.Members.map (D.int .i64))), (24, .arr 3 1 true (v4.Accepted.map (D.int .i64))), (25, .arr 27 3 true ((a.Promises.take n1.toNat).map TPromise.d))], 26⟩) (fun _ => True) (Nat.le_of_ble_eq_true rfl) ?_ (fun _ _ => ?_)
            · skip
              rcases list_cases (a.Promises.take n1.toNat) with hE1 | ⟨y, ys, hE1⟩
              · skip
                have hM1 : (a.Promises.take n1.toNat).map TPromise.d = [] := by rw [hE1]; simp
                refine .plain Try.tmOk Try.tmMixed [3, 5, 6, 8, 9] (by decide +kernel) (by intro q hq; simp only [go_sem, Nat.reduceSub, Int.reduceEq, Nat.reduceLT, Nat.reduceDiv, Nat.reduceAdd, Nat.reduceBEq, Nat.reduceLeDiff, reduceCtorEq, Nat.reduceEqDiff, Nat.reduceMod, Nat.reduceMul, Try.tm_23, Try.tm_25, drop_map, take_map, take_map_len, List.take_length, Int.toNat_zero, appendD_nil hM1, TAttempt.d, TPromise.d]; exact hq) (by first | rfl | (simp only [go_sem, Nat.reduceLeDiff]; done) | (simp only [go_sem, Nat.reduceLeDiff]; rfl) | (simp; done) | (simp [oneD] <;> omega) | (simp_all; done) | (simp_all [oneD] <;> omega)) (by first | exact Nat.le_refl _ | exact Nat.le_of_ble_eq_true rfl | (dsimp only; omega) | (simp <;> omega)) ?_
                refine ⟨(), ?_, trivial⟩
                refine Goes.new0 3 27 (Nat.le_of_ble_eq_true rfl) ?_
                refine Goes.boxs 16 _ [.int .u8 v4.Phase, .int .i64 v4.Ballot, .ref 22 1 0 v4.Members.length (some unkC), .str v4.Wish, .str v4.Value, .ref 25 3 0 0 (some unkC), .ref 24 1 0 v4.Accepted.length (some unkC)] rfl (.keep (.keep (.keep (.keep (.keep (.cons (.own0 25 _ _ _ (by decide)) (.refl _))))))) ?_
                exact .mx hE1 [3, 5, 6, 8, 9] [0, 1, 2, 16, 22, 24, 25] []
              · skip
                have hM1 : (a.Promises.take n1.toNat).map TPromise.d ≠ [] := by rw [hE1]; simp
                refine .plain Try.tmOk Try.tmMixed [3, 5, 6, 8, 9] (by decide +kernel) (by intro q hq; simp only [go_sem, Nat.reduceSub, Int.reduceEq, Nat.reduceLT, Nat.reduceDiv, Nat.reduceAdd, Nat.reduceBEq, Nat.reduceLeDiff, reduceCtorEq, Nat.reduceEqDiff, Nat.reduceMod, Nat.reduceMul, Try.tm_23, Try.tm_25, drop_map, take_map, take_map_len, List.take_length, Int.toNat_zero, appendD_cons hM1, TAttempt.d, TPromise.d]; exact hq) (by first | rfl | (simp only [go_sem, Nat.reduceLeDiff]; done) | (simp only [go_sem, Nat.reduceLeDiff]; rfl) | (simp; done) | (simp [oneD] <;> omega) | (simp_all; done) | (simp_all [oneD] <;> omega)) (by first | exact Nat.le_refl _ | exact Nat.le_of_ble_eq_true rfl | (dsimp only; omega) | (simp <;> omega)) ?_
                refine ⟨(), ?_, trivial⟩
                refine Goes.boxs 16 _ [.int .u8 v4.Phase, .int .i64 v4.Ballot, .ref 22 1 0 v4.Members.length (some unkC), .str v4.Wish, .str v4.Value, .ref 25 3 0 ((a.Promises.take n1.toNat).length) (some unkC), .ref 24 1 0 v4.Accepted.length (some unkC)] rfl (.keep (.keep (.keep (.keep (.keep (.cons (.unk _ _ _ _ _) (.refl _))))))) ?_
                exact .mx hE1 [3, 5, 6, 8, 9] [0, 1, 2, 16, 22, 24, 25] []
            refine .seq ?_
            obtain ⟨k5, h⟩ := ite_ck h
            refine .pl Try.S [3, 5, 6, 8, 9] ?_
            refine .seq ?_
            obtain ⟨k6, h⟩ := ite_ck h
            obtain ⟨k7, h⟩ := ite_ck h
            refine .rg Try.S [3, 6, 8, 9] ?_
            refine .rd 6 ?_
            refine .rd 3 ?_
            refine .nil ⟨fun _ => schedB_of (by kernel_rfl), ?_⟩
            obtain ⟨x2, hx2, h⟩ := bind_some h
            refine .seqM 29 (fun (j : Int × (List UInt8)) => Try.St_towncrierref08_Promised_5 a p v4 n1 j.1 j.2) (fun j => x2 = j) (Nat.le_of_ble_eq_true rfl) ?_ ?_
            · skip
              refine .seq ?_
              obtain ⟨v7, hv7, hx2⟩ := bind_some hx2
              obtain ⟨v8, hv8, hx2⟩ := bind_some hx2
              refine .rg Try.S [3, 6, 8] ?_
              refine .rd 4 ?_
              refine .ncall (r := .ref 29 1 0 v7.length (some unkC)) (eff := [(29, some (.arr 3 1 true (v7.map (D.int .i64))))]) (nw := (29, 34)) [] rfl rfl rfl rfl rfl (lend2s_cons (lend2_of (lend_ref pl_TPromise (by first | rfl | (simp only [go_sem, Nat.reduceBEq]; rfl)) (by first | rfl | (simp; done) | (simp <;> omega))) trivial) lend2s_nil) rfl (callH_at 29 (Nat.le_of_ble_eq_true rfl) (callH_towncrierref08_nodes (((a.Promises.take n1.toNat) ++ [p]) ++ (a.Promises.drop n1.toNat)) v7 hv7)) (newE_cons rfl rfl (newB_arr pl0_i64 _ _ _) newE_nil) (by intro i hi; simp [D.ids, D.idsL] at hi; omega) rfl ⟨Nat.le_of_ble_eq_true rfl, Nat.le_of_ble_eq_true rfl⟩ ?_
              refine .rd 0 ?_
              refine .lcall (r := .bool v8) [] rfl rfl rfl rfl rfl (lend2s_cons rfl (lend2s_cons (lend2_of (lend_ref (pl_int .i64) (by first | rfl | (simp only [go_sem, Nat.reduceBEq]; rfl)) (by first | rfl | (simp; done) | (simp <;> omega))) trivial) lend2s_nil)) rfl (callP_towncrierref06_Counts a.Members v7 v8 hv8) ?_
              refine .nil ⟨fun _ => schedB_of (by kernel_rfl), ?_⟩
              refine .cond rfl rfl (fun hc6 => ?_) (fun hc6 => ?_)
              · skip
                replace hx2 := ite_lc hx2 hc6
                refine .seq ?_
                refine .pl Try.S [6, 8] ?_
                obtain ⟨v9, hv9, hx2⟩ := bind_some hx2
                refine .rg Try.S [6, 8] ?_
                refine .rn 4 ?_
                refine .lcall (r := .str v9) [] rfl rfl rfl rfl rfl (lend2s_cons (lend2_of (lend_ref pl_TPromise (by first | rfl | (simp only [go_sem, Nat.reduceBEq]; rfl)) (by first | rfl | (simp; done) | (simp <;> omega))) trivial) (lend2s_cons rfl lend2s_nil)) rfl (callP_towncrierref08_Best (((a.Promises.take n1.toNat) ++ [p]) ++ (a.Promises.drop n1.toNat)) v4.Wish v9 hv9) ?_
                refine .rn 2 ?_
                refine .nil ⟨nofun, ?_⟩
                refine ⟨_, ?_, (Option.some.inj hx2).symm⟩
                exact .m [6, 8] [2, 16, 22, 28, 24] [(22, 29), (28, 30), (24, 31)]
              · skip
                replace hx2 := ite_rc hx2 hc6
                refine .skip ?_
                refine ⟨_, ?_, (Option.some.inj hx2).symm⟩
                exact .m [6, 8] [2, 16, 22, 28, 24] [(22, 29), (28, 30), (24, 31)]
            · skip
              rintro ⟨n3, s1⟩ hj2
              subst x2
              try dsimp only at h
              simp only [Try.St_towncrierref08_Promised_5]
              refine .seq ?_
              refine .pl Try.S [6, 8] ?_
              have hq := Option.some.inj h
              subst r
              refine .ret ⟨Try.Re_towncrierref08_Promised ((⟨n3, v4.Ballot, v4.Members, v4.Wish, s1, (((a.Promises.take n1.toNat) ++ [p]) ++ (a.Promises.drop n1.toNat)), v4.Accepted⟩ : TAttempt), 0), ?_, .inr rfl, retH [2, 1, 0] ?_ ?_⟩
              · skip
                exact .m [6, 7] [29, 30, 31, 2] [(29, 0), (30, 1), (31, 2), (2, 3)]
              · exact rsi0
              · rfl

def Try.St_towncrierref08_Accepted_1 (a : TAttempt) (node : Int) (v3 : TAttempt) (n1 : Int) : St := ⟨[(2, .int .i64 node), (3, .ptr 0 0), (6, .ptr 1 0), (8, .ptr 16 0), (9, .int .i64 n1)], [(0, .box [.int .u8 a.Phase, .int .i64 a.Ballot, .imm 1 (a.Members.map (D.int .i64)) 4, .str a.Wish, .str a.Value, .imm 3 (a.Promises.map TPromise.d) 4, .imm 1 (a.Accepted.map (D.int .i64)) 4]), (1, .box [.int .u8 0, .int .i64 0, .imm 0 [] 0, .str [], .str [], .imm 0 [] 0, .imm 0 [] 0]), (16, .box [.int .u8 v3.Phase, .int .i64 v3.Ballot, .ref 17 1 0 v3.Members.length (some unkC), .str v3.Wish, .str v3.Value, .ref 18 3 0 v3.Promises.length (some unkC), .ref 19 1 0 v3.Accepted.length (some unkC)]), (17, .arr 3 1 true (v3.Members.map (D.int .i64))), (18, .arr 27 3 true (v3.Promises.map TPromise.d)), (19, .arr 3 1 true (v3.Accepted.map (D.int .i64)))], 20⟩
attribute [local go_sem] Try.St_towncrierref08_Accepted_1
def Try.St_towncrierref08_Accepted_3 (a : TAttempt) (node : Int) (v3 : TAttempt) (n2 : Int) : St := ⟨[(2, .int .i64 node), (3, .ptr 0 0), (6, .ptr 1 0), (8, .ptr 16 0), (9, .int .i64 n2)], [(0, .box [.int .u8 a.Phase, .int .i64 a.Ballot, .imm 1 (a.Members.map (D.int .i64)) 4, .str a.Wish, .str a.Value, .imm 3 (a.Promises.map TPromise.d) 4, .imm 1 (a.Accepted.map (D.int .i64)) 4]), (1, .box [.int .u8 0, .int .i64 0, .imm 0 [] 0, .str [], .str [], .imm 0 [] 0, .imm 0 [] 0]), (16, .box [.int .u8 v3.Phase, .int .i64 v3.Ballot, .ref 17 1 0 v3.Members.length (some unkC), .str v3.Wish, .str v3.Value, .ref 18 3 0 v3.Promises.length (some unkC), .ref 19 1 0 v3.Accepted.length (some unkC)]), (17, .arr 3 1 true (v3.Members.map (D.int .i64))), (18, .arr 27 3 true (v3.Promises.map TPromise.d)), (19, .arr 3 1 true (v3.Accepted.map (D.int .i64)))], 20⟩
attribute [local go_sem] Try.St_towncrierref08_Accepted_3
def Try.St_towncrierref08_Accepted_5 (a : TAttempt) (node : Int) (v3 : TAttempt) (n1 : Int) (n3 : Int) : St := ⟨[(6, .ptr 1 0), (8, .ptr 16 0)], [(1, .box [.int .u8 0, .int .i64 0, .imm 0 [] 0, .str [], .str [], .imm 0 [] 0, .imm 0 [] 0]), (16, .box [.int .u8 n3, .int .i64 v3.Ballot, .ref 24 1 0 v3.Members.length (some unkC), .str v3.Wish, .str v3.Value, .ref 25 3 0 v3.Promises.length (some unkC), .ref 26 1 0 ((((a.Accepted.take n1.toNat) ++ [node]) ++ (a.Accepted.drop n1.toNat)).length) (some unkC)]), (24, .arr 3 1 true (v3.Members.map (D.int .i64))), (25, .arr 27 3 true (v3.Promises.map TPromise.d)), (26, .arr 3 1 true ((((a.Accepted.take n1.toNat) ++ [node]) ++ (a.Accepted.drop n1.toNat)).map (D.int .i64)))], 27⟩
attribute [local go_sem] Try.St_towncrierref08_Accepted_5
def Try.Re_towncrierref08_Accepted (r : TAttempt × Int) : St := ⟨[(6, .ptr 3 0), (7, .int .i64 r.2)], [(0, .arr 3 1 true (r.1.Members.map (D.int .i64))), (1, .arr 27 3 true (r.1.Promises.map TPromise.d)), (2, .arr 3 1 true (r.1.Accepted.map (D.int .i64))), (3, .box [.int .u8 r.1.Phase, .int .i64 r.1.Ballot, .ref 0 1 0 r.1.Members.length (some unkC), .str r.1.Wish, .str r.1.Value, .ref 1 3 0 r.1.Promises.length (some unkC), .ref 2 1 0 r.1.Accepted.length (some unkC)])], 4⟩
attribute [local go_sem] Try.Re_towncrierref08_Accepted
theorem callH_towncrierref08_Accepted (a : TAttempt) (ballot : Int) (node : Int) (r : TAttempt × Int) (h : m_towncrierref08_Accepted a ballot node = some r) : CallH Try.prog 19 [.agg [.int .u8 a.Phase, .int .i64 a.Ballot, .imm 1 (a.Members.map (D.int .i64)) 4, .str a.Wish, .str a.Value, .imm 3 (a.Promises.map TPromise.d) 4, .imm 1 (a.Accepted.map (D.int .i64)) 4], .int .i64 ballot, .int .i64 node] [] (.tuple [.agg [.int .u8 r.1.Phase, .int .i64 r.1.Ballot, .ref 0 1 0 r.1.Members.length (some unkC), .str r.1.Wish, .str r.1.Value, .ref 1 3 0 r.1.Promises.length (some unkC), .ref 2 1 0 r.1.Accepted.length (some unkC)], .int .i64 r.2]) [(0, some (.arr 3 1 true (r.1.Members.map (D.int .i64)))), (1, some (.arr 27 3 true (r.1.Promises.map TPromise.d))), (2, some (.arr 3 1 true (r.1.Accepted.map (D.int .i64))))] (0, 29) := by
  refine callH_intro' Try.tmOk Try.func19 rfl (by decide) (Nat.le_of_ble_eq_true rfl) (by simp) ?_
  intro hwf
  unfold m_towncrierref08_Accepted at h
  refine .ends 0 (Nat.le_refl _) ?_
  refine .seq ?_
  refine .pl Try.S [0, 1, 2] ?_
  refine .seq ?_
  refine .seq ?_
  obtain ⟨v1, hv1, h⟩ := bind_some h
  refine .rg Try.S [1, 2, 3, 6] ?_
  refine .rn 1 ?_
  refine .call (r := .bool v1) rfl rfl rfl rfl rfl rfl (callP_towncrierref08_May a v1 hv1) ?_
  refine .rn 1 ?_
  refine .nil ⟨nofun, ?_⟩
  refine .cond rfl rfl (fun hc1 => ?_) (fun hc1 => ?_)
  · skip
    replace h := ite_lc h hc1
    refine .seq ?_
    refine .pl Try.S [6] ?_
    have hq := Option.some.inj h
    subst r
    refine .ret ⟨Try.Re_towncrierref08_Accepted ((⟨0, 0, [], [], [], [], []⟩ : TAttempt), 8), ?_, .inr rfl, retH [2, 1, 0] ?_ ?_⟩
    · skip
      refine Goes.new0 1 3 (Nat.le_of_ble_eq_true rfl) ?_
      refine Goes.new0 3 27 (Nat.le_of_ble_eq_true rfl) ?_
      refine Goes.new0 1 3 (Nat.le_of_ble_eq_true rfl) ?_
      refine Goes.boxs 1 _ [.int .u8 0, .int .i64 0, .ref 2 1 0 0 (some unkC), .str [], .str [], .ref 3 3 0 0 (some unkC), .ref 4 1 0 0 (some unkC)] rfl (.keep (.keep (.cons (.own0 2 _ _ _ (by decide)) (.keep (.keep (.cons (.own0 3 _ _ _ (by decide)) (.cons (.own0 4 _ _ _ (by decide)) (.refl _)))))))) ?_
      exact .m [6, 7] [2, 3, 4, 1] [(2, 0), (3, 1), (4, 2), (1, 3)]
    · exact rsi0
    · rfl
  · skip
    replace h := ite_rc h hc1
    refine .skip ?_
    refine .seq ?_
    refine .seq ?_
    obtain ⟨v2, hv2, h⟩ := bind_some h
    refine .rg Try.S [1, 2, 3, 6] ?_
    refine .rn 6 ?_
    refine .rn 7 ?_
    refine .gcall (r := .bool v2) rfl rfl rfl rfl rfl (fun hg => ⟨[], [.imm 1 (a.Members.map (D.int .i64)) 4, .int .i64 node], _, rfl, gd hg, rfl, (callP_towncrierref06_Has a.Members node v2 (ite_lc hv2 hg))⟩) ?_
    refine .rn 2 ?_
    refine .nil ⟨nofun, ?_⟩
    refine .cond rfl rfl (fun hc2 => ?_) (fun hc2 => ?_)
    · skip
      replace h := ite_lc h hc2
      refine .seq ?_
      refine .pl Try.S [6] ?_
      have hq := Option.some.inj h
      subst r
      refine .ret ⟨Try.Re_towncrierref08_Accepted ((⟨0, 0, [], [], [], [], []⟩ : TAttempt), 6), ?_, .inr rfl, retH [2, 1, 0] ?_ ?_⟩
      · skip
        refine Goes.new0 1 3 (Nat.le_of_ble_eq_true rfl) ?_
        refine Goes.new0 3 27 (Nat.le_of_ble_eq_true rfl) ?_
        refine Goes.new0 1 3 (Nat.le_of_ble_eq_true rfl) ?_
        refine Goes.boxs 1 _ [.int .u8 0, .int .i64 0, .ref 2 1 0 0 (some unkC), .str [], .str [], .ref 3 3 0 0 (some unkC), .ref 4 1 0 0 (some unkC)] rfl (.keep (.keep (.cons (.own0 2 _ _ _ (by decide)) (.keep (.keep (.cons (.own0 3 _ _ _ (by decide)) (.cons (.own0 4 _ _ _ (by decide)) (.refl _)))))))) ?_
        exact .m [6, 7] [2, 3, 4, 1] [(2, 0), (3, 1), (4, 2), (1, 3)]
      · exact rsi0
      · rfl
    · skip
      replace h := ite_rc h hc2
      refine .skip ?_
      refine .seq ?_
      obtain ⟨v3, hv3, h⟩ := bind_some h
      refine .rg Try.S [2, 3, 6] ?_
      refine .rn 1 ?_
      refine .ncall (r := .agg [.int .u8 v3.Phase, .int .i64 v3.Ballot, .ref 8 1 0 v3.Members.length (some unkC), .str v3.Wish, .str v3.Value, .ref 9 3 0 v3.Promises.length (some unkC), .ref 10 1 0 v3.Accepted.length (some unkC)]) (eff := [(8, some (.arr 3 1 true (v3.Members.map (D.int .i64)))), (9, some (.arr 27 3 true (v3.Promises.map TPromise.d))), (10, some (.arr 3 1 true (v3.Accepted.map (D.int .i64))))]) (nw := (8, 16)) [] rfl rfl rfl rfl rfl (lend2s_cons rfl lend2s_nil) rfl (callH_at 8 (Nat.le_of_ble_eq_true rfl) (callH_towncrierref08_Twin a v3 hv3)) (newE_cons rfl rfl (newB_arr pl0_i64 _ _ _) (newE_cons rfl rfl (newB_arr pl0_TPromise _ _ _) (newE_cons rfl rfl (newB_arr pl0_i64 _ _ _) newE_nil))) (by intro i hi; simp [D.ids, D.idsL] at hi; omega) rfl ⟨Nat.le_of_ble_eq_true rfl, Nat.le_of_ble_eq_true rfl⟩ ?_
      refine .rn 2 ?_
      refine .nil ⟨nofun, ?_⟩
      refine .seq ?_
      refine .seq ?_
      obtain ⟨v4, hv4, h⟩ := bind_some h
      refine .rg Try.S [2, 3, 6, 8] ?_
      refine .rn 3 ?_
      refine .call (r := .bool v4) rfl rfl rfl rfl rfl rfl (callP_towncrierref06_Has a.Accepted node v4 hv4) ?_
      refine .nil ⟨nofun, ?_⟩
      refine .cond rfl rfl (fun hc3 => ?_) (fun hc3 => ?_)
      · skip
        replace h := ite_lc h hc3
        refine .seq ?_
        refine .pl Try.S [6, 8] ?_
        have hq := Option.some.inj h
        subst r
        refine .ret ⟨Try.Re_towncrierref08_Accepted (v3, 0), ?_, .inr rfl, retH [2, 1, 0] ?_ ?_⟩
        · skip
          exact .m [6, 7] [8, 9, 10, 1] [(8, 0), (9, 1), (10, 2), (1, 3)]
        · exact rsi0
        · rfl
      · skip
        replace h := ite_rc h hc3
        refine .skip ?_
        refine .seq ?_
        refine .pl Try.S [2, 3, 6, 8] ?_
        obtain ⟨x1, hx1, h⟩ := bind_some h
        refine .seqM 17 (fun (j : Int) => Try.St_towncrierref08_Accepted_1 a node v3 j) (fun j => x1 = j) (Nat.le_of_ble_eq_true rfl) ?_ ?_
        · skip
          refine .block ?_
          refine .loopG 17 (fun (j : Nat × Int) => Try.St_towncrierref08_Accepted_3 a node v3 j.2) (fun j => m_towncrierref08_Accepted_loop1 a node j.1 j.2 = some x1) (fun j => j.1) (a.Accepted.length + 1, 0) (Nat.le_of_ble_eq_true rfl) ?_ hx1 ?_
          · skip
            exact .m [2, 3, 6, 8, 9] [0, 1, 16, 8, 9, 10] [(8, 17), (9, 18), (10, 19)]
          rintro ⟨fu1, n2⟩ hx1
          simp only [Try.St_towncrierref08_Accepted_3]
          try simp only at hx1
          obtain ⟨fu1, rfl⟩ : ∃ k, fu1 = k + 1 := by cases fu1 with | zero => (rw [m_towncrierref08_Accepted_loop1] at hx1; cases hx1) | succ k => exact ⟨k, rfl⟩
          rw [m_towncrierref08_Accepted_loop1] at hx1
          refine .seq ?_
          obtain ⟨k2, hx1⟩ := ite_ck hx1
          refine .seqM 20 (fun (_ : Unit) => ⟨[(2, .int .i64 node), (3, .ptr 0 0), (6, .ptr 1 0), (8, .ptr 16 0), (9, .int .i64 n2), (51, .bool ((decide (n2 < (a.Accepted.length : Int))) && (decide ((a.Accepted.getD n2.toNat default) < node))))], [(0, .box [.int .u8 a.Phase, .int .i64 a.Ballot, .imm 1 (a.Members.map (D.int .i64)) 4, .str a.Wish, .str a.Value, .imm 3 (a.Promises.map TPromise.d) 4, .imm 1 (a.Accepted.map (D.int .i64)) 4]), (1, .box [.int .u8 0, .int .i64 0, .imm 0 [] 0, .str [], .str [], .imm 0 [] 0, .imm 0 [] 0]), (16, .box [.int .u8 v3.Phase, .int .i64 v3.Ballot, .ref 17 1 0 v3.Members.length (some unkC), .str v3.Wish, .str v3.Value, .ref 18 3 0 v3.Promises.length (some unkC), .ref 19 1 0 v3.Accepted.length (some unkC)]), (17, .arr 3 1 true (v3.Members.map (D.int .i64))), (18, .arr 27 3 true (v3.Promises.map TPromise.d)), (19, .arr 3 1 true (v3.Accepted.map (D.int .i64)))], 20⟩) (fun _ => True) (Nat.le_of_ble_eq_true rfl) ?_ (fun _ _ => ?_)
          · skip
            by_cases hgd : n2 < (a.Accepted.length : Int)
            · skip
              have eg10 := nth_mapI (D.int .i64) a.Accepted n2 (k2 hgd)
              refine .rg Try.S [2, 3, 6, 8, 9] ?_
              refine .rnx 6 eg10 ?_
              refine .rnx 8 eg10 ?_
              refine .nil ⟨nofun, ?_⟩
              refine ⟨(), ?_, trivial⟩
              exact .m [2, 3, 6, 8, 9, 51] [0, 1, 16, 17, 18, 19] []
            · skip
              have hgf1 : (decide (n2 < (a.Accepted.length : Int))) = false := by first | simpa using hgd | (simp at hgd ⊢; omega) | grind
              rcases nth_or (D.int .i64) a.Accepted n2.toNat with eg10 | eg10
              · skip
                refine .rg Try.S [2, 3, 6, 8, 9] ?_
                refine .rnx 6 (And.intro eg10 hgf1) ?_
                refine .rnx 8 (And.intro eg10 hgf1) ?_
                refine .nil ⟨nofun, ?_⟩
                refine ⟨(), ?_, trivial⟩
                exact .mx hgf1 [2, 3, 6, 8, 9, 51] [0, 1, 16, 17, 18, 19] []
              · skip
                refine .rg Try.S [2, 3, 6, 8, 9] ?_
                refine .rnx 6 (And.intro eg10 hgf1) ?_
                refine .rnx 8 (And.intro eg10 hgf1) ?_
                refine .nil ⟨nofun, ?_⟩
                refine ⟨(), ?_, trivial⟩
                exact .mx hgf1 [2, 3, 6, 8, 9, 51] [0, 1, 16, 17, 18, 19] []
          refine .cond rfl rfl (fun hc4 => ?_) (fun hc4 => ?_)
          · skip
            replace hx1 := ite_lc hx1 hc4
            refine .skip ?_
            refine .block ?_
            refine .pl Try.S [2, 3, 6, 8, 9] ?_
            refine ⟨(fu1, _), ?_, hx1, by dsimp only; omega⟩
            exact .m [2, 3, 6, 8, 9] [0, 1, 16, 17, 18, 19] []
          · skip
            replace hx1 := ite_rc hx1 hc4
            refine .exit ?_
            refine ⟨_, ?_, (Option.some.inj hx1).symm⟩
            exact .m [2, 3, 6, 8, 9] [0, 1, 16, 17, 18, 19] []
        · skip
          rintro n1 hj1
          subst x1
          try dsimp only at h
          simp only [Try.St_towncrierref08_Accepted_1]
          obtain ⟨k3, h⟩ := ite_ck h
          obtain ⟨k4, h⟩ := ite_ck h
          refine .seqM 20 (fun (_ : Unit) => ⟨[(2, .int .i64 node), (3, .ptr 0 0), (6, .ptr 1 0), (8, .ptr 16 0), (9, .int .i64 n1)], [(0, .box [.int .u8 a.Phase, .int .i64 a.Ballot, .imm 1 (a.Members.map (D.int .i64)) 4, .str a.Wish, .str a.Value, .imm 3 (a.Promises.map TPromise.d) 4, .imm 1 (a.Accepted.map (D.int .i64)) 4]), (1, .box [.int .u8 0, .int .i64 0, .imm 0 [] 0, .str [], .str [], .imm 0 [] 0, .imm 0 [] 0]), (16, .box [.int .u8 v3.Phase, .int .i64 v3.Ballot, .ref 17 1 0 v3.Members.length (some unkC), .str v3.Wish, .str v3.Value, .ref 18 3 0 v3.Promises.length (some unkC), .ref 20 1 0 ((a.Accepted.take n1.toNat).length) (some unkC)]), (17, .arr 3 1 true (v3.Members.map (D.int .i64))), (18, .arr 27 3 true (v3.Promises.map TPromise.d)), (20, .arr 3 1 true ((a.Accepted.take n1.toNat).map (D.int .i64)))], 21⟩) (fun _ => True) (Nat.le_of_ble_eq_true rfl) ?_ (fun _ _ => ?_)
          · skip
            rcases list_cases (a.Accepted.take n1.toNat) with hE1 | ⟨y, ys, hE1⟩
            · skip
              have hM1 : (a.Accepted.take n1.toNat).map (D.int .i64) = [] := by rw [hE1]; simp
              refine .plain Try.tmOk Try.tmMixed [2, 3, 6, 8, 9] (by decide +kernel) (by intro q hq; simp only [go_sem, Nat.reduceSub, Int.reduceEq, Nat.reduceLT, Nat.reduceDiv, Nat.reduceAdd, Nat.reduceBEq, Nat.reduceLeDiff, reduceCtorEq, Nat.reduceEqDiff, Nat.reduceMod, Nat.reduceMul, Try.tm_22, Try.tm_25, drop_map, take_map, take_map_len, List.take_length, Int.toNat_zero, appendD_nil hM1, TAttempt.d]; exact hq) (by first | rfl | (simp only [go_sem, Nat.reduceLeDiff]; done) | (simp only [go_sem, Nat.reduceLeDiff]; rfl) | (simp; done) | (simp [oneD] <;> omega) | (simp_all; done) | (simp_all [oneD] <;> omega)) (by first | exact Nat.le_refl _ | exact Nat.le_of_ble_eq_true rfl | (dsimp only; omega) | (simp <;> omega)) ?_
              refine ⟨(), ?_, trivial⟩
              refine Goes.new0 1 3 (Nat.le_of_ble_eq_true rfl) ?_
              refine Goes.boxs 16 _ [.int .u8 v3.Phase, .int .i64 v3.Ballot, .ref 17 1 0 v3.Members.length (some unkC), .str v3.Wish, .str v3.Value, .ref 18 3 0 v3.Promises.length (some unkC), .ref 20 1 0 0 (some unkC)] rfl (.keep (.keep (.keep (.keep (.keep (.keep (.cons (.own0 20 _ _ _ (by decide)) (.refl _)))))))) ?_
              exact .mx hE1 [2, 3, 6, 8, 9] [0, 1, 16, 17, 18, 20] []
            · skip
              have hM1 : (a.Accepted.take n1.toNat).map (D.int .i64) ≠ [] := by rw [hE1]; simp
              refine .plain Try.tmOk Try.tmMixed [2, 3, 6, 8, 9] (by decide +kernel) (by intro q hq; simp only [go_sem, Nat.reduceSub, Int.reduceEq, Nat.reduceLT, Nat.reduceDiv, Nat.reduceAdd, Nat.reduceBEq, Nat.reduceLeDiff, reduceCtorEq, Nat.reduceEqDiff, Nat.reduceMod, Nat.reduceMul, Try.tm_22, Try.tm_25, drop_map, take_map, take_map_len, List.take_length, Int.toNat_zero, appendD_cons hM1, TAttempt.d]; exact hq) (by first | rfl | (simp only [go_sem, Nat.reduceLeDiff]; done) | (simp only [go_sem, Nat.reduceLeDiff]; rfl) | (simp; done) | (simp [oneD] <;> omega) | (simp_all; done) | (simp_all [oneD] <;> omega)) (by first | exact Nat.le_refl _ | exact Nat.le_of_ble_eq_true rfl | (dsimp only; omega) | (simp <;> omega)) ?_
              refine ⟨(), ?_, trivial⟩
              refine Goes.boxs 16 _ [.int .u8 v3.Phase, .int .i64 v3.Ballot, .ref 17 1 0 v3.Members.length (some unkC), .str v3.Wish, .str v3.Value, .ref 18 3 0 v3.Promises.length (some unkC), .ref 20 1 0 ((a.Accepted.take n1.toNat).length) (some unkC)] rfl (.keep (.keep (.keep (.keep (.keep (.keep (.cons (.unk _ _ _ _ _) (.refl _)))))))) ?_
              exact .mx hE1 [2, 3, 6, 8, 9] [0, 1, 16, 17, 18, 20] []
          refine .seq ?_
          obtain ⟨k5, h⟩ := ite_ck h
          refine .pl Try.S [2, 3, 6, 8, 9] ?_
          refine .seq ?_
          obtain ⟨k6, h⟩ := ite_ck h
          obtain ⟨k7, h⟩ := ite_ck h
          refine .rg Try.S [3, 6, 8, 9] ?_
          refine .rd 6 ?_
          refine .rd 3 ?_
          refine .nil ⟨fun _ => schedB_of (by kernel_rfl), ?_⟩
          obtain ⟨x2, hx2, h⟩ := bind_some h
          refine .seqM 24 (fun (j : Int) => Try.St_towncrierref08_Accepted_5 a node v3 n1 j) (fun j => x2 = j) (Nat.le_of_ble_eq_true rfl) ?_ ?_
          · skip
            refine .seq ?_
            obtain ⟨v5, hv5, hx2⟩ := bind_some hx2
            refine .rg Try.S [3, 6, 8] ?_
            refine .rn 4 ?_
            refine .lcall (r := .bool v5) [] rfl rfl rfl rfl rfl (lend2s_cons rfl (lend2s_cons (lend2_of (lend_ref (pl_int .i64) (by first | rfl | (simp only [go_sem, Nat.reduceBEq]; rfl)) (by first | rfl | (simp; done) | (simp <;> omega))) trivial) lend2s_nil)) rfl (callP_towncrierref06_Counts a.Members (((a.Accepted.take n1.toNat) ++ [node]) ++ (a.Accepted.drop n1.toNat)) v5 hv5) ?_
            refine .nil ⟨nofun, ?_⟩
            refine .cond rfl rfl (fun hc5 => ?_) (fun hc5 => ?_)
            · skip
              replace hx2 := ite_lc hx2 hc5
              refine .pl Try.S [6, 8] ?_
              refine ⟨_, ?_, (Option.some.inj hx2).symm⟩
              exact .m [6, 8] [1, 16, 17, 18, 23] [(17, 24), (18, 25), (23, 26)]
            · skip
              replace hx2 := ite_rc hx2 hc5
              refine .skip ?_
              refine ⟨_, ?_, (Option.some.inj hx2).symm⟩
              exact .m [6, 8] [1, 16, 17, 18, 23] [(17, 24), (18, 25), (23, 26)]
          · skip
            rintro n3 hj2
            subst x2
            try dsimp only at h
            simp only [Try.St_towncrierref08_Accepted_5]
            refine .seq ?_
            refine .pl Try.S [6, 8] ?_
            have hq := Option.some.inj h
            subst r
            refine .ret ⟨Try.Re_towncrierref08_Accepted ((⟨n3, v3.Ballot, v3.Members, v3.Wish, v3.Value, v3.Promises, (((a.Accepted.take n1.toNat) ++ [node]) ++ (a.Accepted.drop n1.toNat))⟩ : TAttempt), 0), ?_, .inr rfl, retH [2, 1, 0] ?_ ?_⟩
            · skip
              exact .m [6, 7] [24, 25, 26, 1] [(24, 0), (25, 1), (26, 2), (1, 3)]
            · exact rsi0
            · rfl

end Go.Proofs
end
section
/- What slices.Insert needs: a list whose room is not known; two lists that do not lie over each other. -/



namespace Go.Tm
open Go.RowKit Go.WideShapes

theorem overs_of {P : Program} {K : FuncId} {fn : Func} {t r : TypeId} (hf : P.funcs[K]? = some fn) (hname : (fn.name == "runtime.NumGoroutine") = false) (hb : fn.body.isNone = true) (hn : Extern.findNext fn = none)
    (he : Extern.find fn = some (Extern.SlicesOverlaps.overlaps #[t, t] #[r])) {ti : TI} (ht : tiChk P t ti = true) (hk : ti.kind = 3) : Overs P K := by
  intro w x y la ca lb cb cx cy Tx Ty hne hs hx hy hz
  obtain ⟨el, j, hu, hj, hj1, hj2, hj3, hj4, _, hel'⟩ := ti_slice ht hk
  subst hel'
  have hsz : ∀ w : World, (sizeOf ti.el).run P w = .ok j.size w := fun w => by simp [sizeOf, typeInfo, hj]
  obtain ⟨xb, xo, xs⟩ := x
  simp only at hs hx hne
  subst hs
  rw [run_callFunc_extern hf hname hb hn he, Go.Lib.run_overlaps_apart w t r ti.el hu j.size hsz ⟨xb, xo, none⟩ y la ca lb cb hne Tx Ty cx.size cy.size (by simp [World.shape?, hx]) (by simp [World.shape?, hy]) hz (by simp [World.frozen?, hx]) (by simp [World.frozen?, hx])]
  rfl

/-- The same of a list of whose room nothing is said. -/
theorem callH_capW {P : Program} {K : FuncId} {i k s n m : Nat} {e s' : Nat} {p p' : Bool} {l l' : List D} {post : List D} {H : List (Nat × Blk)} (hE : Enters P K) (hH : getL H i = some (.arr e s p l)) (hik : i ≠ k) (hm0 : 0 < m)
    (hin : ∀ c, capK c = true → n ≤ c → m ≤ c → CallH P K (.ref i s 0 n (some c) :: post) H (.ref i s 0 m (some c)) [(i, some (.arr e s' p' l'))] (k, k))
    (hout : ∀ c, capK c = true → n ≤ c → c < m → CallH P K (.ref i s 0 n (some c) :: post) H (.ref k s 0 m none) [(k, some (.arr e s' p' l')), (i, none)] (k, k + 1)) :
    CallH P K (.ref i s 0 n (some unkC) :: post) H (.ref k s 0 m (some unkC)) [(k, some (.arr e s' p' l')), (i, none)] (k, k + 1) := by
  refine ⟨hE, fun fr w g hp nu vs hM hHs hnw hvs => ?_⟩
  simp only [reps] at hvs
  obtain ⟨v0, vs, rfl, h0, hvs⟩ := hvs
  have h0' := h0
  simp only [rep] at h0
  obtain ⟨q1, ad, cap, rfl, q2, q3, q4, q5, q6⟩ := h0
  have hc : rep (cx w g hp) (.ref i s 0 n (some cap)) (.slice ad n cap) := by
    simp only [rep]
    exact ⟨q1, ad, cap, rfl, q2, q3, q4, ⟨fun c h _ => by cases h; rfl, fun h => by cases h⟩, q6⟩
  have hargs : reps (cx w g hp) (.ref i s 0 n (some cap) :: post) (.slice ad n cap :: vs) := by
    simp only [reps]
    exact ⟨_, _, rfl, hc, hvs⟩
  have hck : capK cap = true := Nat.ble_eq_true_of_le (by omega)
  by_cases hcase : cap < m
  · refine ((hout cap hck q2 hcase).2 fr w g hp nu _ hM hHs hnw hargs).mono ?_
    rintro ee w' ⟨v, g', he, ha⟩
    exact ⟨v, g', he, ha.gz, ha.gs, ha.keep, ha.mem, ha.own, rep_unk ha.res rfl⟩
  · have hq6 := q6
    rcases q6 with q6 | ⟨b1, T1, n1, z1, _, z2, z3⟩
    · omega
    refine ((hin cap hck q2 (by omega)).2 fr w g hp nu _ hM hHs (fun id h1 h2 => by have h1 : k ≤ id := h1; have h2 : id < k := h2; omega) hargs).mono ?_
    rintro ee w' ⟨v, g', he, ha⟩
    have hki : Nat.beq k i = false := beq_ne fun e => hik e.symm
    have hnk : nu k = true := hnw k (Nat.le_refl _) (Nat.lt_succ_self _)
    have hpi : hp i = some (.arr e s p l) := hHs i _ hH
    have hni : nu i = false := by
      cases h : nu i
      · rfl
      · rw [(hM.nw i h).2] at hpi; cases hpi
    have hσi : g'.σ i = some (b1, 0) := (ha.gs i hni).trans z1
    let E0 : En := ⟨w', fr, fun _ => True, g', effN nu (k, k)⟩
    let F0 : FrS := ⟨fun _ => .undef, effH hp [(i, some (.arr e s' p' l'))], effN nu (k, k)⟩
    let a0 : Act := ⟨#[], []⟩
    have hR0 : Rel E0 0 F0 a0 w' g' := ⟨Nat.zero_le _, rfl, fun _ => by simp only [F0, rep], ha.mem, fun _ _ _ _ _ => .inr trivial, Keep.refl _ _, ⟨rfl, rfl⟩, fun _ _ => rfl, fun _ h => h⟩
    have hpi' : effH hp [(i, some (.arr e s' p' l'))] i = some (.arr e s' p' l') := by simp [effH, getL]
    have hnk0 : F0.nu k = true := by
      show effN nu (k, k) k = true
      simp [effN, hnk]
    obtain ⟨r1, _⟩ := Rel.made hR0 (m := k) (blk := .arr e s' p' l') (loc := some (b1, 0)) (kl := some i) (w' := w') hnk0 ((Keep.refl _ w').mono fun _ _ h => h)
      (by rintro b o h; cases h; exact .inr ⟨i, 0, rfl, by show effH hp [(i, some (.arr e s' p' l'))] i ≠ none; rw [hpi']; simp, hσi⟩)
      (by
        intro C hC hle hrf hσ
        rcases ha.mem.hd i _ hpi' with ⟨_, h⟩ | ⟨b', cs, h1, h2, h3, h4⟩
        · have h : g'.σ i = none := h
          rw [hσi] at h; cases h
        · have h1 : g'.σ i = some (b', 0) := h1
          rw [hσi] at h1
          simp only [Option.some.injEq, Prod.mk.injEq] at h1
          obtain ⟨rfl, _⟩ := h1
          exact .inr ⟨b1, cs, hσ, by subst hC; exact h2, h3, elems_le (C := { cx w' g' (effH hp [(i, some (.arr e s' p' l'))]) with rf := !p' }) (C' := { C with rf := !p' }) (le_rf hle rfl _ _ id) _ _ _ _ (by subst hC; rfl) h4⟩)
    have hhp : effH (effH hp [(i, some (.arr e s' p' l'))]) ((k, some (.arr e s' p' l')) :: kill (some i)) = effH hp [(k, some (.arr e s' p' l')), (i, none)] := by
      funext x
      simp only [effH, kill, getL]
      cases h1 : Nat.beq k x
      · cases h2 : Nat.beq i x <;> simp
      · simp
    have hnn : effN (effN nu (k, k)) (k, k + 1) = effN nu (k, k + 1) := by
      funext x
      simp only [effN]
      have : (decide (k ≤ x) && decide (x < k)) = false := by
        cases hx : decide (k ≤ x) <;> simp at hx ⊢
        omega
      rw [this]; simp
    have hmem := r1.mem
    simp only [FrS.eff, F0] at hmem
    rw [hhp, hnn] at hmem
    have hpk : effH hp [(k, some (.arr e s' p' l')), (i, none)] i = none := by simp [effH, getL, hki]
    refine ⟨v, setσ g' k (some (b1, 0)), he, ha.gz, fun id hid => ?_, ha.keep, hmem, ?_, ?_⟩
    · have : id ≠ k := by rintro rfl; rw [hnk] at hid; cases hid
      show (if id = k then _ else g'.σ id) = g.σ id
      rw [if_neg this]
      exact ha.gs id hid
    · rintro b0 ⟨id, o, h1, h2⟩
      have h2 : (if id = k then some (b1, 0) else g'.σ id) = some (b0, o) := h2
      by_cases hidk : id = k
      · rw [if_pos hidk] at h2
        simp only [Option.some.injEq, Prod.mk.injEq] at h2
        obtain ⟨rfl, rfl⟩ := h2
        exact ha.own b1 ⟨i, 0, by rw [hpi']; simp, hσi⟩
      · rw [if_neg hidk] at h2
        by_cases hidi : id = i
        · subst hidi
          rw [hpk] at h1
          exact absurd rfl h1
        · refine ha.own b0 ⟨id, o, ?_, h2⟩
          have a1 : Nat.beq k id = false := beq_ne fun e => hidk e.symm
          have a2 : Nat.beq i id = false := beq_ne fun e => hidi e.symm
          simp only [effH, getL, a1, a2] at h1 ⊢
          exact h1
    · have hres := ha.res
      simp only [rep] at hres ⊢
      obtain ⟨_, ad', cap', hv, k1, k2, k3, k4, k5⟩ := hres
      have hcc := k4.1 cap rfl (Nat.ble_eq_true_of_le (by omega))
      subst hcc
      have hsh : w'.shape? b1 = some (T1, n1) := by
        have := ha.keep.shp b1 (shape_lt (w := w) z2)
        rw [this]; exact z2
      refine ⟨by simp [cx], ad', cap', hv, k1, k2, k3, ⟨(fun c h hk => by cases h; cases hk), (fun h => by cases h)⟩, ?_⟩
      rcases k5 with k5 | ⟨b, T, nn, y1, y2, y3, y4⟩
      · exact .inl k5
      · have y1 : g'.σ i = some (b, 0) := y1
        rw [hσi] at y1
        simp only [Option.some.injEq, Prod.mk.injEq] at y1
        obtain ⟨rfl, _⟩ := y1
        exact .inr ⟨b1, T, nn, by simp [cx, setσ], y2, y3, y4⟩

end Go.Tm
end
section
/- The contract of slices.Insert (function 82), printed by genins.py. -/


namespace Go.Proofs
open Go.Tm Go.RowKit Go.WideShapes

set_option maxRecDepth 100000
set_option linter.unusedSimpArgs false
set_option linter.unusedVariables false
attribute [local go_sem] argVars runE runK isCallV stepE aop opd opdsL opds opdO ev ofVal keep List.any Nat.beq Bool.false_or Bool.true_or aggEq cond_true cond_false Bool.cond_false_right Bool.cond_true_left beq_true beq_false imp_self implies_true getR getL put St.app effL del nwB blt_dec Nat.lt_irrefl Nat.lt_add_one ble_dec Nat.le_refl Nat.beq_refl roomNZ appendIn capS mkZ_zero mkZL_zero zeroEl D.ids D.idsL Option.getD bin arith sarith binT dpick Tm.part splice fillD oneD loadD storeD srcD sliceD idxOk decide_true gval dstAt D.cells List.map_cons List.map_nil List.take List.drop List.length_map List.append Int.toNat_natCast and_true true_and decide_false List.length_cons List.length_nil List.append_nil List.nil_append Bool.and_true Bool.true_and Bool.not_false Bool.not_true ne_eq not_false_eq_true BEq.rfl List.getElem?_cons_zero List.getElem?_cons_succ List.getElem?_nil Nat.zero_add List.all_cons List.all_nil List.isEmpty_cons List.isEmpty_nil List.any_cons List.any_nil List.drop_succ_cons List.drop_zero unfL unf okM okML low3 List.cons_append true_or or_true Nat.zero_mul Nat.zero_le fpOf opIds
theorem overs181 : Overs Try.prog 181 := overs_of (r := 4) Try.func181 (by kernel_rfl) (by kernel_rfl) (by kernel_rfl) (by kernel_rfl) (Try.tmOk.1 23 (by decide)) rfl

theorem ins82e (i j k : Nat) (hij : i ≠ j) (hik : i ≠ k) (hjk : j ≠ k) (L : List D) (x : D) (P Q : Bool) (hL : L.length < 1000000) :
    CallH Try.prog 82 [.ref i 3 0 L.length (some unkC), .int .i64 (L.length : Int), .ref j 3 0 1 (some 1)] [(i, .arr 27 3 P L), (j, .arr 27 3 Q [x])] (.ref k 3 0 (L.length + 1) (some unkC)) [(k, some (.arr 27 3 (P && Q) (L ++ [x]))), (i, none)] (k, k + 1) := by
  have bij : Nat.beq i j = false := beq_ne hij
  have bik : Nat.beq i k = false := beq_ne hik
  have bjk : Nat.beq j k = false := beq_ne hjk
  have bji : Nat.beq j i = false := beq_ne (Ne.symm hij)
  have bki : Nat.beq k i = false := beq_ne (Ne.symm hik)
  have bkj : Nat.beq k j = false := beq_ne (Ne.symm hjk)
  have n10 : ¬ ((1 : Int) = 0) := by omega
  have hx : (1 : Nat) ≤ 1 := Nat.le_refl _
  refine callH_intro' Try.tmOk Try.func82 rfl (by decide) (Nat.le_of_ble_eq_true rfl) (by simp) ?_
  intro hwf
  refine .seq ?_
  refine .plain Try.tmOk Try.tmMixed [0, 1, 2] (by decide +kernel) (by intro q hq; simp only [go_sem, appendD, Nat.reduceSub, Int.reduceEq, Nat.reduceLT, Nat.reduceDiv, Nat.reduceAdd, Nat.reduceBEq, Nat.reduceLeDiff, reduceCtorEq, Nat.reduceEqDiff, Nat.reduceMod, capK, bij, bik, bjk, bji, bki, bkj]; exact hq) (by first | rfl | (simp only [go_sem, Nat.reduceLeDiff]; done) | (simp only [go_sem, Nat.reduceLeDiff]; rfl) | (simp; done) | (simp [oneD] <;> omega) | (simp_all; done) | (simp_all [oneD] <;> omega)) (by first | exact Nat.le_refl _ | exact Nat.le_of_ble_eq_true rfl | (dsimp only; omega) | (simp <;> omega)) ?_
  refine .seq ?_
  refine .plain Try.tmOk Try.tmMixed [0, 1, 2] (by decide +kernel) (by intro q hq; simp only [go_sem, appendD, Nat.reduceSub, Int.reduceEq, Nat.reduceLT, Nat.reduceDiv, Nat.reduceAdd, Nat.reduceBEq, Nat.reduceLeDiff, reduceCtorEq, Nat.reduceEqDiff, Nat.reduceMod, capK, Try.tm_23, Try.tm_3, bij, bik, bjk, bji, bki, bkj]; exact hq) (by first | rfl | (simp only [go_sem, Nat.reduceLeDiff]; done) | (simp only [go_sem, Nat.reduceLeDiff]; rfl) | (simp; done) | (simp [oneD] <;> omega) | (simp_all; done) | (simp_all [oneD] <;> omega)) (by first | exact Nat.le_refl _ | exact Nat.le_of_ble_eq_true rfl | (dsimp only; omega) | (simp <;> omega)) ?_
  refine .seq ?_
  refine .plain Try.tmOk Try.tmMixed [0, 1, 2] (by decide +kernel) (by intro q hq; simp only [go_sem, appendD, Nat.reduceSub, Int.reduceEq, Nat.reduceLT, Nat.reduceDiv, Nat.reduceAdd, Nat.reduceBEq, Nat.reduceLeDiff, reduceCtorEq, Nat.reduceEqDiff, Nat.reduceMod, capK, Try.tm_23, Try.tm_3, bij, bik, bjk, bji, bki, bkj]; exact hq) (by first | rfl | (simp only [go_sem, Nat.reduceLeDiff]; done) | (simp only [go_sem, Nat.reduceLeDiff]; rfl) | (simp; done) | (simp [oneD] <;> omega) | (simp_all; done) | (simp_all [oneD] <;> omega)) (by first | exact Nat.le_refl _ | exact Nat.le_of_ble_eq_true rfl | (dsimp only; omega) | (simp <;> omega)) ?_
  refine .seq ?_
  refine .seq ?_
  refine .plain Try.tmOk Try.tmMixed [0, 1, 2, 7] (by decide +kernel) (by intro q hq; simp only [go_sem, appendD, Nat.reduceSub, Int.reduceEq, Nat.reduceLT, Nat.reduceDiv, Nat.reduceAdd, Nat.reduceBEq, Nat.reduceLeDiff, reduceCtorEq, Nat.reduceEqDiff, Nat.reduceMod, capK, Try.tm_23, Try.tm_3]; exact hq) (by first | rfl | (simp only [go_sem, Nat.reduceLeDiff]; done) | (simp only [go_sem, Nat.reduceLeDiff]; rfl) | (simp; done) | (simp [oneD] <;> omega) | (simp_all; done) | (simp_all [oneD] <;> omega)) (by first | exact Nat.le_refl _ | exact Nat.le_of_ble_eq_true rfl | (dsimp only; omega) | (simp <;> omega)) ?_
  refine .cond rfl rfl (fun hc => by simp at hc) (fun hc => ?_)
  refine .skip ?_
  refine .seq ?_
  refine .plain Try.tmOk Try.tmMixed [0, 1, 2, 7] (by decide +kernel) (by intro q hq; simp only [go_sem, appendD, Nat.reduceSub, Int.reduceEq, Nat.reduceLT, Nat.reduceDiv, Nat.reduceAdd, Nat.reduceBEq, Nat.reduceLeDiff, reduceCtorEq, Nat.reduceEqDiff, Nat.reduceMod, capK, Try.tm_23, Try.tm_3]; exact hq) (by first | rfl | (simp only [go_sem, Nat.reduceLeDiff]; done) | (simp only [go_sem, Nat.reduceLeDiff]; rfl) | (simp; done) | (simp [oneD] <;> omega) | (simp_all; done) | (simp_all [oneD] <;> omega)) (by first | exact Nat.le_refl _ | exact Nat.le_of_ble_eq_true rfl | (dsimp only; omega) | (simp <;> omega)) ?_
  refine .seq ?_
  refine .seq ?_
  refine .plain Try.tmOk Try.tmMixed [0, 1, 2, 7, 8] (by decide +kernel) (by intro q hq; simp only [go_sem, appendD, Nat.reduceSub, Int.reduceEq, Nat.reduceLT, Nat.reduceDiv, Nat.reduceAdd, Nat.reduceBEq, Nat.reduceLeDiff, reduceCtorEq, Nat.reduceEqDiff, Nat.reduceMod, capK, Try.tm_23, Try.tm_3]; exact hq) (by first | rfl | (simp only [go_sem, Nat.reduceLeDiff]; done) | (simp only [go_sem, Nat.reduceLeDiff]; rfl) | (simp; done) | (simp [oneD] <;> omega) | (simp_all; done) | (simp_all [oneD] <;> omega)) (by first | exact Nat.le_refl _ | exact Nat.le_of_ble_eq_true rfl | (dsimp only; omega) | (simp <;> omega)) ?_
  refine .cond rfl rfl (fun hc => ?_) (fun hc => by simp at hc)
  refine .seq ?_
  refine .plain Try.tmOk Try.tmMixed [0, 2] (by decide +kernel) (by intro q hq; simp only [go_sem, appendD, Nat.reduceSub, Int.reduceEq, Nat.reduceLT, Nat.reduceDiv, Nat.reduceAdd, Nat.reduceBEq, Nat.reduceLeDiff, reduceCtorEq, Nat.reduceEqDiff, Nat.reduceMod, capK, Try.tm_23, Try.tm_3, bij, bik, bjk, bji, bki, bkj]; exact hq) (by first | rfl | (simp only [go_sem, Nat.reduceLeDiff]; done) | (simp only [go_sem, Nat.reduceLeDiff]; rfl) | (simp; done) | (simp [oneD] <;> omega) | (simp_all; done) | (simp_all [oneD] <;> omega)) (by first | exact Nat.le_refl _ | exact Nat.le_of_ble_eq_true rfl | (dsimp only; omega) | (simp <;> omega)) ?_
  refine .ret ⟨.inr rfl, retH [j, k] ?_ ?_⟩
  · simp only [ResIs, resL, resD, resT, go_sem, appendD, Nat.reduceSub, Int.reduceEq, Nat.reduceLT, Nat.reduceDiv, Nat.reduceAdd, Nat.reduceBEq, Nat.reduceLeDiff, reduceCtorEq, Nat.reduceEqDiff, Nat.reduceMod, Try.f82]
  · simp only [pickL, getL, effL, put, del, Nat.beq_refl, cond_true, cond_false, bij, bik, bjk, bji, bki, bkj, List.take_length]

theorem ins82g (i j k : Nat) (hij : i ≠ j) (hik : i ≠ k) (hjk : j ≠ k) (L : List D) (x : D) (P Q : Bool) (at' c : Nat) (hck : capK c = true) (hat : at' < L.length) (hL : L.length < 1000000) (h1 : L.length ≤ c) (h2 : c < L.length + 1) :
    CallH Try.prog 82 [.ref i 3 0 L.length (some c), .int .i64 (at' : Int), .ref j 3 0 1 (some 1)] [(i, .arr 27 3 P L), (j, .arr 27 3 Q [x])] (.ref k 3 0 (L.length + 1) none) [(k, some (.arr 27 3 (P && Q) (L.take at' ++ x :: L.drop at'))), (i, none)] (k, k + 1) := by
  obtain rfl : c = L.length := by omega
  have hck2 := hck
  have bij : Nat.beq i j = false := beq_ne hij
  have bik : Nat.beq i k = false := beq_ne hik
  have bjk : Nat.beq j k = false := beq_ne hjk
  have bji : Nat.beq j i = false := beq_ne (Ne.symm hij)
  have bki : Nat.beq k i = false := beq_ne (Ne.symm hik)
  have bkj : Nat.beq k j = false := beq_ne (Ne.symm hjk)
  have hw : wr .i64 ((L.length : Int) + ((1 : Nat) : Int)) = ((L.length + 1 : Nat) : Int) := wr_eq _ _ (by show (-9223372036854775808 : Int) ≤ _; omega) (by show _ ≤ (9223372036854775807 : Int); omega)
  have hw2 : wr .i64 (((L.length + 1 : Nat) : Int) - (at' : Int)) = ((L.length + 1 - at' : Nat) : Int) := by
    rw [wr_eq _ _ (by show (-9223372036854775808 : Int) ≤ _; omega) (by show _ ≤ (9223372036854775807 : Int); omega)]
    omega
  have hw3 : wr .i64 ((at' : Int) + ((1 : Nat) : Int)) = ((at' + 1 : Nat) : Int) := wr_eq _ _ (by show (-9223372036854775808 : Int) ≤ _; omega) (by show _ ≤ (9223372036854775807 : Int); omega)
  have ha : at' + (L.length + 1 - at') = L.length + 1 := by omega
  have pq : (P && Q && P) = (P && Q) := by cases P <;> cases Q <;> rfl
  have hm1 : Nat.min 1 (L.length + 1 - at') = 1 := by show min 1 (L.length + 1 - at') = 1; omega
  have hm2 : Nat.min (L.length - at') (L.length + 1 - (at' + 1)) = L.length - at' := by show min (L.length - at') (L.length + 1 - (at' + 1)) = L.length - at'; omega
  have tk : (L.take at').length = at' := by simp; omega
  have e1 : List.take at' (List.take at' L ++ List.replicate (L.length + 1 - at') (D.agg [D.int .i64 0, D.int .i64 0, D.str []])) = List.take at' L := by
    rw [List.take_append_of_le_length (by omega), List.take_of_length_le (by omega)]
  have e2 : List.drop (at' + 1) (List.take at' L ++ List.replicate (L.length + 1 - at') (D.agg [D.int .i64 0, D.int .i64 0, D.str []])) = List.replicate (L.length - at') (D.agg [D.int .i64 0, D.int .i64 0, D.str []]) := by
    rw [List.drop_append, List.drop_eq_nil_of_le (by omega), tk, List.nil_append, List.drop_replicate]
    congr 1; omega
  have e3 : List.take (at' + 1) (List.take at' L ++ [x] ++ List.replicate (L.length - at') (D.agg [D.int .i64 0, D.int .i64 0, D.str []])) = List.take at' L ++ [x] := by
    rw [List.take_append_of_le_length (by simp; omega), List.take_of_length_le (by simp; omega)]
  have e4 : List.drop (at' + 1 + (L.length - at')) (List.take at' L ++ [x] ++ List.replicate (L.length - at') (D.agg [D.int .i64 0, D.int .i64 0, D.str []])) = [] := List.drop_eq_nil_of_le (by simp; omega)
  have e5 : List.take (L.length - at') (List.drop at' L) = List.drop at' L := List.take_of_length_le (by simp)
  have l1 : (List.take at' L ++ List.replicate (L.length + 1 - at') (D.agg [D.int .i64 0, D.int .i64 0, D.str []])).length = L.length + 1 := by simp; omega
  have l2 : (List.take at' L ++ [x] ++ List.replicate (L.length - at') (D.agg [D.int .i64 0, D.int .i64 0, D.str []])).length = L.length + 1 := by simp; omega
  refine callH_intro' Try.tmOk Try.func82 rfl (by decide) (Nat.le_of_ble_eq_true rfl) (by simp) ?_
  intro hwf
  refine .seq ?_
  refine .plain Try.tmOk Try.tmMixed [0, 1, 2] (by decide +kernel) (by intro q hq; simp only [go_sem, appendD, Nat.reduceSub, Int.reduceEq, Nat.reduceLT, Nat.reduceDiv, Nat.reduceAdd, Nat.reduceBEq, Nat.reduceLeDiff, reduceCtorEq, Nat.reduceEqDiff, Nat.reduceMod, hck]; exact hq) (by first | rfl | (simp only [go_sem, Nat.reduceLeDiff]; done) | (simp only [go_sem, Nat.reduceLeDiff]; rfl) | (simp; done) | (simp [oneD] <;> omega) | (simp_all; done) | (simp_all [oneD] <;> omega)) (by first | exact Nat.le_refl _ | exact Nat.le_of_ble_eq_true rfl | (dsimp only; omega) | (simp <;> omega)) ?_
  refine .seq ?_
  refine .plain Try.tmOk Try.tmMixed [0, 1, 2] (by decide +kernel) (by intro q hq; simp only [go_sem, appendD, Nat.reduceSub, Int.reduceEq, Nat.reduceLT, Nat.reduceDiv, Nat.reduceAdd, Nat.reduceBEq, Nat.reduceLeDiff, reduceCtorEq, Nat.reduceEqDiff, Nat.reduceMod, Try.tm_23, Try.tm_3, hck]; exact hq) (by first | rfl | (simp only [go_sem, Nat.reduceLeDiff]; done) | (simp only [go_sem, Nat.reduceLeDiff]; rfl) | (simp; done) | (simp [oneD] <;> omega) | (simp_all; done) | (simp_all [oneD] <;> omega)) (by first | exact Nat.le_refl _ | exact Nat.le_of_ble_eq_true rfl | (dsimp only; omega) | (simp <;> omega)) ?_
  refine .seq ?_
  refine .plain Try.tmOk Try.tmMixed [0, 1, 2] (by decide +kernel) (by intro q hq; simp only [go_sem, appendD, Nat.reduceSub, Int.reduceEq, Nat.reduceLT, Nat.reduceDiv, Nat.reduceAdd, Nat.reduceBEq, Nat.reduceLeDiff, reduceCtorEq, Nat.reduceEqDiff, Nat.reduceMod, Try.tm_23, Try.tm_3, hck]; exact hq) (by first | rfl | (simp only [go_sem, Nat.reduceLeDiff]; done) | (simp only [go_sem, Nat.reduceLeDiff]; rfl) | (simp; done) | (simp [oneD] <;> omega) | (simp_all; done) | (simp_all [oneD] <;> omega)) (by first | exact Nat.le_refl _ | exact Nat.le_of_ble_eq_true rfl | (dsimp only; omega) | (simp <;> omega)) ?_
  refine .seq ?_
  refine .seq ?_
  refine .plain Try.tmOk Try.tmMixed [0, 1, 2, 7] (by decide +kernel) (by intro q hq; simp only [go_sem, appendD, Nat.reduceSub, Int.reduceEq, Nat.reduceLT, Nat.reduceDiv, Nat.reduceAdd, Nat.reduceBEq, Nat.reduceLeDiff, reduceCtorEq, Nat.reduceEqDiff, Nat.reduceMod, Try.tm_23, Try.tm_3, hck]; exact hq) (by first | rfl | (simp only [go_sem, Nat.reduceLeDiff]; done) | (simp only [go_sem, Nat.reduceLeDiff]; rfl) | (simp; done) | (simp [oneD] <;> omega) | (simp_all; done) | (simp_all [oneD] <;> omega)) (by first | exact Nat.le_refl _ | exact Nat.le_of_ble_eq_true rfl | (dsimp only; omega) | (simp <;> omega)) ?_
  refine .cond rfl rfl (fun hc => by simp at hc) (fun hc => ?_)
  refine .skip ?_
  refine .seq ?_
  refine .plain Try.tmOk Try.tmMixed [0, 1, 2, 7] (by decide +kernel) (by intro q hq; simp only [go_sem, appendD, Nat.reduceSub, Int.reduceEq, Nat.reduceLT, Nat.reduceDiv, Nat.reduceAdd, Nat.reduceBEq, Nat.reduceLeDiff, reduceCtorEq, Nat.reduceEqDiff, Nat.reduceMod, Try.tm_23, Try.tm_3, hck]; exact hq) (by first | rfl | (simp only [go_sem, Nat.reduceLeDiff]; done) | (simp only [go_sem, Nat.reduceLeDiff]; rfl) | (simp; done) | (simp [oneD] <;> omega) | (simp_all; done) | (simp_all [oneD] <;> omega)) (by first | exact Nat.le_refl _ | exact Nat.le_of_ble_eq_true rfl | (dsimp only; omega) | (simp <;> omega)) ?_
  refine .seq ?_
  refine .seq ?_
  refine .plain Try.tmOk Try.tmMixed [0, 1, 2, 7, 8] (by decide +kernel) (by intro q hq; simp only [go_sem, appendD, Nat.reduceSub, Int.reduceEq, Nat.reduceLT, Nat.reduceDiv, Nat.reduceAdd, Nat.reduceBEq, Nat.reduceLeDiff, reduceCtorEq, Nat.reduceEqDiff, Nat.reduceMod, Try.tm_23, Try.tm_3, hck]; exact hq) (by first | rfl | (simp only [go_sem, Nat.reduceLeDiff]; done) | (simp only [go_sem, Nat.reduceLeDiff]; rfl) | (simp; done) | (simp [oneD] <;> omega) | (simp_all; done) | (simp_all [oneD] <;> omega)) (by first | exact Nat.le_refl _ | exact Nat.le_of_ble_eq_true rfl | (dsimp only; omega) | (simp <;> omega)) ?_
  refine .cond rfl rfl (fun hc => by simp at hc; omega) (fun hc => ?_)
  refine .skip ?_
  refine .seq ?_
  refine .seq ?_
  refine .plain Try.tmOk Try.tmMixed [0, 1, 2, 7, 8] (by decide +kernel) (by intro q hq; simp only [go_sem, appendD, Nat.reduceSub, Int.reduceEq, Nat.reduceLT, Nat.reduceDiv, Nat.reduceAdd, Nat.reduceBEq, Nat.reduceLeDiff, reduceCtorEq, Nat.reduceEqDiff, Nat.reduceMod, Try.tm_23, Try.tm_3, hck, hw]; exact hq) (by first | rfl | (simp only [go_sem, Nat.reduceLeDiff]; done) | (simp only [go_sem, Nat.reduceLeDiff]; rfl) | (simp; done) | (simp [oneD] <;> omega) | (simp_all; done) | (simp_all [oneD] <;> omega)) (by first | exact Nat.le_refl _ | exact Nat.le_of_ble_eq_true rfl | (dsimp only; omega) | (simp <;> omega)) ?_
  refine .cond rfl rfl (fun hc => ?_) (fun hc => by simp at hc; omega)
  refine .seq ?_
  refine .plain Try.tmOk Try.tmMixed [0, 1, 2, 7, 8] (by decide +kernel) (by intro q hq; simp only [go_sem, appendD, Nat.reduceSub, Int.reduceEq, Nat.reduceLT, Nat.reduceDiv, Nat.reduceAdd, Nat.reduceBEq, Nat.reduceLeDiff, reduceCtorEq, Nat.reduceEqDiff, Nat.reduceMod, Try.tm_23, Try.tm_3, hck, hw, hw2, ha, appendZ, Int.sub_zero, Int.toNat_zero, Int.toNat_sub, bij, bik, bjk, bji, bki, bkj]; exact hq) (by first | rfl | (simp only [go_sem, Nat.reduceLeDiff]; done) | (simp only [go_sem, Nat.reduceLeDiff]; rfl) | (simp; done) | (simp [oneD] <;> omega) | (simp_all; done) | (simp_all [oneD] <;> omega)) (by first | exact Nat.le_refl _ | exact Nat.le_of_ble_eq_true rfl | (dsimp only; omega) | (simp <;> omega)) ?_
  refine .seq ?_
  refine .plain Try.tmOk Try.tmMixed [0, 1, 2, 7, 8, 9] (by decide +kernel) (by intro q hq; simp only [go_sem, appendD, Nat.reduceSub, Int.reduceEq, Nat.reduceLT, Nat.reduceDiv, Nat.reduceAdd, Nat.reduceBEq, Nat.reduceLeDiff, reduceCtorEq, Nat.reduceEqDiff, Nat.reduceMod, Try.tm_23, Try.tm_3, hck, hw, hw2, ha, appendZ, Int.sub_zero, Int.toNat_zero, Int.toNat_sub, bij, bik, bjk, bji, bki, bkj, Int.toNat_sub, hm1, e1, e2, List.take_one, List.take_succ_cons]; exact hq) (by first | rfl | (simp only [go_sem, Nat.reduceLeDiff]; done) | (simp only [go_sem, Nat.reduceLeDiff]; rfl) | (simp; done) | (simp [oneD] <;> omega) | (simp_all; done) | (simp_all [oneD] <;> omega)) (by first | exact Nat.le_refl _ | exact Nat.le_of_ble_eq_true rfl | (dsimp only; omega) | (simp <;> omega)) ?_
  refine .seq ?_
  refine .drawn Try.tmOk Try.tmMixed [0, 1, 2, 7, 8, 9] (by decide +kernel) (by intro q hq; simp only [go_sem, appendD, Nat.reduceSub, Int.reduceEq, Nat.reduceLT, Nat.reduceDiv, Nat.reduceAdd, Nat.reduceBEq, Nat.reduceLeDiff, reduceCtorEq, Nat.reduceEqDiff, Nat.reduceMod, Try.tm_23, Try.tm_3, hck, hw, hw2, hw3, ha, appendZ, capS, bij, bik, bjk, bji, bki, bkj, Int.toNat_sub, hm1, hm2, e3, e4, e5]; exact hq) (schedB_of (by kernel_rfl)) (by first | rfl | (simp only [go_sem, Nat.reduceLeDiff]; done) | (simp only [go_sem, Nat.reduceLeDiff]; rfl) | (simp; done) | (simp [oneD] <;> omega) | (simp_all; done) | (simp_all [oneD] <;> omega)) (by first | exact Nat.le_refl _ | exact Nat.le_of_ble_eq_true rfl | (dsimp only; omega) | (simp <;> omega)) ?_
  refine .seq ?_
  refine .plain Try.tmOk Try.tmMixed [9] (by decide +kernel) (by intro q hq; simp only [go_sem, appendD, Nat.reduceSub, Int.reduceEq, Nat.reduceLT, Nat.reduceDiv, Nat.reduceAdd, Nat.reduceBEq, Nat.reduceLeDiff, reduceCtorEq, Nat.reduceEqDiff, Nat.reduceMod, Try.tm_23, Try.tm_3, hck]; exact hq) (by first | rfl | (simp only [go_sem, Nat.reduceLeDiff]; done) | (simp only [go_sem, Nat.reduceLeDiff]; rfl) | (simp; done) | (simp [oneD] <;> omega) | (simp_all; done) | (simp_all [oneD] <;> omega)) (by first | exact Nat.le_refl _ | exact Nat.le_of_ble_eq_true rfl | (dsimp only; omega) | (simp <;> omega)) ?_
  refine .ret ⟨.inr rfl, retH [j, k] ?_ ?_⟩
  · simp only [ResIs, resL, resD, resT, go_sem, appendD, Nat.reduceSub, Int.reduceEq, Nat.reduceLT, Nat.reduceDiv, Nat.reduceAdd, Nat.reduceBEq, Nat.reduceLeDiff, reduceCtorEq, Nat.reduceEqDiff, Nat.reduceMod, Try.f82]
  · simp only [pickL, getL, effL, put, del, Nat.beq_refl, cond_true, cond_false, bij, bik, bjk, bji, bki, bkj, pq, List.append_assoc, List.singleton_append, List.append_nil]


theorem ins82r (i j k : Nat) (hij : i ≠ j) (L : List D) (x : D) (P Q : Bool) (at' c : Nat) (hck : capK c = true) (hat : at' < L.length) (hL : L.length < 1000000) (h1 : L.length + 1 ≤ c) :
    CallH Try.prog 82 [.ref i 3 0 L.length (some c), .int .i64 (at' : Int), .ref j 3 0 1 (some 1)] [(i, .arr 27 3 P L), (j, .arr 27 3 Q [x])] (.ref i 3 0 (L.length + 1) (some c)) [(i, some (.arr 27 3 (P && Q) (L.take at' ++ x :: L.drop at')))] (k, k) := by
  have bij : Nat.beq i j = false := beq_ne hij
  have bji : Nat.beq j i = false := beq_ne (Ne.symm hij)
  have hw : wr .i64 ((L.length : Int) + ((1 : Nat) : Int)) = ((L.length + 1 : Nat) : Int) := wr_eq _ _ (by show (-9223372036854775808 : Int) ≤ _; omega) (by show _ ≤ (9223372036854775807 : Int); omega)
  have hw3 : wr .i64 ((at' : Int) + ((1 : Nat) : Int)) = ((at' + 1 : Nat) : Int) := wr_eq _ _ (by show (-9223372036854775808 : Int) ≤ _; omega) (by show _ ≤ (9223372036854775807 : Int); omega)
  have hm1 : Nat.min 1 (L.length + 1 - at') = 1 := by show min 1 (L.length + 1 - at') = 1; omega
  have hm2 : Nat.min (L.length + 1 - at') (L.length + 1 - (at' + 1)) = L.length - at' := by show min (L.length + 1 - at') (L.length + 1 - (at' + 1)) = L.length - at'; omega
  have hn1 : L.length + 1 - (at' + 1) = (L.length - at' - 1) + 1 := by omega
  have tk : (L.take at').length = at' := by simp; omega
  have tk1 : (L.take (at' + 1)).length = at' + 1 := by simp; omega
  have e5 : List.take (L.length - at') (List.drop at' L) = List.drop at' L := List.take_of_length_le (by simp)
  have e4 : List.drop (at' + 1 + (L.length - at')) L = [] := List.drop_eq_nil_of_le (by omega)
  have e1 : List.take at' (List.take (at' + 1) L ++ List.drop at' L) = List.take at' L := by
    rw [List.take_append_of_le_length (by omega), List.take_take]
    congr 1; omega
  have e2 : List.drop (at' + 1) (List.take (at' + 1) L ++ List.drop at' L) = List.drop at' L := by
    rw [List.drop_append, List.drop_eq_nil_of_le (by omega), tk1, Nat.sub_self, List.drop_zero, List.nil_append]
  refine callH_intro' Try.tmOk Try.func82 rfl (by decide) (Nat.le_of_ble_eq_true rfl) (by simp) ?_
  intro hwf
  refine .seq ?_
  refine .plain Try.tmOk Try.tmMixed [0, 1, 2] (by decide +kernel) (by intro q hq; simp only [go_sem, appendD, Nat.reduceSub, Int.reduceEq, Nat.reduceLT, Nat.reduceDiv, Nat.reduceAdd, Nat.reduceBEq, Nat.reduceLeDiff, reduceCtorEq, Nat.reduceEqDiff, Nat.reduceMod, hck]; exact hq) (by first | rfl | (simp only [go_sem, Nat.reduceLeDiff]; done) | (simp only [go_sem, Nat.reduceLeDiff]; rfl) | (simp; done) | (simp [oneD] <;> omega) | (simp_all; done) | (simp_all [oneD] <;> omega)) (by first | exact Nat.le_refl _ | exact Nat.le_of_ble_eq_true rfl | (dsimp only; omega) | (simp <;> omega)) ?_
  refine .seq ?_
  refine .plain Try.tmOk Try.tmMixed [0, 1, 2] (by decide +kernel) (by intro q hq; simp only [go_sem, appendD, Nat.reduceSub, Int.reduceEq, Nat.reduceLT, Nat.reduceDiv, Nat.reduceAdd, Nat.reduceBEq, Nat.reduceLeDiff, reduceCtorEq, Nat.reduceEqDiff, Nat.reduceMod, Try.tm_23, Try.tm_3, hck]; exact hq) (by first | rfl | (simp only [go_sem, Nat.reduceLeDiff]; done) | (simp only [go_sem, Nat.reduceLeDiff]; rfl) | (simp; done) | (simp [oneD] <;> omega) | (simp_all; done) | (simp_all [oneD] <;> omega)) (by first | exact Nat.le_refl _ | exact Nat.le_of_ble_eq_true rfl | (dsimp only; omega) | (simp <;> omega)) ?_
  refine .seq ?_
  refine .plain Try.tmOk Try.tmMixed [0, 1, 2] (by decide +kernel) (by intro q hq; simp only [go_sem, appendD, Nat.reduceSub, Int.reduceEq, Nat.reduceLT, Nat.reduceDiv, Nat.reduceAdd, Nat.reduceBEq, Nat.reduceLeDiff, reduceCtorEq, Nat.reduceEqDiff, Nat.reduceMod, Try.tm_23, Try.tm_3, hck]; exact hq) (by first | rfl | (simp only [go_sem, Nat.reduceLeDiff]; done) | (simp only [go_sem, Nat.reduceLeDiff]; rfl) | (simp; done) | (simp [oneD] <;> omega) | (simp_all; done) | (simp_all [oneD] <;> omega)) (by first | exact Nat.le_refl _ | exact Nat.le_of_ble_eq_true rfl | (dsimp only; omega) | (simp <;> omega)) ?_
  refine .seq ?_
  refine .seq ?_
  refine .plain Try.tmOk Try.tmMixed [0, 1, 2, 7] (by decide +kernel) (by intro q hq; simp only [go_sem, appendD, Nat.reduceSub, Int.reduceEq, Nat.reduceLT, Nat.reduceDiv, Nat.reduceAdd, Nat.reduceBEq, Nat.reduceLeDiff, reduceCtorEq, Nat.reduceEqDiff, Nat.reduceMod, Try.tm_23, Try.tm_3, hck]; exact hq) (by first | rfl | (simp only [go_sem, Nat.reduceLeDiff]; done) | (simp only [go_sem, Nat.reduceLeDiff]; rfl) | (simp; done) | (simp [oneD] <;> omega) | (simp_all; done) | (simp_all [oneD] <;> omega)) (by first | exact Nat.le_refl _ | exact Nat.le_of_ble_eq_true rfl | (dsimp only; omega) | (simp <;> omega)) ?_
  refine .cond rfl rfl (fun hc => by simp at hc) (fun hc => ?_)
  refine .skip ?_
  refine .seq ?_
  refine .plain Try.tmOk Try.tmMixed [0, 1, 2, 7] (by decide +kernel) (by intro q hq; simp only [go_sem, appendD, Nat.reduceSub, Int.reduceEq, Nat.reduceLT, Nat.reduceDiv, Nat.reduceAdd, Nat.reduceBEq, Nat.reduceLeDiff, reduceCtorEq, Nat.reduceEqDiff, Nat.reduceMod, Try.tm_23, Try.tm_3, hck]; exact hq) (by first | rfl | (simp only [go_sem, Nat.reduceLeDiff]; done) | (simp only [go_sem, Nat.reduceLeDiff]; rfl) | (simp; done) | (simp [oneD] <;> omega) | (simp_all; done) | (simp_all [oneD] <;> omega)) (by first | exact Nat.le_refl _ | exact Nat.le_of_ble_eq_true rfl | (dsimp only; omega) | (simp <;> omega)) ?_
  refine .seq ?_
  refine .seq ?_
  refine .plain Try.tmOk Try.tmMixed [0, 1, 2, 7, 8] (by decide +kernel) (by intro q hq; simp only [go_sem, appendD, Nat.reduceSub, Int.reduceEq, Nat.reduceLT, Nat.reduceDiv, Nat.reduceAdd, Nat.reduceBEq, Nat.reduceLeDiff, reduceCtorEq, Nat.reduceEqDiff, Nat.reduceMod, Try.tm_23, Try.tm_3, hck]; exact hq) (by first | rfl | (simp only [go_sem, Nat.reduceLeDiff]; done) | (simp only [go_sem, Nat.reduceLeDiff]; rfl) | (simp; done) | (simp [oneD] <;> omega) | (simp_all; done) | (simp_all [oneD] <;> omega)) (by first | exact Nat.le_refl _ | exact Nat.le_of_ble_eq_true rfl | (dsimp only; omega) | (simp <;> omega)) ?_
  refine .cond rfl rfl (fun hc => by simp at hc; omega) (fun hc => ?_)
  refine .skip ?_
  refine .seq ?_
  refine .seq ?_
  refine .plain Try.tmOk Try.tmMixed [0, 1, 2, 7, 8] (by decide +kernel) (by intro q hq; simp only [go_sem, appendD, Nat.reduceSub, Int.reduceEq, Nat.reduceLT, Nat.reduceDiv, Nat.reduceAdd, Nat.reduceBEq, Nat.reduceLeDiff, reduceCtorEq, Nat.reduceEqDiff, Nat.reduceMod, Try.tm_23, Try.tm_3, hck, hw]; exact hq) (by first | rfl | (simp only [go_sem, Nat.reduceLeDiff]; done) | (simp only [go_sem, Nat.reduceLeDiff]; rfl) | (simp; done) | (simp [oneD] <;> omega) | (simp_all; done) | (simp_all [oneD] <;> omega)) (by first | exact Nat.le_refl _ | exact Nat.le_of_ble_eq_true rfl | (dsimp only; omega) | (simp <;> omega)) ?_
  refine .cond rfl rfl (fun hc => by simp at hc; omega) (fun hc => ?_)
  refine .skip ?_
  refine .seq ?_
  refine .plain Try.tmOk Try.tmMixed [0, 1, 2, 7, 8] (by decide +kernel) (by intro q hq; simp only [go_sem, appendD, Nat.reduceSub, Int.reduceEq, Nat.reduceLT, Nat.reduceDiv, Nat.reduceAdd, Nat.reduceBEq, Nat.reduceLeDiff, reduceCtorEq, Nat.reduceEqDiff, Nat.reduceMod, Try.tm_23, Try.tm_3, hck, hw, roomV, Option.isSome, Int.sub_zero, Int.toNat_zero, Nat.sub_zero, bij, bji]; exact hq) (by first | rfl | (simp only [go_sem, Nat.reduceLeDiff]; done) | (simp only [go_sem, Nat.reduceLeDiff]; rfl) | (simp; done) | (simp [oneD] <;> omega) | (simp_all; done) | (simp_all [oneD] <;> omega)) (by first | exact Nat.le_refl _ | exact Nat.le_of_ble_eq_true rfl | (dsimp only; omega) | (simp <;> omega)) ?_
  refine .seq ?_
  refine .seq ?_
  refine .reg Try.tmOk Try.tmMixed [0, 1, 2, 7] (by decide +kernel) ?_
  refine .R (dr := false) (.inr fun _ _ _ h => ⟨nofun, h.2⟩) (by intro q hq; simp only [go_sem, appendD, Nat.reduceSub, Int.reduceEq, Nat.reduceLT, Nat.reduceDiv, Nat.reduceAdd, Nat.reduceBEq, Nat.reduceLeDiff, reduceCtorEq, Nat.reduceEqDiff, Nat.reduceMod, Try.tm_23, Try.tm_3, hck, hw3, Int.toNat_sub, bij, bji]; exact hq) (by first | rfl | (simp only [go_sem, Nat.reduceLeDiff]; done) | (simp only [go_sem, Nat.reduceLeDiff]; rfl) | (simp; done) | (simp [oneD] <;> omega) | (simp_all; done) | (simp_all [oneD] <;> omega)) (by first | exact Nat.le_refl _ | exact Nat.le_of_ble_eq_true rfl | (dsimp only; omega) | (simp <;> omega)) ?_
  refine .overs (i := j) (j := i) rfl rfl rfl rfl rfl overs181 ⟨3, 0, 0, some 1, 3 - 1, at' + 1, L.length - at' - 1, some (c - (at' + 1)), 27, 3, Q, [x], 27, 3, P, L, by
    show [D.ref j 3 0 1 (some 1), D.ref i 3 (at' + 1) (L.length + 1 - (at' + 1)) (some (c - (at' + 1)))] = _
    rw [hn1], by simp only [getL, bij, cond_false, Nat.beq_refl, cond_true], by simp only [getL, Nat.beq_refl, cond_true], Ne.symm hij⟩ ?_
  refine .R (dr := false) (.inr fun _ _ _ h => ⟨nofun, h.2⟩) (by intro q hq; simp only [go_sem, appendD, Nat.reduceSub, Int.reduceEq, Nat.reduceLT, Nat.reduceDiv, Nat.reduceAdd, Nat.reduceBEq, Nat.reduceLeDiff, reduceCtorEq, Nat.reduceEqDiff, Nat.reduceMod, Try.tm_23, Try.tm_3, hck]; exact hq) (by first | rfl | (simp only [go_sem, Nat.reduceLeDiff]; done) | (simp only [go_sem, Nat.reduceLeDiff]; rfl) | (simp; done) | (simp [oneD] <;> omega) | (simp_all; done) | (simp_all [oneD] <;> omega)) (by first | exact Nat.le_refl _ | exact Nat.le_of_ble_eq_true rfl | (dsimp only; omega) | (simp <;> omega)) ?_
  refine .nil ⟨nofun, ?_⟩
  refine .cond rfl rfl (fun hc => ?_) (fun hc => by cases hc)
  refine .seq ?_
  refine .drawn Try.tmOk Try.tmMixed [0, 1, 2, 7] (by decide +kernel) (by intro q hq; simp only [go_sem, appendD, Nat.reduceSub, Int.reduceEq, Nat.reduceLT, Nat.reduceDiv, Nat.reduceAdd, Nat.reduceBEq, Nat.reduceLeDiff, reduceCtorEq, Nat.reduceEqDiff, Nat.reduceMod, Try.tm_23, Try.tm_3, hck, hw3, Int.toNat_sub, hm2, e4, e5, bij, bji, Bool.and_self, List.append_nil]; exact hq) (schedB_of (by kernel_rfl)) (by first | rfl | (simp only [go_sem, Nat.reduceLeDiff]; done) | (simp only [go_sem, Nat.reduceLeDiff]; rfl) | (simp; done) | (simp [oneD] <;> omega) | (simp_all; done) | (simp_all [oneD] <;> omega)) (by first | exact Nat.le_refl _ | exact Nat.le_of_ble_eq_true rfl | (dsimp only; omega) | (simp <;> omega)) ?_
  refine .seq ?_
  refine .plain Try.tmOk Try.tmMixed [0, 1, 2] (by decide +kernel) (by intro q hq; simp only [go_sem, appendD, Nat.reduceSub, Int.reduceEq, Nat.reduceLT, Nat.reduceDiv, Nat.reduceAdd, Nat.reduceBEq, Nat.reduceLeDiff, reduceCtorEq, Nat.reduceEqDiff, Nat.reduceMod, Try.tm_23, Try.tm_3, hck, Int.toNat_sub, hm1, e1, e2, bij, bji, List.take_succ_cons]; exact hq) (by first | rfl | (simp only [go_sem, Nat.reduceLeDiff]; done) | (simp only [go_sem, Nat.reduceLeDiff]; rfl) | (simp; done) | (simp [oneD] <;> omega) | (simp_all; done) | (simp_all [oneD] <;> omega)) (by first | exact Nat.le_refl _ | exact Nat.le_of_ble_eq_true rfl | (dsimp only; omega) | (simp <;> omega)) ?_
  refine .seq ?_
  refine .plain Try.tmOk Try.tmMixed [0] (by decide +kernel) (by intro q hq; simp only [go_sem, appendD, Nat.reduceSub, Int.reduceEq, Nat.reduceLT, Nat.reduceDiv, Nat.reduceAdd, Nat.reduceBEq, Nat.reduceLeDiff, reduceCtorEq, Nat.reduceEqDiff, Nat.reduceMod, Try.tm_23, Try.tm_3, hck]; exact hq) (by first | rfl | (simp only [go_sem, Nat.reduceLeDiff]; done) | (simp only [go_sem, Nat.reduceLeDiff]; rfl) | (simp; done) | (simp [oneD] <;> omega) | (simp_all; done) | (simp_all [oneD] <;> omega)) (by first | exact Nat.le_refl _ | exact Nat.le_of_ble_eq_true rfl | (dsimp only; omega) | (simp <;> omega)) ?_
  refine .ret ⟨.inr rfl, retH [i, j] ?_ ?_⟩
  · simp only [ResIs, resL, resD, resT, go_sem, appendD, Nat.reduceSub, Int.reduceEq, Nat.reduceLT, Nat.reduceDiv, Nat.reduceAdd, Nat.reduceBEq, Nat.reduceLeDiff, reduceCtorEq, Nat.reduceEqDiff, Nat.reduceMod, Try.f82]
  · simp only [pickL, getL, effL, put, del, Nat.beq_refl, cond_true, cond_false, bij, bji, List.append_assoc, List.singleton_append, List.append_nil]

/-- slices.Insert of one element, anywhere -/
theorem ins82 (i j k : Nat) (hij : i ≠ j) (hik : i ≠ k) (hjk : j ≠ k) (L : List D) (x : D) (P Q : Bool) (at' : Nat) (hat : at' ≤ L.length) (hL : L.length < 1000000) :
    CallH Try.prog 82 [.ref i 3 0 L.length (some unkC), .int .i64 (at' : Int), .ref j 3 0 1 (some 1)] [(i, .arr 27 3 P L), (j, .arr 27 3 Q [x])] (.ref k 3 0 (L.length + 1) (some unkC)) [(k, some (.arr 27 3 (P && Q) (L.take at' ++ x :: L.drop at'))), (i, none)] (k, k + 1) := by
  by_cases h : at' = L.length
  · subst h
    have := ins82e i j k hij hik hjk L x P Q hL
    rw [List.take_length, List.drop_length]
    exact this
  · exact callH_capW (l := L) (p := P) (ins82e i j k hij hik hjk L x P Q hL).1 (by simp only [getL, Nat.beq_refl, cond_true]) hik (by omega)
      (fun c hc _ h2 => ins82r i j k hij L x P Q at' c hc (by omega) hL h2)
      (fun c hc h1 h2 => ins82g i j k hij hik hjk L x P Q at' c hc (by omega) hL h1 h2)

end Go.Proofs
end
section
/- The contract of slices.Insert (function 92), printed by genins.py. -/


namespace Go.Proofs
open Go.Tm Go.RowKit Go.WideShapes

set_option maxRecDepth 100000
set_option linter.unusedSimpArgs false
set_option linter.unusedVariables false
attribute [local go_sem] argVars runE runK isCallV stepE aop opd opdsL opds opdO ev ofVal keep List.any Nat.beq Bool.false_or Bool.true_or aggEq cond_true cond_false Bool.cond_false_right Bool.cond_true_left beq_true beq_false imp_self implies_true getR getL put St.app effL del nwB blt_dec Nat.lt_irrefl Nat.lt_add_one ble_dec Nat.le_refl Nat.beq_refl roomNZ appendIn capS mkZ_zero mkZL_zero zeroEl D.ids D.idsL Option.getD bin arith sarith binT dpick Tm.part splice fillD oneD loadD storeD srcD sliceD idxOk decide_true gval dstAt D.cells List.map_cons List.map_nil List.take List.drop List.length_map List.append Int.toNat_natCast and_true true_and decide_false List.length_cons List.length_nil List.append_nil List.nil_append Bool.and_true Bool.true_and Bool.not_false Bool.not_true ne_eq not_false_eq_true BEq.rfl List.getElem?_cons_zero List.getElem?_cons_succ List.getElem?_nil Nat.zero_add List.all_cons List.all_nil List.isEmpty_cons List.isEmpty_nil List.any_cons List.any_nil List.drop_succ_cons List.drop_zero unfL unf okM okML low3 List.cons_append true_or or_true Nat.zero_mul Nat.zero_le fpOf opIds
theorem overs185 : Overs Try.prog 185 := overs_of (r := 4) Try.func185 (by kernel_rfl) (by kernel_rfl) (by kernel_rfl) (by kernel_rfl) (Try.tmOk.1 22 (by decide)) rfl

theorem ins92e (i j k : Nat) (hij : i ≠ j) (hik : i ≠ k) (hjk : j ≠ k) (L : List D) (x : D) (P Q : Bool) (hL : L.length < 1000000) :
    CallH Try.prog 92 [.ref i 1 0 L.length (some unkC), .int .i64 (L.length : Int), .ref j 1 0 1 (some 1)] [(i, .arr 3 1 P L), (j, .arr 3 1 Q [x])] (.ref k 1 0 (L.length + 1) (some unkC)) [(k, some (.arr 3 1 (P && Q) (L ++ [x]))), (i, none)] (k, k + 1) := by
  have bij : Nat.beq i j = false := beq_ne hij
  have bik : Nat.beq i k = false := beq_ne hik
  have bjk : Nat.beq j k = false := beq_ne hjk
  have bji : Nat.beq j i = false := beq_ne (Ne.symm hij)
  have bki : Nat.beq k i = false := beq_ne (Ne.symm hik)
  have bkj : Nat.beq k j = false := beq_ne (Ne.symm hjk)
  have n10 : ¬ ((1 : Int) = 0) := by omega
  have hx : (1 : Nat) ≤ 1 := Nat.le_refl _
  refine callH_intro' Try.tmOk Try.func92 rfl (by decide) (Nat.le_of_ble_eq_true rfl) (by simp) ?_
  intro hwf
  refine .seq ?_
  refine .plain Try.tmOk Try.tmMixed [0, 1, 2] (by decide +kernel) (by intro q hq; simp only [go_sem, appendD, Nat.reduceSub, Int.reduceEq, Nat.reduceLT, Nat.reduceDiv, Nat.reduceAdd, Nat.reduceBEq, Nat.reduceLeDiff, reduceCtorEq, Nat.reduceEqDiff, Nat.reduceMod, capK, bij, bik, bjk, bji, bki, bkj]; exact hq) (by first | rfl | (simp only [go_sem, Nat.reduceLeDiff]; done) | (simp only [go_sem, Nat.reduceLeDiff]; rfl) | (simp; done) | (simp [oneD] <;> omega) | (simp_all; done) | (simp_all [oneD] <;> omega)) (by first | exact Nat.le_refl _ | exact Nat.le_of_ble_eq_true rfl | (dsimp only; omega) | (simp <;> omega)) ?_
  refine .seq ?_
  refine .plain Try.tmOk Try.tmMixed [0, 1, 2] (by decide +kernel) (by intro q hq; simp only [go_sem, appendD, Nat.reduceSub, Int.reduceEq, Nat.reduceLT, Nat.reduceDiv, Nat.reduceAdd, Nat.reduceBEq, Nat.reduceLeDiff, reduceCtorEq, Nat.reduceEqDiff, Nat.reduceMod, capK, Try.tm_22, Try.tm_3, bij, bik, bjk, bji, bki, bkj]; exact hq) (by first | rfl | (simp only [go_sem, Nat.reduceLeDiff]; done) | (simp only [go_sem, Nat.reduceLeDiff]; rfl) | (simp; done) | (simp [oneD] <;> omega) | (simp_all; done) | (simp_all [oneD] <;> omega)) (by first | exact Nat.le_refl _ | exact Nat.le_of_ble_eq_true rfl | (dsimp only; omega) | (simp <;> omega)) ?_
  refine .seq ?_
  refine .plain Try.tmOk Try.tmMixed [0, 1, 2] (by decide +kernel) (by intro q hq; simp only [go_sem, appendD, Nat.reduceSub, Int.reduceEq, Nat.reduceLT, Nat.reduceDiv, Nat.reduceAdd, Nat.reduceBEq, Nat.reduceLeDiff, reduceCtorEq, Nat.reduceEqDiff, Nat.reduceMod, capK, Try.tm_22, Try.tm_3, bij, bik, bjk, bji, bki, bkj]; exact hq) (by first | rfl | (simp only [go_sem, Nat.reduceLeDiff]; done) | (simp only [go_sem, Nat.reduceLeDiff]; rfl) | (simp; done) | (simp [oneD] <;> omega) | (simp_all; done) | (simp_all [oneD] <;> omega)) (by first | exact Nat.le_refl _ | exact Nat.le_of_ble_eq_true rfl | (dsimp only; omega) | (simp <;> omega)) ?_
  refine .seq ?_
  refine .seq ?_
  refine .plain Try.tmOk Try.tmMixed [0, 1, 2, 7] (by decide +kernel) (by intro q hq; simp only [go_sem, appendD, Nat.reduceSub, Int.reduceEq, Nat.reduceLT, Nat.reduceDiv, Nat.reduceAdd, Nat.reduceBEq, Nat.reduceLeDiff, reduceCtorEq, Nat.reduceEqDiff, Nat.reduceMod, capK, Try.tm_22, Try.tm_3]; exact hq) (by first | rfl | (simp only [go_sem, Nat.reduceLeDiff]; done) | (simp only [go_sem, Nat.reduceLeDiff]; rfl) | (simp; done) | (simp [oneD] <;> omega) | (simp_all; done) | (simp_all [oneD] <;> omega)) (by first | exact Nat.le_refl _ | exact Nat.le_of_ble_eq_true rfl | (dsimp only; omega) | (simp <;> omega)) ?_
  refine .cond rfl rfl (fun hc => by simp at hc) (fun hc => ?_)
  refine .skip ?_
  refine .seq ?_
  refine .plain Try.tmOk Try.tmMixed [0, 1, 2, 7] (by decide +kernel) (by intro q hq; simp only [go_sem, appendD, Nat.reduceSub, Int.reduceEq, Nat.reduceLT, Nat.reduceDiv, Nat.reduceAdd, Nat.reduceBEq, Nat.reduceLeDiff, reduceCtorEq, Nat.reduceEqDiff, Nat.reduceMod, capK, Try.tm_22, Try.tm_3]; exact hq) (by first | rfl | (simp only [go_sem, Nat.reduceLeDiff]; done) | (simp only [go_sem, Nat.reduceLeDiff]; rfl) | (simp; done) | (simp [oneD] <;> omega) | (simp_all; done) | (simp_all [oneD] <;> omega)) (by first | exact Nat.le_refl _ | exact Nat.le_of_ble_eq_true rfl | (dsimp only; omega) | (simp <;> omega)) ?_
  refine .seq ?_
  refine .seq ?_
  refine .plain Try.tmOk Try.tmMixed [0, 1, 2, 7, 8] (by decide +kernel) (by intro q hq; simp only [go_sem, appendD, Nat.reduceSub, Int.reduceEq, Nat.reduceLT, Nat.reduceDiv, Nat.reduceAdd, Nat.reduceBEq, Nat.reduceLeDiff, reduceCtorEq, Nat.reduceEqDiff, Nat.reduceMod, capK, Try.tm_22, Try.tm_3]; exact hq) (by first | rfl | (simp only [go_sem, Nat.reduceLeDiff]; done) | (simp only [go_sem, Nat.reduceLeDiff]; rfl) | (simp; done) | (simp [oneD] <;> omega) | (simp_all; done) | (simp_all [oneD] <;> omega)) (by first | exact Nat.le_refl _ | exact Nat.le_of_ble_eq_true rfl | (dsimp only; omega) | (simp <;> omega)) ?_
  refine .cond rfl rfl (fun hc => ?_) (fun hc => by simp at hc)
  refine .seq ?_
  refine .plain Try.tmOk Try.tmMixed [0, 2] (by decide +kernel) (by intro q hq; simp only [go_sem, appendD, Nat.reduceSub, Int.reduceEq, Nat.reduceLT, Nat.reduceDiv, Nat.reduceAdd, Nat.reduceBEq, Nat.reduceLeDiff, reduceCtorEq, Nat.reduceEqDiff, Nat.reduceMod, capK, Try.tm_22, Try.tm_3, bij, bik, bjk, bji, bki, bkj]; exact hq) (by first | rfl | (simp only [go_sem, Nat.reduceLeDiff]; done) | (simp only [go_sem, Nat.reduceLeDiff]; rfl) | (simp; done) | (simp [oneD] <;> omega) | (simp_all; done) | (simp_all [oneD] <;> omega)) (by first | exact Nat.le_refl _ | exact Nat.le_of_ble_eq_true rfl | (dsimp only; omega) | (simp <;> omega)) ?_
  refine .ret ⟨.inr rfl, retH [j, k] ?_ ?_⟩
  · simp only [ResIs, resL, resD, resT, go_sem, appendD, Nat.reduceSub, Int.reduceEq, Nat.reduceLT, Nat.reduceDiv, Nat.reduceAdd, Nat.reduceBEq, Nat.reduceLeDiff, reduceCtorEq, Nat.reduceEqDiff, Nat.reduceMod, Try.f92]
  · simp only [pickL, getL, effL, put, del, Nat.beq_refl, cond_true, cond_false, bij, bik, bjk, bji, bki, bkj, List.take_length]

theorem ins92g (i j k : Nat) (hij : i ≠ j) (hik : i ≠ k) (hjk : j ≠ k) (L : List D) (x : D) (P Q : Bool) (at' c : Nat) (hck : capK c = true) (hat : at' < L.length) (hL : L.length < 1000000) (h1 : L.length ≤ c) (h2 : c < L.length + 1) :
    CallH Try.prog 92 [.ref i 1 0 L.length (some c), .int .i64 (at' : Int), .ref j 1 0 1 (some 1)] [(i, .arr 3 1 P L), (j, .arr 3 1 Q [x])] (.ref k 1 0 (L.length + 1) none) [(k, some (.arr 3 1 (P && Q) (L.take at' ++ x :: L.drop at'))), (i, none)] (k, k + 1) := by
  obtain rfl : c = L.length := by omega
  have hck2 := hck
  have bij : Nat.beq i j = false := beq_ne hij
  have bik : Nat.beq i k = false := beq_ne hik
  have bjk : Nat.beq j k = false := beq_ne hjk
  have bji : Nat.beq j i = false := beq_ne (Ne.symm hij)
  have bki : Nat.beq k i = false := beq_ne (Ne.symm hik)
  have bkj : Nat.beq k j = false := beq_ne (Ne.symm hjk)
  have hw : wr .i64 ((L.length : Int) + ((1 : Nat) : Int)) = ((L.length + 1 : Nat) : Int) := wr_eq _ _ (by show (-9223372036854775808 : Int) ≤ _; omega) (by show _ ≤ (9223372036854775807 : Int); omega)
  have hw2 : wr .i64 (((L.length + 1 : Nat) : Int) - (at' : Int)) = ((L.length + 1 - at' : Nat) : Int) := by
    rw [wr_eq _ _ (by show (-9223372036854775808 : Int) ≤ _; omega) (by show _ ≤ (9223372036854775807 : Int); omega)]
    omega
  have hw3 : wr .i64 ((at' : Int) + ((1 : Nat) : Int)) = ((at' + 1 : Nat) : Int) := wr_eq _ _ (by show (-9223372036854775808 : Int) ≤ _; omega) (by show _ ≤ (9223372036854775807 : Int); omega)
  have ha : at' + (L.length + 1 - at') = L.length + 1 := by omega
  have pq : (P && Q && P) = (P && Q) := by cases P <;> cases Q <;> rfl
  have hm1 : Nat.min 1 (L.length + 1 - at') = 1 := by show min 1 (L.length + 1 - at') = 1; omega
  have hm2 : Nat.min (L.length - at') (L.length + 1 - (at' + 1)) = L.length - at' := by show min (L.length - at') (L.length + 1 - (at' + 1)) = L.length - at'; omega
  have tk : (L.take at').length = at' := by simp; omega
  have e1 : List.take at' (List.take at' L ++ List.replicate (L.length + 1 - at') (D.int .i64 0)) = List.take at' L := by
    rw [List.take_append_of_le_length (by omega), List.take_of_length_le (by omega)]
  have e2 : List.drop (at' + 1) (List.take at' L ++ List.replicate (L.length + 1 - at') (D.int .i64 0)) = List.replicate (L.length - at') (D.int .i64 0) := by
    rw [List.drop_append, List.drop_eq_nil_of_le (by omega), tk, List.nil_append, List.drop_replicate]
    congr 1; omega
  have e3 : List.take (at' + 1) (List.take at' L ++ [x] ++ List.replicate (L.length - at') (D.int .i64 0)) = List.take at' L ++ [x] := by
    rw [List.take_append_of_le_length (by simp; omega), List.take_of_length_le (by simp; omega)]
  have e4 : List.drop (at' + 1 + (L.length - at')) (List.take at' L ++ [x] ++ List.replicate (L.length - at') (D.int .i64 0)) = [] := List.drop_eq_nil_of_le (by simp; omega)
  have e5 : List.take (L.length - at') (List.drop at' L) = List.drop at' L := List.take_of_length_le (by simp)
  have l1 : (List.take at' L ++ List.replicate (L.length + 1 - at') (D.int .i64 0)).length = L.length + 1 := by simp; omega
  have l2 : (List.take at' L ++ [x] ++ List.replicate (L.length - at') (D.int .i64 0)).length = L.length + 1 := by simp; omega
  refine callH_intro' Try.tmOk Try.func92 rfl (by decide) (Nat.le_of_ble_eq_true rfl) (by simp) ?_
  intro hwf
  refine .seq ?_
  refine .plain Try.tmOk Try.tmMixed [0, 1, 2] (by decide +kernel) (by intro q hq; simp only [go_sem, appendD, Nat.reduceSub, Int.reduceEq, Nat.reduceLT, Nat.reduceDiv, Nat.reduceAdd, Nat.reduceBEq, Nat.reduceLeDiff, reduceCtorEq, Nat.reduceEqDiff, Nat.reduceMod, hck]; exact hq) (by first | rfl | (simp only [go_sem, Nat.reduceLeDiff]; done) | (simp only [go_sem, Nat.reduceLeDiff]; rfl) | (simp; done) | (simp [oneD] <;> omega) | (simp_all; done) | (simp_all [oneD] <;> omega)) (by first | exact Nat.le_refl _ | exact Nat.le_of_ble_eq_true rfl | (dsimp only; omega) | (simp <;> omega)) ?_
  refine .seq ?_
  refine .plain Try.tmOk Try.tmMixed [0, 1, 2] (by decide +kernel) (by intro q hq; simp only [go_sem, appendD, Nat.reduceSub, Int.reduceEq, Nat.reduceLT, Nat.reduceDiv, Nat.reduceAdd, Nat.reduceBEq, Nat.reduceLeDiff, reduceCtorEq, Nat.reduceEqDiff, Nat.reduceMod, Try.tm_22, Try.tm_3, hck]; exact hq) (by first | rfl | (simp only [go_sem, Nat.reduceLeDiff]; done) | (simp only [go_sem, Nat.reduceLeDiff]; rfl) | (simp; done) | (simp [oneD] <;> omega) | (simp_all; done) | (simp_all [oneD] <;> omega)) (by first | exact Nat.le_refl _ | exact Nat.le_of_ble_eq_true rfl | (dsimp only; omega) | (simp <;> omega)) ?_
  refine .seq ?_
  refine .plain Try.tmOk Try.tmMixed [0, 1, 2] (by decide +kernel) (by intro q hq; simp only [go_sem, appendD, Nat.reduceSub, Int.reduceEq, Nat.reduceLT, Nat.reduceDiv, Nat.reduceAdd, Nat.reduceBEq, Nat.reduceLeDiff, reduceCtorEq, Nat.reduceEqDiff, Nat.reduceMod, Try.tm_22, Try.tm_3, hck]; exact hq) (by first | rfl | (simp only [go_sem, Nat.reduceLeDiff]; done) | (simp only [go_sem, Nat.reduceLeDiff]; rfl) | (simp; done) | (simp [oneD] <;> omega) | (simp_all; done) | (simp_all [oneD] <;> omega)) (by first | exact Nat.le_refl _ | exact Nat.le_of_ble_eq_true rfl | (dsimp only; omega) | (simp <;> omega)) ?_
  refine .seq ?_
  refine .seq ?_
  refine .plain Try.tmOk Try.tmMixed [0, 1, 2, 7] (by decide +kernel) (by intro q hq; simp only [go_sem, appendD, Nat.reduceSub, Int.reduceEq, Nat.reduceLT, Nat.reduceDiv, Nat.reduceAdd, Nat.reduceBEq, Nat.reduceLeDiff, reduceCtorEq, Nat.reduceEqDiff, Nat.reduceMod, Try.tm_22, Try.tm_3, hck]; exact hq) (by first | rfl | (simp only [go_sem, Nat.reduceLeDiff]; done) | (simp only [go_sem, Nat.reduceLeDiff]; rfl) | (simp; done) | (simp [oneD] <;> omega) | (simp_all; done) | (simp_all [oneD] <;> omega)) (by first | exact Nat.le_refl _ | exact Nat.le_of_ble_eq_true rfl | (dsimp only; omega) | (simp <;> omega)) ?_
  refine .cond rfl rfl (fun hc => by simp at hc) (fun hc => ?_)
  refine .skip ?_
  refine .seq ?_
  refine .plain Try.tmOk Try.tmMixed [0, 1, 2, 7] (by decide +kernel) (by intro q hq; simp only [go_sem, appendD, Nat.reduceSub, Int.reduceEq, Nat.reduceLT, Nat.reduceDiv, Nat.reduceAdd, Nat.reduceBEq, Nat.reduceLeDiff, reduceCtorEq, Nat.reduceEqDiff, Nat.reduceMod, Try.tm_22, Try.tm_3, hck]; exact hq) (by first | rfl | (simp only [go_sem, Nat.reduceLeDiff]; done) | (simp only [go_sem, Nat.reduceLeDiff]; rfl) | (simp; done) | (simp [oneD] <;> omega) | (simp_all; done) | (simp_all [oneD] <;> omega)) (by first | exact Nat.le_refl _ | exact Nat.le_of_ble_eq_true rfl | (dsimp only; omega) | (simp <;> omega)) ?_
  refine .seq ?_
  refine .seq ?_
  refine .plain Try.tmOk Try.tmMixed [0, 1, 2, 7, 8] (by decide +kernel) (by intro q hq; simp only [go_sem, appendD, Nat.reduceSub, Int.reduceEq, Nat.reduceLT, Nat.reduceDiv, Nat.reduceAdd, Nat.reduceBEq, Nat.reduceLeDiff, reduceCtorEq, Nat.reduceEqDiff, Nat.reduceMod, Try.tm_22, Try.tm_3, hck]; exact hq) (by first | rfl | (simp only [go_sem, Nat.reduceLeDiff]; done) | (simp only [go_sem, Nat.reduceLeDiff]; rfl) | (simp; done) | (simp [oneD] <;> omega) | (simp_all; done) | (simp_all [oneD] <;> omega)) (by first | exact Nat.le_refl _ | exact Nat.le_of_ble_eq_true rfl | (dsimp only; omega) | (simp <;> omega)) ?_
  refine .cond rfl rfl (fun hc => by simp at hc; omega) (fun hc => ?_)
  refine .skip ?_
  refine .seq ?_
  refine .seq ?_
  refine .plain Try.tmOk Try.tmMixed [0, 1, 2, 7, 8] (by decide +kernel) (by intro q hq; simp only [go_sem, appendD, Nat.reduceSub, Int.reduceEq, Nat.reduceLT, Nat.reduceDiv, Nat.reduceAdd, Nat.reduceBEq, Nat.reduceLeDiff, reduceCtorEq, Nat.reduceEqDiff, Nat.reduceMod, Try.tm_22, Try.tm_3, hck, hw]; exact hq) (by first | rfl | (simp only [go_sem, Nat.reduceLeDiff]; done) | (simp only [go_sem, Nat.reduceLeDiff]; rfl) | (simp; done) | (simp [oneD] <;> omega) | (simp_all; done) | (simp_all [oneD] <;> omega)) (by first | exact Nat.le_refl _ | exact Nat.le_of_ble_eq_true rfl | (dsimp only; omega) | (simp <;> omega)) ?_
  refine .cond rfl rfl (fun hc => ?_) (fun hc => by simp at hc; omega)
  refine .seq ?_
  refine .plain Try.tmOk Try.tmMixed [0, 1, 2, 7, 8] (by decide +kernel) (by intro q hq; simp only [go_sem, appendD, Nat.reduceSub, Int.reduceEq, Nat.reduceLT, Nat.reduceDiv, Nat.reduceAdd, Nat.reduceBEq, Nat.reduceLeDiff, reduceCtorEq, Nat.reduceEqDiff, Nat.reduceMod, Try.tm_22, Try.tm_3, hck, hw, hw2, ha, appendZ, Int.sub_zero, Int.toNat_zero, Int.toNat_sub, bij, bik, bjk, bji, bki, bkj]; exact hq) (by first | rfl | (simp only [go_sem, Nat.reduceLeDiff]; done) | (simp only [go_sem, Nat.reduceLeDiff]; rfl) | (simp; done) | (simp [oneD] <;> omega) | (simp_all; done) | (simp_all [oneD] <;> omega)) (by first | exact Nat.le_refl _ | exact Nat.le_of_ble_eq_true rfl | (dsimp only; omega) | (simp <;> omega)) ?_
  refine .seq ?_
  refine .plain Try.tmOk Try.tmMixed [0, 1, 2, 7, 8, 9] (by decide +kernel) (by intro q hq; simp only [go_sem, appendD, Nat.reduceSub, Int.reduceEq, Nat.reduceLT, Nat.reduceDiv, Nat.reduceAdd, Nat.reduceBEq, Nat.reduceLeDiff, reduceCtorEq, Nat.reduceEqDiff, Nat.reduceMod, Try.tm_22, Try.tm_3, hck, hw, hw2, ha, appendZ, Int.sub_zero, Int.toNat_zero, Int.toNat_sub, bij, bik, bjk, bji, bki, bkj, Int.toNat_sub, hm1, e1, e2, List.take_one, List.take_succ_cons]; exact hq) (by first | rfl | (simp only [go_sem, Nat.reduceLeDiff]; done) | (simp only [go_sem, Nat.reduceLeDiff]; rfl) | (simp; done) | (simp [oneD] <;> omega) | (simp_all; done) | (simp_all [oneD] <;> omega)) (by first | exact Nat.le_refl _ | exact Nat.le_of_ble_eq_true rfl | (dsimp only; omega) | (simp <;> omega)) ?_
  refine .seq ?_
  refine .drawn Try.tmOk Try.tmMixed [0, 1, 2, 7, 8, 9] (by decide +kernel) (by intro q hq; simp only [go_sem, appendD, Nat.reduceSub, Int.reduceEq, Nat.reduceLT, Nat.reduceDiv, Nat.reduceAdd, Nat.reduceBEq, Nat.reduceLeDiff, reduceCtorEq, Nat.reduceEqDiff, Nat.reduceMod, Try.tm_22, Try.tm_3, hck, hw, hw2, hw3, ha, appendZ, capS, bij, bik, bjk, bji, bki, bkj, Int.toNat_sub, hm1, hm2, e3, e4, e5]; exact hq) (schedB_of (by kernel_rfl)) (by first | rfl | (simp only [go_sem, Nat.reduceLeDiff]; done) | (simp only [go_sem, Nat.reduceLeDiff]; rfl) | (simp; done) | (simp [oneD] <;> omega) | (simp_all; done) | (simp_all [oneD] <;> omega)) (by first | exact Nat.le_refl _ | exact Nat.le_of_ble_eq_true rfl | (dsimp only; omega) | (simp <;> omega)) ?_
  refine .seq ?_
  refine .plain Try.tmOk Try.tmMixed [9] (by decide +kernel) (by intro q hq; simp only [go_sem, appendD, Nat.reduceSub, Int.reduceEq, Nat.reduceLT, Nat.reduceDiv, Nat.reduceAdd, Nat.reduceBEq, Nat.reduceLeDiff, reduceCtorEq, Nat.reduceEqDiff, Nat.reduceMod, Try.tm_22, Try.tm_3, hck]; exact hq) (by first | rfl | (simp only [go_sem, Nat.reduceLeDiff]; done) | (simp only [go_sem, Nat.reduceLeDiff]; rfl) | (simp; done) | (simp [oneD] <;> omega) | (simp_all; done) | (simp_all [oneD] <;> omega)) (by first | exact Nat.le_refl _ | exact Nat.le_of_ble_eq_true rfl | (dsimp only; omega) | (simp <;> omega)) ?_
  refine .ret ⟨.inr rfl, retH [j, k] ?_ ?_⟩
  · simp only [ResIs, resL, resD, resT, go_sem, appendD, Nat.reduceSub, Int.reduceEq, Nat.reduceLT, Nat.reduceDiv, Nat.reduceAdd, Nat.reduceBEq, Nat.reduceLeDiff, reduceCtorEq, Nat.reduceEqDiff, Nat.reduceMod, Try.f92]
  · simp only [pickL, getL, effL, put, del, Nat.beq_refl, cond_true, cond_false, bij, bik, bjk, bji, bki, bkj, pq, List.append_assoc, List.singleton_append, List.append_nil]


theorem ins92r (i j k : Nat) (hij : i ≠ j) (L : List D) (x : D) (P Q : Bool) (at' c : Nat) (hck : capK c = true) (hat : at' < L.length) (hL : L.length < 1000000) (h1 : L.length + 1 ≤ c) :
    CallH Try.prog 92 [.ref i 1 0 L.length (some c), .int .i64 (at' : Int), .ref j 1 0 1 (some 1)] [(i, .arr 3 1 P L), (j, .arr 3 1 Q [x])] (.ref i 1 0 (L.length + 1) (some c)) [(i, some (.arr 3 1 (P && Q) (L.take at' ++ x :: L.drop at')))] (k, k) := by
  have bij : Nat.beq i j = false := beq_ne hij
  have bji : Nat.beq j i = false := beq_ne (Ne.symm hij)
  have hw : wr .i64 ((L.length : Int) + ((1 : Nat) : Int)) = ((L.length + 1 : Nat) : Int) := wr_eq _ _ (by show (-9223372036854775808 : Int) ≤ _; omega) (by show _ ≤ (9223372036854775807 : Int); omega)
  have hw3 : wr .i64 ((at' : Int) + ((1 : Nat) : Int)) = ((at' + 1 : Nat) : Int) := wr_eq _ _ (by show (-9223372036854775808 : Int) ≤ _; omega) (by show _ ≤ (9223372036854775807 : Int); omega)
  have hm1 : Nat.min 1 (L.length + 1 - at') = 1 := by show min 1 (L.length + 1 - at') = 1; omega
  have hm2 : Nat.min (L.length + 1 - at') (L.length + 1 - (at' + 1)) = L.length - at' := by show min (L.length + 1 - at') (L.length + 1 - (at' + 1)) = L.length - at'; omega
  have hn1 : L.length + 1 - (at' + 1) = (L.length - at' - 1) + 1 := by omega
  have tk : (L.take at').length = at' := by simp; omega
  have tk1 : (L.take (at' + 1)).length = at' + 1 := by simp; omega
  have e5 : List.take (L.length - at') (List.drop at' L) = List.drop at' L := List.take_of_length_le (by simp)
  have e4 : List.drop (at' + 1 + (L.length - at')) L = [] := List.drop_eq_nil_of_le (by omega)
  have e1 : List.take at' (List.take (at' + 1) L ++ List.drop at' L) = List.take at' L := by
    rw [List.take_append_of_le_length (by omega), List.take_take]
    congr 1; omega
  have e2 : List.drop (at' + 1) (List.take (at' + 1) L ++ List.drop at' L) = List.drop at' L := by
    rw [List.drop_append, List.drop_eq_nil_of_le (by omega), tk1, Nat.sub_self, List.drop_zero, List.nil_append]
  refine callH_intro' Try.tmOk Try.func92 rfl (by decide) (Nat.le_of_ble_eq_true rfl) (by simp) ?_
  intro hwf
  refine .seq ?_
  refine .plain Try.tmOk Try.tmMixed [0, 1, 2] (by decide +kernel) (by intro q hq; simp only [go_sem, appendD, Nat.reduceSub, Int.reduceEq, Nat.reduceLT, Nat.reduceDiv, Nat.reduceAdd, Nat.reduceBEq, Nat.reduceLeDiff, reduceCtorEq, Nat.reduceEqDiff, Nat.reduceMod, hck]; exact hq) (by first | rfl | (simp only [go_sem, Nat.reduceLeDiff]; done) | (simp only [go_sem, Nat.reduceLeDiff]; rfl) | (simp; done) | (simp [oneD] <;> omega) | (simp_all; done) | (simp_all [oneD] <;> omega)) (by first | exact Nat.le_refl _ | exact Nat.le_of_ble_eq_true rfl | (dsimp only; omega) | (simp <;> omega)) ?_
  refine .seq ?_
  refine .plain Try.tmOk Try.tmMixed [0, 1, 2] (by decide +kernel) (by intro q hq; simp only [go_sem, appendD, Nat.reduceSub, Int.reduceEq, Nat.reduceLT, Nat.reduceDiv, Nat.reduceAdd, Nat.reduceBEq, Nat.reduceLeDiff, reduceCtorEq, Nat.reduceEqDiff, Nat.reduceMod, Try.tm_22, Try.tm_3, hck]; exact hq) (by first | rfl | (simp only [go_sem, Nat.reduceLeDiff]; done) | (simp only [go_sem, Nat.reduceLeDiff]; rfl) | (simp; done) | (simp [oneD] <;> omega) | (simp_all; done) | (simp_all [oneD] <;> omega)) (by first | exact Nat.le_refl _ | exact Nat.le_of_ble_eq_true rfl | (dsimp only; omega) | (simp <;> omega)) ?_
  refine .seq ?_
  refine .plain Try.tmOk Try.tmMixed [0, 1, 2] (by decide +kernel) (by intro q hq; simp only [go_sem, appendD, Nat.reduceSub, Int.reduceEq, Nat.reduceLT, Nat.reduceDiv, Nat.reduceAdd, Nat.reduceBEq, Nat.reduceLeDiff, reduceCtorEq, Nat.reduceEqDiff, Nat.reduceMod, Try.tm_22, Try.tm_3, hck]; exact hq) (by first | rfl | (simp only [go_sem, Nat.reduceLeDiff]; done) | (simp only [go_sem, Nat.reduceLeDiff]; rfl) | (simp; done) | (simp [oneD] <;> omega) | (simp_all; done) | (simp_all [oneD] <;> omega)) (by first | exact Nat.le_refl _ | exact Nat.le_of_ble_eq_true rfl | (dsimp only; omega) | (simp <;> omega)) ?_
  refine .seq ?_
  refine .seq ?_
  refine .plain Try.tmOk Try.tmMixed [0, 1, 2, 7] (by decide +kernel) (by intro q hq; simp only [go_sem, appendD, Nat.reduceSub, Int.reduceEq, Nat.reduceLT, Nat.reduceDiv, Nat.reduceAdd, Nat.reduceBEq, Nat.reduceLeDiff, reduceCtorEq, Nat.reduceEqDiff, Nat.reduceMod, Try.tm_22, Try.tm_3, hck]; exact hq) (by first | rfl | (simp only [go_sem, Nat.reduceLeDiff]; done) | (simp only [go_sem, Nat.reduceLeDiff]; rfl) | (simp; done) | (simp [oneD] <;> omega) | (simp_all; done) | (simp_all [oneD] <;> omega)) (by first | exact Nat.le_refl _ | exact Nat.le_of_ble_eq_true rfl | (dsimp only; omega) | (simp <;> omega)) ?_
  refine .cond rfl rfl (fun hc => by simp at hc) (fun hc => ?_)
  refine .skip ?_
  refine .seq ?_
  refine .plain Try.tmOk Try.tmMixed [0, 1, 2, 7] (by decide +kernel) (by intro q hq; simp only [go_sem, appendD, Nat.reduceSub, Int.reduceEq, Nat.reduceLT, Nat.reduceDiv, Nat.reduceAdd, Nat.reduceBEq, Nat.reduceLeDiff, reduceCtorEq, Nat.reduceEqDiff, Nat.reduceMod, Try.tm_22, Try.tm_3, hck]; exact hq) (by first | rfl | (simp only [go_sem, Nat.reduceLeDiff]; done) | (simp only [go_sem, Nat.reduceLeDiff]; rfl) | (simp; done) | (simp [oneD] <;> omega) | (simp_all; done) | (simp_all [oneD] <;> omega)) (by first | exact Nat.le_refl _ | exact Nat.le_of_ble_eq_true rfl | (dsimp only; omega) | (simp <;> omega)) ?_
  refine .seq ?_
  refine .seq ?_
  refine .plain Try.tmOk Try.tmMixed [0, 1, 2, 7, 8] (by decide +kernel) (by intro q hq; simp only [go_sem, appendD, Nat.reduceSub, Int.reduceEq, Nat.reduceLT, Nat.reduceDiv, Nat.reduceAdd, Nat.reduceBEq, Nat.reduceLeDiff, reduceCtorEq, Nat.reduceEqDiff, Nat.reduceMod, Try.tm_22, Try.tm_3, hck]; exact hq) (by first | rfl | (simp only [go_sem, Nat.reduceLeDiff]; done) | (simp only [go_sem, Nat.reduceLeDiff]; rfl) | (simp; done) | (simp [oneD] <;> omega) | (simp_all; done) | (simp_all [oneD] <;> omega)) (by first | exact Nat.le_refl _ | exact Nat.le_of_ble_eq_true rfl | (dsimp only; omega) | (simp <;> omega)) ?_
  refine .cond rfl rfl (fun hc => by simp at hc; omega) (fun hc => ?_)
  refine .skip ?_
  refine .seq ?_
  refine .seq ?_
  refine .plain Try.tmOk Try.tmMixed [0, 1, 2, 7, 8] (by decide +kernel) (by intro q hq; simp only [go_sem, appendD, Nat.reduceSub, Int.reduceEq, Nat.reduceLT, Nat.reduceDiv, Nat.reduceAdd, Nat.reduceBEq, Nat.reduceLeDiff, reduceCtorEq, Nat.reduceEqDiff, Nat.reduceMod, Try.tm_22, Try.tm_3, hck, hw]; exact hq) (by first | rfl | (simp only [go_sem, Nat.reduceLeDiff]; done) | (simp only [go_sem, Nat.reduceLeDiff]; rfl) | (simp; done) | (simp [oneD] <;> omega) | (simp_all; done) | (simp_all [oneD] <;> omega)) (by first | exact Nat.le_refl _ | exact Nat.le_of_ble_eq_true rfl | (dsimp only; omega) | (simp <;> omega)) ?_
  refine .cond rfl rfl (fun hc => by simp at hc; omega) (fun hc => ?_)
  refine .skip ?_
  refine .seq ?_
  refine .plain Try.tmOk Try.tmMixed [0, 1, 2, 7, 8] (by decide +kernel) (by intro q hq; simp only [go_sem, appendD, Nat.reduceSub, Int.reduceEq, Nat.reduceLT, Nat.reduceDiv, Nat.reduceAdd, Nat.reduceBEq, Nat.reduceLeDiff, reduceCtorEq, Nat.reduceEqDiff, Nat.reduceMod, Try.tm_22, Try.tm_3, hck, hw, roomV, Option.isSome, Int.sub_zero, Int.toNat_zero, Nat.sub_zero, bij, bji]; exact hq) (by first | rfl | (simp only [go_sem, Nat.reduceLeDiff]; done) | (simp only [go_sem, Nat.reduceLeDiff]; rfl) | (simp; done) | (simp [oneD] <;> omega) | (simp_all; done) | (simp_all [oneD] <;> omega)) (by first | exact Nat.le_refl _ | exact Nat.le_of_ble_eq_true rfl | (dsimp only; omega) | (simp <;> omega)) ?_
  refine .seq ?_
  refine .seq ?_
  refine .reg Try.tmOk Try.tmMixed [0, 1, 2, 7] (by decide +kernel) ?_
  refine .R (dr := false) (.inr fun _ _ _ h => ⟨nofun, h.2⟩) (by intro q hq; simp only [go_sem, appendD, Nat.reduceSub, Int.reduceEq, Nat.reduceLT, Nat.reduceDiv, Nat.reduceAdd, Nat.reduceBEq, Nat.reduceLeDiff, reduceCtorEq, Nat.reduceEqDiff, Nat.reduceMod, Try.tm_22, Try.tm_3, hck, hw3, Int.toNat_sub, bij, bji]; exact hq) (by first | rfl | (simp only [go_sem, Nat.reduceLeDiff]; done) | (simp only [go_sem, Nat.reduceLeDiff]; rfl) | (simp; done) | (simp [oneD] <;> omega) | (simp_all; done) | (simp_all [oneD] <;> omega)) (by first | exact Nat.le_refl _ | exact Nat.le_of_ble_eq_true rfl | (dsimp only; omega) | (simp <;> omega)) ?_
  refine .overs (i := j) (j := i) rfl rfl rfl rfl rfl overs185 ⟨1, 0, 0, some 1, 1 - 1, at' + 1, L.length - at' - 1, some (c - (at' + 1)), 3, 1, Q, [x], 3, 1, P, L, by
    show [D.ref j 1 0 1 (some 1), D.ref i 1 (at' + 1) (L.length + 1 - (at' + 1)) (some (c - (at' + 1)))] = _
    rw [hn1], by simp only [getL, bij, cond_false, Nat.beq_refl, cond_true], by simp only [getL, Nat.beq_refl, cond_true], Ne.symm hij⟩ ?_
  refine .R (dr := false) (.inr fun _ _ _ h => ⟨nofun, h.2⟩) (by intro q hq; simp only [go_sem, appendD, Nat.reduceSub, Int.reduceEq, Nat.reduceLT, Nat.reduceDiv, Nat.reduceAdd, Nat.reduceBEq, Nat.reduceLeDiff, reduceCtorEq, Nat.reduceEqDiff, Nat.reduceMod, Try.tm_22, Try.tm_3, hck]; exact hq) (by first | rfl | (simp only [go_sem, Nat.reduceLeDiff]; done) | (simp only [go_sem, Nat.reduceLeDiff]; rfl) | (simp; done) | (simp [oneD] <;> omega) | (simp_all; done) | (simp_all [oneD] <;> omega)) (by first | exact Nat.le_refl _ | exact Nat.le_of_ble_eq_true rfl | (dsimp only; omega) | (simp <;> omega)) ?_
  refine .nil ⟨nofun, ?_⟩
  refine .cond rfl rfl (fun hc => ?_) (fun hc => by cases hc)
  refine .seq ?_
  refine .drawn Try.tmOk Try.tmMixed [0, 1, 2, 7] (by decide +kernel) (by intro q hq; simp only [go_sem, appendD, Nat.reduceSub, Int.reduceEq, Nat.reduceLT, Nat.reduceDiv, Nat.reduceAdd, Nat.reduceBEq, Nat.reduceLeDiff, reduceCtorEq, Nat.reduceEqDiff, Nat.reduceMod, Try.tm_22, Try.tm_3, hck, hw3, Int.toNat_sub, hm2, e4, e5, bij, bji, Bool.and_self, List.append_nil]; exact hq) (schedB_of (by kernel_rfl)) (by first | rfl | (simp only [go_sem, Nat.reduceLeDiff]; done) | (simp only [go_sem, Nat.reduceLeDiff]; rfl) | (simp; done) | (simp [oneD] <;> omega) | (simp_all; done) | (simp_all [oneD] <;> omega)) (by first | exact Nat.le_refl _ | exact Nat.le_of_ble_eq_true rfl | (dsimp only; omega) | (simp <;> omega)) ?_
  refine .seq ?_
  refine .plain Try.tmOk Try.tmMixed [0, 1, 2] (by decide +kernel) (by intro q hq; simp only [go_sem, appendD, Nat.reduceSub, Int.reduceEq, Nat.reduceLT, Nat.reduceDiv, Nat.reduceAdd, Nat.reduceBEq, Nat.reduceLeDiff, reduceCtorEq, Nat.reduceEqDiff, Nat.reduceMod, Try.tm_22, Try.tm_3, hck, Int.toNat_sub, hm1, e1, e2, bij, bji, List.take_succ_cons]; exact hq) (by first | rfl | (simp only [go_sem, Nat.reduceLeDiff]; done) | (simp only [go_sem, Nat.reduceLeDiff]; rfl) | (simp; done) | (simp [oneD] <;> omega) | (simp_all; done) | (simp_all [oneD] <;> omega)) (by first | exact Nat.le_refl _ | exact Nat.le_of_ble_eq_true rfl | (dsimp only; omega) | (simp <;> omega)) ?_
  refine .seq ?_
  refine .plain Try.tmOk Try.tmMixed [0] (by decide +kernel) (by intro q hq; simp only [go_sem, appendD, Nat.reduceSub, Int.reduceEq, Nat.reduceLT, Nat.reduceDiv, Nat.reduceAdd, Nat.reduceBEq, Nat.reduceLeDiff, reduceCtorEq, Nat.reduceEqDiff, Nat.reduceMod, Try.tm_22, Try.tm_3, hck]; exact hq) (by first | rfl | (simp only [go_sem, Nat.reduceLeDiff]; done) | (simp only [go_sem, Nat.reduceLeDiff]; rfl) | (simp; done) | (simp [oneD] <;> omega) | (simp_all; done) | (simp_all [oneD] <;> omega)) (by first | exact Nat.le_refl _ | exact Nat.le_of_ble_eq_true rfl | (dsimp only; omega) | (simp <;> omega)) ?_
  refine .ret ⟨.inr rfl, retH [i, j] ?_ ?_⟩
  · simp only [ResIs, resL, resD, resT, go_sem, appendD, Nat.reduceSub, Int.reduceEq, Nat.reduceLT, Nat.reduceDiv, Nat.reduceAdd, Nat.reduceBEq, Nat.reduceLeDiff, reduceCtorEq, Nat.reduceEqDiff, Nat.reduceMod, Try.f92]
  · simp only [pickL, getL, effL, put, del, Nat.beq_refl, cond_true, cond_false, bij, bji, List.append_assoc, List.singleton_append, List.append_nil]

/-- slices.Insert of one element, anywhere -/
theorem ins92 (i j k : Nat) (hij : i ≠ j) (hik : i ≠ k) (hjk : j ≠ k) (L : List D) (x : D) (P Q : Bool) (at' : Nat) (hat : at' ≤ L.length) (hL : L.length < 1000000) :
    CallH Try.prog 92 [.ref i 1 0 L.length (some unkC), .int .i64 (at' : Int), .ref j 1 0 1 (some 1)] [(i, .arr 3 1 P L), (j, .arr 3 1 Q [x])] (.ref k 1 0 (L.length + 1) (some unkC)) [(k, some (.arr 3 1 (P && Q) (L.take at' ++ x :: L.drop at'))), (i, none)] (k, k + 1) := by
  by_cases h : at' = L.length
  · subst h
    have := ins92e i j k hij hik hjk L x P Q hL
    rw [List.take_length, List.drop_length]
    exact this
  · exact callH_capW (l := L) (p := P) (ins92e i j k hij hik hjk L x P Q hL).1 (by simp only [getL, Nat.beq_refl, cond_true]) hik (by omega)
      (fun c hc _ h2 => ins92r i j k hij L x P Q at' c hc (by omega) hL h2)
      (fun c hc h1 h2 => ins92g i j k hij hik hjk L x P Q at' c hc (by omega) hL h1 h2)

end Go.Proofs
end
