/- The contract of slices.Insert (function 193), printed by genins.py. -/
import Derived.Test.YtnhnalcgbpebiaaAttemptTakesPg
import Derived.Test.YtnhnalcgbpebiaaAttemptTakesPj
import Derived.Test.YtnhnalcgbpebiaaAttemptTakesPf
import Derived.Test.YtnhnalcgbpebiaaAttemptTakesPh
import Derived.Test.YtnhnalcgbpebiaaAttemptTakesPi
import Derived.Test.YtnhnalcgbpebiaaAttemptTakesPe
section
namespace Go.Proofs
open Go.Tm Go.RowKit Go.WideShapes

set_option maxRecDepth 100000
set_option linter.unusedSimpArgs false
set_option linter.unusedVariables false
attribute [local go_sem] argVars runE runK isCallV stepE aop opd opdsL opds opdO ev ofVal keep List.any Nat.beq Bool.false_or Bool.true_or aggEq cond_true cond_false Bool.cond_false_right Bool.cond_true_left beq_true beq_false imp_self implies_true getR getL put St.app effL del nwB blt_dec Nat.lt_irrefl Nat.lt_add_one ble_dec Nat.le_refl Nat.beq_refl roomNZ appendIn capS mkZ_zero mkZL_zero zeroEl D.ids D.idsL Option.getD bin arith sarith binT dpick Tm.part splice fillD oneD loadD storeD srcD sliceD idxOk decide_true gval dstAt D.cells List.map_cons List.map_nil List.take List.drop List.length_map List.append Int.toNat_natCast and_true true_and decide_false List.length_cons List.length_nil List.append_nil List.nil_append Bool.and_true Bool.true_and Bool.not_false Bool.not_true ne_eq not_false_eq_true BEq.rfl List.getElem?_cons_zero List.getElem?_cons_succ List.getElem?_nil Nat.zero_add List.all_cons List.all_nil List.isEmpty_cons List.isEmpty_nil List.any_cons List.any_nil List.drop_succ_cons List.drop_zero unfL unf okM okML low3 List.cons_append true_or or_true Nat.zero_mul Nat.zero_le fpOf opIds
end Go.Proofs
end
section
/- The contract of slices.Insert (function 213), printed by genins.py. -/


namespace Go.Proofs
open Go.Tm Go.RowKit Go.WideShapes

set_option maxRecDepth 100000
set_option linter.unusedSimpArgs false
set_option linter.unusedVariables false
attribute [local go_sem] argVars runE runK isCallV stepE aop opd opdsL opds opdO ev ofVal keep List.any Nat.beq Bool.false_or Bool.true_or aggEq cond_true cond_false Bool.cond_false_right Bool.cond_true_left beq_true beq_false imp_self implies_true getR getL put St.app effL del nwB blt_dec Nat.lt_irrefl Nat.lt_add_one ble_dec Nat.le_refl Nat.beq_refl roomNZ appendIn capS mkZ_zero mkZL_zero zeroEl D.ids D.idsL Option.getD bin arith sarith binT dpick Tm.part splice fillD oneD loadD storeD srcD sliceD idxOk decide_true gval dstAt D.cells List.map_cons List.map_nil List.take List.drop List.length_map List.append Int.toNat_natCast and_true true_and decide_false List.length_cons List.length_nil List.append_nil List.nil_append Bool.and_true Bool.true_and Bool.not_false Bool.not_true ne_eq not_false_eq_true BEq.rfl List.getElem?_cons_zero List.getElem?_cons_succ List.getElem?_nil Nat.zero_add List.all_cons List.all_nil List.isEmpty_cons List.isEmpty_nil List.any_cons List.any_nil List.drop_succ_cons List.drop_zero unfL unf okM okML low3 List.cons_append true_or or_true Nat.zero_mul Nat.zero_le fpOf opIds
end Go.Proofs
end
section
/- slices.Insert of one element, over typed lists. -/





namespace Go.Proofs
open Go.Tm

theorem insT82 (i j k : Nat) (hij : i ≠ j) (hik : i ≠ k) (hjk : j ≠ k) (l : List TPromise) (x : TPromise) (at' : Int) (h : 0 ≤ at' ∧ at' ≤ (l.length : Int)) (hl : l.length < 1000000) :
    CallH Try.prog 82 [.ref i 3 0 l.length (some unkC), .int .i64 at', .ref j 3 0 1 (some 1)] [(i, .arr 27 3 true (l.map TPromise.d)), (j, .arr 27 3 true [x.d])] (.ref k 3 0 (l.take at'.toNat ++ x :: l.drop at'.toNat).length (some unkC)) [(k, some (.arr 27 3 true ((l.take at'.toNat ++ x :: l.drop at'.toNat).map TPromise.d))), (i, none)] (k, k + 1) := by
  have t := ins82 i j k hij hik hjk (l.map TPromise.d) x.d true true at'.toNat (by rw [List.length_map]; omega) (by rw [List.length_map]; exact hl)
  rw [Int.toNat_of_nonneg h.1, List.length_map, take_map, drop_map, ← List.map_cons, ← List.map_append] at t
  have e : l.length + 1 = (l.take at'.toNat ++ x :: l.drop at'.toNat).length := by simp; omega
  rw [e] at t
  exact t
theorem insT92 (i j k : Nat) (hij : i ≠ j) (hik : i ≠ k) (hjk : j ≠ k) (l : List Int) (x : Int) (at' : Int) (h : 0 ≤ at' ∧ at' ≤ (l.length : Int)) (hl : l.length < 1000000) :
    CallH Try.prog 92 [.ref i 1 0 l.length (some unkC), .int .i64 at', .ref j 1 0 1 (some 1)] [(i, .arr 3 1 true (l.map (D.int .i64))), (j, .arr 3 1 true [(D.int .i64 x)])] (.ref k 1 0 (l.take at'.toNat ++ x :: l.drop at'.toNat).length (some unkC)) [(k, some (.arr 3 1 true ((l.take at'.toNat ++ x :: l.drop at'.toNat).map (D.int .i64)))), (i, none)] (k, k + 1) := by
  have t := ins92 i j k hij hik hjk (l.map (D.int .i64)) (D.int .i64 x) true true at'.toNat (by rw [List.length_map]; omega) (by rw [List.length_map]; exact hl)
  rw [Int.toNat_of_nonneg h.1, List.length_map, take_map, drop_map, ← List.map_cons, ← List.map_append] at t
  have e : l.length + 1 = (l.take at'.toNat ++ x :: l.drop at'.toNat).length := by simp; omega
  rw [e] at t
  exact t
end Go.Proofs
end
section
/- Models of functions, printed by gw.py. -/






namespace Go.Proofs
open Go.Tm
set_option linter.unusedVariables false

def m_attempt_Promised_1 (a0 : Int) (c0 : TAttempt) (c1 : TPromise) : Option Bool :=
  if (0 ≤ a0 ∧ a0 < (c0.Promises.length : Int)) then
  some (decide ((c0.Promises.getD a0.toNat default).Node ≥ c1.Node))
  else none

def m_attempt_Promised (a : TAttempt) (b : Int) (p : TPromise) : Option (TAttempt × Int) :=
  Option.bind (m_attempt_Check a) fun v1 =>
  if ¬ (v1 = 0) then
  some ((⟨0, 0, [], [], [], [], []⟩ : TAttempt), v1)
  else
  Option.bind (if ¬ ((¬ (a.Phase = 1)) ∨ (¬ (b = a.Ballot))) then m_quorum_Has a.Members p.Node else some default) fun v2 =>
  if ((¬ (a.Phase = 1)) ∨ (¬ (b = a.Ballot))) ∨ (¬ (v2 = true)) then
  some ((⟨0, 0, [], [], [], [], []⟩ : TAttempt), 6)
  else
  Option.bind (m_attempt_may p b) fun v3 =>
  if ¬ (v3 = true) then
  some ((⟨0, 0, [], [], [], [], []⟩ : TAttempt), 8)
  else
  Option.bind (m_attempt_Twin a) fun v4 =>
  Option.bind (m_sort_Search (v4.Promises.length : Int) (fun x0 => m_attempt_Promised_1 x0 v4 p)) fun v5 =>
  if (v5 < (v4.Promises.length : Int)) → (0 ≤ v5 ∧ v5 < (v4.Promises.length : Int)) then
  if (v5 < (v4.Promises.length : Int)) ∧ ((v4.Promises.getD v5.toNat default).Node = p.Node) then
  some (v4, 0)
  else
  if 0 ≤ v5 ∧ v5 ≤ (v4.Promises.length : Int) then
  if v4.Promises.length < 1000000 then
  Option.bind (α := Int × (List UInt8)) (Option.bind (m_attempt_nodes ((v4.Promises.take v5.toNat) ++ (p :: (v4.Promises.drop v5.toNat)))) fun v6 =>
  Option.bind (m_attempt_most v4.Members v6) fun v7 =>
  if v7 = true then
  Option.bind (m_attempt_Best ((v4.Promises.take v5.toNat) ++ (p :: (v4.Promises.drop v5.toNat))) v4.Wish) fun v8 =>
  some (2, v8)
  else
  some (v4.Phase, v4.Value)) fun (n1, s1) =>
  some ((⟨n1, v4.Ballot, v4.Members, v4.Wish, s1, ((v4.Promises.take v5.toNat) ++ (p :: (v4.Promises.drop v5.toNat))), v4.Accepted⟩ : TAttempt), 0)
  else none
  else none
  else none

def m_attempt_Accepted (a : TAttempt) (b : Int) (node : Int) : Option (TAttempt × Int) :=
  Option.bind (m_attempt_Check a) fun v1 =>
  if ¬ (v1 = 0) then
  some ((⟨0, 0, [], [], [], [], []⟩ : TAttempt), v1)
  else
  Option.bind (if ¬ ((a.Phase < 2) ∨ (¬ (b = a.Ballot))) then m_quorum_Has a.Members node else some default) fun v2 =>
  if ((a.Phase < 2) ∨ (¬ (b = a.Ballot))) ∨ (¬ (v2 = true)) then
  some ((⟨0, 0, [], [], [], [], []⟩ : TAttempt), 6)
  else
  Option.bind (m_attempt_Twin a) fun v3 =>
  Option.bind (m_sort_SearchInts v3.Accepted node) fun v4 =>
  Option.bind (α := (List Int)) (if (¬ (v4 = (v3.Accepted.length : Int))) → (0 ≤ v4 ∧ v4 < (v3.Accepted.length : Int)) then
  if (v4 = (v3.Accepted.length : Int)) ∨ (¬ ((v3.Accepted.getD v4.toNat default) = node)) then
  if 0 ≤ v4 ∧ v4 ≤ (v3.Accepted.length : Int) then
  if v3.Accepted.length < 1000000 then
  some ((v3.Accepted.take v4.toNat) ++ (node :: (v3.Accepted.drop v4.toNat)))
  else none
  else none
  else
  some v3.Accepted
  else none) fun l1 =>
  Option.bind (α := Int) (Option.bind (m_attempt_most v3.Members l1) fun v5 =>
  if v5 = true then
  some 3
  else
  some v3.Phase) fun n1 =>
  some ((⟨n1, v3.Ballot, v3.Members, v3.Wish, v3.Value, v3.Promises, l1⟩ : TAttempt), 0)
end Go.Proofs
end
section
/- The walks of functions, printed by gw.py. -/









namespace Go.Proofs
open Go.Tm Go.RowKit Go.WideShapes
set_option maxRecDepth 100000
set_option maxHeartbeats 4000000
set_option linter.unusedSimpArgs false
set_option linter.unusedVariables false
attribute [local go_sem] argVars runE runK isCallV stepE aop opd opdsL opds opdO ev ofVal keep List.any natbeq Bool.false_or Bool.true_or aggEq cond_true cond_false Bool.cond_false_right Bool.cond_true_left beq_true beq_false imp_self implies_true getR getL put St.app effL del nwB blt_dec Nat.lt_irrefl Nat.lt_add_one ble_dec Nat.le_refl Nat.beq_refl roomNZ appendIn capS capK mkZ_zero mkZL_zero zeroEl D.ids D.idsL Option.getD bin arith sarith binT dpick Tm.part splice fillD oneD loadD storeD srcD sliceD idxOk decide_true gval dstAt D.cells List.map_cons List.map_nil List.take List.drop List.length_map List.append Int.toNat_natCast and_true true_and decide_false List.length_cons List.length_nil List.append_nil List.nil_append Bool.and_true Bool.true_and Bool.not_false Bool.not_true ne_eq not_false_eq_true BEq.rfl List.getElem?_cons_zero List.getElem?_cons_succ List.getElem?_nil Nat.zero_add List.all_cons List.all_nil List.isEmpty_cons List.isEmpty_nil List.any_cons List.any_nil List.drop_succ_cons List.drop_zero unfL unf okM okML low3 List.cons_append true_or or_true Nat.zero_mul Nat.zero_le bytesD_map map_ub mkZ_one mkZL_one mkM mkML mk1_int mk1_str mk1_bool drop_map take_map take_map_len List.take_length Int.toNat_zero toNat_pred fpOf metIds opIds mvV mvH mvF pickL D.ren D.renL Blk.ren List.map_append List.length_append Bool.not_not Bool.or_not_self Bool.not_or_self Bool.or_true
attribute [local go_sem] Try.tm_1 Try.tm_2 Try.tm_3 Try.tm_4 Try.tm_5 Try.tm_6 Try.tm_7 Try.tm_8 Try.tm_9 Try.tm_10 Try.tm_11 Try.tm_12 Try.tm_13 Try.tm_14 Try.tm_15 Try.tm_16 Try.tm_17 Try.tm_18 Try.tm_19 Try.tm_20 Try.tm_21 Try.tm_22 Try.tm_23 Try.tm_24 Try.tm_25 Try.tm_26 Try.tm_27 Try.tm_28 Try.tm_29 Try.tm_30 Try.tm_32 Try.tm_34 Try.tm_35 Try.tm_36 Try.tm_37 Try.tm_38 Try.tm_39 Try.tm_40 Try.tm_41 Try.tm_42 Try.tm_43 Try.tm_44 Try.tm_45 Try.tm_46 Try.tm_47 Try.tm_48 Try.tm_50 Try.tm_51 Try.tm_52 Try.tm_53 Try.tm_54 Try.tm_55 Try.tm_57 Try.tm_58 Try.tm_59 Try.tm_61 Try.tm_63 Try.tm_64 Try.tm_65 Try.tm_66 Try.tm_67 Try.tm_68 Try.tm_69 Try.tm_70 Try.tm_71 Try.tm_73 Try.tm_75 Try.tm_76 Try.tm_78 Try.tm_79 Try.tm_80 Try.tm_81 Try.tm_82 Try.tm_83 Try.tm_84 Try.tm_85 Try.tm_86 Try.tm_87 Try.tm_88 Try.tm_89 Try.tm_90 Try.tm_91 Try.tm_93 Try.tm_94 Try.tm_95 Try.tm_96 Try.tm_97 Try.tm_98 Try.tm_99 Try.tm_100 Try.tm_101 Try.tm_102 Try.tm_103 Try.tm_104 Try.tm_105 Try.tm_106 Try.tm_107 Try.tm_109 Try.tm_111 Try.tm_113 Try.tm_114 Try.tm_115 Try.tm_116 Try.tm_117 Try.tm_118 Try.tm_119 Try.tm_120 Try.tm_121 Try.tm_123 Try.tm_124 Try.tm_125 Try.tm_127 Try.tm_128 Try.tm_129 Try.tm_130 Try.tm_131 Try.tm_132 Try.tm_133 Try.tm_134 Try.tm_135 Try.tm_136 Try.tm_137 Try.tm_138 Try.tm_139 Try.tm_140 Try.tm_141 Try.tm_142 Try.tm_143 Try.tm_144 Try.tm_145 Try.tm_146 Try.tm_147 Try.tm_149 Try.tm_150 Try.tm_151 Try.tm_152 Try.tm_153 Try.tm_154 Try.tm_155 Try.tm_156 Try.tm_157 Try.tm_158 Try.tm_159 Try.tm_160 Try.tm_162 Try.tm_163 Try.tm_164 Try.tm_165 Try.tm_166 Try.tm_167 Try.tm_168 Try.tm_169 Try.tm_170 Try.tm_171 Try.tm_172 Try.tm_173 Try.tm_175 Try.tm_177 Try.tm_178 Try.tm_179 Try.tm_180 Try.tm_181 Try.tm_182 Try.tm_184 Try.tm_185 Try.tm_187 Try.tm_189 Try.tm_191 Try.tm_192 Try.tm_193 Try.tm_194 Try.tm_195 Try.tm_196 Try.tm_197 Try.tm_198 Try.tm_199 Try.tm_200 Try.tm_201 Try.tm_202 Try.tm_203 Try.tm_204 Try.tm_205 Try.tm_206 Try.tm_207 Try.tm_208 Try.tm_209 Try.tm_210 Try.tm_211 Try.tm_212 Try.tm_213 Try.tm_214 Try.tm_215 Try.tm_216 Try.tm_217 Try.tm_218 Try.tm_219 Try.tm_220 Try.tm_221 Try.tm_223 Try.tm_224 Try.tm_225 Try.tm_226 Try.tm_227 Try.tm_229 Try.tm_230 Try.tm_231 Try.tm_232 Try.tm_233 Try.tm_235 Try.tm_236 Try.tm_237 Try.tm_238 Try.tm_239 Try.tm_240 Try.tm_241 Try.tm_242 Try.tm_243 Try.tm_244 Try.tm_245 Try.tm_246 Try.tm_247 Try.tm_248 Try.tm_249 Try.tm_250 Try.tm_251 Try.tm_252 Try.tm_253 Try.tm_254 Try.tm_255 Try.tm_256 Try.tm_257 Try.tm_258 Try.tm_259 Try.tm_260 Try.tm_262 Try.tm_263 Try.tm_264 Try.tm_265 Try.tm_266 Try.tm_267 Try.tm_269 Try.tm_270 Try.tm_271 Try.tm_272 Try.tm_273 Try.tm_274 Try.tm_275 Try.tm_276 Try.tm_277 Try.tm_278 Try.tm_280 Try.tm_281 Try.tm_282 Try.tm_283 Try.tm_284 Try.tm_286 Try.tm_288 Try.tm_289 Try.tm_290 Try.tm_291 Try.tm_292 Try.tm_294 Try.tm_296 Try.tm_297 Try.tm_298 Try.tm_299 Try.tm_300 Try.tm_302 Try.tm_303 Try.tm_304 Try.tm_305 Try.tm_306 Try.tm_307 Try.tm_308 Try.tm_309 Try.tm_310 Try.tm_311 Try.tm_312 Try.tm_313 Try.tm_314 Try.tm_315 Try.tm_316 Try.tm_317 Try.tm_318 Try.tm_319 Try.tm_320 Try.tm_321 Try.tm_322 Try.tm_324 Try.tm_325 Try.tm_326 Try.tm_327 Try.tm_330 Try.tm_331 Try.tm_332 Try.tm_333 Try.tm_334 Try.tm_335 Try.tm_336 Try.tm_337 TPromise.d TAttempt.d TAttempt.n dL_str nL_str TVote.d TSeen.d TStable.d TStable.n TRecord.d TMessage.d TMessage.n TWait.d TWait.n TStamp.d TSkeen.d TSkeen.n TCommand.d TCommand.n mk1_TPromise mk1_TAttempt mk1_dL_str mk1_TVote mk1_TSeen mk1_TStable mk1_TRecord mk1_TMessage mk1_TWait mk1_TStamp mk1_TSkeen mk1_TCommand Try.f81 Try.f16 Try.f18


theorem callP_attempt_Promised_1 (a0 : Int) (c0 : TAttempt) (c1 : TPromise) (r : Bool) (h : m_attempt_Promised_1 a0 c0 c1 = some r) : CallP Try.prog 81 [.int .i64 a0, .iptr 0 [.int .u8 c0.Phase, .int .i64 c0.Ballot, .imm 1 (c0.Members.map (D.int .i64)) 4, .str c0.Wish, .str c0.Value, .imm 3 (c0.Promises.map TPromise.d) 4, .imm 1 (c0.Accepted.map (D.int .i64)) 4], .iptr 0 [.int .i64 c1.Node, .int .i64 c1.Ballot, .str c1.Value]] (.bool r) := by
  refine callP_intro Try.tmOk 2 Try.func81 rfl (by decide) rfl rfl (Nat.le_of_ble_eq_true rfl) ?_
  intro hwf
  unfold m_attempt_Promised_1 at h
  refine .seq ?_
  refine .pl Try.S [0, 1, 2] ?_
  refine .seq ?_
  obtain ⟨k1, h⟩ := ite_ck h
  have e1 := nth_mapI TPromise.d c0.Promises a0
  replace e1 := e1 k1
  refine .rg Try.S [0, 1, 2] ?_
  refine .rdx 6 e1 ?_
  refine .rdx 4 e1 ?_
  refine .nil ⟨fun _ => schedB_of (by kernel_rfl), ?_⟩
  have hq := Option.some.inj h
  subst r
  exact .ret ⟨.inr rfl, rsi⟩

def Try.St_attempt_Promised_1 (p : TPromise) (v4 : TAttempt) (v5 : Int) (n1 : Int) (s1 : List UInt8) : St := ⟨[(3, .ptr 0 0), (6, .ptr 2 0)], [(0, .box [.int .u8 n1, .int .i64 v4.Ballot, .ref 30 1 0 v4.Members.length (some unkC), .str v4.Wish, .str s1, .ref 31 3 0 (((v4.Promises.take v5.toNat) ++ (p :: (v4.Promises.drop v5.toNat))).length) (some unkC), .ref 32 1 0 v4.Accepted.length (some unkC)]), (2, .box [.int .u8 0, .int .i64 0, .imm 0 [] 0, .str [], .str [], .imm 0 [] 0, .imm 0 [] 0]), (30, .arr 3 1 true (v4.Members.map (D.int .i64))), (31, .arr 27 3 true (((v4.Promises.take v5.toNat) ++ (p :: (v4.Promises.drop v5.toNat))).map TPromise.d)), (32, .arr 3 1 true (v4.Accepted.map (D.int .i64)))], 33⟩
attribute [local go_sem] Try.St_attempt_Promised_1
def Try.Re_attempt_Promised (r : TAttempt × Int) : St := ⟨[(6, .ptr 3 0), (7, .int .i64 r.2)], [(0, .arr 3 1 true (r.1.Members.map (D.int .i64))), (1, .arr 27 3 true (r.1.Promises.map TPromise.d)), (2, .arr 3 1 true (r.1.Accepted.map (D.int .i64))), (3, .box [.int .u8 r.1.Phase, .int .i64 r.1.Ballot, .ref 0 1 0 r.1.Members.length (some unkC), .str r.1.Wish, .str r.1.Value, .ref 1 3 0 r.1.Promises.length (some unkC), .ref 2 1 0 r.1.Accepted.length (some unkC)])], 4⟩
attribute [local go_sem] Try.Re_attempt_Promised
theorem callH_attempt_Promised (a : TAttempt) (b : Int) (p : TPromise) (r : TAttempt × Int) (h : m_attempt_Promised a b p = some r) : CallH Try.prog 16 [.agg [.int .u8 a.Phase, .int .i64 a.Ballot, .imm 1 (a.Members.map (D.int .i64)) 4, .str a.Wish, .str a.Value, .imm 3 (a.Promises.map TPromise.d) 4, .imm 1 (a.Accepted.map (D.int .i64)) 4], .int .i64 b, .agg [.int .i64 p.Node, .int .i64 p.Ballot, .str p.Value]] [] (.tuple [.agg [.int .u8 r.1.Phase, .int .i64 r.1.Ballot, .ref 0 1 0 r.1.Members.length (some unkC), .str r.1.Wish, .str r.1.Value, .ref 1 3 0 r.1.Promises.length (some unkC), .ref 2 1 0 r.1.Accepted.length (some unkC)], .int .i64 r.2]) [(0, some (.arr 3 1 true (r.1.Members.map (D.int .i64)))), (1, some (.arr 27 3 true (r.1.Promises.map TPromise.d))), (2, some (.arr 3 1 true (r.1.Accepted.map (D.int .i64))))] (0, 38) := by
  refine callH_intro' Try.tmOk Try.func16 rfl (by decide) (Nat.le_of_ble_eq_true rfl) (by simp) ?_
  intro hwf
  unfold m_attempt_Promised at h
  refine .ends 0 (Nat.le_refl _) ?_
  refine .seq ?_
  refine .pl Try.S [0, 1, 2] ?_
  refine .seq ?_
  refine .seq ?_
  obtain ⟨v1, hv1, h⟩ := bind_some h
  refine .rg Try.S [1, 3, 5, 6] ?_
  refine .rn 1 ?_
  refine .call (r := .int .i64 v1) rfl rfl rfl rfl rfl rfl (callP_attempt_Check a v1 hv1) ?_
  refine .rn 1 ?_
  refine .nil ⟨nofun, ?_⟩
  refine .seq ?_
  refine .pl Try.S [1, 3, 5, 6, 8] ?_
  refine .cond rfl rfl (fun hc1 => ?_) (fun hc1 => ?_)
  · skip
    replace h := ite_lc h hc1
    refine .seq ?_
    refine .pl Try.S [6, 8] ?_
    have hq := Option.some.inj h
    subst r
    refine .ret ⟨Try.Re_attempt_Promised ((⟨0, 0, [], [], [], [], []⟩ : TAttempt), v1), ?_, .inr rfl, retH [2, 1, 0] ?_ ?_⟩
    · skip
      refine Goes.new0 1 3 (Nat.le_of_ble_eq_true rfl) ?_
      refine Goes.new0 3 27 (Nat.le_of_ble_eq_true rfl) ?_
      refine Goes.new0 1 3 (Nat.le_of_ble_eq_true rfl) ?_
      refine Goes.boxs 2 _ [.int .u8 0, .int .i64 0, .ref 3 1 0 0 (some unkC), .str [], .str [], .ref 4 3 0 0 (some unkC), .ref 5 1 0 0 (some unkC)] rfl (.keep (.keep (.cons (.own0 3 _ _ _ (by decide)) (.keep (.keep (.cons (.own0 4 _ _ _ (by decide)) (.cons (.own0 5 _ _ _ (by decide)) (.refl _)))))))) ?_
      exact .m [6, 7] [3, 4, 5, 2] [(3, 0), (4, 1), (5, 2), (2, 3)]
    · exact rsi0
    · rfl
  · skip
    replace h := ite_rc h hc1
    refine .skip ?_
    refine .seq ?_
    refine .seq ?_
    obtain ⟨v2, hv2, h⟩ := bind_some h
    refine .rg Try.S [1, 3, 5, 6] ?_
    refine .rn 6 ?_
    refine .rn 8 ?_
    refine .gcall (r := .bool v2) rfl rfl rfl rfl rfl (fun hg => ⟨[], [.imm 1 (a.Members.map (D.int .i64)) 4, .int .i64 p.Node], _, rfl, gd hg, rfl, (callP_quorum_Has a.Members p.Node v2 (ite_lc hv2 hg))⟩) ?_
    refine .rn 2 ?_
    refine .nil ⟨nofun, ?_⟩
    refine .cond rfl rfl (fun hc2 => ?_) (fun hc2 => ?_)
    · skip
      replace h := ite_lc h hc2
      refine .seq ?_
      refine .pl Try.S [6] ?_
      have hq := Option.some.inj h
      subst r
      refine .ret ⟨Try.Re_attempt_Promised ((⟨0, 0, [], [], [], [], []⟩ : TAttempt), 6), ?_, .inr rfl, retH [2, 1, 0] ?_ ?_⟩
      · skip
        refine Goes.new0 1 3 (Nat.le_of_ble_eq_true rfl) ?_
        refine Goes.new0 3 27 (Nat.le_of_ble_eq_true rfl) ?_
        refine Goes.new0 1 3 (Nat.le_of_ble_eq_true rfl) ?_
        refine Goes.boxs 2 _ [.int .u8 0, .int .i64 0, .ref 3 1 0 0 (some unkC), .str [], .str [], .ref 4 3 0 0 (some unkC), .ref 5 1 0 0 (some unkC)] rfl (.keep (.keep (.cons (.own0 3 _ _ _ (by decide)) (.keep (.keep (.cons (.own0 4 _ _ _ (by decide)) (.cons (.own0 5 _ _ _ (by decide)) (.refl _)))))))) ?_
        exact .m [6, 7] [3, 4, 5, 2] [(3, 0), (4, 1), (5, 2), (2, 3)]
      · exact rsi0
      · rfl
    · skip
      replace h := ite_rc h hc2
      refine .skip ?_
      refine .seq ?_
      refine .seq ?_
      obtain ⟨v3, hv3, h⟩ := bind_some h
      refine .rg Try.S [1, 3, 5, 6] ?_
      refine .rn 2 ?_
      refine .call (r := .bool v3) rfl rfl rfl rfl rfl rfl (callP_attempt_may p b v3 hv3) ?_
      refine .rn 1 ?_
      refine .nil ⟨nofun, ?_⟩
      refine .cond rfl rfl (fun hc3 => ?_) (fun hc3 => ?_)
      · skip
        replace h := ite_lc h hc3
        refine .seq ?_
        refine .pl Try.S [6] ?_
        have hq := Option.some.inj h
        subst r
        refine .ret ⟨Try.Re_attempt_Promised ((⟨0, 0, [], [], [], [], []⟩ : TAttempt), 8), ?_, .inr rfl, retH [2, 1, 0] ?_ ?_⟩
        · skip
          refine Goes.new0 1 3 (Nat.le_of_ble_eq_true rfl) ?_
          refine Goes.new0 3 27 (Nat.le_of_ble_eq_true rfl) ?_
          refine Goes.new0 1 3 (Nat.le_of_ble_eq_true rfl) ?_
          refine Goes.boxs 2 _ [.int .u8 0, .int .i64 0, .ref 3 1 0 0 (some unkC), .str [], .str [], .ref 4 3 0 0 (some unkC), .ref 5 1 0 0 (some unkC)] rfl (.keep (.keep (.cons (.own0 3 _ _ _ (by decide)) (.keep (.keep (.cons (.own0 4 _ _ _ (by decide)) (.cons (.own0 5 _ _ _ (by decide)) (.refl _)))))))) ?_
          exact .m [6, 7] [3, 4, 5, 2] [(3, 0), (4, 1), (5, 2), (2, 3)]
        · exact rsi0
        · rfl
      · skip
        replace h := ite_rc h hc3
        refine .skip ?_
        refine .seq ?_
        obtain ⟨v4, hv4, h⟩ := bind_some h
        refine .rg Try.S [3, 5, 6] ?_
        refine .rn 1 ?_
        refine .ncall (r := .agg [.int .u8 v4.Phase, .int .i64 v4.Ballot, .ref 14 1 0 v4.Members.length (some unkC), .str v4.Wish, .str v4.Value, .ref 15 3 0 v4.Promises.length (some unkC), .ref 16 1 0 v4.Accepted.length (some unkC)]) (eff := [(14, some (.arr 3 1 true (v4.Members.map (D.int .i64)))), (15, some (.arr 27 3 true (v4.Promises.map TPromise.d))), (16, some (.arr 3 1 true (v4.Accepted.map (D.int .i64))))]) (nw := (14, 28)) [] rfl rfl rfl rfl rfl (lend2s_cons rfl lend2s_nil) rfl (callH_at 14 (Nat.le_of_ble_eq_true rfl) (callH_attempt_Twin a v4 hv4)) (newE_cons rfl rfl (newB_arr pl0_i64 _ _ _) (newE_cons rfl rfl (newB_arr pl0_TPromise _ _ _) (newE_cons rfl rfl (newB_arr pl0_i64 _ _ _) newE_nil))) (by intro i hi; simp [D.ids, D.idsL] at hi; omega) rfl ⟨Nat.le_of_ble_eq_true rfl, Nat.le_of_ble_eq_true rfl⟩ ?_
        refine .rn 1 ?_
        refine .nil ⟨nofun, ?_⟩
        refine .seq ?_
        obtain ⟨v5, hv5, h⟩ := bind_some h
        refine .rg Try.S [3, 5, 6] ?_
        refine .rn 4 ?_
        refine .lcall (r := .int .i64 v5) [14, 15, 16] rfl rfl rfl rfl rfl (lend2s_cons rfl (lend2s_cons (lend2_fn (lend2s_cons (lend2_ptr rfl (lends_cons rfl (lends_cons rfl (lends_cons (lend_ref (pl_int .i64) (by first | rfl | (simp only [go_sem, Nat.reduceBEq]; rfl)) (by first | rfl | (simp; done) | (simp <;> omega))) (lends_cons rfl (lends_cons rfl (lends_cons (lend_ref pl_TPromise (by first | rfl | (simp only [go_sem, Nat.reduceBEq]; rfl)) (by first | rfl | (simp; done) | (simp <;> omega))) (lends_cons (lend_ref (pl_int .i64) (by first | rfl | (simp only [go_sem, Nat.reduceBEq]; rfl)) (by first | rfl | (simp; done) | (simp <;> omega))) lends_nil)))))))) (lend2s_cons (lend2_ptr rfl (lends_cons rfl (lends_cons rfl (lends_cons rfl lends_nil)))) lend2s_nil))) lend2s_nil)) rfl (callP_sort_Search (v4.Promises.length : Int) 81 [.iptr 0 [.int .u8 v4.Phase, .int .i64 v4.Ballot, .imm 1 (v4.Members.map (D.int .i64)) 4, .str v4.Wish, .str v4.Value, .imm 3 (v4.Promises.map TPromise.d) 4, .imm 1 (v4.Accepted.map (D.int .i64)) 4], .iptr 0 [.int .i64 p.Node, .int .i64 p.Ballot, .str p.Value]] (fun _ => rfl) (fun _ => rfl) (fun _ => rfl) (fun x0 => m_attempt_Promised_1 x0 v4 p) (fun x0 y hy => callP_attempt_Promised_1 x0 v4 p y hy) v5 hv5) ?_
        refine .rn 1 ?_
        refine .nil ⟨nofun, ?_⟩
        refine .seq ?_
        obtain ⟨k1, h⟩ := ite_ck h
        refine .seqM 28 (fun (_ : Unit) => ⟨[(3, .ptr 0 0), (5, .ptr 1 0), (6, .ptr 2 0), (9, .int .i64 v5), (61, .bool ((decide (v5 < (v4.Promises.length : Int))) && ((v4.Promises.getD v5.toNat default).Node == p.Node)))], [(0, .box [.int .u8 v4.Phase, .int .i64 v4.Ballot, .ref 14 1 0 v4.Members.length (some unkC), .str v4.Wish, .str v4.Value, .ref 15 3 0 v4.Promises.length (some unkC), .ref 16 1 0 v4.Accepted.length (some unkC)]), (1, .box [.int .i64 p.Node, .int .i64 p.Ballot, .str p.Value]), (2, .box [.int .u8 0, .int .i64 0, .imm 0 [] 0, .str [], .str [], .imm 0 [] 0, .imm 0 [] 0]), (14, .arr 3 1 true (v4.Members.map (D.int .i64))), (15, .arr 27 3 true (v4.Promises.map TPromise.d)), (16, .arr 3 1 true (v4.Accepted.map (D.int .i64)))], 28⟩) (fun _ => True) (Nat.le_of_ble_eq_true rfl) ?_ (fun _ _ => ?_)
        · skip
          by_cases hgd : v5 < (v4.Promises.length : Int)
          · skip
            have eg10 := nth_mapI TPromise.d v4.Promises v5 (k1 hgd)
            refine .rg Try.S [3, 5, 6, 9] ?_
            refine .rdx 6 eg10 ?_
            refine .rdx 6 eg10 ?_
            refine .rdx 4 eg10 ?_
            refine .nil ⟨fun _ => schedB_of (by kernel_rfl), ?_⟩
            refine ⟨(), ?_, trivial⟩
            exact .m [3, 5, 6, 9, 61] [0, 1, 2, 14, 15, 16] []
          · skip
            have hgf1 : (decide (v5 < (v4.Promises.length : Int))) = false := by first | simpa using hgd | (simp at hgd ⊢; omega) | grind
            rcases nth_or TPromise.d v4.Promises v5.toNat with eg10 | eg10
            · skip
              refine .rg Try.S [3, 5, 6, 9] ?_
              refine .rdx 6 (And.intro eg10 hgf1) ?_
              refine .rdx 6 (And.intro eg10 hgf1) ?_
              refine .rdx 4 (And.intro eg10 hgf1) ?_
              refine .nil ⟨fun _ => schedB_of (by kernel_rfl), ?_⟩
              refine ⟨(), ?_, trivial⟩
              exact .mx hgf1 [3, 5, 6, 9, 61] [0, 1, 2, 14, 15, 16] []
            · skip
              refine .rg Try.S [3, 5, 6, 9] ?_
              refine .rdx 6 (And.intro eg10 hgf1) ?_
              refine .rdx 6 (And.intro eg10 hgf1) ?_
              refine .rdx 4 (And.intro eg10 hgf1) ?_
              refine .nil ⟨fun _ => schedB_of (by kernel_rfl), ?_⟩
              refine ⟨(), ?_, trivial⟩
              exact .mx hgf1 [3, 5, 6, 9, 61] [0, 1, 2, 14, 15, 16] []
        refine .cond rfl rfl (fun hc4 => ?_) (fun hc4 => ?_)
        · skip
          replace h := ite_lc h hc4
          refine .seq ?_
          refine .pl Try.S [3, 6] ?_
          have hq := Option.some.inj h
          subst r
          refine .ret ⟨Try.Re_attempt_Promised (v4, 0), ?_, .inr rfl, retH [2, 1, 0] ?_ ?_⟩
          · skip
            exact .m [6, 7] [14, 15, 16, 2] [(14, 0), (15, 1), (16, 2), (2, 3)]
          · exact rsi0
          · rfl
        · skip
          replace h := ite_rc h hc4
          refine .skip ?_
          refine .seq ?_
          obtain ⟨k2, h⟩ := ite_ck h
          obtain ⟨k3, h⟩ := ite_ck h
          refine .rg Try.S [3, 5, 6, 9] ?_
          refine .rn 5 ?_
          refine .hcall (r := .ref 29 3 0 (((v4.Promises.take v5.toNat) ++ (p :: (v4.Promises.drop v5.toNat))).length) (some unkC)) rfl rfl rfl rfl rfl (insT82 15 28 29 (by decide) (by decide) (by decide) v4.Promises p v5 k2 k3) (fun id b h => getL_pick [15, 28] _ id b h) (by simp) (.inr ⟨Nat.le_refl _, Nat.le_of_ble_eq_true rfl⟩) ?_
          refine .rn 2 ?_
          refine .nil ⟨nofun, ?_⟩
          obtain ⟨x1, hx1, h⟩ := bind_some h
          refine .seqM 30 (fun (j : Int × (List UInt8)) => Try.St_attempt_Promised_1 p v4 v5 j.1 j.2) (fun j => x1 = j) (Nat.le_of_ble_eq_true rfl) ?_ ?_
          · skip
            refine .seq ?_
            obtain ⟨v6, hv6, hx1⟩ := bind_some hx1
            obtain ⟨v7, hv7, hx1⟩ := bind_some hx1
            refine .rg Try.S [3, 6] ?_
            refine .rd 4 ?_
            refine .ncall (r := .ref 30 1 0 v6.length (some unkC)) (eff := [(30, some (.arr 3 1 true (v6.map (D.int .i64))))]) (nw := (30, 36)) [] rfl rfl rfl rfl rfl (lend2s_cons (lend2_of (lend_ref pl_TPromise (by first | rfl | (simp only [go_sem, Nat.reduceBEq]; rfl)) (by first | rfl | (simp; done) | (simp <;> omega))) trivial) lend2s_nil) rfl (callH_at 30 (Nat.le_of_ble_eq_true rfl) (callH_attempt_nodes ((v4.Promises.take v5.toNat) ++ (p :: (v4.Promises.drop v5.toNat))) v6 hv6)) (newE_cons rfl rfl (newB_arr pl0_i64 _ _ _) newE_nil) (by intro i hi; simp [D.ids, D.idsL] at hi; omega) rfl ⟨Nat.le_of_ble_eq_true rfl, Nat.le_of_ble_eq_true rfl⟩ ?_
            refine .rd 0 ?_
            refine .lcall (r := .bool v7) [] rfl rfl rfl rfl rfl (lend2s_cons (lend2_of (lend_ref (pl_int .i64) (by first | rfl | (simp only [go_sem, Nat.reduceBEq]; rfl)) (by first | rfl | (simp; done) | (simp <;> omega))) trivial) (lend2s_cons (lend2_of (lend_ref (pl_int .i64) (by first | rfl | (simp only [go_sem, Nat.reduceBEq]; rfl)) (by first | rfl | (simp; done) | (simp <;> omega))) trivial) lend2s_nil)) rfl (callP_attempt_most v4.Members v6 v7 hv7) ?_
            refine .nil ⟨fun _ => schedB_of (by kernel_rfl), ?_⟩
            refine .cond rfl rfl (fun hc5 => ?_) (fun hc5 => ?_)
            · skip
              replace hx1 := ite_lc hx1 hc5
              obtain ⟨v8, hv8, hx1⟩ := bind_some hx1
              refine .rg Try.S [3, 6] ?_
              refine .rn 4 ?_
              refine .lcall (r := .str v8) [] rfl rfl rfl rfl rfl (lend2s_cons (lend2_of (lend_ref pl_TPromise (by first | rfl | (simp only [go_sem, Nat.reduceBEq]; rfl)) (by first | rfl | (simp; done) | (simp <;> omega))) trivial) (lend2s_cons rfl lend2s_nil)) rfl (callP_attempt_Best ((v4.Promises.take v5.toNat) ++ (p :: (v4.Promises.drop v5.toNat))) v4.Wish v8 hv8) ?_
              refine .rn 4 ?_
              refine .nil ⟨nofun, ?_⟩
              refine ⟨_, ?_, (Option.some.inj hx1).symm⟩
              exact .m [3, 6] [0, 2, 14, 29, 16] [(14, 30), (29, 31), (16, 32)]
            · skip
              replace hx1 := ite_rc hx1 hc5
              refine .skip ?_
              refine ⟨_, ?_, (Option.some.inj hx1).symm⟩
              exact .m [3, 6] [0, 2, 14, 29, 16] [(14, 30), (29, 31), (16, 32)]
          · skip
            rintro ⟨n1, s1⟩ hj1
            subst x1
            try dsimp only at h
            simp only [Try.St_attempt_Promised_1]
            refine .seq ?_
            refine .pl Try.S [3, 6] ?_
            have hq := Option.some.inj h
            subst r
            refine .ret ⟨Try.Re_attempt_Promised ((⟨n1, v4.Ballot, v4.Members, v4.Wish, s1, ((v4.Promises.take v5.toNat) ++ (p :: (v4.Promises.drop v5.toNat))), v4.Accepted⟩ : TAttempt), 0), ?_, .inr rfl, retH [2, 1, 0] ?_ ?_⟩
            · skip
              exact .m [6, 7] [30, 31, 32, 2] [(30, 0), (31, 1), (32, 2), (2, 3)]
            · exact rsi0
            · rfl

def Try.St_attempt_Accepted_1 (v3 : TAttempt) (l1 : List Int) : St := ⟨[(3, .ptr 0 0), (6, .ptr 1 0)], [(0, .box [.int .u8 v3.Phase, .int .i64 v3.Ballot, .ref 28 1 0 v3.Members.length (some unkC), .str v3.Wish, .str v3.Value, .ref 29 3 0 v3.Promises.length (some unkC), .ref 30 1 0 l1.length (some unkC)]), (1, .box [.int .u8 0, .int .i64 0, .imm 0 [] 0, .str [], .str [], .imm 0 [] 0, .imm 0 [] 0]), (28, .arr 3 1 true (v3.Members.map (D.int .i64))), (29, .arr 27 3 true (v3.Promises.map TPromise.d)), (30, .arr 3 1 true (l1.map (D.int .i64)))], 31⟩
attribute [local go_sem] Try.St_attempt_Accepted_1
def Try.St_attempt_Accepted_3 (v3 : TAttempt) (l1 : List Int) (n1 : Int) : St := ⟨[(3, .ptr 0 0), (6, .ptr 1 0)], [(0, .box [.int .u8 n1, .int .i64 v3.Ballot, .ref 31 1 0 v3.Members.length (some unkC), .str v3.Wish, .str v3.Value, .ref 32 3 0 v3.Promises.length (some unkC), .ref 33 1 0 l1.length (some unkC)]), (1, .box [.int .u8 0, .int .i64 0, .imm 0 [] 0, .str [], .str [], .imm 0 [] 0, .imm 0 [] 0]), (31, .arr 3 1 true (v3.Members.map (D.int .i64))), (32, .arr 27 3 true (v3.Promises.map TPromise.d)), (33, .arr 3 1 true (l1.map (D.int .i64)))], 34⟩
attribute [local go_sem] Try.St_attempt_Accepted_3
def Try.Re_attempt_Accepted (r : TAttempt × Int) : St := ⟨[(6, .ptr 3 0), (7, .int .i64 r.2)], [(0, .arr 3 1 true (r.1.Members.map (D.int .i64))), (1, .arr 27 3 true (r.1.Promises.map TPromise.d)), (2, .arr 3 1 true (r.1.Accepted.map (D.int .i64))), (3, .box [.int .u8 r.1.Phase, .int .i64 r.1.Ballot, .ref 0 1 0 r.1.Members.length (some unkC), .str r.1.Wish, .str r.1.Value, .ref 1 3 0 r.1.Promises.length (some unkC), .ref 2 1 0 r.1.Accepted.length (some unkC)])], 4⟩
attribute [local go_sem] Try.Re_attempt_Accepted
theorem callH_attempt_Accepted (a : TAttempt) (b : Int) (node : Int) (r : TAttempt × Int) (h : m_attempt_Accepted a b node = some r) : CallH Try.prog 18 [.agg [.int .u8 a.Phase, .int .i64 a.Ballot, .imm 1 (a.Members.map (D.int .i64)) 4, .str a.Wish, .str a.Value, .imm 3 (a.Promises.map TPromise.d) 4, .imm 1 (a.Accepted.map (D.int .i64)) 4], .int .i64 b, .int .i64 node] [] (.tuple [.agg [.int .u8 r.1.Phase, .int .i64 r.1.Ballot, .ref 0 1 0 r.1.Members.length (some unkC), .str r.1.Wish, .str r.1.Value, .ref 1 3 0 r.1.Promises.length (some unkC), .ref 2 1 0 r.1.Accepted.length (some unkC)], .int .i64 r.2]) [(0, some (.arr 3 1 true (r.1.Members.map (D.int .i64)))), (1, some (.arr 27 3 true (r.1.Promises.map TPromise.d))), (2, some (.arr 3 1 true (r.1.Accepted.map (D.int .i64))))] (0, 36) := by
  refine callH_intro' Try.tmOk Try.func18 rfl (by decide) (Nat.le_of_ble_eq_true rfl) (by simp) ?_
  intro hwf
  unfold m_attempt_Accepted at h
  refine .ends 0 (Nat.le_refl _) ?_
  refine .seq ?_
  refine .pl Try.S [0, 1, 2] ?_
  refine .seq ?_
  refine .seq ?_
  obtain ⟨v1, hv1, h⟩ := bind_some h
  refine .rg Try.S [1, 2, 3, 6] ?_
  refine .rn 1 ?_
  refine .call (r := .int .i64 v1) rfl rfl rfl rfl rfl rfl (callP_attempt_Check a v1 hv1) ?_
  refine .rn 1 ?_
  refine .nil ⟨nofun, ?_⟩
  refine .seq ?_
  refine .pl Try.S [1, 2, 3, 6, 8] ?_
  refine .cond rfl rfl (fun hc1 => ?_) (fun hc1 => ?_)
  · skip
    replace h := ite_lc h hc1
    refine .seq ?_
    refine .pl Try.S [6, 8] ?_
    have hq := Option.some.inj h
    subst r
    refine .ret ⟨Try.Re_attempt_Accepted ((⟨0, 0, [], [], [], [], []⟩ : TAttempt), v1), ?_, .inr rfl, retH [2, 1, 0] ?_ ?_⟩
    · skip
      refine Goes.new0 1 3 (Nat.le_of_ble_eq_true rfl) ?_
      refine Goes.new0 3 27 (Nat.le_of_ble_eq_true rfl) ?_
      refine Goes.new0 1 3 (Nat.le_of_ble_eq_true rfl) ?_
      refine Goes.boxs 1 _ [.int .u8 0, .int .i64 0, .ref 2 1 0 0 (some unkC), .str [], .str [], .ref 3 3 0 0 (some unkC), .ref 4 1 0 0 (some unkC)] rfl (.keep (.keep (.cons (.own0 2 _ _ _ (by decide)) (.keep (.keep (.cons (.own0 3 _ _ _ (by decide)) (.cons (.own0 4 _ _ _ (by decide)) (.refl _)))))))) ?_
      exact .m [6, 7] [2, 3, 4, 1] [(2, 0), (3, 1), (4, 2), (1, 3)]
    · exact rsi0
    · rfl
  · skip
    replace h := ite_rc h hc1
    refine .skip ?_
    refine .seq ?_
    refine .seq ?_
    obtain ⟨v2, hv2, h⟩ := bind_some h
    refine .rg Try.S [1, 2, 3, 6] ?_
    refine .rn 6 ?_
    refine .rn 7 ?_
    refine .gcall (r := .bool v2) rfl rfl rfl rfl rfl (fun hg => ⟨[], [.imm 1 (a.Members.map (D.int .i64)) 4, .int .i64 node], _, rfl, gd hg, rfl, (callP_quorum_Has a.Members node v2 (ite_lc hv2 hg))⟩) ?_
    refine .rn 2 ?_
    refine .nil ⟨nofun, ?_⟩
    refine .cond rfl rfl (fun hc2 => ?_) (fun hc2 => ?_)
    · skip
      replace h := ite_lc h hc2
      refine .seq ?_
      refine .pl Try.S [6] ?_
      have hq := Option.some.inj h
      subst r
      refine .ret ⟨Try.Re_attempt_Accepted ((⟨0, 0, [], [], [], [], []⟩ : TAttempt), 6), ?_, .inr rfl, retH [2, 1, 0] ?_ ?_⟩
      · skip
        refine Goes.new0 1 3 (Nat.le_of_ble_eq_true rfl) ?_
        refine Goes.new0 3 27 (Nat.le_of_ble_eq_true rfl) ?_
        refine Goes.new0 1 3 (Nat.le_of_ble_eq_true rfl) ?_
        refine Goes.boxs 1 _ [.int .u8 0, .int .i64 0, .ref 2 1 0 0 (some unkC), .str [], .str [], .ref 3 3 0 0 (some unkC), .ref 4 1 0 0 (some unkC)] rfl (.keep (.keep (.cons (.own0 2 _ _ _ (by decide)) (.keep (.keep (.cons (.own0 3 _ _ _ (by decide)) (.cons (.own0 4 _ _ _ (by decide)) (.refl _)))))))) ?_
        exact .m [6, 7] [2, 3, 4, 1] [(2, 0), (3, 1), (4, 2), (1, 3)]
      · exact rsi0
      · rfl
    · skip
      replace h := ite_rc h hc2
      refine .skip ?_
      refine .seq ?_
      obtain ⟨v3, hv3, h⟩ := bind_some h
      refine .rg Try.S [2, 3, 6] ?_
      refine .rn 1 ?_
      refine .ncall (r := .agg [.int .u8 v3.Phase, .int .i64 v3.Ballot, .ref 14 1 0 v3.Members.length (some unkC), .str v3.Wish, .str v3.Value, .ref 15 3 0 v3.Promises.length (some unkC), .ref 16 1 0 v3.Accepted.length (some unkC)]) (eff := [(14, some (.arr 3 1 true (v3.Members.map (D.int .i64)))), (15, some (.arr 27 3 true (v3.Promises.map TPromise.d))), (16, some (.arr 3 1 true (v3.Accepted.map (D.int .i64))))]) (nw := (14, 28)) [] rfl rfl rfl rfl rfl (lend2s_cons rfl lend2s_nil) rfl (callH_at 14 (Nat.le_of_ble_eq_true rfl) (callH_attempt_Twin a v3 hv3)) (newE_cons rfl rfl (newB_arr pl0_i64 _ _ _) (newE_cons rfl rfl (newB_arr pl0_TPromise _ _ _) (newE_cons rfl rfl (newB_arr pl0_i64 _ _ _) newE_nil))) (by intro i hi; simp [D.ids, D.idsL] at hi; omega) rfl ⟨Nat.le_of_ble_eq_true rfl, Nat.le_of_ble_eq_true rfl⟩ ?_
      refine .rn 1 ?_
      refine .nil ⟨nofun, ?_⟩
      refine .seq ?_
      obtain ⟨v4, hv4, h⟩ := bind_some h
      refine .rg Try.S [2, 3, 6] ?_
      refine .rn 3 ?_
      refine .lcall (r := .int .i64 v4) [] rfl rfl rfl rfl rfl (lend2s_cons (lend2_of (lend_ref (pl_int .i64) (by first | rfl | (simp only [go_sem, Nat.reduceBEq]; rfl)) (by first | rfl | (simp; done) | (simp <;> omega))) trivial) (lend2s_cons rfl lend2s_nil)) rfl (callP_sort_SearchInts v3.Accepted node v4 hv4) ?_
      refine .rn 1 ?_
      refine .nil ⟨nofun, ?_⟩
      obtain ⟨x1, hx1, h⟩ := bind_some h
      refine .seqM 28 (fun (j : (List Int)) => Try.St_attempt_Accepted_1 v3 j) (fun j => x1 = j) (Nat.le_of_ble_eq_true rfl) ?_ ?_
      · skip
        obtain ⟨k1, hx1⟩ := ite_ck hx1
        refine .seqM 28 (fun (_ : Unit) => ⟨[(2, .int .i64 node), (3, .ptr 0 0), (6, .ptr 1 0), (9, .int .i64 v4), (52, .bool ((v4 == (v3.Accepted.length : Int)) || ((v3.Accepted.getD v4.toNat default) != node)))], [(0, .box [.int .u8 v3.Phase, .int .i64 v3.Ballot, .ref 14 1 0 v3.Members.length (some unkC), .str v3.Wish, .str v3.Value, .ref 15 3 0 v3.Promises.length (some unkC), .ref 16 1 0 v3.Accepted.length (some unkC)]), (1, .box [.int .u8 0, .int .i64 0, .imm 0 [] 0, .str [], .str [], .imm 0 [] 0, .imm 0 [] 0]), (14, .arr 3 1 true (v3.Members.map (D.int .i64))), (15, .arr 27 3 true (v3.Promises.map TPromise.d)), (16, .arr 3 1 true (v3.Accepted.map (D.int .i64)))], 28⟩) (fun _ => True) (Nat.le_of_ble_eq_true rfl) ?_ (fun _ _ => ?_)
        · skip
          by_cases hgd : ¬ (v4 = (v3.Accepted.length : Int))
          · skip
            have eg10 := nth_mapI (D.int .i64) v3.Accepted v4 (k1 hgd)
            refine .rg Try.S [2, 3, 6, 9] ?_
            refine .rnx 6 eg10 ?_
            refine .rnx 8 eg10 ?_
            refine .nil ⟨nofun, ?_⟩
            refine ⟨(), ?_, trivial⟩
            exact .m [2, 3, 6, 9, 52] [0, 1, 14, 15, 16] []
          · skip
            have hgf1 : (!(v4 == (v3.Accepted.length : Int))) = false := by first | simpa using hgd | (simp at hgd ⊢; omega) | grind
            have hgf1t : (v4 == (v3.Accepted.length : Int)) = true := by simpa using hgf1
            rcases nth_or (D.int .i64) v3.Accepted v4.toNat with eg10 | eg10
            · skip
              refine .rg Try.S [2, 3, 6, 9] ?_
              refine .rnx 6 (And.intro eg10 (And.intro hgf1 hgf1t)) ?_
              refine .rnx 8 (And.intro eg10 (And.intro hgf1 hgf1t)) ?_
              refine .nil ⟨nofun, ?_⟩
              refine ⟨(), ?_, trivial⟩
              exact .mx (And.intro hgf1 hgf1t) [2, 3, 6, 9, 52] [0, 1, 14, 15, 16] []
            · skip
              refine .rg Try.S [2, 3, 6, 9] ?_
              refine .rnx 6 (And.intro eg10 (And.intro hgf1 hgf1t)) ?_
              refine .rnx 8 (And.intro eg10 (And.intro hgf1 hgf1t)) ?_
              refine .nil ⟨nofun, ?_⟩
              refine ⟨(), ?_, trivial⟩
              exact .mx (And.intro hgf1 hgf1t) [2, 3, 6, 9, 52] [0, 1, 14, 15, 16] []
        refine .cond rfl rfl (fun hc3 => ?_) (fun hc3 => ?_)
        · skip
          replace hx1 := ite_lc hx1 hc3
          obtain ⟨k2, hx1⟩ := ite_ck hx1
          obtain ⟨k3, hx1⟩ := ite_ck hx1
          refine .rg Try.S [2, 3, 6, 9] ?_
          refine .rn 5 ?_
          refine .hcall (r := .ref 29 1 0 (((v3.Accepted.take v4.toNat) ++ (node :: (v3.Accepted.drop v4.toNat))).length) (some unkC)) rfl rfl rfl rfl rfl (insT92 16 28 29 (by decide) (by decide) (by decide) v3.Accepted node v4 k2 k3) (fun id b h => getL_pick [16, 28] _ id b h) (by simp) (.inr ⟨Nat.le_refl _, Nat.le_of_ble_eq_true rfl⟩) ?_
          refine .rn 2 ?_
          refine .nil ⟨nofun, ?_⟩
          refine ⟨_, ?_, (Option.some.inj hx1).symm⟩
          exact .m [3, 6] [0, 1, 14, 15, 29] [(14, 28), (15, 29), (29, 30)]
        · skip
          replace hx1 := ite_rc hx1 hc3
          refine .skip ?_
          refine ⟨_, ?_, (Option.some.inj hx1).symm⟩
          exact .m [3, 6] [0, 1, 14, 15, 16] [(14, 28), (15, 29), (16, 30)]
      · skip
        rintro l1 hj1
        subst x1
        try dsimp only at h
        simp only [Try.St_attempt_Accepted_1]
        obtain ⟨x2, hx2, h⟩ := bind_some h
        refine .seqM 31 (fun (j : Int) => Try.St_attempt_Accepted_3 v3 l1 j) (fun j => x2 = j) (Nat.le_of_ble_eq_true rfl) ?_ ?_
        · skip
          refine .seq ?_
          obtain ⟨v5, hv5, hx2⟩ := bind_some hx2
          refine .rg Try.S [3, 6] ?_
          refine .rn 4 ?_
          refine .lcall (r := .bool v5) [] rfl rfl rfl rfl rfl (lend2s_cons (lend2_of (lend_ref (pl_int .i64) (by first | rfl | (simp only [go_sem, Nat.reduceBEq]; rfl)) (by first | rfl | (simp; done) | (simp <;> omega))) trivial) (lend2s_cons (lend2_of (lend_ref (pl_int .i64) (by first | rfl | (simp only [go_sem, Nat.reduceBEq]; rfl)) (by first | rfl | (simp; done) | (simp <;> omega))) trivial) lend2s_nil)) rfl (callP_attempt_most v3.Members l1 v5 hv5) ?_
          refine .nil ⟨nofun, ?_⟩
          refine .cond rfl rfl (fun hc4 => ?_) (fun hc4 => ?_)
          · skip
            replace hx2 := ite_lc hx2 hc4
            refine .pl Try.S [3, 6] ?_
            refine ⟨_, ?_, (Option.some.inj hx2).symm⟩
            exact .m [3, 6] [0, 1, 28, 29, 30] [(28, 31), (29, 32), (30, 33)]
          · skip
            replace hx2 := ite_rc hx2 hc4
            refine .skip ?_
            refine ⟨_, ?_, (Option.some.inj hx2).symm⟩
            exact .m [3, 6] [0, 1, 28, 29, 30] [(28, 31), (29, 32), (30, 33)]
        · skip
          rintro n1 hj2
          subst x2
          try dsimp only at h
          simp only [Try.St_attempt_Accepted_3]
          refine .seq ?_
          refine .pl Try.S [3, 6] ?_
          have hq := Option.some.inj h
          subst r
          refine .ret ⟨Try.Re_attempt_Accepted ((⟨n1, v3.Ballot, v3.Members, v3.Wish, v3.Value, v3.Promises, l1⟩ : TAttempt), 0), ?_, .inr rfl, retH [2, 1, 0] ?_ ?_⟩
          · skip
            exact .m [6, 7] [31, 32, 33, 1] [(31, 0), (32, 1), (33, 2), (1, 3)]
          · exact rsi0
          · rfl

end Go.Proofs
end
section
/- Models of functions, printed by gw.py. -/








namespace Go.Proofs
open Go.Tm
set_option linter.unusedVariables false

def m_towncrierlaw08_turn_loop1 : Nat → (List Int) → Int → Option ((List Int))
  | 0, _, _ => none
  | fu1 + 1, l2, n1 =>
    if n1 < (l2.length : Int) then
    if (0 ≤ n1 ∧ n1 < (l2.length : Int)) then
    m_towncrierlaw08_turn_loop1 fu1 (l2.set n1.toNat 77) (wr .i64 (n1 + 1))
    else none
    else
    some l2
def m_towncrierlaw08_turn_loop2 : Nat → (List TPromise) → Int → Option ((List TPromise))
  | 0, _, _ => none
  | fu2 + 1, l4, n2 =>
    if n2 < (l4.length : Int) then
    if (0 ≤ n2 ∧ n2 < (l4.length : Int)) then
    m_towncrierlaw08_turn_loop2 fu2 (l4.set n2.toNat (⟨77, (l4.getD n2.toNat default).Ballot, (l4.getD n2.toNat default).Value⟩ : TPromise)) (wr .i64 (n2 + 1))
    else none
    else
    some l4
def m_towncrierlaw08_turn_loop3 : Nat → (List Int) → Int → Option (Unit)
  | 0, _, _ => none
  | fu3 + 1, l5, n3 =>
    if n3 < (l5.length : Int) then
    if (0 ≤ n3 ∧ n3 < (l5.length : Int)) then
    m_towncrierlaw08_turn_loop3 fu3 (l5.set n3.toNat 77) (wr .i64 (n3 + 1))
    else none
    else
    some ()
def m_towncrierlaw08_turn (a0 : TAttempt) : Option Unit :=
  Option.bind (α := (List Int)) (m_towncrierlaw08_turn_loop1 (a0.Members.length + 1) a0.Members 0) fun l1 =>
  Option.bind (α := (List TPromise)) (m_towncrierlaw08_turn_loop2 (a0.Promises.length + 1) a0.Promises 0) fun l3 =>
  m_towncrierlaw08_turn_loop3 (a0.Accepted.length + 1) a0.Accepted 0

def m_towncrierlaw08_AttemptTakes (a0 : TAttempt) (a1 : TAttempt) (a2 : Int) (a3 : TPromise) (a4 : Int) : Option Bool :=
  Option.bind (m_towncrierref08_Great a0) fun v1 =>
  Option.bind (if ¬ (v1 = true) then m_towncrierref08_Great a1 else some default) fun v2 =>
  if ((v1 = true) ∨ (v2 = true)) ∨ ((a3.Value.length : Int) > 5000) then
  some true
  else
  Option.bind (m_towncrierref08_Twin a0) fun v3 =>
  Option.bind (m_attempt_Promised v3 a2 a3) fun v4 =>
  Option.bind (m_towncrierref08_Promised a0 a2 a3) fun v5 =>
  Option.bind (m_attempt_Accepted v3 a2 a4) fun v6 =>
  Option.bind (m_towncrierref08_Accepted a0 a2 a4) fun v7 =>
  Option.bind (m_attempt_Twin v3) fun v8 =>
  Option.bind (m_towncrierref08_Same v4.1 v5.1) fun v9 =>
  Option.bind (if ¬ ((¬ (v9 = true)) ∨ (¬ (v4.2 = v5.2))) then m_towncrierref08_Same v6.1 v7.1 else some default) fun v10 =>
  Option.bind (if ¬ ((((¬ (v9 = true)) ∨ (¬ (v4.2 = v5.2))) ∨ (¬ (v10 = true))) ∨ (¬ (v6.2 = v7.2))) then m_towncrierref08_Same v8 a0 else some default) fun v11 =>
  Option.bind (if ¬ (((((¬ (v9 = true)) ∨ (¬ (v4.2 = v5.2))) ∨ (¬ (v10 = true))) ∨ (¬ (v6.2 = v7.2))) ∨ (¬ (v11 = true))) then m_attempt_Check v3 else some default) fun v12 =>
  Option.bind (if ¬ (((((¬ (v9 = true)) ∨ (¬ (v4.2 = v5.2))) ∨ (¬ (v10 = true))) ∨ (¬ (v6.2 = v7.2))) ∨ (¬ (v11 = true))) then m_towncrierref08_May a0 else some default) fun v13 =>
  Option.bind (if ¬ ((((((¬ (v9 = true)) ∨ (¬ (v4.2 = v5.2))) ∨ (¬ (v10 = true))) ∨ (¬ (v6.2 = v7.2))) ∨ (¬ (v11 = true))) ∨ ((!((v12 == 0) == v13)) = true)) then m_attempt_Same v3 a1 else some default) fun v14 =>
  Option.bind (if ¬ ((((((¬ (v9 = true)) ∨ (¬ (v4.2 = v5.2))) ∨ (¬ (v10 = true))) ∨ (¬ (v6.2 = v7.2))) ∨ (¬ (v11 = true))) ∨ ((!((v12 == 0) == v13)) = true)) then m_towncrierref08_Same a0 a1 else some default) fun v15 =>
  if ((((((¬ (v9 = true)) ∨ (¬ (v4.2 = v5.2))) ∨ (¬ (v10 = true))) ∨ (¬ (v6.2 = v7.2))) ∨ (¬ (v11 = true))) ∨ ((!((v12 == 0) == v13)) = true)) ∨ ((!(v14 == v15)) = true) then
  some false
  else
  Option.bind (m_towncrierlaw08_turn v4.1) fun v16 =>
  Option.bind (m_towncrierlaw08_turn v6.1) fun v17 =>
  Option.bind (m_towncrierlaw08_turn v8) fun v18 =>
  Option.bind (m_towncrierref08_Same v3 a0) fun v19 =>
  some v19
end Go.Proofs
end
section
/- The walks of functions, printed by gw.py. -/










namespace Go.Proofs
open Go.Tm Go.RowKit Go.WideShapes
set_option maxRecDepth 100000
set_option maxHeartbeats 4000000
set_option linter.unusedSimpArgs false
set_option linter.unusedVariables false
attribute [local go_sem] argVars runE runK isCallV stepE aop opd opdsL opds opdO ev ofVal keep List.any natbeq Bool.false_or Bool.true_or aggEq cond_true cond_false Bool.cond_false_right Bool.cond_true_left beq_true beq_false imp_self implies_true getR getL put St.app effL del nwB blt_dec Nat.lt_irrefl Nat.lt_add_one ble_dec Nat.le_refl Nat.beq_refl roomNZ appendIn capS capK mkZ_zero mkZL_zero zeroEl D.ids D.idsL Option.getD bin arith sarith binT dpick Tm.part splice fillD oneD loadD storeD srcD sliceD idxOk decide_true gval dstAt D.cells List.map_cons List.map_nil List.take List.drop List.length_map List.append Int.toNat_natCast and_true true_and decide_false List.length_cons List.length_nil List.append_nil List.nil_append Bool.and_true Bool.true_and Bool.not_false Bool.not_true ne_eq not_false_eq_true BEq.rfl List.getElem?_cons_zero List.getElem?_cons_succ List.getElem?_nil Nat.zero_add List.all_cons List.all_nil List.isEmpty_cons List.isEmpty_nil List.any_cons List.any_nil List.drop_succ_cons List.drop_zero unfL unf okM okML low3 List.cons_append true_or or_true Nat.zero_mul Nat.zero_le setEl List.length_set bytesD_map map_ub mkZ_one mkZL_one mkM mkML mk1_int mk1_str mk1_bool drop_map take_map take_map_len List.take_length Int.toNat_zero toNat_pred fpOf metIds opIds mvV mvH mvF pickL D.ren D.renL Blk.ren List.map_append List.length_append Bool.not_not Bool.or_not_self Bool.not_or_self Bool.or_true
attribute [local go_sem] Try.tm_1 Try.tm_2 Try.tm_3 Try.tm_4 Try.tm_5 Try.tm_6 Try.tm_7 Try.tm_8 Try.tm_9 Try.tm_10 Try.tm_11 Try.tm_12 Try.tm_13 Try.tm_14 Try.tm_15 Try.tm_16 Try.tm_17 Try.tm_18 Try.tm_19 Try.tm_20 Try.tm_21 Try.tm_22 Try.tm_23 Try.tm_24 Try.tm_25 Try.tm_26 Try.tm_27 Try.tm_28 Try.tm_29 Try.tm_30 Try.tm_32 Try.tm_34 Try.tm_35 Try.tm_36 Try.tm_37 Try.tm_38 Try.tm_39 Try.tm_40 Try.tm_41 Try.tm_42 Try.tm_43 Try.tm_44 Try.tm_45 Try.tm_46 Try.tm_47 Try.tm_48 Try.tm_50 Try.tm_51 Try.tm_52 Try.tm_53 Try.tm_54 Try.tm_55 Try.tm_57 Try.tm_58 Try.tm_59 Try.tm_61 Try.tm_63 Try.tm_64 Try.tm_65 Try.tm_66 Try.tm_67 Try.tm_68 Try.tm_69 Try.tm_70 Try.tm_71 Try.tm_73 Try.tm_75 Try.tm_76 Try.tm_78 Try.tm_79 Try.tm_80 Try.tm_81 Try.tm_82 Try.tm_83 Try.tm_84 Try.tm_85 Try.tm_86 Try.tm_87 Try.tm_88 Try.tm_89 Try.tm_90 Try.tm_91 Try.tm_93 Try.tm_94 Try.tm_95 Try.tm_96 Try.tm_97 Try.tm_98 Try.tm_99 Try.tm_100 Try.tm_101 Try.tm_102 Try.tm_103 Try.tm_104 Try.tm_105 Try.tm_106 Try.tm_107 Try.tm_109 Try.tm_111 Try.tm_113 Try.tm_114 Try.tm_115 Try.tm_116 Try.tm_117 Try.tm_118 Try.tm_119 Try.tm_120 Try.tm_121 Try.tm_123 Try.tm_124 Try.tm_125 Try.tm_127 Try.tm_128 Try.tm_129 Try.tm_130 Try.tm_131 Try.tm_132 Try.tm_133 Try.tm_134 Try.tm_135 Try.tm_136 Try.tm_137 Try.tm_138 Try.tm_139 Try.tm_140 Try.tm_141 Try.tm_142 Try.tm_143 Try.tm_144 Try.tm_145 Try.tm_146 Try.tm_147 Try.tm_149 Try.tm_150 Try.tm_151 Try.tm_152 Try.tm_153 Try.tm_154 Try.tm_155 Try.tm_156 Try.tm_157 Try.tm_158 Try.tm_159 Try.tm_160 Try.tm_162 Try.tm_163 Try.tm_164 Try.tm_165 Try.tm_166 Try.tm_167 Try.tm_168 Try.tm_169 Try.tm_170 Try.tm_171 Try.tm_172 Try.tm_173 Try.tm_175 Try.tm_177 Try.tm_178 Try.tm_179 Try.tm_180 Try.tm_181 Try.tm_182 Try.tm_184 Try.tm_185 Try.tm_187 Try.tm_189 Try.tm_191 Try.tm_192 Try.tm_193 Try.tm_194 Try.tm_195 Try.tm_196 Try.tm_197 Try.tm_198 Try.tm_199 Try.tm_200 Try.tm_201 Try.tm_202 Try.tm_203 Try.tm_204 Try.tm_205 Try.tm_206 Try.tm_207 Try.tm_208 Try.tm_209 Try.tm_210 Try.tm_211 Try.tm_212 Try.tm_213 Try.tm_214 Try.tm_215 Try.tm_216 Try.tm_217 Try.tm_218 Try.tm_219 Try.tm_220 Try.tm_221 Try.tm_223 Try.tm_224 Try.tm_225 Try.tm_226 Try.tm_227 Try.tm_229 Try.tm_230 Try.tm_231 Try.tm_232 Try.tm_233 Try.tm_235 Try.tm_236 Try.tm_237 Try.tm_238 Try.tm_239 Try.tm_240 Try.tm_241 Try.tm_242 Try.tm_243 Try.tm_244 Try.tm_245 Try.tm_246 Try.tm_247 Try.tm_248 Try.tm_249 Try.tm_250 Try.tm_251 Try.tm_252 Try.tm_253 Try.tm_254 Try.tm_255 Try.tm_256 Try.tm_257 Try.tm_258 Try.tm_259 Try.tm_260 Try.tm_262 Try.tm_263 Try.tm_264 Try.tm_265 Try.tm_266 Try.tm_267 Try.tm_269 Try.tm_270 Try.tm_271 Try.tm_272 Try.tm_273 Try.tm_274 Try.tm_275 Try.tm_276 Try.tm_277 Try.tm_278 Try.tm_280 Try.tm_281 Try.tm_282 Try.tm_283 Try.tm_284 Try.tm_286 Try.tm_288 Try.tm_289 Try.tm_290 Try.tm_291 Try.tm_292 Try.tm_294 Try.tm_296 Try.tm_297 Try.tm_298 Try.tm_299 Try.tm_300 Try.tm_302 Try.tm_303 Try.tm_304 Try.tm_305 Try.tm_306 Try.tm_307 Try.tm_308 Try.tm_309 Try.tm_310 Try.tm_311 Try.tm_312 Try.tm_313 Try.tm_314 Try.tm_315 Try.tm_316 Try.tm_317 Try.tm_318 Try.tm_319 Try.tm_320 Try.tm_321 Try.tm_322 Try.tm_324 Try.tm_325 Try.tm_326 Try.tm_327 Try.tm_330 Try.tm_331 Try.tm_332 Try.tm_333 Try.tm_334 Try.tm_335 Try.tm_336 Try.tm_337 TPromise.d TAttempt.d TAttempt.n dL_str nL_str TVote.d TSeen.d TStable.d TStable.n TRecord.d TMessage.d TMessage.n TWait.d TWait.n TStamp.d TSkeen.d TSkeen.n TCommand.d TCommand.n mk1_TPromise mk1_TAttempt mk1_dL_str mk1_TVote mk1_TSeen mk1_TStable mk1_TRecord mk1_TMessage mk1_TWait mk1_TStamp mk1_TSkeen mk1_TCommand Try.f25 Try.f3

def Try.St_towncrierlaw08_turn_1 (a0 : TAttempt) (l1 : List Int) : St := ⟨[(1, .ptr 20100 0)], [(20100, .box [.int .u8 a0.Phase, .int .i64 a0.Ballot, .ref 20101 1 0 l1.length (some unkC), .str a0.Wish, .str a0.Value, .ref 20102 3 0 a0.Promises.length (some unkC), .ref 20103 1 0 a0.Accepted.length (some unkC)]), (20101, .arr 3 1 true (l1.map (D.int .i64))), (20102, .arr 27 3 true (a0.Promises.map TPromise.d)), (20103, .arr 3 1 true (a0.Accepted.map (D.int .i64)))], 20104⟩
attribute [local go_sem] Try.St_towncrierlaw08_turn_1
def Try.St_towncrierlaw08_turn_3 (a0 : TAttempt) (l2 : List Int) (n1 : Int) : St := ⟨[(1, .ptr 20100 0), (2, .int .i64 n1)], [(20100, .box [.int .u8 a0.Phase, .int .i64 a0.Ballot, .ref 20101 1 0 l2.length (some unkC), .str a0.Wish, .str a0.Value, .ref 20102 3 0 a0.Promises.length (some unkC), .ref 20103 1 0 a0.Accepted.length (some unkC)]), (20101, .arr 3 1 true (l2.map (D.int .i64))), (20102, .arr 27 3 true (a0.Promises.map TPromise.d)), (20103, .arr 3 1 true (a0.Accepted.map (D.int .i64)))], 20104⟩
attribute [local go_sem] Try.St_towncrierlaw08_turn_3
def Try.St_towncrierlaw08_turn_5 (a0 : TAttempt) (l1 : List Int) (l3 : List TPromise) : St := ⟨[(1, .ptr 20100 0)], [(20100, .box [.int .u8 a0.Phase, .int .i64 a0.Ballot, .ref 20104 1 0 l1.length (some unkC), .str a0.Wish, .str a0.Value, .ref 20105 3 0 l3.length (some unkC), .ref 20106 1 0 a0.Accepted.length (some unkC)]), (20104, .arr 3 1 true (l1.map (D.int .i64))), (20105, .arr 27 3 true (l3.map TPromise.d)), (20106, .arr 3 1 true (a0.Accepted.map (D.int .i64)))], 20107⟩
attribute [local go_sem] Try.St_towncrierlaw08_turn_5
def Try.St_towncrierlaw08_turn_7 (a0 : TAttempt) (l1 : List Int) (l4 : List TPromise) (n2 : Int) : St := ⟨[(1, .ptr 20100 0), (3, .int .i64 n2)], [(20100, .box [.int .u8 a0.Phase, .int .i64 a0.Ballot, .ref 20104 1 0 l1.length (some unkC), .str a0.Wish, .str a0.Value, .ref 20105 3 0 l4.length (some unkC), .ref 20106 1 0 a0.Accepted.length (some unkC)]), (20104, .arr 3 1 true (l1.map (D.int .i64))), (20105, .arr 27 3 true (l4.map TPromise.d)), (20106, .arr 3 1 true (a0.Accepted.map (D.int .i64)))], 20107⟩
attribute [local go_sem] Try.St_towncrierlaw08_turn_7
def Try.St_towncrierlaw08_turn_9 (a0 : TAttempt) (l1 : List Int) (l3 : List TPromise) (l5 : List Int) (n3 : Int) : St := ⟨[(1, .ptr 20100 0), (4, .int .i64 n3)], [(20100, .box [.int .u8 a0.Phase, .int .i64 a0.Ballot, .ref 20107 1 0 l1.length (some unkC), .str a0.Wish, .str a0.Value, .ref 20108 3 0 l3.length (some unkC), .ref 20109 1 0 l5.length (some unkC)]), (20107, .arr 3 1 true (l1.map (D.int .i64))), (20108, .arr 27 3 true (l3.map TPromise.d)), (20109, .arr 3 1 true (l5.map (D.int .i64)))], 20110⟩
attribute [local go_sem] Try.St_towncrierlaw08_turn_9
def Try.Re_towncrierlaw08_turn (r : Unit) : St := ⟨[], [], 20100⟩
attribute [local go_sem] Try.Re_towncrierlaw08_turn
theorem callH_towncrierlaw08_turn (a0 : TAttempt) (r : Unit) (h : m_towncrierlaw08_turn a0 = some r) : CallH Try.prog 25 [.agg [.int .u8 a0.Phase, .int .i64 a0.Ballot, .ref 20000 1 0 a0.Members.length (some unkC), .str a0.Wish, .str a0.Value, .ref 20001 3 0 a0.Promises.length (some unkC), .ref 20002 1 0 a0.Accepted.length (some unkC)]] [(20000, .arr 3 1 true (a0.Members.map (D.int .i64))), (20001, .arr 27 3 true (a0.Promises.map TPromise.d)), (20002, .arr 3 1 true (a0.Accepted.map (D.int .i64)))] (.tuple []) [(20000, none), (20001, none), (20002, none)] (20100, 20112) := by
  refine callH_intro' Try.tmOk Try.func25 rfl (by decide) (Nat.le_of_ble_eq_true rfl) (by simp) ?_
  intro hwf
  unfold m_towncrierlaw08_turn at h
  refine .ends 20100 (Nat.le_refl _) ?_
  refine .seq ?_
  refine .pl Try.S [0] ?_
  obtain ⟨x1, hx1, h⟩ := bind_some h
  refine .seqM 20101 (fun (j : (List Int)) => Try.St_towncrierlaw08_turn_1 a0 j) (fun j => x1 = j) (Nat.le_of_ble_eq_true rfl) ?_ ?_
  · skip
    refine .seq ?_
    refine .pl Try.S [1] ?_
    refine .block ?_
    refine .loopG 20101 (fun (j : Nat × (List Int) × Int) => Try.St_towncrierlaw08_turn_3 a0 j.2.1 j.2.2) (fun j => m_towncrierlaw08_turn_loop1 j.1 j.2.1 j.2.2 = some x1) (fun j => j.1) (a0.Members.length + 1, a0.Members, 0) (Nat.le_of_ble_eq_true rfl) ?_ hx1 ?_
    · skip
      exact .m [1, 2] [20100, 20000, 20001, 20002] [(20000, 20101), (20001, 20102), (20002, 20103)]
    rintro ⟨fu1, l2, n1⟩ hx1
    simp only [Try.St_towncrierlaw08_turn_3]
    try simp only at hx1
    obtain ⟨fu1, rfl⟩ : ∃ k, fu1 = k + 1 := by cases fu1 with | zero => (rw [m_towncrierlaw08_turn_loop1] at hx1; cases hx1) | succ k => exact ⟨k, rfl⟩
    rw [m_towncrierlaw08_turn_loop1] at hx1
    refine .seq ?_
    refine .seq ?_
    refine .pl Try.S [1, 2] ?_
    refine .cond rfl rfl (fun hc1 => ?_) (fun hc1 => ?_)
    · skip
      replace hx1 := ite_lc hx1 hc1
      refine .skip ?_
      refine .seq ?_
      refine .block ?_
      obtain ⟨k1, hx1⟩ := ite_ck hx1
      have e1 := nth_mapI (D.int .i64) l2 n1
      have es1 := setN_map (D.int .i64) l2 n1.toNat 77
      replace e1 := e1 k1
      replace es1 : setN (l2.map (D.int .i64)) n1.toNat (.int .i64 77) = (l2.set n1.toNat 77).map (D.int .i64) := es1
      refine .plx Try.S (And.intro e1 es1) [1, 2] ?_
      refine .pl Try.S [1, 2] ?_
      refine ⟨(fu1, _, _), ?_, hx1, by dsimp only; omega⟩
      exact .m [1, 2] [20100, 20101, 20102, 20103] []
    · skip
      replace hx1 := ite_rc hx1 hc1
      refine .exit ?_
      refine ⟨_, ?_, (Option.some.inj hx1).symm⟩
      exact .m [1] [20100, 20101, 20102, 20103] []
  · skip
    rintro l1 hj1
    subst x1
    try dsimp only at h
    simp only [Try.St_towncrierlaw08_turn_1]
    obtain ⟨x2, hx2, h⟩ := bind_some h
    refine .seqM 20104 (fun (j : (List TPromise)) => Try.St_towncrierlaw08_turn_5 a0 l1 j) (fun j => x2 = j) (Nat.le_of_ble_eq_true rfl) ?_ ?_
    · skip
      refine .seq ?_
      refine .pl Try.S [1] ?_
      refine .block ?_
      refine .loopG 20104 (fun (j : Nat × (List TPromise) × Int) => Try.St_towncrierlaw08_turn_7 a0 l1 j.2.1 j.2.2) (fun j => m_towncrierlaw08_turn_loop2 j.1 j.2.1 j.2.2 = some x2) (fun j => j.1) (a0.Promises.length + 1, a0.Promises, 0) (Nat.le_of_ble_eq_true rfl) ?_ hx2 ?_
      · skip
        exact .m [1, 3] [20100, 20101, 20102, 20103] [(20101, 20104), (20102, 20105), (20103, 20106)]
      rintro ⟨fu2, l4, n2⟩ hx2
      simp only [Try.St_towncrierlaw08_turn_7]
      try simp only at hx2
      obtain ⟨fu2, rfl⟩ : ∃ k, fu2 = k + 1 := by cases fu2 with | zero => (rw [m_towncrierlaw08_turn_loop2] at hx2; cases hx2) | succ k => exact ⟨k, rfl⟩
      rw [m_towncrierlaw08_turn_loop2] at hx2
      refine .seq ?_
      refine .seq ?_
      refine .pl Try.S [1, 3] ?_
      refine .cond rfl rfl (fun hc2 => ?_) (fun hc2 => ?_)
      · skip
        replace hx2 := ite_lc hx2 hc2
        refine .skip ?_
        refine .seq ?_
        refine .block ?_
        obtain ⟨k2, hx2⟩ := ite_ck hx2
        have e2 := nth_mapI TPromise.d l4 n2
        have es2 := setN_map TPromise.d l4 n2.toNat (⟨77, (l4.getD n2.toNat default).Ballot, (l4.getD n2.toNat default).Value⟩ : TPromise)
        replace e2 := e2 k2
        replace es2 : setN (l4.map TPromise.d) n2.toNat (.agg [.int .i64 77, .int .i64 ((l4.getD n2.toNat default).Ballot), .str ((l4.getD n2.toNat default).Value)]) = (l4.set n2.toNat (⟨77, (l4.getD n2.toNat default).Ballot, (l4.getD n2.toNat default).Value⟩ : TPromise)).map TPromise.d := es2
        refine .plx Try.S (And.intro e2 es2) [1, 3] ?_
        refine .pl Try.S [1, 3] ?_
        refine ⟨(fu2, _, _), ?_, hx2, by dsimp only; omega⟩
        exact .m [1, 3] [20100, 20104, 20105, 20106] []
      · skip
        replace hx2 := ite_rc hx2 hc2
        refine .exit ?_
        refine ⟨_, ?_, (Option.some.inj hx2).symm⟩
        exact .m [1] [20100, 20104, 20105, 20106] []
    · skip
      rintro l3 hj2
      subst x2
      try dsimp only at h
      simp only [Try.St_towncrierlaw08_turn_5]
      refine .seq ?_
      refine .pl Try.S [1] ?_
      refine .block ?_
      refine .loopG 20107 (fun (j : Nat × (List Int) × Int) => Try.St_towncrierlaw08_turn_9 a0 l1 l3 j.2.1 j.2.2) (fun j => m_towncrierlaw08_turn_loop3 j.1 j.2.1 j.2.2 = some r) (fun j => j.1) (a0.Accepted.length + 1, a0.Accepted, 0) (Nat.le_of_ble_eq_true rfl) ?_ h ?_
      · skip
        exact .m [1, 4] [20100, 20104, 20105, 20106] [(20104, 20107), (20105, 20108), (20106, 20109)]
      rintro ⟨fu3, l5, n3⟩ h
      simp only [Try.St_towncrierlaw08_turn_9]
      try simp only at h
      obtain ⟨fu3, rfl⟩ : ∃ k, fu3 = k + 1 := by cases fu3 with | zero => (rw [m_towncrierlaw08_turn_loop3] at h; cases h) | succ k => exact ⟨k, rfl⟩
      rw [m_towncrierlaw08_turn_loop3] at h
      refine .seq ?_
      refine .seq ?_
      refine .pl Try.S [1, 4] ?_
      refine .cond rfl rfl (fun hc3 => ?_) (fun hc3 => ?_)
      · skip
        replace h := ite_lc h hc3
        refine .skip ?_
        refine .seq ?_
        refine .block ?_
        obtain ⟨k3, h⟩ := ite_ck h
        have e3 := nth_mapI (D.int .i64) l5 n3
        have es3 := setN_map (D.int .i64) l5 n3.toNat 77
        replace e3 := e3 k3
        replace es3 : setN (l5.map (D.int .i64)) n3.toNat (.int .i64 77) = (l5.set n3.toNat 77).map (D.int .i64) := es3
        refine .plx Try.S (And.intro e3 es3) [1, 4] ?_
        refine .pl Try.S [1, 4] ?_
        refine ⟨(fu3, _, _), ?_, h, by dsimp only; omega⟩
        exact .m [1, 4] [20100, 20107, 20108, 20109] []
      · skip
        replace h := ite_rc h hc3
        refine .exit ?_
        have hq := Option.some.inj h
        subst r
        refine ⟨Try.Re_towncrierlaw08_turn (), ?_, .inl rfl, retH [] ?_ ?_⟩
        · skip
          exact .m [] [] []
        · exact rsi0
        · rfl


theorem callP_towncrierlaw08_AttemptTakes (a0 : TAttempt) (a1 : TAttempt) (a2 : Int) (a3 : TPromise) (a4 : Int) (r : Bool) (h : m_towncrierlaw08_AttemptTakes a0 a1 a2 a3 a4 = some r) : CallP Try.prog 3 [.agg [.int .u8 a0.Phase, .int .i64 a0.Ballot, .imm 1 (a0.Members.map (D.int .i64)) 4, .str a0.Wish, .str a0.Value, .imm 3 (a0.Promises.map TPromise.d) 4, .imm 1 (a0.Accepted.map (D.int .i64)) 4], .agg [.int .u8 a1.Phase, .int .i64 a1.Ballot, .imm 1 (a1.Members.map (D.int .i64)) 4, .str a1.Wish, .str a1.Value, .imm 3 (a1.Promises.map TPromise.d) 4, .imm 1 (a1.Accepted.map (D.int .i64)) 4], .int .i64 a2, .agg [.int .i64 a3.Node, .int .i64 a3.Ballot, .str a3.Value], .int .i64 a4] (.bool r) := by
  refine callP_intro Try.tmOk 234 Try.func3 rfl (by decide) rfl rfl (Nat.le_of_ble_eq_true rfl) ?_
  intro hwf
  unfold m_towncrierlaw08_AttemptTakes at h
  refine .seq ?_
  refine .pl Try.S [0, 1, 2, 3, 4] ?_
  refine .seq ?_
  refine .seq ?_
  obtain ⟨v1, hv1, h⟩ := bind_some h
  obtain ⟨v2, hv2, h⟩ := bind_some h
  refine .rg Try.S [2, 4, 5, 6, 8] ?_
  refine .rn 1 ?_
  refine .call (r := .bool v1) rfl rfl rfl rfl rfl rfl (callP_towncrierref08_Great a0 v1 hv1) ?_
  refine .rn 2 ?_
  refine .gcall (r := .bool v2) rfl rfl rfl rfl rfl (fun hg => ⟨[], [.agg [.int .u8 a1.Phase, .int .i64 a1.Ballot, .imm 1 (a1.Members.map (D.int .i64)) 4, .str a1.Wish, .str a1.Value, .imm 3 (a1.Promises.map TPromise.d) 4, .imm 1 (a1.Accepted.map (D.int .i64)) 4]], _, rfl, gd hg, rfl, (callP_towncrierref08_Great a1 v2 (ite_lc hv2 hg))⟩) ?_
  refine .rn 7 ?_
  refine .nil ⟨nofun, ?_⟩
  refine .cond rfl rfl (fun hc1 => ?_) (fun hc1 => ?_)
  · skip
    replace h := ite_lc h hc1
    refine .seq ?_
    refine .pl Try.S [] ?_
    have hq := Option.some.inj h
    subst r
    exact .ret ⟨.inr rfl, rsi⟩
  · skip
    replace h := ite_rc h hc1
    refine .skip ?_
    refine .seq ?_
    obtain ⟨v3, hv3, h⟩ := bind_some h
    refine .rg Try.S [2, 4, 5, 6, 8] ?_
    refine .rn 1 ?_
    refine .ncall (r := .agg [.int .u8 v3.Phase, .int .i64 v3.Ballot, .ref 8 1 0 v3.Members.length (some unkC), .str v3.Wish, .str v3.Value, .ref 9 3 0 v3.Promises.length (some unkC), .ref 10 1 0 v3.Accepted.length (some unkC)]) (eff := [(8, some (.arr 3 1 true (v3.Members.map (D.int .i64)))), (9, some (.arr 27 3 true (v3.Promises.map TPromise.d))), (10, some (.arr 3 1 true (v3.Accepted.map (D.int .i64))))]) (nw := (8, 16)) [] rfl rfl rfl rfl rfl (lend2s_cons rfl lend2s_nil) rfl (callH_at 8 (Nat.le_of_ble_eq_true rfl) (callH_towncrierref08_Twin a0 v3 hv3)) (newE_cons rfl rfl (newB_arr pl0_i64 _ _ _) (newE_cons rfl rfl (newB_arr pl0_TPromise _ _ _) (newE_cons rfl rfl (newB_arr pl0_i64 _ _ _) newE_nil))) (by intro i hi; simp [D.ids, D.idsL] at hi; omega) rfl ⟨Nat.le_of_ble_eq_true rfl, Nat.le_of_ble_eq_true rfl⟩ ?_
    refine .rn 2 ?_
    refine .nil ⟨nofun, ?_⟩
    refine .seq ?_
    obtain ⟨v4, hv4, h⟩ := bind_some h
    refine .rg Try.S [2, 4, 5, 6, 8, 11] ?_
    refine .rn 3 ?_
    refine .ncall (r := .tuple [.agg [.int .u8 v4.1.Phase, .int .i64 v4.1.Ballot, .ref 38 1 0 v4.1.Members.length (some unkC), .str v4.1.Wish, .str v4.1.Value, .ref 39 3 0 v4.1.Promises.length (some unkC), .ref 40 1 0 v4.1.Accepted.length (some unkC)], .int .i64 v4.2]) (eff := [(38, some (.arr 3 1 true (v4.1.Members.map (D.int .i64)))), (39, some (.arr 27 3 true (v4.1.Promises.map TPromise.d))), (40, some (.arr 3 1 true (v4.1.Accepted.map (D.int .i64))))]) (nw := (38, 76)) [] rfl rfl rfl rfl rfl (lend2s_cons (lend2_of (lend_agg (lends_cons rfl (lends_cons rfl (lends_cons (lend_ref (pl_int .i64) (by first | rfl | (simp only [go_sem, Nat.reduceBEq]; rfl)) (by first | rfl | (simp; done) | (simp <;> omega))) (lends_cons rfl (lends_cons rfl (lends_cons (lend_ref pl_TPromise (by first | rfl | (simp only [go_sem, Nat.reduceBEq]; rfl)) (by first | rfl | (simp; done) | (simp <;> omega))) (lends_cons (lend_ref (pl_int .i64) (by first | rfl | (simp only [go_sem, Nat.reduceBEq]; rfl)) (by first | rfl | (simp; done) | (simp <;> omega))) lends_nil)))))))) trivial) (lend2s_cons rfl (lend2s_cons rfl lend2s_nil))) rfl (callH_at 38 (Nat.le_of_ble_eq_true rfl) (callH_attempt_Promised v3 a2 a3 v4 hv4)) (newE_cons rfl rfl (newB_arr pl0_i64 _ _ _) (newE_cons rfl rfl (newB_arr pl0_TPromise _ _ _) (newE_cons rfl rfl (newB_arr pl0_i64 _ _ _) newE_nil))) (by intro i hi; simp [D.ids, D.idsL] at hi; omega) rfl ⟨Nat.le_of_ble_eq_true rfl, Nat.le_of_ble_eq_true rfl⟩ ?_
    refine .rn 6 ?_
    refine .nil ⟨nofun, ?_⟩
    refine .seq ?_
    obtain ⟨v5, hv5, h⟩ := bind_some h
    refine .rg Try.S [2, 4, 5, 6, 8, 11, 12, 13] ?_
    refine .rn 3 ?_
    refine .ncall (r := .tuple [.agg [.int .u8 v5.1.Phase, .int .i64 v5.1.Ballot, .ref 77 1 0 v5.1.Members.length (some unkC), .str v5.1.Wish, .str v5.1.Value, .ref 78 3 0 v5.1.Promises.length (some unkC), .ref 79 1 0 v5.1.Accepted.length (some unkC)], .int .i64 v5.2]) (eff := [(77, some (.arr 3 1 true (v5.1.Members.map (D.int .i64)))), (78, some (.arr 27 3 true (v5.1.Promises.map TPromise.d))), (79, some (.arr 3 1 true (v5.1.Accepted.map (D.int .i64))))]) (nw := (77, 113)) [] rfl rfl rfl rfl rfl (lend2s_cons rfl (lend2s_cons rfl (lend2s_cons rfl lend2s_nil))) rfl (callH_at 77 (Nat.le_of_ble_eq_true rfl) (callH_towncrierref08_Promised a0 a2 a3 v5 hv5)) (newE_cons rfl rfl (newB_arr pl0_i64 _ _ _) (newE_cons rfl rfl (newB_arr pl0_TPromise _ _ _) (newE_cons rfl rfl (newB_arr pl0_i64 _ _ _) newE_nil))) (by intro i hi; simp [D.ids, D.idsL] at hi; omega) rfl ⟨Nat.le_of_ble_eq_true rfl, Nat.le_of_ble_eq_true rfl⟩ ?_
    refine .rn 6 ?_
    refine .nil ⟨nofun, ?_⟩
    refine .seq ?_
    obtain ⟨v6, hv6, h⟩ := bind_some h
    refine .rg Try.S [2, 4, 5, 6, 11, 12, 13, 14, 15] ?_
    refine .rn 3 ?_
    refine .ncall (r := .tuple [.agg [.int .u8 v6.1.Phase, .int .i64 v6.1.Ballot, .ref 114 1 0 v6.1.Members.length (some unkC), .str v6.1.Wish, .str v6.1.Value, .ref 115 3 0 v6.1.Promises.length (some unkC), .ref 116 1 0 v6.1.Accepted.length (some unkC)], .int .i64 v6.2]) (eff := [(114, some (.arr 3 1 true (v6.1.Members.map (D.int .i64)))), (115, some (.arr 27 3 true (v6.1.Promises.map TPromise.d))), (116, some (.arr 3 1 true (v6.1.Accepted.map (D.int .i64))))]) (nw := (114, 150)) [] rfl rfl rfl rfl rfl (lend2s_cons (lend2_of (lend_agg (lends_cons rfl (lends_cons rfl (lends_cons (lend_ref (pl_int .i64) (by first | rfl | (simp only [go_sem, Nat.reduceBEq]; rfl)) (by first | rfl | (simp; done) | (simp <;> omega))) (lends_cons rfl (lends_cons rfl (lends_cons (lend_ref pl_TPromise (by first | rfl | (simp only [go_sem, Nat.reduceBEq]; rfl)) (by first | rfl | (simp; done) | (simp <;> omega))) (lends_cons (lend_ref (pl_int .i64) (by first | rfl | (simp only [go_sem, Nat.reduceBEq]; rfl)) (by first | rfl | (simp; done) | (simp <;> omega))) lends_nil)))))))) trivial) (lend2s_cons rfl (lend2s_cons rfl lend2s_nil))) rfl (callH_at 114 (Nat.le_of_ble_eq_true rfl) (callH_attempt_Accepted v3 a2 a4 v6 hv6)) (newE_cons rfl rfl (newB_arr pl0_i64 _ _ _) (newE_cons rfl rfl (newB_arr pl0_TPromise _ _ _) (newE_cons rfl rfl (newB_arr pl0_i64 _ _ _) newE_nil))) (by intro i hi; simp [D.ids, D.idsL] at hi; omega) rfl ⟨Nat.le_of_ble_eq_true rfl, Nat.le_of_ble_eq_true rfl⟩ ?_
    refine .rn 6 ?_
    refine .nil ⟨nofun, ?_⟩
    refine .seq ?_
    obtain ⟨v7, hv7, h⟩ := bind_some h
    refine .rg Try.S [2, 4, 5, 6, 11, 12, 13, 14, 15, 16, 17] ?_
    refine .rn 3 ?_
    refine .ncall (r := .tuple [.agg [.int .u8 v7.1.Phase, .int .i64 v7.1.Ballot, .ref 151 1 0 v7.1.Members.length (some unkC), .str v7.1.Wish, .str v7.1.Value, .ref 152 3 0 v7.1.Promises.length (some unkC), .ref 153 1 0 v7.1.Accepted.length (some unkC)], .int .i64 v7.2]) (eff := [(151, some (.arr 3 1 true (v7.1.Members.map (D.int .i64)))), (152, some (.arr 27 3 true (v7.1.Promises.map TPromise.d))), (153, some (.arr 3 1 true (v7.1.Accepted.map (D.int .i64))))]) (nw := (151, 180)) [] rfl rfl rfl rfl rfl (lend2s_cons rfl (lend2s_cons rfl (lend2s_cons rfl lend2s_nil))) rfl (callH_at 151 (Nat.le_of_ble_eq_true rfl) (callH_towncrierref08_Accepted a0 a2 a4 v7 hv7)) (newE_cons rfl rfl (newB_arr pl0_i64 _ _ _) (newE_cons rfl rfl (newB_arr pl0_TPromise _ _ _) (newE_cons rfl rfl (newB_arr pl0_i64 _ _ _) newE_nil))) (by intro i hi; simp [D.ids, D.idsL] at hi; omega) rfl ⟨Nat.le_of_ble_eq_true rfl, Nat.le_of_ble_eq_true rfl⟩ ?_
    refine .rn 6 ?_
    refine .nil ⟨nofun, ?_⟩
    refine .seq ?_
    obtain ⟨v8, hv8, h⟩ := bind_some h
    refine .rg Try.S [5, 6, 11, 12, 13, 14, 15, 16, 17, 18, 19] ?_
    refine .rn 1 ?_
    refine .ncall (r := .agg [.int .u8 v8.Phase, .int .i64 v8.Ballot, .ref 181 1 0 v8.Members.length (some unkC), .str v8.Wish, .str v8.Value, .ref 182 3 0 v8.Promises.length (some unkC), .ref 183 1 0 v8.Accepted.length (some unkC)]) (eff := [(181, some (.arr 3 1 true (v8.Members.map (D.int .i64)))), (182, some (.arr 27 3 true (v8.Promises.map TPromise.d))), (183, some (.arr 3 1 true (v8.Accepted.map (D.int .i64))))]) (nw := (181, 195)) [] rfl rfl rfl rfl rfl (lend2s_cons (lend2_of (lend_agg (lends_cons rfl (lends_cons rfl (lends_cons (lend_ref (pl_int .i64) (by first | rfl | (simp only [go_sem, Nat.reduceBEq]; rfl)) (by first | rfl | (simp; done) | (simp <;> omega))) (lends_cons rfl (lends_cons rfl (lends_cons (lend_ref pl_TPromise (by first | rfl | (simp only [go_sem, Nat.reduceBEq]; rfl)) (by first | rfl | (simp; done) | (simp <;> omega))) (lends_cons (lend_ref (pl_int .i64) (by first | rfl | (simp only [go_sem, Nat.reduceBEq]; rfl)) (by first | rfl | (simp; done) | (simp <;> omega))) lends_nil)))))))) trivial) lend2s_nil) rfl (callH_at 181 (Nat.le_of_ble_eq_true rfl) (callH_attempt_Twin v3 v8 hv8)) (newE_cons rfl rfl (newB_arr pl0_i64 _ _ _) (newE_cons rfl rfl (newB_arr pl0_TPromise _ _ _) (newE_cons rfl rfl (newB_arr pl0_i64 _ _ _) newE_nil))) (by intro i hi; simp [D.ids, D.idsL] at hi; omega) rfl ⟨Nat.le_of_ble_eq_true rfl, Nat.le_of_ble_eq_true rfl⟩ ?_
    refine .rn 2 ?_
    refine .nil ⟨nofun, ?_⟩
    refine .seq ?_
    refine .seq ?_
    obtain ⟨v9, hv9, h⟩ := bind_some h
    obtain ⟨v10, hv10, h⟩ := bind_some h
    obtain ⟨v11, hv11, h⟩ := bind_some h
    obtain ⟨v12, hv12, h⟩ := bind_some h
    obtain ⟨v13, hv13, h⟩ := bind_some h
    obtain ⟨v14, hv14, h⟩ := bind_some h
    obtain ⟨v15, hv15, h⟩ := bind_some h
    refine .rg Try.S [5, 6, 11, 12, 13, 14, 15, 16, 17, 18, 19, 20] ?_
    refine .rd 2 ?_
    refine .lcall (r := .bool v9) [] rfl rfl rfl rfl rfl (lend2s_cons (lend2_of (lend_agg (lends_cons rfl (lends_cons rfl (lends_cons (lend_ref (pl_int .i64) (by first | rfl | (simp only [go_sem, Nat.reduceBEq]; rfl)) (by first | rfl | (simp; done) | (simp <;> omega))) (lends_cons rfl (lends_cons rfl (lends_cons (lend_ref pl_TPromise (by first | rfl | (simp only [go_sem, Nat.reduceBEq]; rfl)) (by first | rfl | (simp; done) | (simp <;> omega))) (lends_cons (lend_ref (pl_int .i64) (by first | rfl | (simp only [go_sem, Nat.reduceBEq]; rfl)) (by first | rfl | (simp; done) | (simp <;> omega))) lends_nil)))))))) trivial) (lend2s_cons (lend2_of (lend_agg (lends_cons rfl (lends_cons rfl (lends_cons (lend_ref (pl_int .i64) (by first | rfl | (simp only [go_sem, Nat.reduceBEq]; rfl)) (by first | rfl | (simp; done) | (simp <;> omega))) (lends_cons rfl (lends_cons rfl (lends_cons (lend_ref pl_TPromise (by first | rfl | (simp only [go_sem, Nat.reduceBEq]; rfl)) (by first | rfl | (simp; done) | (simp <;> omega))) (lends_cons (lend_ref (pl_int .i64) (by first | rfl | (simp only [go_sem, Nat.reduceBEq]; rfl)) (by first | rfl | (simp; done) | (simp <;> omega))) lends_nil)))))))) trivial) lend2s_nil)) rfl (callP_towncrierref08_Same v4.1 v5.1 v9 hv9) ?_
    refine .rd 6 ?_
    refine .rd 3 ?_
    refine .glcall (r := .bool v10) [] rfl rfl rfl rfl rfl (fun hg => ⟨[], [.agg [.int .u8 v6.1.Phase, .int .i64 v6.1.Ballot, .ref 114 1 0 v6.1.Members.length (some unkC), .str v6.1.Wish, .str v6.1.Value, .ref 115 3 0 v6.1.Promises.length (some unkC), .ref 116 1 0 v6.1.Accepted.length (some unkC)], .agg [.int .u8 v7.1.Phase, .int .i64 v7.1.Ballot, .ref 151 1 0 v7.1.Members.length (some unkC), .str v7.1.Wish, .str v7.1.Value, .ref 152 3 0 v7.1.Promises.length (some unkC), .ref 153 1 0 v7.1.Accepted.length (some unkC)]], _, rfl, gd hg, (lend2s_cons (lend2_of (lend_agg (lends_cons rfl (lends_cons rfl (lends_cons (lend_ref (pl_int .i64) (by first | rfl | (simp only [go_sem, Nat.reduceBEq]; rfl)) (by first | rfl | (simp; done) | (simp <;> omega))) (lends_cons rfl (lends_cons rfl (lends_cons (lend_ref pl_TPromise (by first | rfl | (simp only [go_sem, Nat.reduceBEq]; rfl)) (by first | rfl | (simp; done) | (simp <;> omega))) (lends_cons (lend_ref (pl_int .i64) (by first | rfl | (simp only [go_sem, Nat.reduceBEq]; rfl)) (by first | rfl | (simp; done) | (simp <;> omega))) lends_nil)))))))) trivial) (lend2s_cons (lend2_of (lend_agg (lends_cons rfl (lends_cons rfl (lends_cons (lend_ref (pl_int .i64) (by first | rfl | (simp only [go_sem, Nat.reduceBEq]; rfl)) (by first | rfl | (simp; done) | (simp <;> omega))) (lends_cons rfl (lends_cons rfl (lends_cons (lend_ref pl_TPromise (by first | rfl | (simp only [go_sem, Nat.reduceBEq]; rfl)) (by first | rfl | (simp; done) | (simp <;> omega))) (lends_cons (lend_ref (pl_int .i64) (by first | rfl | (simp only [go_sem, Nat.reduceBEq]; rfl)) (by first | rfl | (simp; done) | (simp <;> omega))) lends_nil)))))))) trivial) lend2s_nil)), rfl, (callP_towncrierref08_Same v6.1 v7.1 v10 (ite_lc hv10 hg))⟩) ?_
    refine .rd 6 ?_
    refine .rd 4 ?_
    refine .glcall (r := .bool v11) [] rfl rfl rfl rfl rfl (fun hg => ⟨[], [.agg [.int .u8 v8.Phase, .int .i64 v8.Ballot, .ref 181 1 0 v8.Members.length (some unkC), .str v8.Wish, .str v8.Value, .ref 182 3 0 v8.Promises.length (some unkC), .ref 183 1 0 v8.Accepted.length (some unkC)], .agg [.int .u8 a0.Phase, .int .i64 a0.Ballot, .imm 1 (a0.Members.map (D.int .i64)) 4, .str a0.Wish, .str a0.Value, .imm 3 (a0.Promises.map TPromise.d) 4, .imm 1 (a0.Accepted.map (D.int .i64)) 4]], _, rfl, gd hg, (lend2s_cons (lend2_of (lend_agg (lends_cons rfl (lends_cons rfl (lends_cons (lend_ref (pl_int .i64) (by first | rfl | (simp only [go_sem, Nat.reduceBEq]; rfl)) (by first | rfl | (simp; done) | (simp <;> omega))) (lends_cons rfl (lends_cons rfl (lends_cons (lend_ref pl_TPromise (by first | rfl | (simp only [go_sem, Nat.reduceBEq]; rfl)) (by first | rfl | (simp; done) | (simp <;> omega))) (lends_cons (lend_ref (pl_int .i64) (by first | rfl | (simp only [go_sem, Nat.reduceBEq]; rfl)) (by first | rfl | (simp; done) | (simp <;> omega))) lends_nil)))))))) trivial) (lend2s_cons rfl lend2s_nil)), rfl, (callP_towncrierref08_Same v8 a0 v11 (ite_lc hv11 hg))⟩) ?_
    refine .rd 4 ?_
    refine .glcall (r := .int .i64 v12) [] rfl rfl rfl rfl rfl (fun hg => ⟨[], [.agg [.int .u8 v3.Phase, .int .i64 v3.Ballot, .ref 8 1 0 v3.Members.length (some unkC), .str v3.Wish, .str v3.Value, .ref 9 3 0 v3.Promises.length (some unkC), .ref 10 1 0 v3.Accepted.length (some unkC)]], _, rfl, gd hg, (lend2s_cons (lend2_of (lend_agg (lends_cons rfl (lends_cons rfl (lends_cons (lend_ref (pl_int .i64) (by first | rfl | (simp only [go_sem, Nat.reduceBEq]; rfl)) (by first | rfl | (simp; done) | (simp <;> omega))) (lends_cons rfl (lends_cons rfl (lends_cons (lend_ref pl_TPromise (by first | rfl | (simp only [go_sem, Nat.reduceBEq]; rfl)) (by first | rfl | (simp; done) | (simp <;> omega))) (lends_cons (lend_ref (pl_int .i64) (by first | rfl | (simp only [go_sem, Nat.reduceBEq]; rfl)) (by first | rfl | (simp; done) | (simp <;> omega))) lends_nil)))))))) trivial) lend2s_nil), rfl, (callP_attempt_Check v3 v12 (ite_lc hv12 hg))⟩) ?_
    refine .rd 2 ?_
    refine .gcall (r := .bool v13) rfl rfl rfl rfl rfl (fun hg => ⟨[], [.agg [.int .u8 a0.Phase, .int .i64 a0.Ballot, .imm 1 (a0.Members.map (D.int .i64)) 4, .str a0.Wish, .str a0.Value, .imm 3 (a0.Promises.map TPromise.d) 4, .imm 1 (a0.Accepted.map (D.int .i64)) 4]], _, rfl, gd hg, rfl, (callP_towncrierref08_May a0 v13 (ite_lc hv13 hg))⟩) ?_
    refine .rd 5 ?_
    refine .glcall (r := .bool v14) [] rfl rfl rfl rfl rfl (fun hg => ⟨[], [.agg [.int .u8 v3.Phase, .int .i64 v3.Ballot, .ref 8 1 0 v3.Members.length (some unkC), .str v3.Wish, .str v3.Value, .ref 9 3 0 v3.Promises.length (some unkC), .ref 10 1 0 v3.Accepted.length (some unkC)], .agg [.int .u8 a1.Phase, .int .i64 a1.Ballot, .imm 1 (a1.Members.map (D.int .i64)) 4, .str a1.Wish, .str a1.Value, .imm 3 (a1.Promises.map TPromise.d) 4, .imm 1 (a1.Accepted.map (D.int .i64)) 4]], _, rfl, gd hg, (lend2s_cons (lend2_of (lend_agg (lends_cons rfl (lends_cons rfl (lends_cons (lend_ref (pl_int .i64) (by first | rfl | (simp only [go_sem, Nat.reduceBEq]; rfl)) (by first | rfl | (simp; done) | (simp <;> omega))) (lends_cons rfl (lends_cons rfl (lends_cons (lend_ref pl_TPromise (by first | rfl | (simp only [go_sem, Nat.reduceBEq]; rfl)) (by first | rfl | (simp; done) | (simp <;> omega))) (lends_cons (lend_ref (pl_int .i64) (by first | rfl | (simp only [go_sem, Nat.reduceBEq]; rfl)) (by first | rfl | (simp; done) | (simp <;> omega))) lends_nil)))))))) trivial) (lend2s_cons rfl lend2s_nil)), rfl, (callP_attempt_Same v3 a1 v14 (ite_lc hv14 hg))⟩) ?_
    refine .rd 2 ?_
    refine .gcall (r := .bool v15) rfl rfl rfl rfl rfl (fun hg => ⟨[], [.agg [.int .u8 a0.Phase, .int .i64 a0.Ballot, .imm 1 (a0.Members.map (D.int .i64)) 4, .str a0.Wish, .str a0.Value, .imm 3 (a0.Promises.map TPromise.d) 4, .imm 1 (a0.Accepted.map (D.int .i64)) 4], .agg [.int .u8 a1.Phase, .int .i64 a1.Ballot, .imm 1 (a1.Members.map (D.int .i64)) 4, .str a1.Wish, .str a1.Value, .imm 3 (a1.Promises.map TPromise.d) 4, .imm 1 (a1.Accepted.map (D.int .i64)) 4]], _, rfl, gd hg, rfl, (callP_towncrierref08_Same a0 a1 v15 (ite_lc hv15 hg))⟩) ?_
    refine .rd 2 ?_
    refine .nil ⟨fun _ => schedB_of (by kernel_rfl), ?_⟩
    refine .cond rfl rfl (fun hc2 => ?_) (fun hc2 => ?_)
    · skip
      replace h := ite_lc h hc2
      refine .seq ?_
      refine .pl Try.S [] ?_
      have hq := Option.some.inj h
      subst r
      exact .ret ⟨.inr rfl, rsi⟩
    · skip
      replace h := ite_rc h hc2
      refine .skip ?_
      refine .seq ?_
      obtain ⟨v16, hv16, h⟩ := bind_some h
      refine .rg Try.S [5, 11, 12, 16, 20] ?_
      refine .rn 1 ?_
      refine .hcall (H := [(38, .arr 3 1 true (v4.1.Members.map (D.int .i64))), (39, .arr 27 3 true (v4.1.Promises.map TPromise.d)), (40, .arr 3 1 true (v4.1.Accepted.map (D.int .i64)))]) (eff := [(38, none), (39, none), (40, none)]) (nw := (196, 208)) (r := .tuple []) rfl rfl rfl rfl rfl (callH_bsw 196 (callH_sw 20002 40 (callH_sw 20001 39 (callH_sw 20000 38 (callH_towncrierlaw08_turn v4.1 v16 hv16))))) (fun id b h => getL_pick [38, 39, 40] _ id b h) (by simp) (.inr ⟨Nat.le_of_ble_eq_true rfl, Nat.le_of_ble_eq_true rfl⟩) ?_
      refine .nil ⟨nofun, ?_⟩
      refine .seq ?_
      obtain ⟨v17, hv17, h⟩ := bind_some h
      refine .rg Try.S [5, 11, 16, 20] ?_
      refine .rn 1 ?_
      refine .hcall (H := [(114, .arr 3 1 true (v6.1.Members.map (D.int .i64))), (115, .arr 27 3 true (v6.1.Promises.map TPromise.d)), (116, .arr 3 1 true (v6.1.Accepted.map (D.int .i64)))]) (eff := [(114, none), (115, none), (116, none)]) (nw := (208, 220)) (r := .tuple []) rfl rfl rfl rfl rfl (callH_bsw 208 (callH_sw 20002 116 (callH_sw 20001 115 (callH_sw 20000 114 (callH_towncrierlaw08_turn v6.1 v17 hv17))))) (fun id b h => getL_pick [114, 115, 116] _ id b h) (by simp) (.inr ⟨Nat.le_of_ble_eq_true rfl, Nat.le_of_ble_eq_true rfl⟩) ?_
      refine .nil ⟨nofun, ?_⟩
      refine .seq ?_
      obtain ⟨v18, hv18, h⟩ := bind_some h
      refine .rg Try.S [5, 11, 20] ?_
      refine .rn 1 ?_
      refine .hcall (H := [(181, .arr 3 1 true (v8.Members.map (D.int .i64))), (182, .arr 27 3 true (v8.Promises.map TPromise.d)), (183, .arr 3 1 true (v8.Accepted.map (D.int .i64)))]) (eff := [(181, none), (182, none), (183, none)]) (nw := (220, 232)) (r := .tuple []) rfl rfl rfl rfl rfl (callH_bsw 220 (callH_sw 20002 183 (callH_sw 20001 182 (callH_sw 20000 181 (callH_towncrierlaw08_turn v8 v18 hv18))))) (fun id b h => getL_pick [181, 182, 183] _ id b h) (by simp) (.inr ⟨Nat.le_of_ble_eq_true rfl, Nat.le_of_ble_eq_true rfl⟩) ?_
      refine .nil ⟨nofun, ?_⟩
      refine .seq ?_
      obtain ⟨v19, hv19, h⟩ := bind_some h
      refine .rg Try.S [5, 11] ?_
      refine .rn 2 ?_
      refine .lcall (r := .bool v19) [] rfl rfl rfl rfl rfl (lend2s_cons (lend2_of (lend_agg (lends_cons rfl (lends_cons rfl (lends_cons (lend_ref (pl_int .i64) (by first | rfl | (simp only [go_sem, Nat.reduceBEq]; rfl)) (by first | rfl | (simp; done) | (simp <;> omega))) (lends_cons rfl (lends_cons rfl (lends_cons (lend_ref pl_TPromise (by first | rfl | (simp only [go_sem, Nat.reduceBEq]; rfl)) (by first | rfl | (simp; done) | (simp <;> omega))) (lends_cons (lend_ref (pl_int .i64) (by first | rfl | (simp only [go_sem, Nat.reduceBEq]; rfl)) (by first | rfl | (simp; done) | (simp <;> omega))) lends_nil)))))))) trivial) (lend2s_cons rfl lend2s_nil)) rfl (callP_towncrierref08_Same v3 a0 v19 hv19) ?_
      refine .rn 1 ?_
      refine .nil ⟨nofun, ?_⟩
      have hq := Option.some.inj h
      subst r
      exact .ret ⟨.inr rfl, rsi⟩
end Go.Proofs
end
section
/- What the bits of two quorums tell, in plain words. -/

namespace Go.Proofs
open Go.Tm

/-- rising lists of numbers up to 5, from behind a number on -/
def risesP : Int → List Int → Bool
  | _, [] => true
  | last, n :: r => decide (last < n) && decide (n < 6) && risesP n r
def gen : Nat → Int → List (List Int)
  | 0, _ => [[]]
  | f + 1, lo => gen f (lo + 1) ++ (gen f (lo + 1)).map fun r => (lo + 1) :: r

theorem nil_gen : ∀ (f : Nat) (lo : Int), [] ∈ gen f lo
  | 0, _ => by simp [gen]
  | f + 1, lo => by simp only [gen, List.mem_append]; exact .inl (nil_gen f _)

theorem mem_gen : ∀ (f : Nat) (lo : Int) (l : List Int), 5 - lo ≤ f → risesP lo l = true → l ∈ gen f lo
  | f, lo, [], _, _ => nil_gen f lo
  | 0, lo, x :: r, hf, h => by
    simp only [risesP, Bool.and_eq_true, decide_eq_true_eq] at h
    omega
  | f + 1, lo, x :: r, hf, h => by
    have h' := h
    simp only [risesP, Bool.and_eq_true, decide_eq_true_eq] at h'
    simp only [gen, List.mem_append, List.mem_map]
    by_cases hx : x = lo + 1
    · subst hx
      exact .inr ⟨r, mem_gen f (lo + 1) r (by omega) h'.2, rfl⟩
    · refine .inl (mem_gen f (lo + 1) (x :: r) (by omega) ?_)
      simp only [risesP, Bool.and_eq_true, decide_eq_true_eq]
      exact ⟨⟨by omega, h'.1.2⟩, h'.2⟩

def setB (l : List Int) : Int := l.foldl (fun s n => bif decide (n ≥ 0) && decide (n < 6) then bitw .or .u64 s (shw true .u64 1 n) else s) 0
def hasI (l : List Int) (n : Int) : Bool := l.any fun x => x == n
def withinI (l all : List Int) : Bool := l.all fun n => hasI all n

end Go.Proofs
end
section
/- How many members are among some nodes, by bits, in plain words. -/

namespace Go.Proofs
open Go.Tm

def popI (n : Int) : Int :=
  let a := wr .u64 (bitw .and .u64 (shw false .u64 n 1) 6148914691236517205 + bitw .and .u64 n 6148914691236517205)
  let b := wr .u64 (bitw .and .u64 (shw false .u64 a 2) 3689348814741910323 + bitw .and .u64 a 3689348814741910323)
  let c := bitw .and .u64 (wr .u64 (shw false .u64 b 4 + b)) 1085102592571150095
  let d := wr .u64 (c + shw false .u64 c 8)
  let e := wr .u64 (d + shw false .u64 d 16)
  let f := wr .u64 (e + shw false .u64 e 32)
  bitw .and .i64 (wr .i64 f) 127

def mask (p : Int → Bool) : List Int := [0, 1, 2, 3, 4, 5].filter p

theorem mask_gen (p : Int → Bool) : mask p ∈ gen 6 (-1) := by
  refine mem_gen 6 (-1) _ (by omega) ?_
  unfold mask
  cases h0 : p 0 <;> cases h1 : p 1 <;> cases h2 : p 2 <;> cases h3 : p 3 <;> cases h4 : p 4 <;> cases h5 : p 5 <;> simp [h0, h1, h2, h3, h4, h5, risesP]

def setStep (s n : Int) : Int := bif decide (n ≥ 0) && decide (n < 6) then bitw .or .u64 s (shw true .u64 1 n) else s
theorem setB_snoc (l : List Int) (n : Int) : setB (l ++ [n]) = setStep (setB l) n := by
  unfold setB
  rw [List.foldl_append]
  rfl

theorem step_all : ((gen 6 (-1)).all fun k => [0, 1, 2, 3, 4, 5].all fun n => setStep (setB k) n == setB (mask fun x => hasI k x || x == n)) = true := by decide +kernel
theorem mask_congr {p q : Int → Bool} (h : ∀ x ∈ [(0 : Int), 1, 2, 3, 4, 5], p x = q x) : mask p = mask q := by
  unfold mask
  exact List.filter_congr h

theorem hasI_mask (p : Int → Bool) (x : Int) (hx : x ∈ [(0 : Int), 1, 2, 3, 4, 5]) : hasI (mask p) x = p x := by
  unfold hasI mask
  rw [List.any_filter]
  simp only [List.any_cons, List.any_nil]
  simp only [List.mem_cons, List.not_mem_nil, or_false] at hx
  rcases hx with rfl | rfl | rfl | rfl | rfl | rfl <;> simp

theorem hasI_snoc (l : List Int) (n x : Int) : hasI (l ++ [n]) x = (hasI l x || n == x) := by
  unfold hasI
  simp

theorem setB_mask (l : List Int) : setB l = setB (mask (hasI l)) := by
  generalize hm : l.reverse = r
  have hl : l = r.reverse := by rw [← hm, List.reverse_reverse]
  clear hm
  subst hl
  induction r with
  | nil => decide +kernel
  | cons n r ih =>
    rw [List.reverse_cons, setB_snoc, ih]
    by_cases hn : n ∈ [(0 : Int), 1, 2, 3, 4, 5]
    · have h := List.all_eq_true.1 (List.all_eq_true.1 step_all _ (mask_gen (hasI r.reverse))) n hn
      rw [eq_of_beq h]
      congr 1
      refine mask_congr fun x hx => ?_
      rw [hasI_mask _ x hx, hasI_snoc]
      congr 1
      rw [Bool.eq_iff_iff, beq_iff_eq, beq_iff_eq]
      exact eq_comm
    · have h1 : setStep (setB (mask (hasI r.reverse))) n = setB (mask (hasI r.reverse)) := by
        unfold setStep
        have : (decide (n ≥ 0) && decide (n < 6)) = false := by
          rw [Bool.eq_false_iff]
          intro hh
          simp only [Bool.and_eq_true, decide_eq_true_eq] at hh
          exact hn (by simp only [List.mem_cons, List.not_mem_nil, or_false]; omega)
        rw [this]; rfl
      rw [h1]
      congr 1
      refine mask_congr fun x hx => ?_
      rw [hasI_snoc]
      have : (n == x) = false := by
        rw [Bool.eq_false_iff]
        intro hh
        rw [eq_of_beq hh] at hn
        exact hn hx
      rw [this, Bool.or_false]

theorem pop_all : ((gen 6 (-1)).all fun m => (gen 6 (-1)).all fun k => popI (bitw .and .u64 (setB m) (setB k)) == ((m.filter (hasI k)).length : Int)) = true := by decide +kernel

theorem rises_mem {m : List Int} (hm : risesP (-1) m = true) : ∀ x ∈ m, x ∈ [(0 : Int), 1, 2, 3, 4, 5] := by
  have key : ∀ (l : List Int) (k : Int), risesP k l = true → ∀ x ∈ l, k < x ∧ x < 6 := by
    intro l
    induction l with
    | nil => intro _ _ x hx; cases hx
    | cons y l ih =>
      intro k h x hx
      simp only [risesP, Bool.and_eq_true, decide_eq_true_eq] at h
      rcases List.mem_cons.1 hx with rfl | hx
      · exact h.1
      · have := ih y h.2 x hx
        omega
  intro x hx
  have := key m (-1) hm x hx
  simp only [List.mem_cons, List.not_mem_nil, or_false]
  omega

/-- as many members are among them as the bits tell -/
theorem pop_count {m : List Int} (hm : risesP (-1) m = true) (s : List Int) : popI (bitw .and .u64 (setB m) (setB s)) = ((m.filter (hasI s)).length : Int) := by
  rw [setB_mask s]
  have h := List.all_eq_true.1 (List.all_eq_true.1 pop_all m (mem_gen 6 (-1) m (by omega) hm)) _ (mask_gen (hasI s))
  rw [eq_of_beq h]
  congr 2
  exact List.filter_congr fun x hx => hasI_mask _ x (rises_mem hm x hx)
end Go.Proofs
end
section
/- Plain facts about the models of chapter 08. -/



namespace Go.Proofs
open Go.Tm
set_option linter.unusedSimpArgs false

theorem nodes_loop (l : List TPromise) : ∀ acc : List Int, acc.length + l.length < 1000000 → m_attempt_nodes_loop1 l acc = some (acc ++ l.map TPromise.Node) := by
  induction l with
  | nil => intro acc _; simp [m_attempt_nodes_loop1]
  | cons y l ih =>
    intro acc h
    simp only [List.length_cons] at h
    rw [m_attempt_nodes_loop1, if_pos (by simp; omega), ih _ (by simp; omega)]
    simp
theorem nodes_eq (l : List TPromise) (h : l.length < 1000000) : m_attempt_nodes l = some (l.map TPromise.Node) := by
  rw [m_attempt_nodes, nodes_loop l [] (by simpa using h)]; rfl
def bestS : List TPromise → List UInt8 → Int → List UInt8
  | [], s, _ => s
  | y :: l, s, n => if y.Ballot > n then bestS l y.Value y.Ballot else bestS l s n
theorem best_loop (l : List TPromise) : ∀ s n, m_attempt_Best_loop1 l s n = some (bestS l s n) := by
  induction l with
  | nil => intro s n; rfl
  | cons y l ih =>
    intro s n
    rw [m_attempt_Best_loop1, bestS]
    split <;> simp only [Option.bind_some] <;> exact ih _ _
theorem best_eq (l : List TPromise) (w : List UInt8) : m_attempt_Best l w = some (bestS l w 0) := by
  rw [m_attempt_Best, best_loop]; rfl

theorem index_loop (v : Int) (l : List Int) : ∀ n : Nat, (v ∈ l → ∃ k : Nat, m_slices_Index_int_int_loop1 v l n = some (.inl (k : Int))) ∧ (v ∉ l → m_slices_Index_int_int_loop1 v l n = some (.inr ())) := by
  induction l with
  | nil => intro n; exact ⟨(fun h => by cases h), fun _ => rfl⟩
  | cons y l ih =>
    intro n
    rw [m_slices_Index_int_int_loop1]
    by_cases h : v = y
    · rw [if_pos h]
      exact ⟨fun _ => ⟨n, rfl⟩, fun hn => absurd (h ▸ List.mem_cons_self) hn⟩
    · rw [if_neg h]
      refine ⟨fun hv => (ih (n + 1)).1 ?_, fun hv => (ih (n + 1)).2 fun hh => hv (List.mem_cons_of_mem _ hh)⟩
      rcases List.mem_cons.1 hv with hv | hv
      · exact absurd hv h
      · exact hv
theorem has_eq (l : List Int) (v : Int) : m_quorum_Has l v = some (decide (v ∈ l)) := by
  rw [m_quorum_Has, m_slices_Contains_int_int, m_slices_Index_int_int]
  by_cases h : v ∈ l
  · obtain ⟨k, hk⟩ := (index_loop v l 0).1 h
    rw [hk]
    simp [h]
  · rw [(index_loop v l 0).2 h]
    simp [h]
end Go.Proofs
end
section
/- Plain facts about quorums and ballots. -/

namespace Go.Proofs
open Go.Tm
set_option linter.unusedSimpArgs false

theorem rises_lt : ∀ (l : List Int) (k : Int), risesP k l = true → ∀ x ∈ l, k < x ∧ x < 6 := by
  intro l
  induction l with
  | nil => intro _ _ x hx; cases hx
  | cons y l ih =>
    intro k h x hx
    simp only [risesP, Bool.and_eq_true, decide_eq_true_eq] at h
    rcases List.mem_cons.1 hx with rfl | hx
    · exact h.1
    · have := ih y h.2 x hx
      omega
theorem qcheck_loop (l : List Int) : ∀ n, m_quorum_Check_loop1 l n = some (if risesP n l = true then .inr (l.getLastD n) else .inl 60) := by
  induction l with
  | nil => intro n; simp [m_quorum_Check_loop1, risesP]
  | cons y l ih =>
    intro n
    rw [m_quorum_Check_loop1]
    by_cases h : (y ≤ n) ∨ (y ≥ 6)
    · rw [if_pos h, if_neg (by simp only [risesP, Bool.and_eq_true, decide_eq_true_eq]; omega)]
    · rw [if_neg h, ih]
      have : risesP n (y :: l) = risesP y l := by
        simp only [risesP]
        have h1 : decide (n < y) = true := by simp; omega
        have h2 : decide (y < 6) = true := by simp; omega
        simp [h1, h2]
      rw [this, List.getLastD_cons]
def QOk (l : List Int) : Prop := l.length ≤ 6 ∧ risesP (-1) l = true ∧ l ≠ []
instance (l : List Int) : Decidable (QOk l) := by unfold QOk; infer_instance
theorem qcheck_eq (l : List Int) : m_quorum_Check l = some (if l.length > 6 then 4 else if risesP (-1) l = true ∧ l ≠ [] then 0 else 60) := by
  rw [m_quorum_Check]
  by_cases h : (l.length : Int) > 6
  · rw [if_pos h, if_pos (by omega)]
  · rw [if_neg h, if_neg (by omega), qcheck_loop]
    by_cases hr : risesP (-1) l = true
    · rw [if_pos hr]
      cases l with
      | nil => simp
      | cons y l =>
        have hl := (rises_lt (y :: l) (-1) hr ((y :: l).getLastD (-1)) (by rw [List.getLastD_eq_getLast?, List.getLast?_eq_some_getLast (by simp)]; exact List.getLast_mem (by simp))).1
        simp only [Option.bind_some, ne_eq, reduceCtorEq, not_false_eq_true, and_true, if_pos hr]
        rw [if_neg (by omega)]
    · rw [if_neg hr]
      simp [hr]
theorem qok_iff (l : List Int) : m_quorum_Check l = some 0 ↔ QOk l := by
  rw [qcheck_eq]
  unfold QOk
  by_cases h : l.length > 6
  · rw [if_pos h]; simp; omega
  · rw [if_neg h]
    by_cases h2 : risesP (-1) l = true ∧ l ≠ []
    · rw [if_pos h2]; simp only [true_iff]; exact ⟨by omega, h2⟩
    · rw [if_neg h2]; simp; intro _ h3; exact Classical.byContradiction fun h4 => h2 ⟨h3, h4⟩
end Go.Proofs
end
section
/- Plain facts about ballots, promises and rising lists. -/

namespace Go.Proofs
open Go.Tm
set_option linter.unusedSimpArgs false

/-- may this number be a ballot's? -/
def BOk (b : Int) : Prop := ¬ (wr .i64 (b.tdiv 8) < 1 ∨ wr .i64 (b.tdiv 8) > 1048576) ∧ b.tmod 8 ≥ 0 ∧ b.tmod 8 < 6
instance (b : Int) : Decidable (BOk b) := by unfold BOk; infer_instance
theorem bcheck_eq (b : Int) : m_ballot_Check b = some (if BOk b then 0 else 50) := by
  rw [m_ballot_Check, m_ballot_Of, m_ballot_node]
  unfold BOk
  by_cases h : wr .i64 (b.tdiv 8) < 1 ∨ wr .i64 (b.tdiv 8) > 1048576
  · simp [h]
  · by_cases h1 : b.tmod 8 ≥ 0 <;> by_cases h2 : b.tmod 8 < 6 <;> simp [h, h1, h2]
/-- may this be promised to a ballot? -/
def MayS (p : TPromise) (b : Int) : Prop := if p.Ballot = 0 then p.Value = [] else BOk p.Ballot ∧ p.Ballot < b ∧ p.Value.length ≤ 1024
instance (p : TPromise) (b : Int) : Decidable (MayS p b) := by unfold MayS; infer_instance
theorem may_eq (p : TPromise) (b : Int) : m_attempt_may p b = some (decide (MayS p b)) := by
  rw [m_attempt_may, bcheck_eq]
  by_cases h : p.Ballot = 0
  · have e : MayS p b ↔ p.Value = [] := by unfold MayS; rw [if_pos h]
    have e2 : decide (MayS p b) = decide (p.Value = []) := decide_eq_decide.2 e
    rw [if_pos h, e2]
    congr 1
    rw [Bool.eq_iff_iff]
    simp
  · have e : MayS p b ↔ (BOk p.Ballot ∧ p.Ballot < b ∧ p.Value.length ≤ 1024) := by unfold MayS; rw [if_neg h]
    have e2 : decide (MayS p b) = decide (BOk p.Ballot ∧ p.Ballot < b ∧ p.Value.length ≤ 1024) := decide_eq_decide.2 e
    rw [if_neg h, e2]
    by_cases h1 : BOk p.Ballot <;> simp [h1]
    rw [Bool.eq_iff_iff]
    simp
    intro _
    omega
end Go.Proofs
end
section
/- Plain facts about rising lists among members. -/

namespace Go.Proofs
open Go.Tm
set_option linter.unusedSimpArgs false

/-- rising, all of them members, from behind a number on -/
def riseS (m : List Int) : Option Int → List Int → Bool
  | _, [] => true
  | k, y :: l => (match k with | none => true | some k => decide (k < y)) && decide (y ∈ m) && riseS m (some y) l
theorem rising_loop (m a0 : List Int) : ∀ (l : List Int) (n : Nat), a0.drop n = l → m_attempt_rising_loop1 a0 m l n = some (if riseS m (if n = 0 then none else some (a0.getD (n - 1) default)) l = true then .inr () else .inl false) := by
  intro l
  induction l with
  | nil => intro n _; simp [m_attempt_rising_loop1, riseS]
  | cons y l ih =>
    intro n h
    have hn : n < a0.length := by
      rcases Nat.lt_or_ge n a0.length with h1 | h1
      · exact h1
      · rw [List.drop_eq_nil_of_le h1] at h; cases h
    have hy : a0.getD n default = y := by
      have := List.drop_eq_getElem_cons hn
      rw [h] at this
      simp only [List.cons.injEq] at this
      simp [List.getD, List.getElem?_eq_getElem hn, this.1]
    have hl : a0.drop (n + 1) = l := by
      have := List.drop_eq_getElem_cons hn
      rw [h] at this
      simp only [List.cons.injEq] at this
      exact this.2.symm
    rw [m_attempt_rising_loop1, has_eq]
    have key := ih (n + 1) hl
    rw [if_neg (show ¬ (n + 1 = 0) by omega), show n + 1 - 1 = n from rfl, hy] at key
    by_cases h0 : n = 0
    · subst h0
      by_cases hm : y ∈ m
      · simp [hm, key, riseS]
      · simp [hm, riseS]
    · have hp : (n : Int) > 0 := by omega
      rw [if_neg h0]
      generalize a0.getD (n - 1) default = z
      by_cases hle : y ≤ z
      · have : ¬ (z < y) := by omega
        have hn0 : 0 < n := by omega
        simp [hle, riseS, this, h0, hn0]
      · have : z < y := by omega
        by_cases hm : y ∈ m
        · simp [hle, riseS, this, hm, key]
        · simp [hle, riseS, this, hm]
theorem rising_eq (l m : List Int) : m_attempt_rising l m = some (riseS m none l) := by
  rw [m_attempt_rising, rising_loop m l l 0 (by simp)]
  rw [if_pos rfl]
  cases h : riseS m none l <;> simp
end Go.Proofs
end
section
/- Plain facts about majorities. -/

namespace Go.Proofs
open Go.Tm
set_option linter.unusedSimpArgs false

theorem set_loop (l : List Int) : ∀ s, m_quorum_set_loop1 l s = some (l.foldl (fun s n => bif decide (n ≥ 0) && decide (n < 6) then bitw .or .u64 s (shw true .u64 1 n) else s) s) := by
  induction l with
  | nil => intro s; rfl
  | cons y l ih =>
    intro s
    rw [m_quorum_set_loop1, List.foldl_cons]
    by_cases h0 : y ≥ 0
    · by_cases h6 : y < 6
      · have : 0 ≤ y := h0
        simp [h0, h6, this, ih]
      · simp [h0, h6, ih]
    · simp [h0, ih]
theorem set_eq (l : List Int) : m_quorum_set l = some (setB l) := by
  rw [m_quorum_set, set_loop]; rfl
theorem ones_eq (n : Int) : m_math_bits_OnesCount n = some (popI n) := by
  rw [m_math_bits_OnesCount, m_math_bits_OnesCount64]
  rfl
/-- as many members as a majority needs -/
def mostS (m l : List Int) : Bool := decide (((m.filter (hasI l)).length : Int) ≥ (m.length / 2 + 1 : Nat))
theorem most_eq (m l : List Int) (hm : QOk m) (hl : l.length ≤ 1000) : m_quorum_Most m l = some (mostS m l, 0) := by
  have hn : wr .i64 (wr .i64 ((m.length : Int).tdiv 2) + 1) = ((m.length / 2 + 1 : Nat) : Int) := by
    have h6 := hm.1
    generalize m.length = k at h6
    match k, h6 with
    | 0, _ => decide +kernel
    | 1, _ => decide +kernel
    | 2, _ => decide +kernel
    | 3, _ => decide +kernel
    | 4, _ => decide +kernel
    | 5, _ => decide +kernel
    | 6, _ => decide +kernel
    | k + 7, h => omega
  rw [m_quorum_Most, m_quorum_Need, (qok_iff m).2 hm]
  simp only [Option.bind_some, not_true_eq_false, if_false, hn]
  rw [if_neg (by omega), set_eq, set_eq]
  simp only [Option.bind_some, ones_eq, pop_count hm.2.1 l]
  rfl
end Go.Proofs
end
section
/- Plain facts about valid attempts. -/

namespace Go.Proofs
open Go.Tm
set_option linter.unusedSimpArgs false

theorem indexFunc_loop (f : TPromise → Option Bool) (g : TPromise → Bool) (hf : ∀ x, f x = some (g x)) (l : List TPromise) : ∀ n : Nat, (l.any g = true → ∃ k : Nat, m_slices_IndexFunc_Promise_Promise_loop1 f l n = some (.inl (k : Int))) ∧ (l.any g = false → m_slices_IndexFunc_Promise_Promise_loop1 f l n = some (.inr ())) := by
  induction l with
  | nil => intro n; exact ⟨(fun h => by cases h), fun _ => rfl⟩
  | cons y l ih =>
    intro n
    rw [m_slices_IndexFunc_Promise_Promise_loop1, hf, List.any_cons]
    cases hg : g y with
    | true => exact ⟨fun _ => ⟨n, by simp⟩, fun h => by cases h⟩
    | false => simpa using ih (n + 1)
theorem containsFunc_eq (f : TPromise → Option Bool) (g : TPromise → Bool) (hf : ∀ x, f x = some (g x)) (l : List TPromise) : m_slices_ContainsFunc_Promise_Promise l f = some (l.any g) := by
  rw [m_slices_ContainsFunc_Promise_Promise, m_slices_IndexFunc_Promise_Promise]
  cases h : l.any g with
  | true => obtain ⟨k, hk⟩ := (indexFunc_loop f g hf l 0).1 h; rw [hk]; simp
  | false => rw [(indexFunc_loop f g hf l 0).2 h]; simp

theorem equal_loop (b : List Int) : ∀ (l : List Int) (n : Nat), n + l.length = b.length → m_slices_Equal_int_int_loop1 b l n = some (if l = b.drop n then .inr () else .inl false) := by
  intro l
  induction l with
  | nil => intro n h; simp [m_slices_Equal_int_int_loop1]; simp at h; omega
  | cons y l ih =>
    intro n h
    simp only [List.length_cons] at h
    have hn : n < b.length := by omega
    have hg : b.getD n default = b[n] := by simp [List.getD, List.getElem?_eq_getElem hn]
    have hd := List.drop_eq_getElem_cons hn
    rw [m_slices_Equal_int_int_loop1, if_pos hn, hg]
    generalize b[n] = z at hd
    rw [hd]
    by_cases hy : y = z
    · rw [if_neg (by simpa using hy), ih (n + 1) (by omega)]
      simp only [hy, List.cons.injEq, true_and]
    · rw [if_pos hy]
      simp only [hy, List.cons.injEq, false_and, if_false]
theorem equal_eq (a b : List Int) : m_slices_Equal_int_int a b = some (decide (a = b)) := by
  rw [m_slices_Equal_int_int]
  by_cases h : (a.length : Int) = (b.length : Int)
  · rw [if_neg (by simpa using h), equal_loop b a 0 (by omega), List.drop_zero]
    by_cases hab : a = b <;> simp [hab]
  · rw [if_pos h]
    have : a ≠ b := fun hh => h (by rw [hh])
    simp [this]

theorem equalP_loop (b : List TPromise) : ∀ (l : List TPromise) (n : Nat), n + l.length = b.length → m_slices_Equal_Promise_Promise_loop1 b l n = some (if l = b.drop n then .inr () else .inl false) := by
  intro l
  induction l with
  | nil => intro n h; simp [m_slices_Equal_Promise_Promise_loop1]; simp at h; omega
  | cons y l ih =>
    intro n h
    simp only [List.length_cons] at h
    have hn : n < b.length := by omega
    have hg : b.getD n default = b[n] := by simp [List.getD, List.getElem?_eq_getElem hn]
    have hd := List.drop_eq_getElem_cons hn
    rw [m_slices_Equal_Promise_Promise_loop1, if_pos hn, hg]
    generalize b[n] = z at hd
    rw [hd]
    have e : (y.Node = z.Node ∧ y.Ballot = z.Ballot ∧ y.Value = z.Value) ↔ y = z := by cases y; cases z; simp
    by_cases hy : y = z
    · rw [if_neg (by simpa using e.2 hy), ih (n + 1) (by omega)]
      simp only [hy, List.cons.injEq, true_and]
    · rw [if_pos (fun hh => hy (e.1 hh))]
      simp only [hy, List.cons.injEq, false_and, if_false]
theorem equalP_eq (a b : List TPromise) : m_slices_Equal_Promise_Promise a b = some (decide (a = b)) := by
  rw [m_slices_Equal_Promise_Promise]
  by_cases h : (a.length : Int) = (b.length : Int)
  · rw [if_neg (by simpa using h), equalP_loop b a 0 (by omega), List.drop_zero]
    by_cases hab : a = b <;> simp [hab]
  · rw [if_pos h]
    have : a ≠ b := fun hh => h (by rw [hh])
    simp [this]
theorem same_eq (a b : TAttempt) : m_attempt_Same a b = some (decide (a = b)) := by
  obtain ⟨p, bl, m, w, v, pr, ac⟩ := a
  obtain ⟨p', bl', m', w', v', pr', ac'⟩ := b
  simp only [m_attempt_Same, equal_eq, equalP_eq, TAttempt.mk.injEq]
  by_cases h1 : p = p' <;> by_cases h2 : bl = bl' <;> by_cases h3 : m = m' <;> by_cases h4 : w = w' <;> by_cases h5 : v = v' <;> by_cases h6 : pr = pr' <;> simp [h1, h2, h3, h4, h5, h6]
end Go.Proofs
end
section
/- Plain facts about valid attempts: what attempt.Check tells. -/

namespace Go.Proofs
open Go.Tm
set_option linter.unusedSimpArgs false

/-- what every begun attempt keeps -/
structure Kept (a : TAttempt) : Prop where
  ballot : BOk a.Ballot
  members : QOk a.Members
  wish : a.Wish.length ≤ 1024
  nodes : riseS a.Members none (a.Promises.map TPromise.Node) = true
  accepted : riseS a.Members none a.Accepted = true
  may : ∀ p ∈ a.Promises, MayS p a.Ballot
  most : mostS a.Members (a.Promises.map TPromise.Node) = decide (a.Phase > 1)
  chosen : mostS a.Members a.Accepted = (a.Phase == 3)
  value : a.Phase = 1 ∨ a.Value = bestS a.Promises a.Wish 0
def Valid (a : TAttempt) : Prop :=
  if a.Phase = 0 then a = ⟨0, 0, [], [], [], [], []⟩
  else ((a.Phase = 1 ∧ a.Value = [] ∧ a.Accepted = []) ∨ a.Phase = 2 ∨ a.Phase = 3) ∧ Kept a
theorem any_may (l : List TPromise) (b : Int) : (l.any fun x => !decide (MayS x b)) = true ↔ ¬ ∀ p ∈ l, MayS p b := by
  simp

theorem risesP_len : ∀ (l : List Int) (k : Int), risesP k l = true → k < 6 → (l.length : Int) ≤ 5 - k := by
  intro l
  induction l with
  | nil => intro k _ h; simp; omega
  | cons y l ih =>
    intro k h hk
    simp only [risesP, Bool.and_eq_true, decide_eq_true_eq] at h
    have := ih y h.2 h.1.2
    simp only [List.length_cons]
    omega
theorem riseS_risesP {m : List Int} (hm : QOk m) : ∀ (l : List Int) (k : Int), riseS m (some k) l = true → risesP k l = true := by
  intro l
  induction l with
  | nil => intro _ _; rfl
  | cons y l ih =>
    intro k h
    simp only [riseS, Bool.and_eq_true, decide_eq_true_eq] at h
    have := (rises_lt m (-1) hm.2.1 y h.1.2).2
    simp only [risesP, Bool.and_eq_true, decide_eq_true_eq]
    exact ⟨⟨h.1.1, this⟩, ih y h.2⟩
theorem riseS_none {m : List Int} (hm : QOk m) (l : List Int) (h : riseS m none l = true) : risesP (-1) l = true := by
  cases l with
  | nil => rfl
  | cons y l =>
    simp only [riseS, Bool.and_eq_true, decide_eq_true_eq, true_and] at h
    have := rises_lt m (-1) hm.2.1 y h.1
    simp only [risesP, Bool.and_eq_true, decide_eq_true_eq]
    exact ⟨this, riseS_risesP hm l y h.2⟩
theorem riseS_len {m : List Int} (hm : QOk m) (l : List Int) (h : riseS m none l = true) : l.length ≤ 6 := by
  have := risesP_len l (-1) (riseS_none hm l h) (by omega)
  omega

theorem amost_eq (m l : List Int) (hm : QOk m) (hl : l.length ≤ 1000) : m_attempt_most m l = some (mostS m l) := by
  rw [m_attempt_most, most_eq m l hm hl]; rfl
theorem check1_eq (x : TPromise) (a : TAttempt) : m_attempt_Check_1 x a = some (!decide (MayS x a.Ballot)) := by
  rw [m_attempt_Check_1, may_eq]; rfl
theorem qcheck_ne {m : List Int} (h : ¬ QOk m) : ∃ e, m_quorum_Check m = some e ∧ e ≠ 0 := by
  have h2 : m_quorum_Check m ≠ some 0 := fun hh => h ((qok_iff m).1 hh)
  rw [qcheck_eq] at h2 ⊢
  exact ⟨_, rfl, fun hh => h2 (by rw [hh])⟩

theorem kept_iff (a : TAttempt) : Kept a ↔ BOk a.Ballot ∧ QOk a.Members ∧ a.Wish.length ≤ 1024 ∧ riseS a.Members none (a.Promises.map TPromise.Node) = true ∧ riseS a.Members none a.Accepted = true ∧ (∀ p ∈ a.Promises, MayS p a.Ballot) ∧ mostS a.Members (a.Promises.map TPromise.Node) = decide (a.Phase > 1) ∧ mostS a.Members a.Accepted = (a.Phase == 3) ∧ (a.Phase = 1 ∨ a.Value = bestS a.Promises a.Wish 0) :=
  ⟨fun h => ⟨h.1, h.2, h.3, h.4, h.5, h.6, h.7, h.8, h.9⟩, fun ⟨h1, h2, h3, h4, h5, h6, h7, h8, h9⟩ => ⟨h1, h2, h3, h4, h5, h6, h7, h8, h9⟩⟩

/-- what attempt.Check asks of all begun attempts -/
def checkTail (a0 : TAttempt) (b2 : Bool) : Option Bool :=
  Option.bind (if b2 = true then m_ballot_Check a0.Ballot else some default) fun v2 =>
  Option.bind (if (b2 = true) ∧ (v2 = 0) then m_quorum_Check a0.Members else some default) fun v3 =>
  Option.bind (if (((b2 = true) ∧ (v2 = 0)) ∧ (v3 = 0)) ∧ ((a0.Wish.length : Int) ≤ 1024) then m_attempt_nodes a0.Promises else some default) fun v4 =>
  Option.bind (if (((b2 = true) ∧ (v2 = 0)) ∧ (v3 = 0)) ∧ ((a0.Wish.length : Int) ≤ 1024) then m_attempt_rising v4 a0.Members else some default) fun v5 =>
  Option.bind (if ((((b2 = true) ∧ (v2 = 0)) ∧ (v3 = 0)) ∧ ((a0.Wish.length : Int) ≤ 1024)) ∧ (v5 = true) then m_attempt_rising a0.Accepted a0.Members else some default) fun v6 =>
  Option.bind (if (((((b2 = true) ∧ (v2 = 0)) ∧ (v3 = 0)) ∧ ((a0.Wish.length : Int) ≤ 1024)) ∧ (v5 = true)) ∧ (v6 = true) then m_slices_ContainsFunc_Promise_Promise a0.Promises (fun x0 => m_attempt_Check_1 x0 a0) else some default) fun v7 =>
  Option.bind (if ((((((b2 = true) ∧ (v2 = 0)) ∧ (v3 = 0)) ∧ ((a0.Wish.length : Int) ≤ 1024)) ∧ (v5 = true)) ∧ (v6 = true)) ∧ (¬ (v7 = true)) then m_attempt_nodes a0.Promises else some default) fun v8 =>
  Option.bind (if ((((((b2 = true) ∧ (v2 = 0)) ∧ (v3 = 0)) ∧ ((a0.Wish.length : Int) ≤ 1024)) ∧ (v5 = true)) ∧ (v6 = true)) ∧ (¬ (v7 = true)) then m_attempt_most a0.Members v8 else some default) fun v9 =>
  Option.bind (if (((((((b2 = true) ∧ (v2 = 0)) ∧ (v3 = 0)) ∧ ((a0.Wish.length : Int) ≤ 1024)) ∧ (v5 = true)) ∧ (v6 = true)) ∧ (¬ (v7 = true))) ∧ ((v9 == (decide (a0.Phase > 1))) = true) then m_attempt_most a0.Members a0.Accepted else some default) fun v10 =>
  Option.bind (if (((((((((b2 = true) ∧ (v2 = 0)) ∧ (v3 = 0)) ∧ ((a0.Wish.length : Int) ≤ 1024)) ∧ (v5 = true)) ∧ (v6 = true)) ∧ (¬ (v7 = true))) ∧ ((v9 == (decide (a0.Phase > 1))) = true)) ∧ ((v10 == (a0.Phase == 3)) = true)) ∧ (¬ (a0.Phase = 1)) then m_attempt_Best a0.Promises a0.Wish else some default) fun v11 =>
  some (((((((((b2 && (v2 == 0)) && (v3 == 0)) && (decide ((a0.Wish.length : Int) ≤ 1024))) && v5) && v6) && (!v7)) && (v9 == (decide (a0.Phase > 1)))) && (v10 == (a0.Phase == 3))) && ((a0.Phase == 1) || (a0.Value == v11)))

theorem tail_eq (a : TAttempt) (hl : a.Promises.length < 1000000) (b2 : Bool) : ∃ r, checkTail a b2 = some r ∧ (r = true ↔ b2 = true ∧ Kept a) := by
  unfold checkTail
  rw [kept_iff]
  cases b2 with
  | false => simp
  | true =>
    rw [bcheck_eq]
    by_cases hb : BOk a.Ballot
    · by_cases hq : QOk a.Members
      · have hq0 := (qok_iff _).2 hq
        by_cases hw : a.Wish.length ≤ 1024
        · have hw' : (a.Wish.length : Int) ≤ 1024 := by omega
          simp only [hb, hq0, hw', if_true, and_self, Option.bind_some, nodes_eq _ hl, rising_eq]
          by_cases h5 : riseS a.Members none (a.Promises.map TPromise.Node) = true
          · by_cases h6 : riseS a.Members none a.Accepted = true
            · have l1 := riseS_len hq _ h5
              have l2 := riseS_len hq _ h6
              rw [containsFunc_eq _ (fun x => !decide (MayS x a.Ballot)) (fun x => check1_eq x a)]
              simp only [h5, h6, and_self, if_true, Option.bind_some]
              by_cases h7 : ∀ p ∈ a.Promises, MayS p a.Ballot
              · have h7' : (a.Promises.any fun x => !decide (MayS x a.Ballot)) = false := by
                  rw [Bool.eq_false_iff]; intro hh; exact (any_may _ _).1 hh h7
                simp only [h7', Bool.false_eq_true, not_false_eq_true, and_self, if_true, Option.bind_some, amost_eq _ _ hq (Nat.le_trans l1 (by omega)), amost_eq _ _ hq (Nat.le_trans l2 (by omega)), best_eq]
                by_cases h9 : mostS a.Members (a.Promises.map TPromise.Node) = decide (a.Phase > 1)
                · by_cases h10 : mostS a.Members a.Accepted = (a.Phase == 3)
                  · by_cases h11 : a.Phase = 1
                    · simp [h9, h10, h11, hq, hw]
                      exact h7
                    · simp [h9, h10, h11, hq, hw]
                      exact fun _ => h7
                  · simp [h9, h10]
                · simp [h9]
              · have h7' := (any_may _ _).2 h7
                simp [h7', h7]
            · simp [h5, h6]
          · simp [h5]
        · have hw' : ¬ (a.Wish.length : Int) ≤ 1024 := by omega
          simp [hb, hq0, hw, hw']
      · obtain ⟨e, he, hne⟩ := qcheck_ne hq
        simp [hb, he, hne, hq]
    · simp [hb]

theorem check_eq (a : TAttempt) (hl : a.Promises.length < 1000000) : ∃ e, m_attempt_Check a = some e ∧ (e = 0 ↔ Valid a) := by
  unfold Valid
  rw [m_attempt_Check]
  by_cases h0 : a.Phase = 0
  · rw [if_pos h0, if_pos h0, same_eq]
    by_cases hz : a = ⟨0, 0, [], [], [], [], []⟩ <;> simp [hz]
  · rw [if_neg h0, if_neg h0]
    have key : ∀ b2 : Bool, ∃ e, (Option.bind (checkTail a b2) fun b1 => if ¬ (b1 = true) then some (8 : Int) else some 0) = some e ∧ (e = 0 ↔ b2 = true ∧ Kept a) := by
      intro b2
      obtain ⟨r, h1, h2⟩ := tail_eq a hl b2
      rw [h1, ← h2]
      cases r <;> simp
    by_cases h1 : a.Phase = 1
    · rw [if_pos h1]
      obtain ⟨e, he, h2⟩ := key ((a.Value == []) && ((a.Accepted.length : Int) == 0))
      refine ⟨e, he, ?_⟩
      rw [h2]
      simp [h1]
    · rw [if_neg h1]
      by_cases h2 : a.Phase = 2
      · obtain ⟨e, he, h3⟩ := key true
        refine ⟨e, ?_, ?_⟩
        · have hb : (a.Phase == 2) = true := by simp [h2]
          rw [if_pos h2, hb]
          exact he
        · rw [h3]
          simp [h2]
      · by_cases h3 : a.Phase = 3
        · obtain ⟨e, he, h4⟩ := key true
          refine ⟨e, ?_, ?_⟩
          · have hb : (a.Phase == 3) = true := by simp [h3]
            rw [if_neg h2]
            refine Eq.trans ?_ he
            show Option.bind (Option.bind (Option.bind (some (a.Phase == 3)) _) _) _ = _
            generalize hg : (a.Phase == 3) = q at hb
            subst hb
            unfold checkTail
            rw [hg]
            rfl
          · rw [h4]
            simp [h3]
        · exact ⟨8, by simp [h2, h3], by simp [h1, h2, h3]⟩
end Go.Proofs
end
section
/- Plain facts about sort.Search. -/

namespace Go.Proofs
open Go.Tm
set_option linter.unusedSimpArgs false

theorem half_eq (i j : Nat) (h : i + j < 4000000) : wr .i64 (shw false .u64 (wr .u64 (wr .i64 ((i : Int) + (j : Int)))) 1) = (((i + j) / 2 : Nat) : Int) := by
  have e1 : wr .i64 ((i : Int) + (j : Int)) = (i : Int) + (j : Int) := wr_eq _ _ (by show (-9223372036854775808 : Int) ≤ _; omega) (by show _ ≤ (9223372036854775807 : Int); omega)
  have e2 : wr .u64 ((i : Int) + (j : Int)) = (i : Int) + (j : Int) := wr_eq _ _ (by show (0 : Int) ≤ _; omega) (by show _ ≤ (18446744073709551615 : Int); omega)
  have e3 : shw false .u64 ((i : Int) + (j : Int)) 1 = (((i + j) / 2 : Nat) : Int) := by
    unfold shw
    show Int.fdiv ((i : Int) + (j : Int)) 2 = _
    rw [Int.fdiv_eq_ediv_of_nonneg _ (by omega)]
    omega
  rw [e1, e2, e3]
  exact wr_eq _ _ (by show (-9223372036854775808 : Int) ≤ _; omega) (by show _ ≤ (9223372036854775807 : Int); omega)
theorem search_loop (f : Int → Option Bool) (K n : Nat) (hn : n < 1000000) (hf : ∀ x : Nat, x < n → f (x : Int) = some (decide (K ≤ x))) : ∀ (fu i j : Nat), j - i < fu → i ≤ K → K ≤ j → j ≤ n → m_sort_Search_loop1 f fu (i : Int) (j : Int) = some (K : Int) := by
  intro fu
  induction fu with
  | zero => intro i j h; omega
  | succ fu ih =>
    intro i j h h1 h2 h3
    rw [m_sort_Search_loop1]
    by_cases hij : i < j
    · rw [if_pos (by omega), half_eq i j (by omega), hf _ (by omega)]
      simp only [Option.bind_some]
      by_cases hk : K ≤ (i + j) / 2
      · rw [if_neg (by simpa using hk)]
        exact ih i ((i + j) / 2) (by omega) h1 hk (by omega)
      · rw [if_pos (by simpa using hk)]
        have e : wr .i64 ((((i + j) / 2 : Nat) : Int) + 1) = (((i + j) / 2 + 1 : Nat) : Int) := wr_eq _ _ (by show (-9223372036854775808 : Int) ≤ _; omega) (by show _ ≤ (9223372036854775807 : Int); omega)
        rw [e]
        exact ih _ j (by omega) (by omega) h2 h3
    · rw [if_neg (by omega)]
      congr 2
      omega
theorem search_eq (f : Int → Option Bool) (K n : Nat) (hn : n < 1000000) (hK : K ≤ n) (hf : ∀ x : Nat, x < n → f (x : Int) = some (decide (K ≤ x))) : m_sort_Search (n : Int) f = some (K : Int) := by
  rw [m_sort_Search]
  have h := search_loop f K n hn hf ((n : Int).toNat + 1) 0 n (by simp) (by omega) hK (by omega)
  rw [show ((0 : Nat) : Int) = 0 from rfl] at h
  rw [h]
  rfl
end Go.Proofs
end
