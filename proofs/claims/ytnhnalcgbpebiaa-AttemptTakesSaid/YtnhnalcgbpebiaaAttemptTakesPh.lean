/- Models of functions, printed by gw.py. -/
import Derived.Test.YtnhnalcgbpebiaaAttemptTakesPf
import Derived.Test.YtnhnalcgbpebiaaAttemptTakesPg
section
namespace Go.Proofs
open Go.Tm
set_option linter.unusedVariables false

def m_ballot_node (a0 : Int) : Option Bool :=
  some ((decide (a0 ≥ 0)) && (decide (a0 < 6)))

def m_attempt_Best_loop1 : List TPromise → (List UInt8) → Int → Option ((List UInt8))
  | [], s2, n1 =>
    some s2
  | y1 :: rest1, s2, n1 =>
    Option.bind (α := (List UInt8) × Int) (if y1.Ballot > n1 then
    some (y1.Value, y1.Ballot)
    else
    some (s2, n1)) fun (s3, n3) =>
    m_attempt_Best_loop1 rest1 s3 n3
def m_attempt_Best (l : List TPromise) (wish : List UInt8) : Option ((List UInt8)) :=
  Option.bind (α := (List UInt8)) (m_attempt_Best_loop1 l wish 0) fun s1 =>
  some s1

def m_towncrierref08_Best_loop1 : List TPromise → Int → (List UInt8) → Option ((List UInt8))
  | [], n1, s2 =>
    some s2
  | y1 :: rest1, n1, s2 =>
    Option.bind (α := Int × (List UInt8)) (if y1.Ballot > n1 then
    some (y1.Ballot, y1.Value)
    else
    some (n1, s2)) fun (n3, s3) =>
    m_towncrierref08_Best_loop1 rest1 n3 s3
def m_towncrierref08_Best (l : List TPromise) (wish : List UInt8) : Option ((List UInt8)) :=
  Option.bind (α := (List UInt8)) (m_towncrierref08_Best_loop1 l 0 wish) fun s1 =>
  some s1

def m_attempt_nodes_loop1 : List TPromise → (List Int) → Option ((List Int))
  | [], l2 =>
    some l2
  | y1 :: rest1, l2 =>
    if l2.length + [y1.Node].length < 1000000 then
    m_attempt_nodes_loop1 rest1 (l2 ++ [y1.Node])
    else none
theorem m_attempt_nodes_loop1_n (l2 : List Int) : m_attempt_nodes_loop1 [] l2 =
    (some l2 : Option ((List Int))) := rfl
theorem m_attempt_nodes_loop1_c (y1 : TPromise) (rest1 : List TPromise) (l2 : List Int) : m_attempt_nodes_loop1 (y1 :: rest1) l2 =
    (if l2.length + [y1.Node].length < 1000000 then
    m_attempt_nodes_loop1 rest1 (l2 ++ [y1.Node])
    else none : Option ((List Int))) := rfl
def m_attempt_nodes (l : List TPromise) : Option ((List Int)) :=
  Option.bind (α := (List Int)) (m_attempt_nodes_loop1 l []) fun l1 =>
  some l1

def m_towncrierref08_nodes_loop1 : List TPromise → (List Int) → Option ((List Int))
  | [], l2 =>
    some l2
  | y1 :: rest1, l2 =>
    if l2.length + [y1.Node].length < 1000000 then
    m_towncrierref08_nodes_loop1 rest1 (l2 ++ [y1.Node])
    else none
theorem m_towncrierref08_nodes_loop1_n (l2 : List Int) : m_towncrierref08_nodes_loop1 [] l2 =
    (some l2 : Option ((List Int))) := rfl
theorem m_towncrierref08_nodes_loop1_c (y1 : TPromise) (rest1 : List TPromise) (l2 : List Int) : m_towncrierref08_nodes_loop1 (y1 :: rest1) l2 =
    (if l2.length + [y1.Node].length < 1000000 then
    m_towncrierref08_nodes_loop1 rest1 (l2 ++ [y1.Node])
    else none : Option ((List Int))) := rfl
def m_towncrierref08_nodes (l : List TPromise) : Option ((List Int)) :=
  Option.bind (α := (List Int)) (m_towncrierref08_nodes_loop1 l []) fun l1 =>
  some l1

def m_slices_Index_int_int_loop1 (v : Int) : List Int → Nat → Option (Int ⊕ Unit)
  | [], n1 =>
    some (.inr ())
  | y1 :: rest1, n1 =>
    if v = y1 then
    some (.inl (n1 : Int))
    else
    m_slices_Index_int_int_loop1 v rest1 (n1 + 1) 
def m_slices_Index_int_int (s : List Int) (v : Int) : Option Int :=
  Option.bind (α := Int ⊕ Unit) (m_slices_Index_int_int_loop1 v s 0 ) fun z => match z with
  | (.inl r) => some r
  | (.inr _) =>
  some (-1)

def m_towncrierref01_SameInts_loop1 (b : List Int) : List Int → Nat → Option (Bool ⊕ Unit)
  | [], n1 =>
    some (.inr ())
  | y1 :: rest1, n1 =>
    if n1 < b.length then
    if ¬ (y1 = (b.getD n1 default)) then
    some (.inl false)
    else
    m_towncrierref01_SameInts_loop1 b rest1 (n1 + 1) 
    else none
def m_towncrierref01_SameInts (a : List Int) (b : List Int) : Option Bool :=
  if ¬ ((a.length : Int) = (b.length : Int)) then
  some false
  else
  Option.bind (α := Bool ⊕ Unit) (m_towncrierref01_SameInts_loop1 b a 0 ) fun z => match z with
  | (.inl r) => some r
  | (.inr _) =>
  some true

def m_slices_Contains_int_int (a0 : List Int) (a1 : Int) : Option Bool :=
  Option.bind (m_slices_Index_int_int a0 a1) fun v1 =>
  some (decide (v1 ≥ 0))

def m_quorum_Has (a0 : List Int) (a1 : Int) : Option Bool :=
  Option.bind (m_slices_Contains_int_int a0 a1) fun v1 =>
  some v1

def m_quorum_Check_loop1 : List Int → Int → Option (Int ⊕ Int)
  | [], n2 =>
    some (.inr n2)
  | y1 :: rest1, n2 =>
    if (y1 ≤ n2) ∨ (y1 ≥ 6) then
    some (.inl 60)
    else
    m_quorum_Check_loop1 rest1 (y1)
def m_quorum_Check (a0 : List Int) : Option Int :=
  if (a0.length : Int) > 6 then
  some 4
  else
  Option.bind (α := Int ⊕ Int) (m_quorum_Check_loop1 a0 (-1)) fun z => match z with
  | (.inl r) => some r
  | (.inr n1) =>
  if n1 < 0 then
  some 60
  else
  some 0

def m_ballot_Of (a0 : Int) : Option (Int × Int × Int) :=
  Option.bind (if ¬ (((wr .i64 (a0.tdiv 8)) < 1) ∨ ((wr .i64 (a0.tdiv 8)) > 1048576)) then m_ballot_node (a0.tmod 8) else some default) fun v1 =>
  if (((wr .i64 (a0.tdiv 8)) < 1) ∨ ((wr .i64 (a0.tdiv 8)) > 1048576)) ∨ (¬ (v1 = true)) then
  some (0, 0, 50)
  else
  some ((wr .i64 (a0.tdiv 8)), (a0.tmod 8), 0)

def m_ballot_Check (a0 : Int) : Option Int :=
  Option.bind (m_ballot_Of a0) fun v1 =>
  if ¬ (v1.2.2 = 0) then
  some v1.2.2
  else
  some 0

def m_quorum_Need (a0 : List Int) : Option (Int × Int) :=
  Option.bind (m_quorum_Check a0) fun v1 =>
  if ¬ (v1 = 0) then
  some (0, v1)
  else
  some ((wr .i64 ((wr .i64 ((a0.length : Int).tdiv 2)) + 1)), 0)

def m_towncrierref06_Has_loop1 (a1 : Int) : List Int → Option (Bool ⊕ Unit)
  | [] =>
    some (.inr ())
  | y1 :: rest1 =>
    if y1 = a1 then
    some (.inl true)
    else
    m_towncrierref06_Has_loop1 a1 rest1 
def m_towncrierref06_Has (a0 : List Int) (a1 : Int) : Option Bool :=
  Option.bind (α := Bool ⊕ Unit) (m_towncrierref06_Has_loop1 a1 a0 ) fun z => match z with
  | (.inl r) => some r
  | (.inr _) =>
  some false

def m_towncrierref06_Within_loop1 (a1 : List Int) : List Int → Option (Bool ⊕ Unit)
  | [] =>
    some (.inr ())
  | y1 :: rest1 =>
    Option.bind (m_towncrierref06_Has a1 (y1)) fun v1 =>
    if ¬ (v1 = true) then
    some (.inl false)
    else
    m_towncrierref06_Within_loop1 a1 rest1 
def m_towncrierref06_Within (a0 : List Int) (a1 : List Int) : Option Bool :=
  Option.bind (α := Bool ⊕ Unit) (m_towncrierref06_Within_loop1 a1 a0 ) fun z => match z with
  | (.inl r) => some r
  | (.inr _) =>
  some true

def m_towncrierref06_May_loop1 (a0 : List Int) : List Int → Nat → Option (Bool ⊕ Unit)
  | [], n1 =>
    some (.inr ())
  | y1 :: rest1, n1 =>
    if ((y1 < 0) ∨ (y1 ≥ 6)) ∨ (((n1 : Int) > 0) ∧ (y1 ≤ (a0.getD (n1 - 1) default))) then
    some (.inl false)
    else
    m_towncrierref06_May_loop1 a0 rest1 (n1 + 1) 
def m_towncrierref06_May (a0 : List Int) : Option Bool :=
  Option.bind (α := Bool ⊕ Unit) (m_towncrierref06_May_loop1 a0 a0 0 ) fun z => match z with
  | (.inl r) => some r
  | (.inr _) =>
  some ((decide ((a0.length : Int) ≥ 1)) && (decide ((a0.length : Int) ≤ 6)))

def m_towncrierref06_Counts_loop1 (a1 : List Int) : List Int → Int → Option (Int)
  | [], n2 =>
    some n2
  | y1 :: rest1, n2 =>
    Option.bind (α := Int) (Option.bind (m_towncrierref06_Has a1 (y1)) fun v1 =>
    if v1 = true then
    some (wr .i64 (n2 + 1))
    else
    some n2) fun n4 =>
    m_towncrierref06_Counts_loop1 a1 rest1 n4
def m_towncrierref06_Counts (a0 : List Int) (a1 : List Int) : Option Bool :=
  Option.bind (α := Int) (m_towncrierref06_Counts_loop1 a1 a0 0) fun n1 =>
  some (decide (n1 ≥ (wr .i64 ((wr .i64 ((a0.length : Int).tdiv 2)) + 1))))

def m_towncrierref05_May (a0 : Int) : Option Bool :=
  some (((decide (a0 ≥ 8)) && (decide (a0 ≤ 8388613))) && (decide ((a0.tmod 8) < 6)))

def m_towncrierref08_rising_loop1 (a0 : List Int) : List Int → Nat → Option (Bool ⊕ Unit)
  | [], n1 =>
    some (.inr ())
  | y1 :: rest1, n1 =>
    if ((n1 : Int) > 0) ∧ (y1 ≤ (a0.getD (n1 - 1) default)) then
    some (.inl false)
    else
    m_towncrierref08_rising_loop1 a0 rest1 (n1 + 1) 
def m_towncrierref08_rising (a0 : List Int) (a1 : List Int) : Option Bool :=
  Option.bind (α := Bool ⊕ Unit) (m_towncrierref08_rising_loop1 a0 a0 0 ) fun z => match z with
  | (.inl r) => some r
  | (.inr _) =>
  Option.bind (m_towncrierref06_Within a0 a1) fun v1 =>
  some v1

def m_towncrierref08_MayPromise (a0 : TPromise) (a1 : Int) : Option Bool :=
  if a0.Ballot = 0 then
  some (a0.Value == [])
  else
  Option.bind (m_towncrierref05_May a0.Ballot) fun v1 =>
  some ((v1 && (decide (a0.Ballot < a1))) && (decide ((a0.Value.length : Int) ≤ 1024)))

def m_attempt_rising_loop1 (a0 : List Int) (a1 : List Int) : List Int → Nat → Option (Bool ⊕ Unit)
  | [], n1 =>
    some (.inr ())
  | y1 :: rest1, n1 =>
    Option.bind (if ¬ (((n1 : Int) > 0) ∧ (y1 ≤ (a0.getD (n1 - 1) default))) then m_quorum_Has a1 (y1) else some default) fun v1 =>
    if (((n1 : Int) > 0) ∧ (y1 ≤ (a0.getD (n1 - 1) default))) ∨ (¬ (v1 = true)) then
    some (.inl false)
    else
    m_attempt_rising_loop1 a0 a1 rest1 (n1 + 1) 
def m_attempt_rising (a0 : List Int) (a1 : List Int) : Option Bool :=
  Option.bind (α := Bool ⊕ Unit) (m_attempt_rising_loop1 a0 a1 a0 0 ) fun z => match z with
  | (.inl r) => some r
  | (.inr _) =>
  some true

def m_attempt_may (a0 : TPromise) (a1 : Int) : Option Bool :=
  if a0.Ballot = 0 then
  some (a0.Value == [])
  else
  Option.bind (m_ballot_Check a0.Ballot) fun v1 =>
  some (((v1 == 0) && (decide (a0.Ballot < a1))) && (decide ((a0.Value.length : Int) ≤ 1024)))
end Go.Proofs
end
section
/- The walks of functions, printed by gw.py. -/



namespace Go.Proofs
open Go.Tm Go.RowKit Go.WideShapes
set_option maxRecDepth 100000
set_option maxHeartbeats 4000000
set_option linter.unusedSimpArgs false
set_option linter.unusedVariables false
attribute [local go_sem] argVars runE runK isCallV stepE aop opd opdsL opds opdO ev ofVal keep List.any natbeq Bool.false_or Bool.true_or aggEq cond_true cond_false Bool.cond_false_right Bool.cond_true_left beq_true beq_false imp_self implies_true getR getL put St.app effL del nwB blt_dec Nat.lt_irrefl Nat.lt_add_one ble_dec Nat.le_refl Nat.beq_refl roomNZ appendIn capS capK mkZ_zero mkZL_zero zeroEl D.ids D.idsL Option.getD bin arith sarith binT dpick Tm.part splice fillD oneD loadD storeD srcD sliceD idxOk decide_true gval dstAt D.cells List.map_cons List.map_nil List.take List.drop List.length_map List.append Int.toNat_natCast and_true true_and decide_false List.length_cons List.length_nil List.append_nil List.nil_append Bool.and_true Bool.true_and Bool.not_false Bool.not_true ne_eq not_false_eq_true BEq.rfl List.getElem?_cons_zero List.getElem?_cons_succ List.getElem?_nil Nat.zero_add List.all_cons List.all_nil List.isEmpty_cons List.isEmpty_nil List.any_cons List.any_nil List.drop_succ_cons List.drop_zero unfL unf okM okML low3 List.cons_append true_or or_true Nat.zero_mul Nat.zero_le bytesD_map map_ub mkZ_one mkZL_one mkM mkML mk1_int mk1_str mk1_bool drop_map take_map take_map_len List.take_length Int.toNat_zero toNat_pred fpOf metIds opIds mvV mvH mvF pickL D.ren D.renL Blk.ren List.map_append List.length_append Bool.not_not Bool.or_not_self Bool.not_or_self Bool.or_true
attribute [local go_sem] Try.tm_1 Try.tm_2 Try.tm_3 Try.tm_4 Try.tm_5 Try.tm_6 Try.tm_7 Try.tm_8 Try.tm_9 Try.tm_10 Try.tm_11 Try.tm_12 Try.tm_13 Try.tm_14 Try.tm_15 Try.tm_16 Try.tm_17 Try.tm_18 Try.tm_19 Try.tm_20 Try.tm_21 Try.tm_22 Try.tm_23 Try.tm_24 Try.tm_25 Try.tm_26 Try.tm_27 Try.tm_28 Try.tm_29 Try.tm_30 Try.tm_32 Try.tm_34 Try.tm_35 Try.tm_36 Try.tm_37 Try.tm_38 Try.tm_39 Try.tm_40 Try.tm_41 Try.tm_42 Try.tm_43 Try.tm_44 Try.tm_45 Try.tm_46 Try.tm_47 Try.tm_48 Try.tm_50 Try.tm_51 Try.tm_52 Try.tm_53 Try.tm_54 Try.tm_55 Try.tm_57 Try.tm_58 Try.tm_59 Try.tm_61 Try.tm_63 Try.tm_64 Try.tm_65 Try.tm_66 Try.tm_67 Try.tm_68 Try.tm_69 Try.tm_70 Try.tm_71 Try.tm_73 Try.tm_75 Try.tm_76 Try.tm_78 Try.tm_79 Try.tm_80 Try.tm_81 Try.tm_82 Try.tm_83 Try.tm_84 Try.tm_85 Try.tm_86 Try.tm_87 Try.tm_88 Try.tm_89 Try.tm_90 Try.tm_91 Try.tm_93 Try.tm_94 Try.tm_95 Try.tm_96 Try.tm_97 Try.tm_98 Try.tm_99 Try.tm_100 Try.tm_101 Try.tm_102 Try.tm_103 Try.tm_104 Try.tm_105 Try.tm_106 Try.tm_107 Try.tm_109 Try.tm_111 Try.tm_113 Try.tm_114 Try.tm_115 Try.tm_116 Try.tm_117 Try.tm_118 Try.tm_119 Try.tm_120 Try.tm_121 Try.tm_123 Try.tm_124 Try.tm_125 Try.tm_127 Try.tm_128 Try.tm_129 Try.tm_130 Try.tm_131 Try.tm_132 Try.tm_133 Try.tm_134 Try.tm_135 Try.tm_136 Try.tm_137 Try.tm_138 Try.tm_139 Try.tm_140 Try.tm_141 Try.tm_142 Try.tm_143 Try.tm_144 Try.tm_145 Try.tm_146 Try.tm_147 Try.tm_149 Try.tm_150 Try.tm_151 Try.tm_152 Try.tm_153 Try.tm_154 Try.tm_155 Try.tm_156 Try.tm_157 Try.tm_158 Try.tm_159 Try.tm_160 Try.tm_162 Try.tm_163 Try.tm_164 Try.tm_165 Try.tm_166 Try.tm_167 Try.tm_168 Try.tm_169 Try.tm_170 Try.tm_171 Try.tm_172 Try.tm_173 Try.tm_175 Try.tm_177 Try.tm_178 Try.tm_179 Try.tm_180 Try.tm_181 Try.tm_182 Try.tm_184 Try.tm_185 Try.tm_187 Try.tm_189 Try.tm_191 Try.tm_192 Try.tm_193 Try.tm_194 Try.tm_195 Try.tm_196 Try.tm_197 Try.tm_198 Try.tm_199 Try.tm_200 Try.tm_201 Try.tm_202 Try.tm_203 Try.tm_204 Try.tm_205 Try.tm_206 Try.tm_207 Try.tm_208 Try.tm_209 Try.tm_210 Try.tm_211 Try.tm_212 Try.tm_213 Try.tm_214 Try.tm_215 Try.tm_216 Try.tm_217 Try.tm_218 Try.tm_219 Try.tm_220 Try.tm_221 Try.tm_223 Try.tm_224 Try.tm_225 Try.tm_226 Try.tm_227 Try.tm_229 Try.tm_230 Try.tm_231 Try.tm_232 Try.tm_233 Try.tm_235 Try.tm_236 Try.tm_237 Try.tm_238 Try.tm_239 Try.tm_240 Try.tm_241 Try.tm_242 Try.tm_243 Try.tm_244 Try.tm_245 Try.tm_246 Try.tm_247 Try.tm_248 Try.tm_249 Try.tm_250 Try.tm_251 Try.tm_252 Try.tm_253 Try.tm_254 Try.tm_255 Try.tm_256 Try.tm_257 Try.tm_258 Try.tm_259 Try.tm_260 Try.tm_262 Try.tm_263 Try.tm_264 Try.tm_265 Try.tm_266 Try.tm_267 Try.tm_269 Try.tm_270 Try.tm_271 Try.tm_272 Try.tm_273 Try.tm_274 Try.tm_275 Try.tm_276 Try.tm_277 Try.tm_278 Try.tm_280 Try.tm_281 Try.tm_282 Try.tm_283 Try.tm_284 Try.tm_286 Try.tm_288 Try.tm_289 Try.tm_290 Try.tm_291 Try.tm_292 Try.tm_294 Try.tm_296 Try.tm_297 Try.tm_298 Try.tm_299 Try.tm_300 Try.tm_302 Try.tm_303 Try.tm_304 Try.tm_305 Try.tm_306 Try.tm_307 Try.tm_308 Try.tm_309 Try.tm_310 Try.tm_311 Try.tm_312 Try.tm_313 Try.tm_314 Try.tm_315 Try.tm_316 Try.tm_317 Try.tm_318 Try.tm_319 Try.tm_320 Try.tm_321 Try.tm_322 Try.tm_324 Try.tm_325 Try.tm_326 Try.tm_327 Try.tm_330 Try.tm_331 Try.tm_332 Try.tm_333 Try.tm_334 Try.tm_335 Try.tm_336 Try.tm_337 TPromise.d TAttempt.d TAttempt.n dL_str nL_str TVote.d TSeen.d TStable.d TStable.n TRecord.d TMessage.d TMessage.n TWait.d TWait.n TStamp.d TSkeen.d TSkeen.n TCommand.d TCommand.n mk1_TPromise mk1_TAttempt mk1_dL_str mk1_TVote mk1_TSeen mk1_TStable mk1_TRecord mk1_TMessage mk1_TWait mk1_TStamp mk1_TSkeen mk1_TCommand Try.f237 Try.f85 Try.f90 Try.f84 Try.f88 Try.f231 Try.f95 Try.f180 Try.f78 Try.f97 Try.f187 Try.f96 Try.f233 Try.f86 Try.f189 Try.f102 Try.f217 Try.f89 Try.f101 Try.f103 Try.f87 Try.f98 Try.f79


theorem callP_ballot_node (a0 : Int) (r : Bool) (h : m_ballot_node a0 = some r) : CallP Try.prog 237 [.int .i64 a0] (.bool r) := by
  refine callP_intro Try.tmOk 2 Try.func237 rfl (by decide) rfl rfl (Nat.le_of_ble_eq_true rfl) ?_
  intro hwf
  unfold m_ballot_node at h
  refine .seq ?_
  refine .pl Try.S [0] ?_
  refine .seq ?_
  refine .pl Try.S [0] ?_
  have hq := Option.some.inj h
  subst r
  exact .ret ⟨.inr rfl, rsi⟩

def Try.St_attempt_Best_1 (s1 : List UInt8) : St := ⟨[(1, .str s1)], [], 0⟩
attribute [local go_sem] Try.St_attempt_Best_1
def Try.St_attempt_Best_3 (l : List TPromise) (n2 : Nat) (s2 : List UInt8) (n1 : Int) : St := ⟨[(1, .str s2), (5, .int .i64 n1), (8, .imm 3 (l.map TPromise.d) 4), (9, .int .i64 (l.length : Int)), (10, .int .i64 (n2 : Int))], [], 0⟩
attribute [local go_sem] Try.St_attempt_Best_3
def Try.St_attempt_Best_5 (l : List TPromise) (n2 : Nat) (s3 : List UInt8) (n3 : Int) : St := ⟨[(1, .str s3), (5, .int .i64 n3), (8, .imm 3 (l.map TPromise.d) 4), (9, .int .i64 (l.length : Int)), (10, .int .i64 (n2 : Int))], [], 0⟩
attribute [local go_sem] Try.St_attempt_Best_5
theorem callP_attempt_Best (l : List TPromise) (wish : List UInt8) (r : (List UInt8)) (h : m_attempt_Best l wish = some r) : CallP Try.prog 85 [.imm 3 (l.map TPromise.d) 4, .str wish] (.str r) := by
  refine callP_intro Try.tmOk 3 Try.func85 rfl (by decide) rfl rfl (Nat.le_of_ble_eq_true rfl) ?_
  intro hwf
  unfold m_attempt_Best at h
  refine .seq ?_
  refine .pl Try.S [0, 1] ?_
  refine .seq ?_
  refine .pl Try.S [0, 1] ?_
  obtain ⟨x1, hx1, h⟩ := bind_some h
  refine .seqM 0 (fun (j : (List UInt8)) => Try.St_attempt_Best_1 j) (fun j => x1 = j) (Nat.le_of_ble_eq_true rfl) ?_ ?_
  · skip
    refine .seq ?_
    refine .pl Try.S [0, 1, 5] ?_
    refine .block ?_
    refine .loopG 0 (fun (j : Nat × (List UInt8) × Int) => Try.St_attempt_Best_3 l j.1 j.2.1 j.2.2) (fun j => j.1 ≤ l.length ∧ m_attempt_Best_loop1 (l.drop j.1) j.2.1 j.2.2 = some x1) (fun j => l.length - j.1) (0, wish, 0) (Nat.le_of_ble_eq_true rfl) ?_ ⟨Nat.zero_le _, hx1⟩ ?_
    · skip
      exact .m [1, 5, 8, 9, 10] [] []
    rintro ⟨n2, s2, n1⟩ ⟨hi1, hx1⟩
    simp only [Try.St_attempt_Best_3]
    simp only at hi1 hx1
    refine .wf 9 (.int .i64 (l.length : Int)) rfl ?_
    intro hln2
    replace hln2 : (l.length : Int) ≤ 9223372036854775807 := by simp only [wf, wfL, IntKind.max, IntKind.min, IntKind.signed, IntKind.bits, List.length_map] at hln2; first | exact hln2.2 | exact hln2.1 | (simp at hln2; omega)
    refine .seq ?_
    refine .pl Try.S [1, 5, 8, 9, 10] ?_
    refine .seq ?_
    refine .cond rfl rfl (fun hc1 => ?_) (fun hc1 => ?_)
    · skip
      have h1 : n2 < l.length := by simpa using hc1
      have hwn2 : wr .i64 ((n2 : Int) + 1) = ((n2 + 1 : Nat) : Int) := wr_succ h1 hln2
      have hpn2 : wr .i64 ((n2 : Int) - 1) = (n2 : Int) - 1 := wr_pred h1 hln2
      rw [List.drop_eq_getElem_cons h1, m_attempt_Best_loop1] at hx1
      refine .skip ?_
      obtain ⟨x2, hx2, hx1⟩ := bind_some hx1
      refine .seqM 0 (fun (j : (List UInt8) × Int) => Try.St_attempt_Best_5 l n2 j.1 j.2) (fun j => x2 = j) (Nat.le_of_ble_eq_true rfl) ?_ ?_
      · skip
        refine .block ?_
        refine .seq ?_
        have e1 := nth_map TPromise.d l n2 h1
        refine .plx Try.S (And.intro e1 hwn2) [1, 5, 8, 9, 10] ?_
        refine .seq ?_
        refine .plx Try.S hwn2 [1, 5, 7, 8, 9, 10] ?_
        refine .cond rfl rfl (fun hc2 => ?_) (fun hc2 => ?_)
        · skip
          replace hx2 := ite_lc hx2 hc2
          refine .drx Try.S hwn2 [7, 8, 9, 10] ?_
          refine ⟨_, ?_, (Option.some.inj hx2).symm⟩
          exact .m [1, 5, 8, 9, 10] [] []
        · skip
          replace hx2 := ite_rc hx2 hc2
          refine .skip ?_
          refine ⟨_, ?_, (Option.some.inj hx2).symm⟩
          exact .m [1, 5, 8, 9, 10] [] []
      · skip
        rintro ⟨s3, n3⟩ hj1
        subst x2
        try dsimp only at hx1
        simp only [Try.St_attempt_Best_5]
        refine .plx Try.S hwn2 [1, 5, 8, 9, 10] ?_
        refine ⟨(n2 + 1, _, _), ?_, ⟨by omega, hx1⟩, by dsimp only; omega⟩
        exact .m [1, 5, 8, 9, 10] [] []
    · skip
      have h2 : n2 = l.length := by have h2b := of_decide_eq_false hc1; omega
      rw [List.drop_of_length_le (by omega), m_attempt_Best_loop1] at hx1
      refine .exit ?_
      refine ⟨_, ?_, (Option.some.inj hx1).symm⟩
      exact .m [1] [] []
  · skip
    rintro s1 hj2
    subst x1
    try dsimp only at h
    simp only [Try.St_attempt_Best_1]
    refine .seq ?_
    refine .pl Try.S [1] ?_
    have hq := Option.some.inj h
    subst r
    exact .ret ⟨.inr rfl, rsi⟩

def Try.St_towncrierref08_Best_1 (s1 : List UInt8) : St := ⟨[(6, .str s1)], [], 0⟩
attribute [local go_sem] Try.St_towncrierref08_Best_1
def Try.St_towncrierref08_Best_3 (l : List TPromise) (n2 : Nat) (n1 : Int) (s2 : List UInt8) : St := ⟨[(0, .imm 3 (l.map TPromise.d) 4), (5, .int .i64 n1), (6, .str s2), (7, .int .i64 (n2 : Int))], [], 0⟩
attribute [local go_sem] Try.St_towncrierref08_Best_3
def Try.St_towncrierref08_Best_5 (l : List TPromise) (n2 : Nat) (n3 : Int) (s3 : List UInt8) : St := ⟨[(0, .imm 3 (l.map TPromise.d) 4), (5, .int .i64 n3), (6, .str s3), (7, .int .i64 (n2 : Int))], [], 0⟩
attribute [local go_sem] Try.St_towncrierref08_Best_5
theorem callP_towncrierref08_Best (l : List TPromise) (wish : List UInt8) (r : (List UInt8)) (h : m_towncrierref08_Best l wish = some r) : CallP Try.prog 90 [.imm 3 (l.map TPromise.d) 4, .str wish] (.str r) := by
  refine callP_intro Try.tmOk 2 Try.func90 rfl (by decide) rfl rfl (Nat.le_of_ble_eq_true rfl) ?_
  intro hwf
  unfold m_towncrierref08_Best at h
  refine .seq ?_
  refine .pl Try.S [0, 1] ?_
  refine .seq ?_
  refine .pl Try.S [0, 1] ?_
  obtain ⟨x1, hx1, h⟩ := bind_some h
  refine .seqM 0 (fun (j : (List UInt8)) => Try.St_towncrierref08_Best_1 j) (fun j => x1 = j) (Nat.le_of_ble_eq_true rfl) ?_ ?_
  · skip
    refine .seq ?_
    refine .pl Try.S [0, 5, 6] ?_
    refine .block ?_
    refine .loopG 0 (fun (j : Nat × Int × (List UInt8)) => Try.St_towncrierref08_Best_3 l j.1 j.2.1 j.2.2) (fun j => j.1 ≤ l.length ∧ m_towncrierref08_Best_loop1 (l.drop j.1) j.2.1 j.2.2 = some x1) (fun j => l.length - j.1) (0, 0, wish) (Nat.le_of_ble_eq_true rfl) ?_ ⟨Nat.zero_le _, hx1⟩ ?_
    · skip
      exact .m [0, 5, 6, 7] [] []
    rintro ⟨n2, n1, s2⟩ ⟨hi1, hx1⟩
    simp only [Try.St_towncrierref08_Best_3]
    simp only at hi1 hx1
    refine .wf 0 (.imm 3 (l.map TPromise.d) 4) rfl ?_
    intro hln2
    replace hln2 : (l.length : Int) ≤ 9223372036854775807 := by simp only [wf, wfL, IntKind.max, IntKind.min, IntKind.signed, IntKind.bits, List.length_map] at hln2; first | exact hln2.2 | exact hln2.1 | (simp at hln2; omega)
    refine .seq ?_
    refine .seq ?_
    refine .pl Try.S [0, 5, 6, 7] ?_
    refine .cond rfl rfl (fun hc1 => ?_) (fun hc1 => ?_)
    · skip
      have h1 : n2 < l.length := by simpa using hc1
      have hwn2 : wr .i64 ((n2 : Int) + 1) = ((n2 + 1 : Nat) : Int) := wr_succ h1 hln2
      have hpn2 : wr .i64 ((n2 : Int) - 1) = (n2 : Int) - 1 := wr_pred h1 hln2
      rw [List.drop_eq_getElem_cons h1, m_towncrierref08_Best_loop1] at hx1
      refine .skip ?_
      obtain ⟨x2, hx2, hx1⟩ := bind_some hx1
      refine .seqM 0 (fun (j : Int × (List UInt8)) => Try.St_towncrierref08_Best_5 l n2 j.1 j.2) (fun j => x2 = j) (Nat.le_of_ble_eq_true rfl) ?_ ?_
      · skip
        refine .block ?_
        refine .seq ?_
        have e1 := nth_map TPromise.d l n2 h1
        refine .plx Try.S (And.intro e1 hwn2) [0, 5, 6, 7] ?_
        refine .cond rfl rfl (fun hc2 => ?_) (fun hc2 => ?_)
        · skip
          replace hx2 := ite_lc hx2 hc2
          refine .seq ?_
          have e2 := nth_map TPromise.d l n2 h1
          refine .plx Try.S (And.intro e2 hwn2) [0, 7] ?_
          have e3 := nth_map TPromise.d l n2 h1
          refine .plx Try.S (And.intro e3 hwn2) [0, 5, 7] ?_
          refine ⟨_, ?_, (Option.some.inj hx2).symm⟩
          exact .m [0, 5, 6, 7] [] []
        · skip
          replace hx2 := ite_rc hx2 hc2
          refine .skip ?_
          refine ⟨_, ?_, (Option.some.inj hx2).symm⟩
          exact .m [0, 5, 6, 7] [] []
      · skip
        rintro ⟨n3, s3⟩ hj1
        subst x2
        try dsimp only at hx1
        simp only [Try.St_towncrierref08_Best_5]
        refine .plx Try.S hwn2 [0, 5, 6, 7] ?_
        refine ⟨(n2 + 1, _, _), ?_, ⟨by omega, hx1⟩, by dsimp only; omega⟩
        exact .m [0, 5, 6, 7] [] []
    · skip
      have h2 : n2 = l.length := by have h2b := of_decide_eq_false hc1; omega
      rw [List.drop_of_length_le (by omega), m_towncrierref08_Best_loop1] at hx1
      refine .exit ?_
      refine ⟨_, ?_, (Option.some.inj hx1).symm⟩
      exact .m [6] [] []
  · skip
    rintro s1 hj2
    subst x1
    try dsimp only at h
    simp only [Try.St_towncrierref08_Best_1]
    refine .seq ?_
    refine .pl Try.S [6] ?_
    have hq := Option.some.inj h
    subst r
    exact .ret ⟨.inr rfl, rsi⟩

def Try.St_attempt_nodes_1 (l1 : List Int) : St := ⟨[(2, .ref 0 1 0 l1.length (some unkC))], [(0, .arr 3 1 true (l1.map (D.int .i64)))], 1⟩
attribute [local go_sem] Try.St_attempt_nodes_1
def Try.St_attempt_nodes_3 (l : List TPromise) (n1 : Nat) (l2 : List Int) : St := ⟨[(2, .ref 0 1 0 l2.length (some unkC)), (5, .imm 3 (l.map TPromise.d) 4), (6, .int .i64 (l.length : Int)), (7, .int .i64 (n1 : Int))], [(0, .arr 3 1 true (l2.map (D.int .i64)))], 1⟩
attribute [local go_sem] Try.St_attempt_nodes_3
def Try.Re_attempt_nodes (r : (List Int)) : St := ⟨[(2, .ref 0 1 0 r.length (some unkC))], [(0, .arr 3 1 true (r.map (D.int .i64)))], 1⟩
attribute [local go_sem] Try.Re_attempt_nodes
theorem callH_attempt_nodes (l : List TPromise) (r : (List Int)) (h : m_attempt_nodes l = some r) : CallH Try.prog 84 [.imm 3 (l.map TPromise.d) 4] [] (.ref 0 1 0 r.length (some unkC)) [(0, some (.arr 3 1 true (r.map (D.int .i64))))] (0, 6) := by
  refine callH_intro' Try.tmOk Try.func84 rfl (by decide) (Nat.le_of_ble_eq_true rfl) (by simp) ?_
  intro hwf
  unfold m_attempt_nodes at h
  refine .ends 0 (Nat.le_refl _) ?_
  refine .seq ?_
  refine .pl Try.S [0] ?_
  obtain ⟨x1, hx1, h⟩ := bind_some h
  refine .seqM 0 (fun (j : (List Int)) => Try.St_attempt_nodes_1 j) (fun j => x1 = j) (Nat.le_of_ble_eq_true rfl) ?_ ?_
  · skip
    refine .seq ?_
    refine .pl Try.S [0, 2] ?_
    refine .block ?_
    refine .loopG 0 (fun (j : Nat × (List Int)) => Try.St_attempt_nodes_3 l j.1 j.2) (fun j => j.1 ≤ l.length ∧ m_attempt_nodes_loop1 (l.drop j.1) j.2 = some x1) (fun j => l.length - j.1) (0, []) (Nat.le_of_ble_eq_true rfl) ?_ ⟨Nat.zero_le _, hx1⟩ ?_
    · skip
      refine Goes.new0 1 3 (Nat.le_of_ble_eq_true rfl) ?_
      refine Goes.wk 2 _ (.ref 0 1 0 0 (some unkC)) rfl (.own0 0 _ _ _ (by decide)) ?_
      exact .m [2, 5, 6, 7] [0] []
    rintro ⟨n1, l2⟩ ⟨hi1, hx1⟩
    simp only [Try.St_attempt_nodes_3]
    simp only at hi1 hx1
    refine .wf 6 (.int .i64 (l.length : Int)) rfl ?_
    intro hln1
    replace hln1 : (l.length : Int) ≤ 9223372036854775807 := by simp only [wf, wfL, IntKind.max, IntKind.min, IntKind.signed, IntKind.bits, List.length_map] at hln1; first | exact hln1.2 | exact hln1.1 | (simp at hln1; omega)
    refine .seq ?_
    refine .pl Try.S [2, 5, 6, 7] ?_
    refine .seq ?_
    refine .cond rfl rfl (fun hc1 => ?_) (fun hc1 => ?_)
    · skip
      have h1 : n1 < l.length := by simpa using hc1
      have hwn1 : wr .i64 ((n1 : Int) + 1) = ((n1 + 1 : Nat) : Int) := wr_succ h1 hln1
      have hpn1 : wr .i64 ((n1 : Int) - 1) = (n1 : Int) - 1 := wr_pred h1 hln1
      rw [List.drop_eq_getElem_cons h1, m_attempt_nodes_loop1_c] at hx1
      refine .skip ?_
      refine .seq ?_
      refine .block ?_
      refine .seq ?_
      have e1 := nth_map TPromise.d l n1 h1
      refine .plx Try.S (And.intro e1 hwn1) [2, 5, 6, 7] ?_
      obtain ⟨k1, hx1⟩ := ite_ck hx1
      refine .plx Try.S hwn1 [2, 4, 5, 6, 7] ?_
      refine .plx Try.S hwn1 [2, 5, 6, 7] ?_
      refine ⟨(n1 + 1, _), ?_, ⟨by omega, hx1⟩, by dsimp only; omega⟩
      exact .m [2, 5, 6, 7] [3] [(3, 0)]
    · skip
      have h2 : n1 = l.length := by have h2b := of_decide_eq_false hc1; omega
      rw [List.drop_of_length_le (by omega), m_attempt_nodes_loop1_n] at hx1
      refine .exit ?_
      refine ⟨_, ?_, (Option.some.inj hx1).symm⟩
      exact .m [2] [0] []
  · skip
    rintro l1 hj1
    subst x1
    try dsimp only at h
    simp only [Try.St_attempt_nodes_1]
    refine .seq ?_
    refine .pl Try.S [2] ?_
    have hq := Option.some.inj h
    subst r
    refine .ret ⟨Try.Re_attempt_nodes l1, ?_, .inr rfl, retH [0] ?_ ?_⟩
    · skip
      exact .m [2] [0] []
    · exact rsi0
    · rfl

theorem callP_attempt_nodes (l : List TPromise) (r : (List Int)) (h : m_attempt_nodes l = some r) : CallP Try.prog 84 [.imm 3 (l.map TPromise.d) 4] (.imm 1 (r.map (D.int .i64)) 12) :=
  callP_frz (frz_ref0 pl0_i64 rfl rfl) (callH_attempt_nodes l r h)

def Try.St_towncrierref08_nodes_1 (l1 : List Int) : St := ⟨[(3, .ref 0 1 0 l1.length (some unkC))], [(0, .arr 3 1 true (l1.map (D.int .i64)))], 1⟩
attribute [local go_sem] Try.St_towncrierref08_nodes_1
def Try.St_towncrierref08_nodes_3 (l : List TPromise) (n1 : Nat) (l2 : List Int) : St := ⟨[(0, .imm 3 (l.map TPromise.d) 4), (3, .ref 0 1 0 l2.length (some unkC)), (4, .int .i64 (n1 : Int))], [(0, .arr 3 1 true (l2.map (D.int .i64)))], 1⟩
attribute [local go_sem] Try.St_towncrierref08_nodes_3
def Try.Re_towncrierref08_nodes (r : (List Int)) : St := ⟨[(2, .ref 0 1 0 r.length (some unkC))], [(0, .arr 3 1 true (r.map (D.int .i64)))], 1⟩
attribute [local go_sem] Try.Re_towncrierref08_nodes
theorem callH_towncrierref08_nodes (l : List TPromise) (r : (List Int)) (h : m_towncrierref08_nodes l = some r) : CallH Try.prog 88 [.imm 3 (l.map TPromise.d) 4] [] (.ref 0 1 0 r.length (some unkC)) [(0, some (.arr 3 1 true (r.map (D.int .i64))))] (0, 5) := by
  refine callH_intro' Try.tmOk Try.func88 rfl (by decide) (Nat.le_of_ble_eq_true rfl) (by simp) ?_
  intro hwf
  unfold m_towncrierref08_nodes at h
  refine .ends 0 (Nat.le_refl _) ?_
  refine .seq ?_
  refine .pl Try.S [0] ?_
  refine .seq ?_
  refine .pl Try.S [0] ?_
  obtain ⟨x1, hx1, h⟩ := bind_some h
  refine .seqM 0 (fun (j : (List Int)) => Try.St_towncrierref08_nodes_1 j) (fun j => x1 = j) (Nat.le_of_ble_eq_true rfl) ?_ ?_
  · skip
    refine .seq ?_
    refine .pl Try.S [0, 3] ?_
    refine .block ?_
    refine .loopG 0 (fun (j : Nat × (List Int)) => Try.St_towncrierref08_nodes_3 l j.1 j.2) (fun j => j.1 ≤ l.length ∧ m_towncrierref08_nodes_loop1 (l.drop j.1) j.2 = some x1) (fun j => l.length - j.1) (0, []) (Nat.le_of_ble_eq_true rfl) ?_ ⟨Nat.zero_le _, hx1⟩ ?_
    · skip
      refine Goes.new0 1 3 (Nat.le_of_ble_eq_true rfl) ?_
      refine Goes.wk 3 _ (.ref 0 1 0 0 (some unkC)) rfl (.own0 0 _ _ _ (by decide)) ?_
      exact .m [0, 3, 4] [0] []
    rintro ⟨n1, l2⟩ ⟨hi1, hx1⟩
    simp only [Try.St_towncrierref08_nodes_3]
    simp only at hi1 hx1
    refine .wf 0 (.imm 3 (l.map TPromise.d) 4) rfl ?_
    intro hln1
    replace hln1 : (l.length : Int) ≤ 9223372036854775807 := by simp only [wf, wfL, IntKind.max, IntKind.min, IntKind.signed, IntKind.bits, List.length_map] at hln1; first | exact hln1.2 | exact hln1.1 | (simp at hln1; omega)
    refine .seq ?_
    refine .seq ?_
    refine .pl Try.S [0, 3, 4] ?_
    refine .cond rfl rfl (fun hc1 => ?_) (fun hc1 => ?_)
    · skip
      have h1 : n1 < l.length := by simpa using hc1
      have hwn1 : wr .i64 ((n1 : Int) + 1) = ((n1 + 1 : Nat) : Int) := wr_succ h1 hln1
      have hpn1 : wr .i64 ((n1 : Int) - 1) = (n1 : Int) - 1 := wr_pred h1 hln1
      rw [List.drop_eq_getElem_cons h1, m_towncrierref08_nodes_loop1_c] at hx1
      refine .skip ?_
      refine .seq ?_
      refine .block ?_
      obtain ⟨k1, hx1⟩ := ite_ck hx1
      have e1 := nth_map TPromise.d l n1 h1
      refine .rg Try.S [0, 3, 4] ?_
      refine .rnx 6 (And.intro e1 hwn1) ?_
      refine .rnx 3 (And.intro e1 hwn1) ?_
      refine .nil ⟨nofun, ?_⟩
      refine .plx Try.S hwn1 [0, 3, 4] ?_
      refine ⟨(n1 + 1, _), ?_, ⟨by omega, hx1⟩, by dsimp only; omega⟩
      exact .m [0, 3, 4] [2] [(2, 0)]
    · skip
      have h2 : n1 = l.length := by have h2b := of_decide_eq_false hc1; omega
      rw [List.drop_of_length_le (by omega), m_towncrierref08_nodes_loop1_n] at hx1
      refine .exit ?_
      refine ⟨_, ?_, (Option.some.inj hx1).symm⟩
      exact .m [3] [0] []
  · skip
    rintro l1 hj1
    subst x1
    try dsimp only at h
    simp only [Try.St_towncrierref08_nodes_1]
    refine .seq ?_
    refine .pl Try.S [3] ?_
    have hq := Option.some.inj h
    subst r
    refine .ret ⟨Try.Re_towncrierref08_nodes l1, ?_, .inr rfl, retH [0] ?_ ?_⟩
    · skip
      exact .m [2] [0] []
    · exact rsi0
    · rfl

theorem callP_towncrierref08_nodes (l : List TPromise) (r : (List Int)) (h : m_towncrierref08_nodes l = some r) : CallP Try.prog 88 [.imm 3 (l.map TPromise.d) 4] (.imm 1 (r.map (D.int .i64)) 12) :=
  callP_frz (frz_ref0 pl0_i64 rfl rfl) (callH_towncrierref08_nodes l r h)

def Try.St_slices_Index_int_int_1 : St := ⟨[], [], 0⟩
attribute [local go_sem] Try.St_slices_Index_int_int_1
def Try.St_slices_Index_int_int_3 (s : List Int) (v : Int) (n1 : Nat) : St := ⟨[(0, .imm 1 (s.map (D.int .i64)) 4), (1, .int .i64 v), (7, .int .i64 (s.length : Int)), (8, .int .i64 (n1 : Int))], [], 0⟩
attribute [local go_sem] Try.St_slices_Index_int_int_3
theorem callP_slices_Index_int_int (s : List Int) (v : Int) (r : Int) (h : m_slices_Index_int_int s v = some r) : CallP Try.prog 231 [.imm 1 (s.map (D.int .i64)) 4, .int .i64 v] (.int .i64 r) := by
  refine callP_intro Try.tmOk 2 Try.func231 rfl (by decide) rfl rfl (Nat.le_of_ble_eq_true rfl) ?_
  intro hwf
  unfold m_slices_Index_int_int at h
  refine .seq ?_
  refine .pl Try.S [0, 1] ?_
  obtain ⟨x1, hx1, h⟩ := bind_some h
  refine .seqM 0 (fun (j : Unit) => Try.St_slices_Index_int_int_1) (fun j => x1 = (.inr j)) (Nat.le_of_ble_eq_true rfl) ?_ ?_
  · skip
    refine .seq ?_
    refine .pl Try.S [0, 1] ?_
    refine .block ?_
    refine .loopG 0 (fun (j : Nat) => Try.St_slices_Index_int_int_3 s v j) (fun j => j ≤ s.length ∧ m_slices_Index_int_int_loop1 v (s.drop j) j  = some x1) (fun j => s.length - j) (0) (Nat.le_of_ble_eq_true rfl) ?_ ⟨Nat.zero_le _, hx1⟩ ?_
    · skip
      exact .m [0, 1, 7, 8] [] []
    rintro n1 ⟨hi1, hx1⟩
    simp only [Try.St_slices_Index_int_int_3]
    refine .wf 7 (.int .i64 (s.length : Int)) rfl ?_
    intro hln1
    replace hln1 : (s.length : Int) ≤ 9223372036854775807 := by simp only [wf, wfL, IntKind.max, IntKind.min, IntKind.signed, IntKind.bits, List.length_map] at hln1; first | exact hln1.2 | exact hln1.1 | (simp at hln1; omega)
    refine .seq ?_
    refine .pl Try.S [0, 1, 7, 8] ?_
    refine .seq ?_
    refine .cond rfl rfl (fun hc1 => ?_) (fun hc1 => ?_)
    · skip
      have h1 : n1 < s.length := by simpa using hc1
      have hwn1 : wr .i64 ((n1 : Int) + 1) = ((n1 + 1 : Nat) : Int) := wr_succ h1 hln1
      have hpn1 : wr .i64 ((n1 : Int) - 1) = (n1 : Int) - 1 := wr_pred h1 hln1
      rw [List.drop_eq_getElem_cons h1, m_slices_Index_int_int_loop1] at hx1
      refine .skip ?_
      refine .seq ?_
      refine .block ?_
      refine .seq ?_
      refine .plx Try.S hwn1 [0, 1, 7, 8] ?_
      refine .seq ?_
      have e1 := nth_map (D.int .i64) s n1 h1
      refine .plx Try.S (And.intro e1 hwn1) [0, 1, 5, 7, 8] ?_
      refine .cond rfl rfl (fun hc2 => ?_) (fun hc2 => ?_)
      · skip
        replace hx1 := ite_lc hx1 hc2
        refine .seq ?_
        refine .plx Try.S hwn1 [5] ?_
        have hq := Option.some.inj hx1
        subst x1
        try dsimp only at h
        have hq := Option.some.inj h
        subst r
        exact .ret ⟨.inr rfl, rsi⟩
      · skip
        replace hx1 := ite_rc hx1 hc2
        refine .skip ?_
        refine .plx Try.S hwn1 [0, 1, 7, 8] ?_
        refine ⟨n1 + 1, ?_, ⟨by omega, hx1⟩, by dsimp only; omega⟩
        exact .m [0, 1, 7, 8] [] []
    · skip
      have h2 : n1 = s.length := by have h2b := of_decide_eq_false hc1; omega
      rw [List.drop_of_length_le (by omega), m_slices_Index_int_int_loop1] at hx1
      refine .exit ?_
      refine ⟨_, ?_, (Option.some.inj hx1).symm⟩
      exact .m [] [] []
  · skip
    rintro ⟨⟩ hj1
    subst x1
    try dsimp only at h
    simp only [Try.St_slices_Index_int_int_1]
    refine .seq ?_
    refine .pl Try.S [] ?_
    have hq := Option.some.inj h
    subst r
    exact .ret ⟨.inr rfl, rsi⟩

def Try.St_towncrierref01_SameInts_1 : St := ⟨[], [], 0⟩
attribute [local go_sem] Try.St_towncrierref01_SameInts_1
def Try.St_towncrierref01_SameInts_3 (a : List Int) (b : List Int) (n1 : Nat) : St := ⟨[(0, .imm 1 (a.map (D.int .i64)) 4), (1, .imm 1 (b.map (D.int .i64)) 4), (5, .int .i64 (n1 : Int))], [], 0⟩
attribute [local go_sem] Try.St_towncrierref01_SameInts_3
theorem callP_towncrierref01_SameInts (a : List Int) (b : List Int) (r : Bool) (h : m_towncrierref01_SameInts a b = some r) : CallP Try.prog 95 [.imm 1 (a.map (D.int .i64)) 4, .imm 1 (b.map (D.int .i64)) 4] (.bool r) := by
  refine callP_intro Try.tmOk 2 Try.func95 rfl (by decide) rfl rfl (Nat.le_of_ble_eq_true rfl) ?_
  intro hwf
  unfold m_towncrierref01_SameInts at h
  refine .seq ?_
  refine .pl Try.S [0, 1] ?_
  refine .seq ?_
  refine .seq ?_
  refine .pl Try.S [0, 1] ?_
  refine .cond rfl rfl (fun hc1 => ?_) (fun hc1 => ?_)
  · skip
    replace h := ite_lc h hc1
    refine .seq ?_
    refine .pl Try.S [] ?_
    have hq := Option.some.inj h
    subst r
    exact .ret ⟨.inr rfl, rsi⟩
  · skip
    replace h := ite_rc h hc1
    refine .skip ?_
    obtain ⟨x1, hx1, h⟩ := bind_some h
    refine .seqM 0 (fun (j : Unit) => Try.St_towncrierref01_SameInts_1) (fun j => x1 = (.inr j)) (Nat.le_of_ble_eq_true rfl) ?_ ?_
    · skip
      refine .seq ?_
      refine .pl Try.S [0, 1] ?_
      refine .block ?_
      refine .loopG 0 (fun (j : Nat) => Try.St_towncrierref01_SameInts_3 a b j) (fun j => j ≤ a.length ∧ m_towncrierref01_SameInts_loop1 b (a.drop j) j  = some x1) (fun j => a.length - j) (0) (Nat.le_of_ble_eq_true rfl) ?_ ⟨Nat.zero_le _, hx1⟩ ?_
      · skip
        exact .m [0, 1, 5] [] []
      rintro n1 ⟨hi1, hx1⟩
      simp only [Try.St_towncrierref01_SameInts_3]
      refine .wf 0 (.imm 1 (a.map (D.int .i64)) 4) rfl ?_
      intro hln1
      replace hln1 : (a.length : Int) ≤ 9223372036854775807 := by simp only [wf, wfL, IntKind.max, IntKind.min, IntKind.signed, IntKind.bits, List.length_map] at hln1; first | exact hln1.2 | exact hln1.1 | (simp at hln1; omega)
      refine .seq ?_
      refine .seq ?_
      refine .pl Try.S [0, 1, 5] ?_
      refine .cond rfl rfl (fun hc2 => ?_) (fun hc2 => ?_)
      · skip
        have h1 : n1 < a.length := by simpa using hc2
        have hwn1 : wr .i64 ((n1 : Int) + 1) = ((n1 + 1 : Nat) : Int) := wr_succ h1 hln1
        have hpn1 : wr .i64 ((n1 : Int) - 1) = (n1 : Int) - 1 := wr_pred h1 hln1
        rw [List.drop_eq_getElem_cons h1, m_towncrierref01_SameInts_loop1] at hx1
        refine .skip ?_
        refine .seq ?_
        refine .block ?_
        refine .seq ?_
        obtain ⟨k1, hx1⟩ := ite_ck hx1
        have e1 := nth_map (D.int .i64) a n1 h1
        have e2 := nth_mapD (D.int .i64) b n1
        replace e2 := e2 k1
        refine .rg Try.S [0, 1, 5] ?_
        refine .rdx 6 (And.intro e1 (And.intro e2 hwn1)) ?_
        refine .rdx 3 (And.intro e1 (And.intro e2 hwn1)) ?_
        refine .nil ⟨fun _ => schedB_of (by kernel_rfl), ?_⟩
        refine .cond rfl rfl (fun hc3 => ?_) (fun hc3 => ?_)
        · skip
          replace hx1 := ite_lc hx1 hc3
          refine .seq ?_
          refine .plx Try.S hwn1 [] ?_
          have hq := Option.some.inj hx1
          subst x1
          try dsimp only at h
          have hq := Option.some.inj h
          subst r
          exact .ret ⟨.inr rfl, rsi⟩
        · skip
          replace hx1 := ite_rc hx1 hc3
          refine .skip ?_
          refine .plx Try.S hwn1 [0, 1, 5] ?_
          refine ⟨n1 + 1, ?_, ⟨by omega, hx1⟩, by dsimp only; omega⟩
          exact .m [0, 1, 5] [] []
      · skip
        have h2 : n1 = a.length := by have h2b := of_decide_eq_false hc2; omega
        rw [List.drop_of_length_le (by omega), m_towncrierref01_SameInts_loop1] at hx1
        refine .exit ?_
        refine ⟨_, ?_, (Option.some.inj hx1).symm⟩
        exact .m [] [] []
    · skip
      rintro ⟨⟩ hj1
      subst x1
      try dsimp only at h
      simp only [Try.St_towncrierref01_SameInts_1]
      refine .seq ?_
      refine .pl Try.S [] ?_
      have hq := Option.some.inj h
      subst r
      exact .ret ⟨.inr rfl, rsi⟩


theorem callP_slices_Contains_int_int (a0 : List Int) (a1 : Int) (r : Bool) (h : m_slices_Contains_int_int a0 a1 = some r) : CallP Try.prog 180 [.imm 1 (a0.map (D.int .i64)) 4, .int .i64 a1] (.bool r) := by
  refine callP_intro Try.tmOk 2 Try.func180 rfl (by decide) rfl rfl (Nat.le_of_ble_eq_true rfl) ?_
  intro hwf
  unfold m_slices_Contains_int_int at h
  refine .seq ?_
  refine .pl Try.S [0, 1] ?_
  refine .seq ?_
  obtain ⟨v1, hv1, h⟩ := bind_some h
  refine .rg Try.S [0, 1] ?_
  refine .rn 2 ?_
  refine .call (r := .int .i64 v1) rfl rfl rfl rfl rfl rfl (callP_slices_Index_int_int a0 a1 v1 hv1) ?_
  refine .rn 2 ?_
  refine .nil ⟨nofun, ?_⟩
  have hq := Option.some.inj h
  subst r
  exact .ret ⟨.inr rfl, rsi⟩


theorem callP_quorum_Has (a0 : List Int) (a1 : Int) (r : Bool) (h : m_quorum_Has a0 a1 = some r) : CallP Try.prog 78 [.imm 1 (a0.map (D.int .i64)) 4, .int .i64 a1] (.bool r) := by
  refine callP_intro Try.tmOk 2 Try.func78 rfl (by decide) rfl rfl (Nat.le_of_ble_eq_true rfl) ?_
  intro hwf
  unfold m_quorum_Has at h
  refine .seq ?_
  refine .pl Try.S [0, 1] ?_
  refine .seq ?_
  obtain ⟨v1, hv1, h⟩ := bind_some h
  refine .rg Try.S [0, 1] ?_
  refine .rn 2 ?_
  refine .call (r := .bool v1) rfl rfl rfl rfl rfl rfl (callP_slices_Contains_int_int a0 a1 v1 hv1) ?_
  refine .rn 1 ?_
  refine .nil ⟨nofun, ?_⟩
  have hq := Option.some.inj h
  subst r
  exact .ret ⟨.inr rfl, rsi⟩

def Try.St_quorum_Check_1 (n1 : Int) : St := ⟨[(3, .int .i64 n1)], [], 0⟩
attribute [local go_sem] Try.St_quorum_Check_1
def Try.St_quorum_Check_3 (a0 : List Int) (n3 : Nat) (n2 : Int) : St := ⟨[(3, .int .i64 n2), (9, .imm 1 (a0.map (D.int .i64)) 4), (10, .int .i64 (a0.length : Int)), (11, .int .i64 (n3 : Int))], [], 0⟩
attribute [local go_sem] Try.St_quorum_Check_3
theorem callP_quorum_Check (a0 : List Int) (r : Int) (h : m_quorum_Check a0 = some r) : CallP Try.prog 97 [.imm 1 (a0.map (D.int .i64)) 4] (.int .i64 r) := by
  refine callP_intro Try.tmOk 2 Try.func97 rfl (by decide) rfl rfl (Nat.le_of_ble_eq_true rfl) ?_
  intro hwf
  unfold m_quorum_Check at h
  refine .seq ?_
  refine .pl Try.S [0] ?_
  refine .seq ?_
  refine .seq ?_
  refine .pl Try.S [0] ?_
  refine .cond rfl rfl (fun hc1 => ?_) (fun hc1 => ?_)
  · skip
    replace h := ite_lc h hc1
    refine .seq ?_
    refine .pl Try.S [] ?_
    have hq := Option.some.inj h
    subst r
    exact .ret ⟨.inr rfl, rsi⟩
  · skip
    replace h := ite_rc h hc1
    refine .skip ?_
    refine .seq ?_
    refine .pl Try.S [0] ?_
    obtain ⟨x1, hx1, h⟩ := bind_some h
    refine .seqM 0 (fun (j : Int) => Try.St_quorum_Check_1 j) (fun j => x1 = (.inr j)) (Nat.le_of_ble_eq_true rfl) ?_ ?_
    · skip
      refine .seq ?_
      refine .pl Try.S [0, 3] ?_
      refine .block ?_
      refine .loopG 0 (fun (j : Nat × Int) => Try.St_quorum_Check_3 a0 j.1 j.2) (fun j => j.1 ≤ a0.length ∧ m_quorum_Check_loop1 (a0.drop j.1) j.2 = some x1) (fun j => a0.length - j.1) (0, (-1)) (Nat.le_of_ble_eq_true rfl) ?_ ⟨Nat.zero_le _, hx1⟩ ?_
      · skip
        exact .m [3, 9, 10, 11] [] []
      rintro ⟨n3, n2⟩ ⟨hi1, hx1⟩
      simp only [Try.St_quorum_Check_3]
      simp only at hi1 hx1
      refine .wf 10 (.int .i64 (a0.length : Int)) rfl ?_
      intro hln3
      replace hln3 : (a0.length : Int) ≤ 9223372036854775807 := by simp only [wf, wfL, IntKind.max, IntKind.min, IntKind.signed, IntKind.bits, List.length_map] at hln3; first | exact hln3.2 | exact hln3.1 | (simp at hln3; omega)
      refine .seq ?_
      refine .pl Try.S [3, 9, 10, 11] ?_
      refine .seq ?_
      refine .cond rfl rfl (fun hc2 => ?_) (fun hc2 => ?_)
      · skip
        have h1 : n3 < a0.length := by simpa using hc2
        have hwn3 : wr .i64 ((n3 : Int) + 1) = ((n3 + 1 : Nat) : Int) := wr_succ h1 hln3
        have hpn3 : wr .i64 ((n3 : Int) - 1) = (n3 : Int) - 1 := wr_pred h1 hln3
        rw [List.drop_eq_getElem_cons h1, m_quorum_Check_loop1] at hx1
        refine .skip ?_
        refine .seq ?_
        refine .block ?_
        refine .seq ?_
        have e1 := nth_map (D.int .i64) a0 n3 h1
        refine .plx Try.S (And.intro e1 hwn3) [3, 9, 10, 11] ?_
        refine .seq ?_
        refine .seq ?_
        refine .plx Try.S hwn3 [3, 5, 9, 10, 11] ?_
        refine .cond rfl rfl (fun hc3 => ?_) (fun hc3 => ?_)
        · skip
          replace hx1 := ite_lc hx1 hc3
          refine .seq ?_
          refine .plx Try.S hwn3 [] ?_
          have hq := Option.some.inj hx1
          subst x1
          try dsimp only at h
          have hq := Option.some.inj h
          subst r
          exact .ret ⟨.inr rfl, rsi⟩
        · skip
          replace hx1 := ite_rc hx1 hc3
          refine .skip ?_
          refine .plx Try.S hwn3 [5, 9, 10, 11] ?_
          refine .plx Try.S hwn3 [3, 9, 10, 11] ?_
          refine ⟨(n3 + 1, _), ?_, ⟨by omega, hx1⟩, by dsimp only; omega⟩
          exact .m [3, 9, 10, 11] [] []
      · skip
        have h2 : n3 = a0.length := by have h2b := of_decide_eq_false hc2; omega
        rw [List.drop_of_length_le (by omega), m_quorum_Check_loop1] at hx1
        refine .exit ?_
        refine ⟨_, ?_, (Option.some.inj hx1).symm⟩
        exact .m [3] [] []
    · skip
      rintro n1 hj1
      subst x1
      try dsimp only at h
      simp only [Try.St_quorum_Check_1]
      refine .seq ?_
      refine .seq ?_
      refine .pl Try.S [3] ?_
      refine .cond rfl rfl (fun hc4 => ?_) (fun hc4 => ?_)
      · skip
        replace h := ite_lc h hc4
        refine .seq ?_
        refine .pl Try.S [] ?_
        have hq := Option.some.inj h
        subst r
        exact .ret ⟨.inr rfl, rsi⟩
      · skip
        replace h := ite_rc h hc4
        refine .skip ?_
        refine .seq ?_
        refine .pl Try.S [] ?_
        have hq := Option.some.inj h
        subst r
        exact .ret ⟨.inr rfl, rsi⟩


theorem callP_ballot_Of (a0 : Int) (r : Int × Int × Int) (h : m_ballot_Of a0 = some r) : CallP Try.prog 187 [.int .i64 a0] (.tuple [.int .i64 r.1, .int .i64 r.2.1, .int .i64 r.2.2]) := by
  refine callP_intro Try.tmOk 2 Try.func187 rfl (by decide) rfl rfl (Nat.le_of_ble_eq_true rfl) ?_
  intro hwf
  unfold m_ballot_Of at h
  refine .seq ?_
  refine .pl Try.S [0] ?_
  refine .seq ?_
  refine .pl Try.S [0] ?_
  refine .seq ?_
  refine .seq ?_
  obtain ⟨v1, hv1, h⟩ := bind_some h
  refine .rg Try.S [2, 3] ?_
  refine .rn 8 ?_
  refine .gcall (r := .bool v1) rfl rfl rfl rfl rfl (fun hg => ⟨[], [.int .i64 (a0.tmod 8)], _, rfl, gd hg, rfl, (callP_ballot_node (a0.tmod 8) v1 (ite_lc hv1 hg))⟩) ?_
  refine .rn 2 ?_
  refine .nil ⟨nofun, ?_⟩
  refine .cond rfl rfl (fun hc1 => ?_) (fun hc1 => ?_)
  · skip
    replace h := ite_lc h hc1
    refine .seq ?_
    refine .pl Try.S [] ?_
    have hq := Option.some.inj h
    subst r
    exact .ret ⟨.inr rfl, rsi⟩
  · skip
    replace h := ite_rc h hc1
    refine .skip ?_
    refine .seq ?_
    refine .pl Try.S [2, 3] ?_
    have hq := Option.some.inj h
    subst r
    exact .ret ⟨.inr rfl, rsi⟩


theorem callP_ballot_Check (a0 : Int) (r : Int) (h : m_ballot_Check a0 = some r) : CallP Try.prog 96 [.int .i64 a0] (.int .i64 r) := by
  refine callP_intro Try.tmOk 2 Try.func96 rfl (by decide) rfl rfl (Nat.le_of_ble_eq_true rfl) ?_
  intro hwf
  unfold m_ballot_Check at h
  refine .seq ?_
  refine .pl Try.S [0] ?_
  refine .seq ?_
  refine .seq ?_
  obtain ⟨v1, hv1, h⟩ := bind_some h
  refine .rg Try.S [0] ?_
  refine .rn 1 ?_
  refine .call (r := .tuple [.int .i64 v1.1, .int .i64 v1.2.1, .int .i64 v1.2.2]) rfl rfl rfl rfl rfl rfl (callP_ballot_Of a0 v1 hv1) ?_
  refine .rn 7 ?_
  refine .nil ⟨nofun, ?_⟩
  refine .seq ?_
  refine .pl Try.S [5] ?_
  refine .cond rfl rfl (fun hc1 => ?_) (fun hc1 => ?_)
  · skip
    replace h := ite_lc h hc1
    refine .seq ?_
    refine .pl Try.S [5] ?_
    have hq := Option.some.inj h
    subst r
    exact .ret ⟨.inr rfl, rsi⟩
  · skip
    replace h := ite_rc h hc1
    refine .skip ?_
    refine .seq ?_
    refine .pl Try.S [] ?_
    have hq := Option.some.inj h
    subst r
    exact .ret ⟨.inr rfl, rsi⟩


theorem callP_quorum_Need (a0 : List Int) (r : Int × Int) (h : m_quorum_Need a0 = some r) : CallP Try.prog 233 [.imm 1 (a0.map (D.int .i64)) 4] (.tuple [.int .i64 r.1, .int .i64 r.2]) := by
  refine callP_intro Try.tmOk 2 Try.func233 rfl (by decide) rfl rfl (Nat.le_of_ble_eq_true rfl) ?_
  intro hwf
  unfold m_quorum_Need at h
  refine .seq ?_
  refine .pl Try.S [0] ?_
  refine .seq ?_
  refine .seq ?_
  obtain ⟨v1, hv1, h⟩ := bind_some h
  refine .rg Try.S [0] ?_
  refine .rn 1 ?_
  refine .call (r := .int .i64 v1) rfl rfl rfl rfl rfl rfl (callP_quorum_Check a0 v1 hv1) ?_
  refine .rn 1 ?_
  refine .nil ⟨nofun, ?_⟩
  refine .seq ?_
  refine .pl Try.S [0, 4] ?_
  refine .cond rfl rfl (fun hc1 => ?_) (fun hc1 => ?_)
  · skip
    replace h := ite_lc h hc1
    refine .seq ?_
    refine .pl Try.S [4] ?_
    have hq := Option.some.inj h
    subst r
    exact .ret ⟨.inr rfl, rsi⟩
  · skip
    replace h := ite_rc h hc1
    refine .skip ?_
    refine .seq ?_
    refine .pl Try.S [0] ?_
    have hq := Option.some.inj h
    subst r
    exact .ret ⟨.inr rfl, rsi⟩

def Try.St_towncrierref06_Has_1 : St := ⟨[], [], 0⟩
attribute [local go_sem] Try.St_towncrierref06_Has_1
def Try.St_towncrierref06_Has_3 (a0 : List Int) (a1 : Int) (n1 : Nat) : St := ⟨[(0, .imm 1 (a0.map (D.int .i64)) 4), (1, .int .i64 a1), (5, .int .i64 (n1 : Int))], [], 0⟩
attribute [local go_sem] Try.St_towncrierref06_Has_3
theorem callP_towncrierref06_Has (a0 : List Int) (a1 : Int) (r : Bool) (h : m_towncrierref06_Has a0 a1 = some r) : CallP Try.prog 86 [.imm 1 (a0.map (D.int .i64)) 4, .int .i64 a1] (.bool r) := by
  refine callP_intro Try.tmOk 2 Try.func86 rfl (by decide) rfl rfl (Nat.le_of_ble_eq_true rfl) ?_
  intro hwf
  unfold m_towncrierref06_Has at h
  refine .seq ?_
  refine .pl Try.S [0, 1] ?_
  obtain ⟨x1, hx1, h⟩ := bind_some h
  refine .seqM 0 (fun (j : Unit) => Try.St_towncrierref06_Has_1) (fun j => x1 = (.inr j)) (Nat.le_of_ble_eq_true rfl) ?_ ?_
  · skip
    refine .seq ?_
    refine .pl Try.S [0, 1] ?_
    refine .block ?_
    refine .loopG 0 (fun (j : Nat) => Try.St_towncrierref06_Has_3 a0 a1 j) (fun j => j ≤ a0.length ∧ m_towncrierref06_Has_loop1 a1 (a0.drop j)  = some x1) (fun j => a0.length - j) (0) (Nat.le_of_ble_eq_true rfl) ?_ ⟨Nat.zero_le _, hx1⟩ ?_
    · skip
      exact .m [0, 1, 5] [] []
    rintro n1 ⟨hi1, hx1⟩
    simp only [Try.St_towncrierref06_Has_3]
    refine .wf 0 (.imm 1 (a0.map (D.int .i64)) 4) rfl ?_
    intro hln1
    replace hln1 : (a0.length : Int) ≤ 9223372036854775807 := by simp only [wf, wfL, IntKind.max, IntKind.min, IntKind.signed, IntKind.bits, List.length_map] at hln1; first | exact hln1.2 | exact hln1.1 | (simp at hln1; omega)
    refine .seq ?_
    refine .seq ?_
    refine .pl Try.S [0, 1, 5] ?_
    refine .cond rfl rfl (fun hc1 => ?_) (fun hc1 => ?_)
    · skip
      have h1 : n1 < a0.length := by simpa using hc1
      have hwn1 : wr .i64 ((n1 : Int) + 1) = ((n1 + 1 : Nat) : Int) := wr_succ h1 hln1
      have hpn1 : wr .i64 ((n1 : Int) - 1) = (n1 : Int) - 1 := wr_pred h1 hln1
      rw [List.drop_eq_getElem_cons h1, m_towncrierref06_Has_loop1] at hx1
      refine .skip ?_
      refine .seq ?_
      refine .block ?_
      refine .seq ?_
      have e1 := nth_map (D.int .i64) a0 n1 h1
      refine .plx Try.S (And.intro e1 hwn1) [0, 1, 5] ?_
      refine .cond rfl rfl (fun hc2 => ?_) (fun hc2 => ?_)
      · skip
        replace hx1 := ite_lc hx1 hc2
        refine .seq ?_
        refine .plx Try.S hwn1 [] ?_
        have hq := Option.some.inj hx1
        subst x1
        try dsimp only at h
        have hq := Option.some.inj h
        subst r
        exact .ret ⟨.inr rfl, rsi⟩
      · skip
        replace hx1 := ite_rc hx1 hc2
        refine .skip ?_
        refine .plx Try.S hwn1 [0, 1, 5] ?_
        refine ⟨n1 + 1, ?_, ⟨by omega, hx1⟩, by dsimp only; omega⟩
        exact .m [0, 1, 5] [] []
    · skip
      have h2 : n1 = a0.length := by have h2b := of_decide_eq_false hc1; omega
      rw [List.drop_of_length_le (by omega), m_towncrierref06_Has_loop1] at hx1
      refine .exit ?_
      refine ⟨_, ?_, (Option.some.inj hx1).symm⟩
      exact .m [] [] []
  · skip
    rintro ⟨⟩ hj1
    subst x1
    try dsimp only at h
    simp only [Try.St_towncrierref06_Has_1]
    refine .seq ?_
    refine .pl Try.S [] ?_
    have hq := Option.some.inj h
    subst r
    exact .ret ⟨.inr rfl, rsi⟩

def Try.St_towncrierref06_Within_1 : St := ⟨[], [], 0⟩
attribute [local go_sem] Try.St_towncrierref06_Within_1
def Try.St_towncrierref06_Within_3 (a0 : List Int) (a1 : List Int) (n1 : Nat) : St := ⟨[(0, .imm 1 (a0.map (D.int .i64)) 4), (1, .imm 1 (a1.map (D.int .i64)) 4), (5, .int .i64 (n1 : Int))], [], 0⟩
attribute [local go_sem] Try.St_towncrierref06_Within_3
theorem callP_towncrierref06_Within (a0 : List Int) (a1 : List Int) (r : Bool) (h : m_towncrierref06_Within a0 a1 = some r) : CallP Try.prog 189 [.imm 1 (a0.map (D.int .i64)) 4, .imm 1 (a1.map (D.int .i64)) 4] (.bool r) := by
  refine callP_intro Try.tmOk 2 Try.func189 rfl (by decide) rfl rfl (Nat.le_of_ble_eq_true rfl) ?_
  intro hwf
  unfold m_towncrierref06_Within at h
  refine .seq ?_
  refine .pl Try.S [0, 1] ?_
  obtain ⟨x1, hx1, h⟩ := bind_some h
  refine .seqM 0 (fun (j : Unit) => Try.St_towncrierref06_Within_1) (fun j => x1 = (.inr j)) (Nat.le_of_ble_eq_true rfl) ?_ ?_
  · skip
    refine .seq ?_
    refine .pl Try.S [0, 1] ?_
    refine .block ?_
    refine .loopG 0 (fun (j : Nat) => Try.St_towncrierref06_Within_3 a0 a1 j) (fun j => j ≤ a0.length ∧ m_towncrierref06_Within_loop1 a1 (a0.drop j)  = some x1) (fun j => a0.length - j) (0) (Nat.le_of_ble_eq_true rfl) ?_ ⟨Nat.zero_le _, hx1⟩ ?_
    · skip
      exact .m [0, 1, 5] [] []
    rintro n1 ⟨hi1, hx1⟩
    simp only [Try.St_towncrierref06_Within_3]
    refine .wf 0 (.imm 1 (a0.map (D.int .i64)) 4) rfl ?_
    intro hln1
    replace hln1 : (a0.length : Int) ≤ 9223372036854775807 := by simp only [wf, wfL, IntKind.max, IntKind.min, IntKind.signed, IntKind.bits, List.length_map] at hln1; first | exact hln1.2 | exact hln1.1 | (simp at hln1; omega)
    refine .seq ?_
    refine .seq ?_
    refine .pl Try.S [0, 1, 5] ?_
    refine .cond rfl rfl (fun hc1 => ?_) (fun hc1 => ?_)
    · skip
      have h1 : n1 < a0.length := by simpa using hc1
      have hwn1 : wr .i64 ((n1 : Int) + 1) = ((n1 + 1 : Nat) : Int) := wr_succ h1 hln1
      have hpn1 : wr .i64 ((n1 : Int) - 1) = (n1 : Int) - 1 := wr_pred h1 hln1
      rw [List.drop_eq_getElem_cons h1, m_towncrierref06_Within_loop1] at hx1
      refine .skip ?_
      refine .seq ?_
      refine .block ?_
      refine .seq ?_
      obtain ⟨v1, hv1, hx1⟩ := bind_some hx1
      have e1 := nth_map (D.int .i64) a0 n1 h1
      refine .rg Try.S [0, 1, 5] ?_
      refine .rnx 5 (And.intro e1 hwn1) ?_
      refine .call (r := .bool v1) rfl rfl rfl rfl rfl rfl (callP_towncrierref06_Has a1 (a0[n1]) v1 hv1) ?_
      refine .rnx 1 (And.intro e1 hwn1) ?_
      refine .nil ⟨nofun, ?_⟩
      refine .cond rfl rfl (fun hc2 => ?_) (fun hc2 => ?_)
      · skip
        replace hx1 := ite_lc hx1 hc2
        refine .seq ?_
        refine .plx Try.S hwn1 [] ?_
        have hq := Option.some.inj hx1
        subst x1
        try dsimp only at h
        have hq := Option.some.inj h
        subst r
        exact .ret ⟨.inr rfl, rsi⟩
      · skip
        replace hx1 := ite_rc hx1 hc2
        refine .skip ?_
        refine .plx Try.S hwn1 [0, 1, 5] ?_
        refine ⟨n1 + 1, ?_, ⟨by omega, hx1⟩, by dsimp only; omega⟩
        exact .m [0, 1, 5] [] []
    · skip
      have h2 : n1 = a0.length := by have h2b := of_decide_eq_false hc1; omega
      rw [List.drop_of_length_le (by omega), m_towncrierref06_Within_loop1] at hx1
      refine .exit ?_
      refine ⟨_, ?_, (Option.some.inj hx1).symm⟩
      exact .m [] [] []
  · skip
    rintro ⟨⟩ hj1
    subst x1
    try dsimp only at h
    simp only [Try.St_towncrierref06_Within_1]
    refine .seq ?_
    refine .pl Try.S [] ?_
    have hq := Option.some.inj h
    subst r
    exact .ret ⟨.inr rfl, rsi⟩

def Try.St_towncrierref06_May_1 (a0 : List Int) : St := ⟨[(0, .imm 1 (a0.map (D.int .i64)) 4)], [], 0⟩
attribute [local go_sem] Try.St_towncrierref06_May_1
def Try.St_towncrierref06_May_3 (a0 : List Int) (n1 : Nat) : St := ⟨[(0, .imm 1 (a0.map (D.int .i64)) 4), (3, .int .i64 (n1 : Int))], [], 0⟩
attribute [local go_sem] Try.St_towncrierref06_May_3
theorem callP_towncrierref06_May (a0 : List Int) (r : Bool) (h : m_towncrierref06_May a0 = some r) : CallP Try.prog 102 [.imm 1 (a0.map (D.int .i64)) 4] (.bool r) := by
  refine callP_intro Try.tmOk 2 Try.func102 rfl (by decide) rfl rfl (Nat.le_of_ble_eq_true rfl) ?_
  intro hwf
  unfold m_towncrierref06_May at h
  refine .seq ?_
  refine .pl Try.S [0] ?_
  obtain ⟨x1, hx1, h⟩ := bind_some h
  refine .seqM 0 (fun (j : Unit) => Try.St_towncrierref06_May_1 a0) (fun j => x1 = (.inr j)) (Nat.le_of_ble_eq_true rfl) ?_ ?_
  · skip
    refine .seq ?_
    refine .pl Try.S [0] ?_
    refine .block ?_
    refine .loopG 0 (fun (j : Nat) => Try.St_towncrierref06_May_3 a0 j) (fun j => j ≤ a0.length ∧ m_towncrierref06_May_loop1 a0 (a0.drop j) j  = some x1) (fun j => a0.length - j) (0) (Nat.le_of_ble_eq_true rfl) ?_ ⟨Nat.zero_le _, hx1⟩ ?_
    · skip
      exact .m [0, 3] [] []
    rintro n1 ⟨hi1, hx1⟩
    simp only [Try.St_towncrierref06_May_3]
    refine .wf 0 (.imm 1 (a0.map (D.int .i64)) 4) rfl ?_
    intro hln1
    replace hln1 : (a0.length : Int) ≤ 9223372036854775807 := by simp only [wf, wfL, IntKind.max, IntKind.min, IntKind.signed, IntKind.bits, List.length_map] at hln1; first | exact hln1.2 | exact hln1.1 | (simp at hln1; omega)
    refine .seq ?_
    refine .seq ?_
    refine .pl Try.S [0, 3] ?_
    refine .cond rfl rfl (fun hc1 => ?_) (fun hc1 => ?_)
    · skip
      have h1 : n1 < a0.length := by simpa using hc1
      have hwn1 : wr .i64 ((n1 : Int) + 1) = ((n1 + 1 : Nat) : Int) := wr_succ h1 hln1
      have hpn1 : wr .i64 ((n1 : Int) - 1) = (n1 : Int) - 1 := wr_pred h1 hln1
      rw [List.drop_eq_getElem_cons h1, m_towncrierref06_May_loop1] at hx1
      refine .skip ?_
      refine .seq ?_
      refine .block ?_
      refine .seq ?_
      have e1 := nth_map (D.int .i64) a0 n1 h1
      have e2 := nth_map (D.int .i64) a0 n1 h1
      have e3 := nth_map (D.int .i64) a0 n1 h1
      have e4 := nth_mapD (D.int .i64) a0 (n1 - 1) (by omega)
      refine .rg Try.S [0, 3] ?_
      refine .rdx 6 (And.intro e1 (And.intro e2 (And.intro e3 (And.intro e4 (And.intro hpn1 hwn1))))) ?_
      refine .rdx 6 (And.intro e1 (And.intro e2 (And.intro e3 (And.intro e4 (And.intro hpn1 hwn1))))) ?_
      refine .rdx 6 (And.intro e1 (And.intro e2 (And.intro e3 (And.intro e4 (And.intro hpn1 hwn1))))) ?_
      refine .rdx 6 (And.intro e1 (And.intro e2 (And.intro e3 (And.intro e4 (And.intro hpn1 hwn1))))) ?_
      refine .rdx 4 (And.intro e1 (And.intro e2 (And.intro e3 (And.intro e4 (And.intro hpn1 hwn1))))) ?_
      refine .nil ⟨fun _ => schedB_of (by kernel_rfl), ?_⟩
      refine .cond rfl rfl (fun hc2 => ?_) (fun hc2 => ?_)
      · skip
        replace hx1 := ite_lc hx1 hc2
        refine .seq ?_
        refine .plx Try.S hwn1 [] ?_
        have hq := Option.some.inj hx1
        subst x1
        try dsimp only at h
        have hq := Option.some.inj h
        subst r
        exact .ret ⟨.inr rfl, rsi⟩
      · skip
        replace hx1 := ite_rc hx1 hc2
        refine .skip ?_
        refine .plx Try.S hwn1 [0, 3] ?_
        refine ⟨n1 + 1, ?_, ⟨by omega, hx1⟩, by dsimp only; omega⟩
        exact .m [0, 3] [] []
    · skip
      have h2 : n1 = a0.length := by have h2b := of_decide_eq_false hc1; omega
      rw [List.drop_of_length_le (by omega), m_towncrierref06_May_loop1] at hx1
      refine .exit ?_
      refine ⟨_, ?_, (Option.some.inj hx1).symm⟩
      exact .m [0] [] []
  · skip
    rintro ⟨⟩ hj1
    subst x1
    try dsimp only at h
    simp only [Try.St_towncrierref06_May_1]
    refine .seq ?_
    refine .rg Try.S [0] ?_
    refine .rn 6 ?_
    refine .rn 3 ?_
    refine .nil ⟨nofun, ?_⟩
    have hq := Option.some.inj h
    subst r
    exact .ret ⟨.inr rfl, rsi⟩


def Try.St_towncrierref06_Counts_1 (a0 : List Int) (n1 : Int) : St := ⟨[(0, .imm 1 (a0.map (D.int .i64)) 4), (5, .int .i64 n1)], [], 0⟩
attribute [local go_sem] Try.St_towncrierref06_Counts_1
def Try.St_towncrierref06_Counts_3 (a0 : List Int) (a1 : List Int) (n3 : Nat) (n2 : Int) : St := ⟨[(0, .imm 1 (a0.map (D.int .i64)) 4), (1, .imm 1 (a1.map (D.int .i64)) 4), (5, .int .i64 n2), (6, .int .i64 (n3 : Int))], [], 0⟩
attribute [local go_sem] Try.St_towncrierref06_Counts_3
def Try.St_towncrierref06_Counts_5 (a0 : List Int) (a1 : List Int) (n3 : Nat) (n4 : Int) : St := ⟨[(0, .imm 1 (a0.map (D.int .i64)) 4), (1, .imm 1 (a1.map (D.int .i64)) 4), (5, .int .i64 n4), (6, .int .i64 (n3 : Int))], [], 0⟩
attribute [local go_sem] Try.St_towncrierref06_Counts_5
theorem callP_towncrierref06_Counts (a0 : List Int) (a1 : List Int) (r : Bool) (h : m_towncrierref06_Counts a0 a1 = some r) : CallP Try.prog 89 [.imm 1 (a0.map (D.int .i64)) 4, .imm 1 (a1.map (D.int .i64)) 4] (.bool r) := by
  refine callP_intro Try.tmOk 2 Try.func89 rfl (by decide) rfl rfl (Nat.le_of_ble_eq_true rfl) ?_
  intro hwf
  unfold m_towncrierref06_Counts at h
  refine .seq ?_
  refine .pl Try.S [0, 1] ?_
  refine .seq ?_
  refine .pl Try.S [0, 1] ?_
  obtain ⟨x1, hx1, h⟩ := bind_some h
  refine .seqM 0 (fun (j : Int) => Try.St_towncrierref06_Counts_1 a0 j) (fun j => x1 = j) (Nat.le_of_ble_eq_true rfl) ?_ ?_
  · skip
    refine .seq ?_
    refine .pl Try.S [0, 1, 5] ?_
    refine .block ?_
    refine .loopG 0 (fun (j : Nat × Int) => Try.St_towncrierref06_Counts_3 a0 a1 j.1 j.2) (fun j => j.1 ≤ a0.length ∧ m_towncrierref06_Counts_loop1 a1 (a0.drop j.1) j.2 = some x1) (fun j => a0.length - j.1) (0, 0) (Nat.le_of_ble_eq_true rfl) ?_ ⟨Nat.zero_le _, hx1⟩ ?_
    · skip
      exact .m [0, 1, 5, 6] [] []
    rintro ⟨n3, n2⟩ ⟨hi1, hx1⟩
    simp only [Try.St_towncrierref06_Counts_3]
    simp only at hi1 hx1
    refine .wf 0 (.imm 1 (a0.map (D.int .i64)) 4) rfl ?_
    intro hln3
    replace hln3 : (a0.length : Int) ≤ 9223372036854775807 := by simp only [wf, wfL, IntKind.max, IntKind.min, IntKind.signed, IntKind.bits, List.length_map] at hln3; first | exact hln3.2 | exact hln3.1 | (simp at hln3; omega)
    refine .seq ?_
    refine .seq ?_
    refine .pl Try.S [0, 1, 5, 6] ?_
    refine .cond rfl rfl (fun hc1 => ?_) (fun hc1 => ?_)
    · skip
      have h1 : n3 < a0.length := by simpa using hc1
      have hwn3 : wr .i64 ((n3 : Int) + 1) = ((n3 + 1 : Nat) : Int) := wr_succ h1 hln3
      have hpn3 : wr .i64 ((n3 : Int) - 1) = (n3 : Int) - 1 := wr_pred h1 hln3
      rw [List.drop_eq_getElem_cons h1, m_towncrierref06_Counts_loop1] at hx1
      refine .skip ?_
      obtain ⟨x2, hx2, hx1⟩ := bind_some hx1
      refine .seqM 0 (fun (j : Int) => Try.St_towncrierref06_Counts_5 a0 a1 n3 j) (fun j => x2 = j) (Nat.le_of_ble_eq_true rfl) ?_ ?_
      · skip
        refine .block ?_
        refine .seq ?_
        obtain ⟨v1, hv1, hx2⟩ := bind_some hx2
        have e1 := nth_map (D.int .i64) a0 n3 h1
        refine .rg Try.S [0, 1, 5, 6] ?_
        refine .rnx 5 (And.intro e1 hwn3) ?_
        refine .call (r := .bool v1) rfl rfl rfl rfl rfl rfl (callP_towncrierref06_Has a1 (a0[n3]) v1 hv1) ?_
        refine .nil ⟨nofun, ?_⟩
        refine .cond rfl rfl (fun hc2 => ?_) (fun hc2 => ?_)
        · skip
          replace hx2 := ite_lc hx2 hc2
          refine .plx Try.S hwn3 [0, 1, 5, 6] ?_
          refine ⟨_, ?_, (Option.some.inj hx2).symm⟩
          exact .m [0, 1, 5, 6] [] []
        · skip
          replace hx2 := ite_rc hx2 hc2
          refine .skip ?_
          refine ⟨_, ?_, (Option.some.inj hx2).symm⟩
          exact .m [0, 1, 5, 6] [] []
      · skip
        rintro n4 hj1
        subst x2
        try dsimp only at hx1
        simp only [Try.St_towncrierref06_Counts_5]
        refine .plx Try.S hwn3 [0, 1, 5, 6] ?_
        refine ⟨(n3 + 1, _), ?_, ⟨by omega, hx1⟩, by dsimp only; omega⟩
        exact .m [0, 1, 5, 6] [] []
    · skip
      have h2 : n3 = a0.length := by have h2b := of_decide_eq_false hc1; omega
      rw [List.drop_of_length_le (by omega), m_towncrierref06_Counts_loop1] at hx1
      refine .exit ?_
      refine ⟨_, ?_, (Option.some.inj hx1).symm⟩
      exact .m [0, 5] [] []
  · skip
    rintro n1 hj2
    subst x1
    try dsimp only at h
    simp only [Try.St_towncrierref06_Counts_1]
    refine .seq ?_
    refine .pl Try.S [0, 5] ?_
    have hq := Option.some.inj h
    subst r
    exact .ret ⟨.inr rfl, rsi⟩


theorem callP_towncrierref05_May (a0 : Int) (r : Bool) (h : m_towncrierref05_May a0 = some r) : CallP Try.prog 101 [.int .i64 a0] (.bool r) := by
  refine callP_intro Try.tmOk 2 Try.func101 rfl (by decide) rfl rfl (Nat.le_of_ble_eq_true rfl) ?_
  intro hwf
  unfold m_towncrierref05_May at h
  refine .seq ?_
  refine .pl Try.S [0] ?_
  refine .seq ?_
  refine .rg Try.S [0] ?_
  refine .rn 6 ?_
  refine .rn 6 ?_
  refine .nil ⟨nofun, ?_⟩
  have hq := Option.some.inj h
  subst r
  exact .ret ⟨.inr rfl, rsi⟩

def Try.St_towncrierref08_rising_1 (a0 : List Int) (a1 : List Int) : St := ⟨[(0, .imm 1 (a0.map (D.int .i64)) 4), (1, .imm 1 (a1.map (D.int .i64)) 4)], [], 0⟩
attribute [local go_sem] Try.St_towncrierref08_rising_1
def Try.St_towncrierref08_rising_3 (a0 : List Int) (a1 : List Int) (n1 : Nat) : St := ⟨[(0, .imm 1 (a0.map (D.int .i64)) 4), (1, .imm 1 (a1.map (D.int .i64)) 4), (5, .int .i64 (n1 : Int))], [], 0⟩
attribute [local go_sem] Try.St_towncrierref08_rising_3
theorem callP_towncrierref08_rising (a0 : List Int) (a1 : List Int) (r : Bool) (h : m_towncrierref08_rising a0 a1 = some r) : CallP Try.prog 103 [.imm 1 (a0.map (D.int .i64)) 4, .imm 1 (a1.map (D.int .i64)) 4] (.bool r) := by
  refine callP_intro Try.tmOk 2 Try.func103 rfl (by decide) rfl rfl (Nat.le_of_ble_eq_true rfl) ?_
  intro hwf
  unfold m_towncrierref08_rising at h
  refine .seq ?_
  refine .pl Try.S [0, 1] ?_
  obtain ⟨x1, hx1, h⟩ := bind_some h
  refine .seqM 0 (fun (j : Unit) => Try.St_towncrierref08_rising_1 a0 a1) (fun j => x1 = (.inr j)) (Nat.le_of_ble_eq_true rfl) ?_ ?_
  · skip
    refine .seq ?_
    refine .pl Try.S [0, 1] ?_
    refine .block ?_
    refine .loopG 0 (fun (j : Nat) => Try.St_towncrierref08_rising_3 a0 a1 j) (fun j => j ≤ a0.length ∧ m_towncrierref08_rising_loop1 a0 (a0.drop j) j  = some x1) (fun j => a0.length - j) (0) (Nat.le_of_ble_eq_true rfl) ?_ ⟨Nat.zero_le _, hx1⟩ ?_
    · skip
      exact .m [0, 1, 5] [] []
    rintro n1 ⟨hi1, hx1⟩
    simp only [Try.St_towncrierref08_rising_3]
    refine .wf 0 (.imm 1 (a0.map (D.int .i64)) 4) rfl ?_
    intro hln1
    replace hln1 : (a0.length : Int) ≤ 9223372036854775807 := by simp only [wf, wfL, IntKind.max, IntKind.min, IntKind.signed, IntKind.bits, List.length_map] at hln1; first | exact hln1.2 | exact hln1.1 | (simp at hln1; omega)
    refine .seq ?_
    refine .seq ?_
    refine .pl Try.S [0, 1, 5] ?_
    refine .cond rfl rfl (fun hc1 => ?_) (fun hc1 => ?_)
    · skip
      have h1 : n1 < a0.length := by simpa using hc1
      have hwn1 : wr .i64 ((n1 : Int) + 1) = ((n1 + 1 : Nat) : Int) := wr_succ h1 hln1
      have hpn1 : wr .i64 ((n1 : Int) - 1) = (n1 : Int) - 1 := wr_pred h1 hln1
      rw [List.drop_eq_getElem_cons h1, m_towncrierref08_rising_loop1] at hx1
      refine .skip ?_
      refine .seq ?_
      refine .block ?_
      refine .seq ?_
      have e1 := nth_map (D.int .i64) a0 n1 h1
      have e2 := nth_mapD (D.int .i64) a0 (n1 - 1) (by omega)
      refine .rg Try.S [0, 1, 5] ?_
      refine .rdx 6 (And.intro e1 (And.intro e2 (And.intro hpn1 hwn1))) ?_
      refine .rdx 8 (And.intro e1 (And.intro e2 (And.intro hpn1 hwn1))) ?_
      refine .nil ⟨fun _ => schedB_of (by kernel_rfl), ?_⟩
      refine .cond rfl rfl (fun hc2 => ?_) (fun hc2 => ?_)
      · skip
        replace hx1 := ite_lc hx1 hc2
        refine .seq ?_
        refine .plx Try.S hwn1 [] ?_
        have hq := Option.some.inj hx1
        subst x1
        try dsimp only at h
        have hq := Option.some.inj h
        subst r
        exact .ret ⟨.inr rfl, rsi⟩
      · skip
        replace hx1 := ite_rc hx1 hc2
        refine .skip ?_
        refine .plx Try.S hwn1 [0, 1, 5] ?_
        refine ⟨n1 + 1, ?_, ⟨by omega, hx1⟩, by dsimp only; omega⟩
        exact .m [0, 1, 5] [] []
    · skip
      have h2 : n1 = a0.length := by have h2b := of_decide_eq_false hc1; omega
      rw [List.drop_of_length_le (by omega), m_towncrierref08_rising_loop1] at hx1
      refine .exit ?_
      refine ⟨_, ?_, (Option.some.inj hx1).symm⟩
      exact .m [0, 1] [] []
  · skip
    rintro ⟨⟩ hj1
    subst x1
    try dsimp only at h
    simp only [Try.St_towncrierref08_rising_1]
    refine .seq ?_
    obtain ⟨v1, hv1, h⟩ := bind_some h
    refine .rg Try.S [0, 1] ?_
    refine .rn 2 ?_
    refine .call (r := .bool v1) rfl rfl rfl rfl rfl rfl (callP_towncrierref06_Within a0 a1 v1 hv1) ?_
    refine .rn 1 ?_
    refine .nil ⟨nofun, ?_⟩
    have hq := Option.some.inj h
    subst r
    exact .ret ⟨.inr rfl, rsi⟩


theorem callP_towncrierref08_MayPromise (a0 : TPromise) (a1 : Int) (r : Bool) (h : m_towncrierref08_MayPromise a0 a1 = some r) : CallP Try.prog 87 [.agg [.int .i64 a0.Node, .int .i64 a0.Ballot, .str a0.Value], .int .i64 a1] (.bool r) := by
  refine callP_intro Try.tmOk 3 Try.func87 rfl (by decide) rfl rfl (Nat.le_of_ble_eq_true rfl) ?_
  intro hwf
  unfold m_towncrierref08_MayPromise at h
  refine .seq ?_
  refine .pl Try.S [0, 1] ?_
  refine .seq ?_
  refine .seq ?_
  refine .pl Try.S [1, 2] ?_
  refine .cond rfl rfl (fun hc1 => ?_) (fun hc1 => ?_)
  · skip
    replace h := ite_lc h hc1
    refine .seq ?_
    refine .pl Try.S [2] ?_
    have hq := Option.some.inj h
    subst r
    exact .ret ⟨.inr rfl, rsi⟩
  · skip
    replace h := ite_rc h hc1
    refine .skip ?_
    refine .seq ?_
    obtain ⟨v1, hv1, h⟩ := bind_some h
    refine .rg Try.S [1, 2] ?_
    refine .rn 2 ?_
    refine .call (r := .bool v1) rfl rfl rfl rfl rfl rfl (callP_towncrierref05_May a0.Ballot v1 hv1) ?_
    refine .rn 6 ?_
    refine .rn 7 ?_
    refine .nil ⟨nofun, ?_⟩
    have hq := Option.some.inj h
    subst r
    exact .ret ⟨.inr rfl, rsi⟩

def Try.St_attempt_rising_1 : St := ⟨[], [], 0⟩
attribute [local go_sem] Try.St_attempt_rising_1
def Try.St_attempt_rising_3 (a0 : List Int) (a1 : List Int) (n1 : Nat) : St := ⟨[(0, .imm 1 (a0.map (D.int .i64)) 4), (1, .imm 1 (a1.map (D.int .i64)) 4), (7, .imm 1 (a0.map (D.int .i64)) 4), (8, .int .i64 (a0.length : Int)), (9, .int .i64 (n1 : Int))], [], 0⟩
attribute [local go_sem] Try.St_attempt_rising_3
theorem callP_attempt_rising (a0 : List Int) (a1 : List Int) (r : Bool) (h : m_attempt_rising a0 a1 = some r) : CallP Try.prog 98 [.imm 1 (a0.map (D.int .i64)) 4, .imm 1 (a1.map (D.int .i64)) 4] (.bool r) := by
  refine callP_intro Try.tmOk 2 Try.func98 rfl (by decide) rfl rfl (Nat.le_of_ble_eq_true rfl) ?_
  intro hwf
  unfold m_attempt_rising at h
  refine .seq ?_
  refine .pl Try.S [0, 1] ?_
  obtain ⟨x1, hx1, h⟩ := bind_some h
  refine .seqM 0 (fun (j : Unit) => Try.St_attempt_rising_1) (fun j => x1 = (.inr j)) (Nat.le_of_ble_eq_true rfl) ?_ ?_
  · skip
    refine .seq ?_
    refine .pl Try.S [0, 1] ?_
    refine .block ?_
    refine .loopG 0 (fun (j : Nat) => Try.St_attempt_rising_3 a0 a1 j) (fun j => j ≤ a0.length ∧ m_attempt_rising_loop1 a0 a1 (a0.drop j) j  = some x1) (fun j => a0.length - j) (0) (Nat.le_of_ble_eq_true rfl) ?_ ⟨Nat.zero_le _, hx1⟩ ?_
    · skip
      exact .m [0, 1, 7, 8, 9] [] []
    rintro n1 ⟨hi1, hx1⟩
    simp only [Try.St_attempt_rising_3]
    refine .wf 8 (.int .i64 (a0.length : Int)) rfl ?_
    intro hln1
    replace hln1 : (a0.length : Int) ≤ 9223372036854775807 := by simp only [wf, wfL, IntKind.max, IntKind.min, IntKind.signed, IntKind.bits, List.length_map] at hln1; first | exact hln1.2 | exact hln1.1 | (simp at hln1; omega)
    refine .seq ?_
    refine .pl Try.S [0, 1, 7, 8, 9] ?_
    refine .seq ?_
    refine .cond rfl rfl (fun hc1 => ?_) (fun hc1 => ?_)
    · skip
      have h1 : n1 < a0.length := by simpa using hc1
      have hwn1 : wr .i64 ((n1 : Int) + 1) = ((n1 + 1 : Nat) : Int) := wr_succ h1 hln1
      have hpn1 : wr .i64 ((n1 : Int) - 1) = (n1 : Int) - 1 := wr_pred h1 hln1
      rw [List.drop_eq_getElem_cons h1, m_attempt_rising_loop1] at hx1
      refine .skip ?_
      refine .seq ?_
      refine .block ?_
      refine .seq ?_
      have e1 := nth_map (D.int .i64) a0 n1 h1
      refine .plx Try.S (And.intro e1 hwn1) [0, 1, 7, 8, 9] ?_
      refine .seq ?_
      obtain ⟨v1, hv1, hx1⟩ := bind_some hx1
      have e2 := nth_mapD (D.int .i64) a0 (n1 - 1) (by omega)
      refine .rg Try.S [0, 1, 5, 6, 7, 8, 9] ?_
      refine .rnx 6 (And.intro e2 (And.intro hpn1 hwn1)) ?_
      refine .rnx 8 (And.intro e2 (And.intro hpn1 hwn1)) ?_
      refine .gcall (r := .bool v1) rfl rfl rfl rfl rfl (fun hg => ⟨[], [.imm 1 (a1.map (D.int .i64)) 4, .int .i64 (a0[n1])], _, rfl, gd hg, rfl, (callP_quorum_Has a1 (a0[n1]) v1 (ite_lc hv1 hg))⟩) ?_
      refine .rnx 2 (And.intro e2 (And.intro hpn1 hwn1)) ?_
      refine .nil ⟨nofun, ?_⟩
      refine .cond rfl rfl (fun hc2 => ?_) (fun hc2 => ?_)
      · skip
        replace hx1 := ite_lc hx1 hc2
        refine .seq ?_
        refine .plx Try.S hwn1 [] ?_
        have hq := Option.some.inj hx1
        subst x1
        try dsimp only at h
        have hq := Option.some.inj h
        subst r
        exact .ret ⟨.inr rfl, rsi⟩
      · skip
        replace hx1 := ite_rc hx1 hc2
        refine .skip ?_
        refine .plx Try.S hwn1 [0, 1, 7, 8, 9] ?_
        refine ⟨n1 + 1, ?_, ⟨by omega, hx1⟩, by dsimp only; omega⟩
        exact .m [0, 1, 7, 8, 9] [] []
    · skip
      have h2 : n1 = a0.length := by have h2b := of_decide_eq_false hc1; omega
      rw [List.drop_of_length_le (by omega), m_attempt_rising_loop1] at hx1
      refine .exit ?_
      refine ⟨_, ?_, (Option.some.inj hx1).symm⟩
      exact .m [] [] []
  · skip
    rintro ⟨⟩ hj1
    subst x1
    try dsimp only at h
    simp only [Try.St_attempt_rising_1]
    refine .seq ?_
    refine .pl Try.S [] ?_
    have hq := Option.some.inj h
    subst r
    exact .ret ⟨.inr rfl, rsi⟩


theorem callP_attempt_may (a0 : TPromise) (a1 : Int) (r : Bool) (h : m_attempt_may a0 a1 = some r) : CallP Try.prog 79 [.agg [.int .i64 a0.Node, .int .i64 a0.Ballot, .str a0.Value], .int .i64 a1] (.bool r) := by
  refine callP_intro Try.tmOk 3 Try.func79 rfl (by decide) rfl rfl (Nat.le_of_ble_eq_true rfl) ?_
  intro hwf
  unfold m_attempt_may at h
  refine .seq ?_
  refine .pl Try.S [0, 1] ?_
  refine .seq ?_
  refine .seq ?_
  refine .pl Try.S [1, 2] ?_
  refine .cond rfl rfl (fun hc1 => ?_) (fun hc1 => ?_)
  · skip
    replace h := ite_lc h hc1
    refine .seq ?_
    refine .pl Try.S [2] ?_
    have hq := Option.some.inj h
    subst r
    exact .ret ⟨.inr rfl, rsi⟩
  · skip
    replace h := ite_rc h hc1
    refine .skip ?_
    refine .seq ?_
    obtain ⟨v1, hv1, h⟩ := bind_some h
    refine .rg Try.S [1, 2] ?_
    refine .rn 2 ?_
    refine .call (r := .int .i64 v1) rfl rfl rfl rfl rfl rfl (callP_ballot_Check a0.Ballot v1 hv1) ?_
    refine .rn 6 ?_
    refine .rn 8 ?_
    refine .nil ⟨nofun, ?_⟩
    have hq := Option.some.inj h
    subst r
    exact .ret ⟨.inr rfl, rsi⟩
end Go.Proofs
end
section
/- Models of functions, printed by gw.py. -/


namespace Go.Proofs
open Go.Tm
set_option linter.unusedVariables false

def m_slices_Equal_int_int_loop1 (a1 : List Int) : List Int → Nat → Option (Bool ⊕ Unit)
  | [], n1 =>
    some (.inr ())
  | y1 :: rest1, n1 =>
    if n1 < a1.length then
    if ¬ (y1 = (a1.getD n1 default)) then
    some (.inl false)
    else
    m_slices_Equal_int_int_loop1 a1 rest1 (n1 + 1) 
    else none
def m_slices_Equal_int_int (a0 : List Int) (a1 : List Int) : Option Bool :=
  if ¬ ((a0.length : Int) = (a1.length : Int)) then
  some false
  else
  Option.bind (α := Bool ⊕ Unit) (m_slices_Equal_int_int_loop1 a1 a0 0 ) fun z => match z with
  | (.inl r) => some r
  | (.inr _) =>
  some true

def m_slices_Equal_Promise_Promise_loop1 (a1 : List TPromise) : List TPromise → Nat → Option (Bool ⊕ Unit)
  | [], n1 =>
    some (.inr ())
  | y1 :: rest1, n1 =>
    if n1 < a1.length then
    if ¬ ((y1.Node = (a1.getD n1 default).Node) ∧ (y1.Ballot = (a1.getD n1 default).Ballot) ∧ (y1.Value = (a1.getD n1 default).Value)) then
    some (.inl false)
    else
    m_slices_Equal_Promise_Promise_loop1 a1 rest1 (n1 + 1) 
    else none
def m_slices_Equal_Promise_Promise (a0 : List TPromise) (a1 : List TPromise) : Option Bool :=
  if ¬ ((a0.length : Int) = (a1.length : Int)) then
  some false
  else
  Option.bind (α := Bool ⊕ Unit) (m_slices_Equal_Promise_Promise_loop1 a1 a0 0 ) fun z => match z with
  | (.inl r) => some r
  | (.inr _) =>
  some true

def m_slices_IndexFunc_Promise_Promise_loop1 (f : TPromise → Option Bool) : List TPromise → Nat → Option (Int ⊕ Unit)
  | [], n1 =>
    some (.inr ())
  | y1 :: rest1, n1 =>
    Option.bind (f (y1)) fun v1 =>
    if v1 = true then
    some (.inl (n1 : Int))
    else
    m_slices_IndexFunc_Promise_Promise_loop1 f rest1 (n1 + 1) 
def m_slices_IndexFunc_Promise_Promise (s : List TPromise) (f : TPromise → Option Bool) : Option Int :=
  Option.bind (α := Int ⊕ Unit) (m_slices_IndexFunc_Promise_Promise_loop1 f s 0 ) fun z => match z with
  | (.inl r) => some r
  | (.inr _) =>
  some (-1)

def m_slices_ContainsFunc_Promise_Promise (s : List TPromise) (f : TPromise → Option Bool) : Option Bool :=
  Option.bind (m_slices_IndexFunc_Promise_Promise s f) fun v1 =>
  some (decide (v1 ≥ 0))

def m_sort_Search_loop1 (f : Int → Option Bool) : Nat → Int → Int → Option (Int)
  | 0, _, _ => none
  | fu1 + 1, n2, n3 =>
    if n2 < n3 then
    Option.bind (f (wr .i64 (shw false .u64 (wr .u64 (wr .i64 (n2 + n3))) 1))) fun v1 =>
    if ¬ (v1 = true) then
    m_sort_Search_loop1 f fu1 (wr .i64 ((wr .i64 (shw false .u64 (wr .u64 (wr .i64 (n2 + n3))) 1)) + 1)) n3
    else
    m_sort_Search_loop1 f fu1 n2 (wr .i64 (shw false .u64 (wr .u64 (wr .i64 (n2 + n3))) 1))
    else
    some n2
def m_sort_Search (n : Int) (f : Int → Option Bool) : Option Int :=
  Option.bind (α := Int) (m_sort_Search_loop1 f (n.toNat + 1) 0 n) fun n1 =>
  some n1

def m_sort_SearchInts_1 (a0 : Int) (c0 : List Int) (c1 : Int) : Option Bool :=
  if (0 ≤ a0 ∧ a0 < (c0.length : Int)) then
  some (decide ((c0.getD a0.toNat default) ≥ c1))
  else none

def m_sort_SearchInts (a0 : List Int) (a1 : Int) : Option Int :=
  Option.bind (m_sort_Search (a0.length : Int) (fun x0 => m_sort_SearchInts_1 x0 a0 a1)) fun v1 =>
  some v1
end Go.Proofs
end
section
/- The walks of functions, printed by gw.py. -/




namespace Go.Proofs
open Go.Tm Go.RowKit Go.WideShapes
set_option maxRecDepth 100000
set_option maxHeartbeats 4000000
set_option linter.unusedSimpArgs false
set_option linter.unusedVariables false
attribute [local go_sem] argVars runE runK isCallV stepE aop opd opdsL opds opdO ev ofVal keep List.any natbeq Bool.false_or Bool.true_or aggEq cond_true cond_false Bool.cond_false_right Bool.cond_true_left beq_true beq_false imp_self implies_true getR getL put St.app effL del nwB blt_dec Nat.lt_irrefl Nat.lt_add_one ble_dec Nat.le_refl Nat.beq_refl roomNZ appendIn capS capK mkZ_zero mkZL_zero zeroEl D.ids D.idsL Option.getD bin arith sarith binT dpick Tm.part splice fillD oneD loadD storeD srcD sliceD idxOk decide_true gval dstAt D.cells List.map_cons List.map_nil List.take List.drop List.length_map List.append Int.toNat_natCast and_true true_and decide_false List.length_cons List.length_nil List.append_nil List.nil_append Bool.and_true Bool.true_and Bool.not_false Bool.not_true ne_eq not_false_eq_true BEq.rfl List.getElem?_cons_zero List.getElem?_cons_succ List.getElem?_nil Nat.zero_add List.all_cons List.all_nil List.isEmpty_cons List.isEmpty_nil List.any_cons List.any_nil List.drop_succ_cons List.drop_zero unfL unf okM okML low3 List.cons_append true_or or_true Nat.zero_mul Nat.zero_le bytesD_map map_ub mkZ_one mkZL_one mkM mkML mk1_int mk1_str mk1_bool drop_map take_map take_map_len List.take_length Int.toNat_zero toNat_pred fpOf metIds opIds mvV mvH mvF pickL D.ren D.renL Blk.ren List.map_append List.length_append Bool.not_not Bool.or_not_self Bool.not_or_self Bool.or_true
attribute [local go_sem] Try.tm_1 Try.tm_2 Try.tm_3 Try.tm_4 Try.tm_5 Try.tm_6 Try.tm_7 Try.tm_8 Try.tm_9 Try.tm_10 Try.tm_11 Try.tm_12 Try.tm_13 Try.tm_14 Try.tm_15 Try.tm_16 Try.tm_17 Try.tm_18 Try.tm_19 Try.tm_20 Try.tm_21 Try.tm_22 Try.tm_23 Try.tm_24 Try.tm_25 Try.tm_26 Try.tm_27 Try.tm_28 Try.tm_29 Try.tm_30 Try.tm_32 Try.tm_34 Try.tm_35 Try.tm_36 Try.tm_37 Try.tm_38 Try.tm_39 Try.tm_40 Try.tm_41 Try.tm_42 Try.tm_43 Try.tm_44 Try.tm_45 Try.tm_46 Try.tm_47 Try.tm_48 Try.tm_50 Try.tm_51 Try.tm_52 Try.tm_53 Try.tm_54 Try.tm_55 Try.tm_57 Try.tm_58 Try.tm_59 Try.tm_61 Try.tm_63 Try.tm_64 Try.tm_65 Try.tm_66 Try.tm_67 Try.tm_68 Try.tm_69 Try.tm_70 Try.tm_71 Try.tm_73 Try.tm_75 Try.tm_76 Try.tm_78 Try.tm_79 Try.tm_80 Try.tm_81 Try.tm_82 Try.tm_83 Try.tm_84 Try.tm_85 Try.tm_86 Try.tm_87 Try.tm_88 Try.tm_89 Try.tm_90 Try.tm_91 Try.tm_93 Try.tm_94 Try.tm_95 Try.tm_96 Try.tm_97 Try.tm_98 Try.tm_99 Try.tm_100 Try.tm_101 Try.tm_102 Try.tm_103 Try.tm_104 Try.tm_105 Try.tm_106 Try.tm_107 Try.tm_109 Try.tm_111 Try.tm_113 Try.tm_114 Try.tm_115 Try.tm_116 Try.tm_117 Try.tm_118 Try.tm_119 Try.tm_120 Try.tm_121 Try.tm_123 Try.tm_124 Try.tm_125 Try.tm_127 Try.tm_128 Try.tm_129 Try.tm_130 Try.tm_131 Try.tm_132 Try.tm_133 Try.tm_134 Try.tm_135 Try.tm_136 Try.tm_137 Try.tm_138 Try.tm_139 Try.tm_140 Try.tm_141 Try.tm_142 Try.tm_143 Try.tm_144 Try.tm_145 Try.tm_146 Try.tm_147 Try.tm_149 Try.tm_150 Try.tm_151 Try.tm_152 Try.tm_153 Try.tm_154 Try.tm_155 Try.tm_156 Try.tm_157 Try.tm_158 Try.tm_159 Try.tm_160 Try.tm_162 Try.tm_163 Try.tm_164 Try.tm_165 Try.tm_166 Try.tm_167 Try.tm_168 Try.tm_169 Try.tm_170 Try.tm_171 Try.tm_172 Try.tm_173 Try.tm_175 Try.tm_177 Try.tm_178 Try.tm_179 Try.tm_180 Try.tm_181 Try.tm_182 Try.tm_184 Try.tm_185 Try.tm_187 Try.tm_189 Try.tm_191 Try.tm_192 Try.tm_193 Try.tm_194 Try.tm_195 Try.tm_196 Try.tm_197 Try.tm_198 Try.tm_199 Try.tm_200 Try.tm_201 Try.tm_202 Try.tm_203 Try.tm_204 Try.tm_205 Try.tm_206 Try.tm_207 Try.tm_208 Try.tm_209 Try.tm_210 Try.tm_211 Try.tm_212 Try.tm_213 Try.tm_214 Try.tm_215 Try.tm_216 Try.tm_217 Try.tm_218 Try.tm_219 Try.tm_220 Try.tm_221 Try.tm_223 Try.tm_224 Try.tm_225 Try.tm_226 Try.tm_227 Try.tm_229 Try.tm_230 Try.tm_231 Try.tm_232 Try.tm_233 Try.tm_235 Try.tm_236 Try.tm_237 Try.tm_238 Try.tm_239 Try.tm_240 Try.tm_241 Try.tm_242 Try.tm_243 Try.tm_244 Try.tm_245 Try.tm_246 Try.tm_247 Try.tm_248 Try.tm_249 Try.tm_250 Try.tm_251 Try.tm_252 Try.tm_253 Try.tm_254 Try.tm_255 Try.tm_256 Try.tm_257 Try.tm_258 Try.tm_259 Try.tm_260 Try.tm_262 Try.tm_263 Try.tm_264 Try.tm_265 Try.tm_266 Try.tm_267 Try.tm_269 Try.tm_270 Try.tm_271 Try.tm_272 Try.tm_273 Try.tm_274 Try.tm_275 Try.tm_276 Try.tm_277 Try.tm_278 Try.tm_280 Try.tm_281 Try.tm_282 Try.tm_283 Try.tm_284 Try.tm_286 Try.tm_288 Try.tm_289 Try.tm_290 Try.tm_291 Try.tm_292 Try.tm_294 Try.tm_296 Try.tm_297 Try.tm_298 Try.tm_299 Try.tm_300 Try.tm_302 Try.tm_303 Try.tm_304 Try.tm_305 Try.tm_306 Try.tm_307 Try.tm_308 Try.tm_309 Try.tm_310 Try.tm_311 Try.tm_312 Try.tm_313 Try.tm_314 Try.tm_315 Try.tm_316 Try.tm_317 Try.tm_318 Try.tm_319 Try.tm_320 Try.tm_321 Try.tm_322 Try.tm_324 Try.tm_325 Try.tm_326 Try.tm_327 Try.tm_330 Try.tm_331 Try.tm_332 Try.tm_333 Try.tm_334 Try.tm_335 Try.tm_336 Try.tm_337 TPromise.d TAttempt.d TAttempt.n dL_str nL_str TVote.d TSeen.d TStable.d TStable.n TRecord.d TMessage.d TMessage.n TWait.d TWait.n TStamp.d TSkeen.d TSkeen.n TCommand.d TCommand.n mk1_TPromise mk1_TAttempt mk1_dL_str mk1_TVote mk1_TSeen mk1_TStable mk1_TRecord mk1_TMessage mk1_TWait mk1_TStamp mk1_TSkeen mk1_TCommand Try.f104 Try.f105 Try.f188 Try.f99 Try.f80 Try.f184 Try.f91

def Try.St_slices_Equal_int_int_1 : St := ⟨[], [], 0⟩
attribute [local go_sem] Try.St_slices_Equal_int_int_1
def Try.St_slices_Equal_int_int_3 (a0 : List Int) (a1 : List Int) (n1 : Nat) : St := ⟨[(0, .imm 1 (a0.map (D.int .i64)) 4), (1, .imm 1 (a1.map (D.int .i64)) 4), (12, .int .i64 (a0.length : Int)), (13, .int .i64 (n1 : Int))], [], 0⟩
attribute [local go_sem] Try.St_slices_Equal_int_int_3
theorem callP_slices_Equal_int_int (a0 : List Int) (a1 : List Int) (r : Bool) (h : m_slices_Equal_int_int a0 a1 = some r) : CallP Try.prog 104 [.imm 1 (a0.map (D.int .i64)) 4, .imm 1 (a1.map (D.int .i64)) 4] (.bool r) := by
  refine callP_intro Try.tmOk 2 Try.func104 rfl (by decide) rfl rfl (Nat.le_of_ble_eq_true rfl) ?_
  intro hwf
  unfold m_slices_Equal_int_int at h
  refine .seq ?_
  refine .pl Try.S [0, 1] ?_
  refine .seq ?_
  refine .seq ?_
  refine .pl Try.S [0, 1] ?_
  refine .cond rfl rfl (fun hc1 => ?_) (fun hc1 => ?_)
  · skip
    replace h := ite_lc h hc1
    refine .seq ?_
    refine .pl Try.S [] ?_
    have hq := Option.some.inj h
    subst r
    exact .ret ⟨.inr rfl, rsi⟩
  · skip
    replace h := ite_rc h hc1
    refine .skip ?_
    obtain ⟨x1, hx1, h⟩ := bind_some h
    refine .seqM 0 (fun (j : Unit) => Try.St_slices_Equal_int_int_1) (fun j => x1 = (.inr j)) (Nat.le_of_ble_eq_true rfl) ?_ ?_
    · skip
      refine .seq ?_
      refine .pl Try.S [0, 1] ?_
      refine .block ?_
      refine .loopG 0 (fun (j : Nat) => Try.St_slices_Equal_int_int_3 a0 a1 j) (fun j => j ≤ a0.length ∧ m_slices_Equal_int_int_loop1 a1 (a0.drop j) j  = some x1) (fun j => a0.length - j) (0) (Nat.le_of_ble_eq_true rfl) ?_ ⟨Nat.zero_le _, hx1⟩ ?_
      · skip
        exact .m [0, 1, 12, 13] [] []
      rintro n1 ⟨hi1, hx1⟩
      simp only [Try.St_slices_Equal_int_int_3]
      refine .wf 12 (.int .i64 (a0.length : Int)) rfl ?_
      intro hln1
      replace hln1 : (a0.length : Int) ≤ 9223372036854775807 := by simp only [wf, wfL, IntKind.max, IntKind.min, IntKind.signed, IntKind.bits, List.length_map] at hln1; first | exact hln1.2 | exact hln1.1 | (simp at hln1; omega)
      refine .seq ?_
      refine .pl Try.S [0, 1, 12, 13] ?_
      refine .seq ?_
      refine .cond rfl rfl (fun hc2 => ?_) (fun hc2 => ?_)
      · skip
        have h1 : n1 < a0.length := by simpa using hc2
        have hwn1 : wr .i64 ((n1 : Int) + 1) = ((n1 + 1 : Nat) : Int) := wr_succ h1 hln1
        have hpn1 : wr .i64 ((n1 : Int) - 1) = (n1 : Int) - 1 := wr_pred h1 hln1
        rw [List.drop_eq_getElem_cons h1, m_slices_Equal_int_int_loop1] at hx1
        refine .skip ?_
        refine .seq ?_
        refine .block ?_
        refine .seq ?_
        refine .plx Try.S hwn1 [0, 1, 12, 13] ?_
        refine .seq ?_
        obtain ⟨k1, hx1⟩ := ite_ck hx1
        have e1 := nth_map (D.int .i64) a0 n1 h1
        have e2 := nth_mapD (D.int .i64) a1 n1
        replace e2 := e2 k1
        refine .rg Try.S [0, 1, 5, 12, 13] ?_
        refine .rdx 6 (And.intro e1 (And.intro e2 hwn1)) ?_
        refine .rdx 3 (And.intro e1 (And.intro e2 hwn1)) ?_
        refine .nil ⟨fun _ => schedB_of (by kernel_rfl), ?_⟩
        refine .cond rfl rfl (fun hc3 => ?_) (fun hc3 => ?_)
        · skip
          replace hx1 := ite_lc hx1 hc3
          refine .seq ?_
          refine .plx Try.S hwn1 [] ?_
          have hq := Option.some.inj hx1
          subst x1
          try dsimp only at h
          have hq := Option.some.inj h
          subst r
          exact .ret ⟨.inr rfl, rsi⟩
        · skip
          replace hx1 := ite_rc hx1 hc3
          refine .skip ?_
          refine .plx Try.S hwn1 [0, 1, 12, 13] ?_
          refine ⟨n1 + 1, ?_, ⟨by omega, hx1⟩, by dsimp only; omega⟩
          exact .m [0, 1, 12, 13] [] []
      · skip
        have h2 : n1 = a0.length := by have h2b := of_decide_eq_false hc2; omega
        rw [List.drop_of_length_le (by omega), m_slices_Equal_int_int_loop1] at hx1
        refine .exit ?_
        refine ⟨_, ?_, (Option.some.inj hx1).symm⟩
        exact .m [] [] []
    · skip
      rintro ⟨⟩ hj1
      subst x1
      try dsimp only at h
      simp only [Try.St_slices_Equal_int_int_1]
      refine .seq ?_
      refine .pl Try.S [] ?_
      have hq := Option.some.inj h
      subst r
      exact .ret ⟨.inr rfl, rsi⟩

def Try.St_slices_Equal_Promise_Promise_1 : St := ⟨[], [], 0⟩
attribute [local go_sem] Try.St_slices_Equal_Promise_Promise_1
def Try.St_slices_Equal_Promise_Promise_3 (a0 : List TPromise) (a1 : List TPromise) (n1 : Nat) : St := ⟨[(0, .imm 3 (a0.map TPromise.d) 4), (1, .imm 3 (a1.map TPromise.d) 4), (12, .int .i64 (a0.length : Int)), (13, .int .i64 (n1 : Int))], [], 0⟩
attribute [local go_sem] Try.St_slices_Equal_Promise_Promise_3
theorem callP_slices_Equal_Promise_Promise (a0 : List TPromise) (a1 : List TPromise) (r : Bool) (h : m_slices_Equal_Promise_Promise a0 a1 = some r) : CallP Try.prog 105 [.imm 3 (a0.map TPromise.d) 4, .imm 3 (a1.map TPromise.d) 4] (.bool r) := by
  refine callP_intro Try.tmOk 2 Try.func105 rfl (by decide) rfl rfl (Nat.le_of_ble_eq_true rfl) ?_
  intro hwf
  unfold m_slices_Equal_Promise_Promise at h
  refine .seq ?_
  refine .pl Try.S [0, 1] ?_
  refine .seq ?_
  refine .seq ?_
  refine .pl Try.S [0, 1] ?_
  refine .cond rfl rfl (fun hc1 => ?_) (fun hc1 => ?_)
  · skip
    replace h := ite_lc h hc1
    refine .seq ?_
    refine .pl Try.S [] ?_
    have hq := Option.some.inj h
    subst r
    exact .ret ⟨.inr rfl, rsi⟩
  · skip
    replace h := ite_rc h hc1
    refine .skip ?_
    obtain ⟨x1, hx1, h⟩ := bind_some h
    refine .seqM 0 (fun (j : Unit) => Try.St_slices_Equal_Promise_Promise_1) (fun j => x1 = (.inr j)) (Nat.le_of_ble_eq_true rfl) ?_ ?_
    · skip
      refine .seq ?_
      refine .pl Try.S [0, 1] ?_
      refine .block ?_
      refine .loopG 0 (fun (j : Nat) => Try.St_slices_Equal_Promise_Promise_3 a0 a1 j) (fun j => j ≤ a0.length ∧ m_slices_Equal_Promise_Promise_loop1 a1 (a0.drop j) j  = some x1) (fun j => a0.length - j) (0) (Nat.le_of_ble_eq_true rfl) ?_ ⟨Nat.zero_le _, hx1⟩ ?_
      · skip
        exact .m [0, 1, 12, 13] [] []
      rintro n1 ⟨hi1, hx1⟩
      simp only [Try.St_slices_Equal_Promise_Promise_3]
      refine .wf 12 (.int .i64 (a0.length : Int)) rfl ?_
      intro hln1
      replace hln1 : (a0.length : Int) ≤ 9223372036854775807 := by simp only [wf, wfL, IntKind.max, IntKind.min, IntKind.signed, IntKind.bits, List.length_map] at hln1; first | exact hln1.2 | exact hln1.1 | (simp at hln1; omega)
      refine .seq ?_
      refine .pl Try.S [0, 1, 12, 13] ?_
      refine .seq ?_
      refine .cond rfl rfl (fun hc2 => ?_) (fun hc2 => ?_)
      · skip
        have h1 : n1 < a0.length := by simpa using hc2
        have hwn1 : wr .i64 ((n1 : Int) + 1) = ((n1 + 1 : Nat) : Int) := wr_succ h1 hln1
        have hpn1 : wr .i64 ((n1 : Int) - 1) = (n1 : Int) - 1 := wr_pred h1 hln1
        rw [List.drop_eq_getElem_cons h1, m_slices_Equal_Promise_Promise_loop1] at hx1
        refine .skip ?_
        refine .seq ?_
        refine .block ?_
        refine .seq ?_
        refine .plx Try.S hwn1 [0, 1, 12, 13] ?_
        refine .seq ?_
        obtain ⟨k1, hx1⟩ := ite_ck hx1
        have e1 := nth_map TPromise.d a0 n1 h1
        have e2 := nth_mapD TPromise.d a1 n1
        replace e2 := e2 k1
        refine .rg Try.S [0, 1, 5, 12, 13] ?_
        refine .rdx 6 (And.intro e1 (And.intro e2 hwn1)) ?_
        refine .rdx 3 (And.intro e1 (And.intro e2 hwn1)) ?_
        refine .nil ⟨fun _ => schedB_of (by kernel_rfl), ?_⟩
        refine .cond rfl rfl (fun hc3 => ?_) (fun hc3 => ?_)
        · skip
          replace hx1 := ite_lc hx1 hc3
          refine .seq ?_
          refine .plx Try.S hwn1 [] ?_
          have hq := Option.some.inj hx1
          subst x1
          try dsimp only at h
          have hq := Option.some.inj h
          subst r
          exact .ret ⟨.inr rfl, rsi⟩
        · skip
          replace hx1 := ite_rc hx1 hc3
          refine .skip ?_
          refine .plx Try.S hwn1 [0, 1, 12, 13] ?_
          refine ⟨n1 + 1, ?_, ⟨by omega, hx1⟩, by dsimp only; omega⟩
          exact .m [0, 1, 12, 13] [] []
      · skip
        have h2 : n1 = a0.length := by have h2b := of_decide_eq_false hc2; omega
        rw [List.drop_of_length_le (by omega), m_slices_Equal_Promise_Promise_loop1] at hx1
        refine .exit ?_
        refine ⟨_, ?_, (Option.some.inj hx1).symm⟩
        exact .m [] [] []
    · skip
      rintro ⟨⟩ hj1
      subst x1
      try dsimp only at h
      simp only [Try.St_slices_Equal_Promise_Promise_1]
      refine .seq ?_
      refine .pl Try.S [] ?_
      have hq := Option.some.inj h
      subst r
      exact .ret ⟨.inr rfl, rsi⟩

def Try.St_slices_IndexFunc_Promise_Promise_1 : St := ⟨[], [], 0⟩
attribute [local go_sem] Try.St_slices_IndexFunc_Promise_Promise_1
def Try.St_slices_IndexFunc_Promise_Promise_3 (s : List TPromise) (Kf : Nat) (cf : List D) (n1 : Nat) : St := ⟨[(0, .imm 3 (s.map TPromise.d) 4), (1, .fn (.func Kf) cf), (7, .int .i64 (s.length : Int)), (8, .int .i64 (n1 : Int))], [], 0⟩
attribute [local go_sem] Try.St_slices_IndexFunc_Promise_Promise_3
theorem callP_slices_IndexFunc_Promise_Promise (s : List TPromise) (Kf : Nat) (cf : List D) (hcf : ∀ hp, lends hp cf = (cf, true)) (h2f : ∀ hp, lend2s hp cf = (cf, true)) (h3f : ∀ hp, ids2s hp cf = []) (f : TPromise → Option Bool) (hf : ∀ x0 y, f x0 = some y → CallP Try.prog Kf (.agg [.int .i64 x0.Node, .int .i64 x0.Ballot, .str x0.Value] :: cf) (.bool y)) (r : Int) (h : m_slices_IndexFunc_Promise_Promise s f = some r) : CallP Try.prog 188 [.imm 3 (s.map TPromise.d) 4, .fn (.func Kf) cf] (.int .i64 r) := by
  refine callP_intro Try.tmOk 2 Try.func188 rfl (by decide) rfl rfl (Nat.le_of_ble_eq_true rfl) ?_
  intro hwf
  unfold m_slices_IndexFunc_Promise_Promise at h
  refine .seq ?_
  refine .pl Try.S [0, 1] ?_
  obtain ⟨x1, hx1, h⟩ := bind_some h
  refine .seqM 0 (fun (j : Unit) => Try.St_slices_IndexFunc_Promise_Promise_1) (fun j => x1 = (.inr j)) (Nat.le_of_ble_eq_true rfl) ?_ ?_
  · skip
    refine .seq ?_
    refine .pl Try.S [0, 1] ?_
    refine .block ?_
    refine .loopG 0 (fun (j : Nat) => Try.St_slices_IndexFunc_Promise_Promise_3 s Kf cf j) (fun j => j ≤ s.length ∧ m_slices_IndexFunc_Promise_Promise_loop1 f (s.drop j) j  = some x1) (fun j => s.length - j) (0) (Nat.le_of_ble_eq_true rfl) ?_ ⟨Nat.zero_le _, hx1⟩ ?_
    · skip
      refine Goes.mv [0, 1, 7, 8] [] [] ?_ (Nat.le_of_ble_eq_true rfl) (Nat.le_of_ble_eq_true rfl) (by first | rfl | (simp only [idsV, idsH, pickL, getL, D.ids, Blk.ids, Nat.beq, cond_true, cond_false, List.append_nil, List.nil_append, List.cons_append, idsL_lent hcf] <;> rfl))
      first | rfl | (simp only [go_sem, Nat.reduceBEq, Nat.reduceAdd, renL_lent hcf]; done) | (simp only [go_sem, Nat.reduceBEq, Nat.reduceAdd, renL_lent hcf]; rfl)
    rintro n1 ⟨hi1, hx1⟩
    simp only [Try.St_slices_IndexFunc_Promise_Promise_3]
    refine .wf 7 (.int .i64 (s.length : Int)) rfl ?_
    intro hln1
    replace hln1 : (s.length : Int) ≤ 9223372036854775807 := by simp only [wf, wfL, IntKind.max, IntKind.min, IntKind.signed, IntKind.bits, List.length_map] at hln1; first | exact hln1.2 | exact hln1.1 | (simp at hln1; omega)
    refine .seq ?_
    refine .pl Try.S [0, 1, 7, 8] ?_
    refine .seq ?_
    refine .cond rfl rfl (fun hc1 => ?_) (fun hc1 => ?_)
    · skip
      have h1 : n1 < s.length := by simpa using hc1
      have hwn1 : wr .i64 ((n1 : Int) + 1) = ((n1 + 1 : Nat) : Int) := wr_succ h1 hln1
      have hpn1 : wr .i64 ((n1 : Int) - 1) = (n1 : Int) - 1 := wr_pred h1 hln1
      rw [List.drop_eq_getElem_cons h1, m_slices_IndexFunc_Promise_Promise_loop1] at hx1
      refine .skip ?_
      refine .seq ?_
      refine .block ?_
      refine .seq ?_
      refine .plx Try.S hwn1 [0, 1, 7, 8] ?_
      refine .seq ?_
      obtain ⟨v1, hv1, hx1⟩ := bind_some hx1
      have e1 := nth_map TPromise.d s n1 h1
      refine .rg Try.S [0, 1, 5, 7, 8] ?_
      refine .rnx 5 (And.intro e1 hwn1) ?_
      refine .call (r := .bool v1) rfl rfl rfl rfl rfl (lends_cons rfl (hcf _)) (hf _ v1 hv1) ?_
      refine .nil ⟨nofun, ?_⟩
      refine .cond rfl rfl (fun hc2 => ?_) (fun hc2 => ?_)
      · skip
        replace hx1 := ite_lc hx1 hc2
        refine .seq ?_
        refine .plx Try.S hwn1 [5] ?_
        have hq := Option.some.inj hx1
        subst x1
        try dsimp only at h
        have hq := Option.some.inj h
        subst r
        exact .ret ⟨.inr rfl, rsi⟩
      · skip
        replace hx1 := ite_rc hx1 hc2
        refine .skip ?_
        refine .plx Try.S hwn1 [0, 1, 7, 8] ?_
        refine ⟨n1 + 1, ?_, ⟨by omega, hx1⟩, by dsimp only; omega⟩
        refine Goes.mv [0, 1, 7, 8] [] [] ?_ (Nat.le_of_ble_eq_true rfl) (Nat.le_of_ble_eq_true rfl) (by first | rfl | (simp only [idsV, idsH, pickL, getL, D.ids, Blk.ids, Nat.beq, cond_true, cond_false, List.append_nil, List.nil_append, List.cons_append, idsL_lent hcf] <;> rfl))
        first | rfl | (simp only [go_sem, Nat.reduceBEq, Nat.reduceAdd, renL_lent hcf]; done) | (simp only [go_sem, Nat.reduceBEq, Nat.reduceAdd, renL_lent hcf]; rfl)
    · skip
      have h2 : n1 = s.length := by have h2b := of_decide_eq_false hc1; omega
      rw [List.drop_of_length_le (by omega), m_slices_IndexFunc_Promise_Promise_loop1] at hx1
      refine .exit ?_
      refine ⟨_, ?_, (Option.some.inj hx1).symm⟩
      refine Goes.mv [] [] [] ?_ (Nat.le_of_ble_eq_true rfl) (Nat.le_of_ble_eq_true rfl) (by first | rfl | (simp only [idsV, idsH, pickL, getL, D.ids, Blk.ids, Nat.beq, cond_true, cond_false, List.append_nil, List.nil_append, List.cons_append, idsL_lent hcf] <;> rfl))
      first | rfl | (simp only [go_sem, Nat.reduceBEq, Nat.reduceAdd, renL_lent hcf]; done) | (simp only [go_sem, Nat.reduceBEq, Nat.reduceAdd, renL_lent hcf]; rfl)
  · skip
    rintro ⟨⟩ hj1
    subst x1
    try dsimp only at h
    simp only [Try.St_slices_IndexFunc_Promise_Promise_1]
    refine .seq ?_
    refine .pl Try.S [] ?_
    have hq := Option.some.inj h
    subst r
    exact .ret ⟨.inr rfl, rsi⟩


theorem callP_slices_ContainsFunc_Promise_Promise (s : List TPromise) (Kf : Nat) (cf : List D) (hcf : ∀ hp, lends hp cf = (cf, true)) (h2f : ∀ hp, lend2s hp cf = (cf, true)) (h3f : ∀ hp, ids2s hp cf = []) (f : TPromise → Option Bool) (hf : ∀ x0 y, f x0 = some y → CallP Try.prog Kf (.agg [.int .i64 x0.Node, .int .i64 x0.Ballot, .str x0.Value] :: cf) (.bool y)) (r : Bool) (h : m_slices_ContainsFunc_Promise_Promise s f = some r) : CallP Try.prog 99 [.imm 3 (s.map TPromise.d) 4, .fn (.func Kf) cf] (.bool r) := by
  refine callP_intro Try.tmOk 2 Try.func99 rfl (by decide) rfl rfl (Nat.le_of_ble_eq_true rfl) ?_
  intro hwf
  unfold m_slices_ContainsFunc_Promise_Promise at h
  refine .seq ?_
  refine .pl Try.S [0, 1] ?_
  refine .seq ?_
  obtain ⟨v1, hv1, h⟩ := bind_some h
  refine .rg Try.S [0, 1] ?_
  refine .rn 2 ?_
  refine .lcall (r := .int .i64 v1) [] rfl rfl rfl rfl rfl (lend2s_cons rfl (lend2s_cons (lend2_fn (h2f _)) lend2s_nil)) (by show ids2s _ [.imm 3 (s.map TPromise.d) 4, .fn (.func Kf) cf] = _; simp only [ids2s, ids2, List.append_nil, List.nil_append, List.cons_append, h3f]) (callP_slices_IndexFunc_Promise_Promise s Kf cf hcf h2f h3f f hf v1 hv1) ?_
  refine .rn 2 ?_
  refine .nil ⟨nofun, ?_⟩
  have hq := Option.some.inj h
  subst r
  exact .ret ⟨.inr rfl, rsi⟩

def Try.St_sort_Search_1 (n1 : Int) : St := ⟨[(5, .int .i64 n1)], [], 0⟩
attribute [local go_sem] Try.St_sort_Search_1
def Try.St_sort_Search_3 (Kf : Nat) (cf : List D) (n2 : Int) (n3 : Int) : St := ⟨[(1, .fn (.func Kf) cf), (5, .int .i64 n2), (6, .int .i64 n3)], [], 0⟩
attribute [local go_sem] Try.St_sort_Search_3
theorem callP_sort_Search (n : Int) (Kf : Nat) (cf : List D) (hcf : ∀ hp, lends hp cf = (cf, true)) (h2f : ∀ hp, lend2s hp cf = (cf, true)) (h3f : ∀ hp, ids2s hp cf = []) (f : Int → Option Bool) (hf : ∀ x0 y, f x0 = some y → CallP Try.prog Kf (.int .i64 x0 :: cf) (.bool y)) (r : Int) (h : m_sort_Search n f = some r) : CallP Try.prog 80 [.int .i64 n, .fn (.func Kf) cf] (.int .i64 r) := by
  refine callP_intro Try.tmOk 2 Try.func80 rfl (by decide) rfl rfl (Nat.le_of_ble_eq_true rfl) ?_
  intro hwf
  unfold m_sort_Search at h
  refine .seq ?_
  refine .pl Try.S [0, 1] ?_
  refine .seq ?_
  refine .pl Try.S [0, 1] ?_
  obtain ⟨x1, hx1, h⟩ := bind_some h
  refine .seqM 0 (fun (j : Int) => Try.St_sort_Search_1 j) (fun j => x1 = j) (Nat.le_of_ble_eq_true rfl) ?_ ?_
  · skip
    refine .block ?_
    refine .loopG 0 (fun (j : Nat × Int × Int) => Try.St_sort_Search_3 Kf cf j.2.1 j.2.2) (fun j => m_sort_Search_loop1 f j.1 j.2.1 j.2.2 = some x1) (fun j => j.1) (n.toNat + 1, 0, n) (Nat.le_of_ble_eq_true rfl) ?_ hx1 ?_
    · skip
      refine Goes.mv [1, 5, 6] [] [] ?_ (Nat.le_of_ble_eq_true rfl) (Nat.le_of_ble_eq_true rfl) (by first | rfl | (simp only [idsV, idsH, pickL, getL, D.ids, Blk.ids, Nat.beq, cond_true, cond_false, List.append_nil, List.nil_append, List.cons_append, idsL_lent hcf] <;> rfl))
      first | rfl | (simp only [go_sem, Nat.reduceBEq, Nat.reduceAdd, renL_lent hcf]; done) | (simp only [go_sem, Nat.reduceBEq, Nat.reduceAdd, renL_lent hcf]; rfl)
    rintro ⟨fu1, n2, n3⟩ hx1
    simp only [Try.St_sort_Search_3]
    try simp only at hx1
    obtain ⟨fu1, rfl⟩ : ∃ k, fu1 = k + 1 := by cases fu1 with | zero => (rw [m_sort_Search_loop1] at hx1; cases hx1) | succ k => exact ⟨k, rfl⟩
    rw [m_sort_Search_loop1] at hx1
    refine .seq ?_
    refine .seq ?_
    refine .pl Try.S [1, 5, 6] ?_
    refine .cond rfl rfl (fun hc1 => ?_) (fun hc1 => ?_)
    · skip
      replace hx1 := ite_lc hx1 hc1
      refine .skip ?_
      refine .block ?_
      refine .seq ?_
      refine .pl Try.S [1, 5, 6] ?_
      refine .seq ?_
      obtain ⟨v1, hv1, hx1⟩ := bind_some hx1
      refine .rg Try.S [1, 5, 6, 7] ?_
      refine .rn 2 ?_
      refine .call (r := .bool v1) rfl rfl rfl rfl rfl (lends_cons rfl (hcf _)) (hf _ v1 hv1) ?_
      refine .rn 1 ?_
      refine .nil ⟨nofun, ?_⟩
      refine .cond rfl rfl (fun hc2 => ?_) (fun hc2 => ?_)
      · skip
        replace hx1 := ite_lc hx1 hc2
        refine .pl Try.S [1, 6, 7] ?_
        refine ⟨(fu1, _, _), ?_, hx1, by dsimp only; omega⟩
        refine Goes.mv [1, 5, 6] [] [] ?_ (Nat.le_of_ble_eq_true rfl) (Nat.le_of_ble_eq_true rfl) (by first | rfl | (simp only [idsV, idsH, pickL, getL, D.ids, Blk.ids, Nat.beq, cond_true, cond_false, List.append_nil, List.nil_append, List.cons_append, idsL_lent hcf] <;> rfl))
        first | rfl | (simp only [go_sem, Nat.reduceBEq, Nat.reduceAdd, renL_lent hcf]; done) | (simp only [go_sem, Nat.reduceBEq, Nat.reduceAdd, renL_lent hcf]; rfl)
      · skip
        replace hx1 := ite_rc hx1 hc2
        refine .pl Try.S [1, 5, 7] ?_
        refine ⟨(fu1, _, _), ?_, hx1, by dsimp only; omega⟩
        refine Goes.mv [1, 5, 6] [] [] ?_ (Nat.le_of_ble_eq_true rfl) (Nat.le_of_ble_eq_true rfl) (by first | rfl | (simp only [idsV, idsH, pickL, getL, D.ids, Blk.ids, Nat.beq, cond_true, cond_false, List.append_nil, List.nil_append, List.cons_append, idsL_lent hcf] <;> rfl))
        first | rfl | (simp only [go_sem, Nat.reduceBEq, Nat.reduceAdd, renL_lent hcf]; done) | (simp only [go_sem, Nat.reduceBEq, Nat.reduceAdd, renL_lent hcf]; rfl)
    · skip
      replace hx1 := ite_rc hx1 hc1
      refine .exit ?_
      refine ⟨_, ?_, (Option.some.inj hx1).symm⟩
      refine Goes.mv [5] [] [] ?_ (Nat.le_of_ble_eq_true rfl) (Nat.le_of_ble_eq_true rfl) (by first | rfl | (simp only [idsV, idsH, pickL, getL, D.ids, Blk.ids, Nat.beq, cond_true, cond_false, List.append_nil, List.nil_append, List.cons_append, idsL_lent hcf] <;> rfl))
      first | rfl | (simp only [go_sem, Nat.reduceBEq, Nat.reduceAdd, renL_lent hcf]; done) | (simp only [go_sem, Nat.reduceBEq, Nat.reduceAdd, renL_lent hcf]; rfl)
  · skip
    rintro n1 hj1
    subst x1
    try dsimp only at h
    simp only [Try.St_sort_Search_1]
    refine .seq ?_
    refine .pl Try.S [5] ?_
    have hq := Option.some.inj h
    subst r
    exact .ret ⟨.inr rfl, rsi⟩


theorem callP_sort_SearchInts_1 (a0 : Int) (c0 : List Int) (c1 : Int) (r : Bool) (h : m_sort_SearchInts_1 a0 c0 c1 = some r) : CallP Try.prog 184 [.int .i64 a0, .iptr 0 [.imm 1 (c0.map (D.int .i64)) 4], .iptr 0 [.int .i64 c1]] (.bool r) := by
  refine callP_intro Try.tmOk 2 Try.func184 rfl (by decide) rfl rfl (Nat.le_of_ble_eq_true rfl) ?_
  intro hwf
  unfold m_sort_SearchInts_1 at h
  refine .seq ?_
  refine .pl Try.S [0, 1, 2] ?_
  refine .seq ?_
  obtain ⟨k1, h⟩ := ite_ck h
  have e1 := nth_mapI (D.int .i64) c0 a0
  replace e1 := e1 k1
  refine .drx Try.S e1 [0, 1, 2] ?_
  have hq := Option.some.inj h
  subst r
  exact .ret ⟨.inr rfl, rsi⟩


theorem callP_sort_SearchInts (a0 : List Int) (a1 : Int) (r : Int) (h : m_sort_SearchInts a0 a1 = some r) : CallP Try.prog 91 [.imm 1 (a0.map (D.int .i64)) 4, .int .i64 a1] (.int .i64 r) := by
  refine callP_intro Try.tmOk 4 Try.func91 rfl (by decide) rfl rfl (Nat.le_of_ble_eq_true rfl) ?_
  intro hwf
  unfold m_sort_SearchInts at h
  refine .seq ?_
  refine .pl Try.S [0, 1] ?_
  refine .seq ?_
  obtain ⟨v1, hv1, h⟩ := bind_some h
  refine .rg Try.S [2, 3] ?_
  refine .rn 3 ?_
  refine .lcall (r := .int .i64 v1) [] rfl rfl rfl rfl rfl (lend2s_cons rfl (lend2s_cons (lend2_fn (lend2s_cons (lend2_ptr rfl (lends_cons rfl lends_nil)) (lend2s_cons (lend2_ptr rfl (lends_cons rfl lends_nil)) lend2s_nil))) lend2s_nil)) rfl (callP_sort_Search (a0.length : Int) 184 [.iptr 0 [.imm 1 (a0.map (D.int .i64)) 4], .iptr 0 [.int .i64 a1]] (fun _ => rfl) (fun _ => rfl) (fun _ => rfl) (fun x0 => m_sort_SearchInts_1 x0 a0 a1) (fun x0 y hy => callP_sort_SearchInts_1 x0 a0 a1 y hy) v1 hv1) ?_
  refine .rn 1 ?_
  refine .nil ⟨nofun, ?_⟩
  have hq := Option.some.inj h
  subst r
  exact .ret ⟨.inr rfl, rsi⟩
end Go.Proofs
end
section
/- Models of functions, printed by gw.py. -/

namespace Go.Proofs
open Go.Tm
set_option linter.unusedVariables false

def m_math_bits_OnesCount64 (a0 : Int) : Option Int :=
  some (bitw .and .i64 (wr .i64 (wr .u64 ((wr .u64 ((wr .u64 ((bitw .and .u64 (wr .u64 ((shw false .u64 (wr .u64 ((bitw .and .u64 (shw false .u64 (wr .u64 ((bitw .and .u64 (shw false .u64 a0 1) 6148914691236517205) + (bitw .and .u64 a0 6148914691236517205))) 2) 3689348814741910323) + (bitw .and .u64 (wr .u64 ((bitw .and .u64 (shw false .u64 a0 1) 6148914691236517205) + (bitw .and .u64 a0 6148914691236517205))) 3689348814741910323))) 4) + (wr .u64 ((bitw .and .u64 (shw false .u64 (wr .u64 ((bitw .and .u64 (shw false .u64 a0 1) 6148914691236517205) + (bitw .and .u64 a0 6148914691236517205))) 2) 3689348814741910323) + (bitw .and .u64 (wr .u64 ((bitw .and .u64 (shw false .u64 a0 1) 6148914691236517205) + (bitw .and .u64 a0 6148914691236517205))) 3689348814741910323))))) 1085102592571150095) + (shw false .u64 (bitw .and .u64 (wr .u64 ((shw false .u64 (wr .u64 ((bitw .and .u64 (shw false .u64 (wr .u64 ((bitw .and .u64 (shw false .u64 a0 1) 6148914691236517205) + (bitw .and .u64 a0 6148914691236517205))) 2) 3689348814741910323) + (bitw .and .u64 (wr .u64 ((bitw .and .u64 (shw false .u64 a0 1) 6148914691236517205) + (bitw .and .u64 a0 6148914691236517205))) 3689348814741910323))) 4) + (wr .u64 ((bitw .and .u64 (shw false .u64 (wr .u64 ((bitw .and .u64 (shw false .u64 a0 1) 6148914691236517205) + (bitw .and .u64 a0 6148914691236517205))) 2) 3689348814741910323) + (bitw .and .u64 (wr .u64 ((bitw .and .u64 (shw false .u64 a0 1) 6148914691236517205) + (bitw .and .u64 a0 6148914691236517205))) 3689348814741910323))))) 1085102592571150095) 8))) + (shw false .u64 (wr .u64 ((bitw .and .u64 (wr .u64 ((shw false .u64 (wr .u64 ((bitw .and .u64 (shw false .u64 (wr .u64 ((bitw .and .u64 (shw false .u64 a0 1) 6148914691236517205) + (bitw .and .u64 a0 6148914691236517205))) 2) 3689348814741910323) + (bitw .and .u64 (wr .u64 ((bitw .and .u64 (shw false .u64 a0 1) 6148914691236517205) + (bitw .and .u64 a0 6148914691236517205))) 3689348814741910323))) 4) + (wr .u64 ((bitw .and .u64 (shw false .u64 (wr .u64 ((bitw .and .u64 (shw false .u64 a0 1) 6148914691236517205) + (bitw .and .u64 a0 6148914691236517205))) 2) 3689348814741910323) + (bitw .and .u64 (wr .u64 ((bitw .and .u64 (shw false .u64 a0 1) 6148914691236517205) + (bitw .and .u64 a0 6148914691236517205))) 3689348814741910323))))) 1085102592571150095) + (shw false .u64 (bitw .and .u64 (wr .u64 ((shw false .u64 (wr .u64 ((bitw .and .u64 (shw false .u64 (wr .u64 ((bitw .and .u64 (shw false .u64 a0 1) 6148914691236517205) + (bitw .and .u64 a0 6148914691236517205))) 2) 3689348814741910323) + (bitw .and .u64 (wr .u64 ((bitw .and .u64 (shw false .u64 a0 1) 6148914691236517205) + (bitw .and .u64 a0 6148914691236517205))) 3689348814741910323))) 4) + (wr .u64 ((bitw .and .u64 (shw false .u64 (wr .u64 ((bitw .and .u64 (shw false .u64 a0 1) 6148914691236517205) + (bitw .and .u64 a0 6148914691236517205))) 2) 3689348814741910323) + (bitw .and .u64 (wr .u64 ((bitw .and .u64 (shw false .u64 a0 1) 6148914691236517205) + (bitw .and .u64 a0 6148914691236517205))) 3689348814741910323))))) 1085102592571150095) 8))) 16))) + (shw false .u64 (wr .u64 ((wr .u64 ((bitw .and .u64 (wr .u64 ((shw false .u64 (wr .u64 ((bitw .and .u64 (shw false .u64 (wr .u64 ((bitw .and .u64 (shw false .u64 a0 1) 6148914691236517205) + (bitw .and .u64 a0 6148914691236517205))) 2) 3689348814741910323) + (bitw .and .u64 (wr .u64 ((bitw .and .u64 (shw false .u64 a0 1) 6148914691236517205) + (bitw .and .u64 a0 6148914691236517205))) 3689348814741910323))) 4) + (wr .u64 ((bitw .and .u64 (shw false .u64 (wr .u64 ((bitw .and .u64 (shw false .u64 a0 1) 6148914691236517205) + (bitw .and .u64 a0 6148914691236517205))) 2) 3689348814741910323) + (bitw .and .u64 (wr .u64 ((bitw .and .u64 (shw false .u64 a0 1) 6148914691236517205) + (bitw .and .u64 a0 6148914691236517205))) 3689348814741910323))))) 1085102592571150095) + (shw false .u64 (bitw .and .u64 (wr .u64 ((shw false .u64 (wr .u64 ((bitw .and .u64 (shw false .u64 (wr .u64 ((bitw .and .u64 (shw false .u64 a0 1) 6148914691236517205) + (bitw .and .u64 a0 6148914691236517205))) 2) 3689348814741910323) + (bitw .and .u64 (wr .u64 ((bitw .and .u64 (shw false .u64 a0 1) 6148914691236517205) + (bitw .and .u64 a0 6148914691236517205))) 3689348814741910323))) 4) + (wr .u64 ((bitw .and .u64 (shw false .u64 (wr .u64 ((bitw .and .u64 (shw false .u64 a0 1) 6148914691236517205) + (bitw .and .u64 a0 6148914691236517205))) 2) 3689348814741910323) + (bitw .and .u64 (wr .u64 ((bitw .and .u64 (shw false .u64 a0 1) 6148914691236517205) + (bitw .and .u64 a0 6148914691236517205))) 3689348814741910323))))) 1085102592571150095) 8))) + (shw false .u64 (wr .u64 ((bitw .and .u64 (wr .u64 ((shw false .u64 (wr .u64 ((bitw .and .u64 (shw false .u64 (wr .u64 ((bitw .and .u64 (shw false .u64 a0 1) 6148914691236517205) + (bitw .and .u64 a0 6148914691236517205))) 2) 3689348814741910323) + (bitw .and .u64 (wr .u64 ((bitw .and .u64 (shw false .u64 a0 1) 6148914691236517205) + (bitw .and .u64 a0 6148914691236517205))) 3689348814741910323))) 4) + (wr .u64 ((bitw .and .u64 (shw false .u64 (wr .u64 ((bitw .and .u64 (shw false .u64 a0 1) 6148914691236517205) + (bitw .and .u64 a0 6148914691236517205))) 2) 3689348814741910323) + (bitw .and .u64 (wr .u64 ((bitw .and .u64 (shw false .u64 a0 1) 6148914691236517205) + (bitw .and .u64 a0 6148914691236517205))) 3689348814741910323))))) 1085102592571150095) + (shw false .u64 (bitw .and .u64 (wr .u64 ((shw false .u64 (wr .u64 ((bitw .and .u64 (shw false .u64 (wr .u64 ((bitw .and .u64 (shw false .u64 a0 1) 6148914691236517205) + (bitw .and .u64 a0 6148914691236517205))) 2) 3689348814741910323) + (bitw .and .u64 (wr .u64 ((bitw .and .u64 (shw false .u64 a0 1) 6148914691236517205) + (bitw .and .u64 a0 6148914691236517205))) 3689348814741910323))) 4) + (wr .u64 ((bitw .and .u64 (shw false .u64 (wr .u64 ((bitw .and .u64 (shw false .u64 a0 1) 6148914691236517205) + (bitw .and .u64 a0 6148914691236517205))) 2) 3689348814741910323) + (bitw .and .u64 (wr .u64 ((bitw .and .u64 (shw false .u64 a0 1) 6148914691236517205) + (bitw .and .u64 a0 6148914691236517205))) 3689348814741910323))))) 1085102592571150095) 8))) 16))) 32)))) 127)

def m_math_bits_OnesCount (a0 : Int) : Option Int :=
  Option.bind (m_math_bits_OnesCount64 a0) fun v1 =>
  some v1
end Go.Proofs
end
section
/- The walks of functions, printed by gw.py. -/



namespace Go.Proofs
open Go.Tm Go.RowKit Go.WideShapes
set_option maxRecDepth 100000
set_option maxHeartbeats 4000000
set_option linter.unusedSimpArgs false
set_option linter.unusedVariables false
attribute [local go_sem] argVars runE runK isCallV stepE aop opd opdsL opds opdO ev ofVal keep List.any natbeq Bool.false_or Bool.true_or aggEq cond_true cond_false Bool.cond_false_right Bool.cond_true_left beq_true beq_false imp_self implies_true getR getL put St.app effL del nwB blt_dec Nat.lt_irrefl Nat.lt_add_one ble_dec Nat.le_refl Nat.beq_refl roomNZ appendIn capS capK mkZ_zero mkZL_zero zeroEl D.ids D.idsL Option.getD bin arith sarith binT dpick Tm.part splice fillD oneD loadD storeD srcD sliceD idxOk decide_true gval dstAt D.cells List.map_cons List.map_nil List.take List.drop List.length_map List.append Int.toNat_natCast and_true true_and decide_false List.length_cons List.length_nil List.append_nil List.nil_append Bool.and_true Bool.true_and Bool.not_false Bool.not_true ne_eq not_false_eq_true BEq.rfl List.getElem?_cons_zero List.getElem?_cons_succ List.getElem?_nil Nat.zero_add List.all_cons List.all_nil List.isEmpty_cons List.isEmpty_nil List.any_cons List.any_nil List.drop_succ_cons List.drop_zero unfL unf okM okML low3 List.cons_append true_or or_true Nat.zero_mul Nat.zero_le bytesD_map map_ub mkZ_one mkZL_one mkM mkML mk1_int mk1_str mk1_bool drop_map take_map take_map_len List.take_length Int.toNat_zero toNat_pred fpOf metIds opIds mvV mvH mvF pickL D.ren D.renL Blk.ren List.map_append List.length_append Bool.not_not Bool.or_not_self Bool.not_or_self Bool.or_true
attribute [local go_sem] Try.tm_1 Try.tm_2 Try.tm_3 Try.tm_4 Try.tm_5 Try.tm_6 Try.tm_7 Try.tm_8 Try.tm_9 Try.tm_10 Try.tm_11 Try.tm_12 Try.tm_13 Try.tm_14 Try.tm_15 Try.tm_16 Try.tm_17 Try.tm_18 Try.tm_19 Try.tm_20 Try.tm_21 Try.tm_22 Try.tm_23 Try.tm_24 Try.tm_25 Try.tm_26 Try.tm_27 Try.tm_28 Try.tm_29 Try.tm_30 Try.tm_32 Try.tm_34 Try.tm_35 Try.tm_36 Try.tm_37 Try.tm_38 Try.tm_39 Try.tm_40 Try.tm_41 Try.tm_42 Try.tm_43 Try.tm_44 Try.tm_45 Try.tm_46 Try.tm_47 Try.tm_48 Try.tm_50 Try.tm_51 Try.tm_52 Try.tm_53 Try.tm_54 Try.tm_55 Try.tm_57 Try.tm_58 Try.tm_59 Try.tm_61 Try.tm_63 Try.tm_64 Try.tm_65 Try.tm_66 Try.tm_67 Try.tm_68 Try.tm_69 Try.tm_70 Try.tm_71 Try.tm_73 Try.tm_75 Try.tm_76 Try.tm_78 Try.tm_79 Try.tm_80 Try.tm_81 Try.tm_82 Try.tm_83 Try.tm_84 Try.tm_85 Try.tm_86 Try.tm_87 Try.tm_88 Try.tm_89 Try.tm_90 Try.tm_91 Try.tm_93 Try.tm_94 Try.tm_95 Try.tm_96 Try.tm_97 Try.tm_98 Try.tm_99 Try.tm_100 Try.tm_101 Try.tm_102 Try.tm_103 Try.tm_104 Try.tm_105 Try.tm_106 Try.tm_107 Try.tm_109 Try.tm_111 Try.tm_113 Try.tm_114 Try.tm_115 Try.tm_116 Try.tm_117 Try.tm_118 Try.tm_119 Try.tm_120 Try.tm_121 Try.tm_123 Try.tm_124 Try.tm_125 Try.tm_127 Try.tm_128 Try.tm_129 Try.tm_130 Try.tm_131 Try.tm_132 Try.tm_133 Try.tm_134 Try.tm_135 Try.tm_136 Try.tm_137 Try.tm_138 Try.tm_139 Try.tm_140 Try.tm_141 Try.tm_142 Try.tm_143 Try.tm_144 Try.tm_145 Try.tm_146 Try.tm_147 Try.tm_149 Try.tm_150 Try.tm_151 Try.tm_152 Try.tm_153 Try.tm_154 Try.tm_155 Try.tm_156 Try.tm_157 Try.tm_158 Try.tm_159 Try.tm_160 Try.tm_162 Try.tm_163 Try.tm_164 Try.tm_165 Try.tm_166 Try.tm_167 Try.tm_168 Try.tm_169 Try.tm_170 Try.tm_171 Try.tm_172 Try.tm_173 Try.tm_175 Try.tm_177 Try.tm_178 Try.tm_179 Try.tm_180 Try.tm_181 Try.tm_182 Try.tm_184 Try.tm_185 Try.tm_187 Try.tm_189 Try.tm_191 Try.tm_192 Try.tm_193 Try.tm_194 Try.tm_195 Try.tm_196 Try.tm_197 Try.tm_198 Try.tm_199 Try.tm_200 Try.tm_201 Try.tm_202 Try.tm_203 Try.tm_204 Try.tm_205 Try.tm_206 Try.tm_207 Try.tm_208 Try.tm_209 Try.tm_210 Try.tm_211 Try.tm_212 Try.tm_213 Try.tm_214 Try.tm_215 Try.tm_216 Try.tm_217 Try.tm_218 Try.tm_219 Try.tm_220 Try.tm_221 Try.tm_223 Try.tm_224 Try.tm_225 Try.tm_226 Try.tm_227 Try.tm_229 Try.tm_230 Try.tm_231 Try.tm_232 Try.tm_233 Try.tm_235 Try.tm_236 Try.tm_237 Try.tm_238 Try.tm_239 Try.tm_240 Try.tm_241 Try.tm_242 Try.tm_243 Try.tm_244 Try.tm_245 Try.tm_246 Try.tm_247 Try.tm_248 Try.tm_249 Try.tm_250 Try.tm_251 Try.tm_252 Try.tm_253 Try.tm_254 Try.tm_255 Try.tm_256 Try.tm_257 Try.tm_258 Try.tm_259 Try.tm_260 Try.tm_262 Try.tm_263 Try.tm_264 Try.tm_265 Try.tm_266 Try.tm_267 Try.tm_269 Try.tm_270 Try.tm_271 Try.tm_272 Try.tm_273 Try.tm_274 Try.tm_275 Try.tm_276 Try.tm_277 Try.tm_278 Try.tm_280 Try.tm_281 Try.tm_282 Try.tm_283 Try.tm_284 Try.tm_286 Try.tm_288 Try.tm_289 Try.tm_290 Try.tm_291 Try.tm_292 Try.tm_294 Try.tm_296 Try.tm_297 Try.tm_298 Try.tm_299 Try.tm_300 Try.tm_302 Try.tm_303 Try.tm_304 Try.tm_305 Try.tm_306 Try.tm_307 Try.tm_308 Try.tm_309 Try.tm_310 Try.tm_311 Try.tm_312 Try.tm_313 Try.tm_314 Try.tm_315 Try.tm_316 Try.tm_317 Try.tm_318 Try.tm_319 Try.tm_320 Try.tm_321 Try.tm_322 Try.tm_324 Try.tm_325 Try.tm_326 Try.tm_327 Try.tm_330 Try.tm_331 Try.tm_332 Try.tm_333 Try.tm_334 Try.tm_335 Try.tm_336 Try.tm_337 TPromise.d TAttempt.d TAttempt.n dL_str nL_str TVote.d TSeen.d TStable.d TStable.n TRecord.d TMessage.d TMessage.n TWait.d TWait.n TStamp.d TSkeen.d TSkeen.n TCommand.d TCommand.n mk1_TPromise mk1_TAttempt mk1_dL_str mk1_TVote mk1_TSeen mk1_TStable mk1_TRecord mk1_TMessage mk1_TWait mk1_TStamp mk1_TSkeen mk1_TCommand Try.f257 Try.f234


theorem callP_math_bits_OnesCount64 (a0 : Int) (r : Int) (h : m_math_bits_OnesCount64 a0 = some r) : CallP Try.prog 257 [.int .u64 a0] (.int .i64 r) := by
  refine callP_intro Try.tmOk 2 Try.func257 rfl (by decide) rfl rfl (Nat.le_of_ble_eq_true rfl) ?_
  intro hwf
  unfold m_math_bits_OnesCount64 at h
  refine .seq ?_
  refine .pl Try.S [0] ?_
  refine .seq ?_
  refine .pl Try.S [0] ?_
  refine .seq ?_
  refine .pl Try.S [0] ?_
  refine .seq ?_
  refine .pl Try.S [0] ?_
  refine .seq ?_
  refine .pl Try.S [0] ?_
  refine .seq ?_
  refine .pl Try.S [0] ?_
  refine .seq ?_
  refine .pl Try.S [0] ?_
  refine .seq ?_
  refine .pl Try.S [0] ?_
  have hq := Option.some.inj h
  subst r
  exact .ret ⟨.inr rfl, rsi⟩


theorem callP_math_bits_OnesCount (a0 : Int) (r : Int) (h : m_math_bits_OnesCount a0 = some r) : CallP Try.prog 234 [.int .u64 a0] (.int .i64 r) := by
  refine callP_intro Try.tmOk 2 Try.func234 rfl (by decide) rfl rfl (Nat.le_of_ble_eq_true rfl) ?_
  intro hwf
  unfold m_math_bits_OnesCount at h
  refine .seq ?_
  refine .pl Try.S [0] ?_
  refine .seq ?_
  refine .cond rfl rfl (fun hc => by cases hc) (fun hc => ?_)
  refine .skip ?_
  refine .seq ?_
  obtain ⟨v1, hv1, h⟩ := bind_some h
  refine .rg Try.S [0] ?_
  refine .rn 1 ?_
  refine .call (r := .int .i64 v1) rfl rfl rfl rfl rfl rfl (callP_math_bits_OnesCount64 a0 v1 hv1) ?_
  refine .rn 1 ?_
  refine .nil ⟨nofun, ?_⟩
  have hq := Option.some.inj h
  subst r
  exact .ret ⟨.inr rfl, rsi⟩
end Go.Proofs
end
