/- Texts of the proof. -/
import Derived.Test.YtdoegejmepcmpaaGreatDecreeMovesPg
import Derived.Test.YtdoegejmepcmpaaGreatDecreeMovesPf
section
namespace Go.Proofs
open Go.Tm Go.RowKit Go.WideShapes
set_option maxRecDepth 100000
set_option maxHeartbeats 4000000
set_option linter.unusedSimpArgs false
set_option linter.unusedVariables false
theorem zkp (a0 : Int) (r : Bool) (h : zg5 a0 = some r) : zb7 Tryz.prog 70 [.int .i64 a0] (.bool r) := by
 refine za2 Tryz.tmOk 2 Tryz.func70 rfl (by decide) rfl rfl (lb rfl) ?_
 intro hwf
 unfold zg5 at h
 refine .seq (.pl zS [0] ?_)
 refine .seq (.pl zS [0] ?_)
 obtain rfl := sj h
 exact .rr
@[go_sem] def st32 (s1 : List UInt8) : St := ⟨[(1, .str s1)], [], 0⟩
@[go_sem] def st33 (l : List TPromise) (n2 : Nat) (s2 : List UInt8) (n1 : Int) : St := ⟨[(1, .str s2), (5, .int .i64 n1), (8, .imm 3 (l.map TPromise.d) 4), (9, .int .i64 (l.length : Int)), (10, .int .i64 (n2 : Int))], [], 0⟩
@[go_sem] def st34 (l : List TPromise) (n2 : Nat) (s3 : List UInt8) (n3 : Int) : St := ⟨[(1, .str s3), (5, .int .i64 n3), (8, .imm 3 (l.map TPromise.d) 4), (9, .int .i64 (l.length : Int)), (10, .int .i64 (n2 : Int))], [], 0⟩
theorem zk4 (l : List TPromise) (wish : List UInt8) (r : (List UInt8)) (h : zfm l wish = some r) : zb7 Tryz.prog 69 [.imm 3 (l.map TPromise.d) 4, .str wish] (.str r) := by
 refine za2 Tryz.tmOk 3 Tryz.func69 rfl (by decide) rfl rfl (lb rfl) ?_
 intro hwf
 unfold zfm at h
 refine .seq (.pl zS [0, 1] ?_)
 refine .seq (.pl zS [0, 1] ?_)
 obtain ⟨x1, hx1, h⟩ := bind_some h
 refine .seqM 0 (fun (j : (List UInt8)) => st32 j) (fun j => x1 = j) (lb rfl) ?_ ?_
 refine .seq (.pl zS [0, 1, 5] ?_)
 refine .block ?_
 refine .loopG 0 (fun (j : Nat × (List UInt8) × Int) => st33 l j.1 j.2.1 j.2.2) (fun j => j.1 <= l.length /\ zd5 (l.drop j.1) j.2.1 j.2.2 = some x1) (fun j => l.length - j.1) (0, wish, 0) (lb rfl) ?_ ⟨Nat.zero_le _, hx1⟩ ?_
 exact .m [1, 5, 8, 9, 10] [] []
 rintro ⟨n2, s2, n1⟩ ⟨hi1, hx1⟩
 simp only [st33]
 simp only at hi1 hx1
 refine .wf 9 (.int .i64 (l.length : Int)) rfl ?_
 intro hln2
 replace hln2 : (l.length : Int) <= 9223372036854775807 := by simp only [wf, wfL, IntKind.max, IntKind.min, IntKind.signed, IntKind.bits, List.length_map] at hln2; first | exact hln2.2 | exact hln2.1 | (simp at hln2; omega)
 refine .seq (.pl zS [1, 5, 8, 9, 10] ?_)
 refine .seq (.cd (fun hc1 => ?_) (fun hc1 => ?_))
 have h1 : n2 < l.length := by simpa using hc1
 have hwn2 : wr .i64 ((n2 : Int) + 1) = ((n2 + 1 : Nat) : Int) := zbx h1 hln2
 have hpn2 : wr .i64 ((n2 : Int) - 1) = (n2 : Int) - 1 := zcm h1 hln2
 rw [List.drop_eq_getElem_cons h1, zd5] at hx1
 refine .skip ?_
 obtain ⟨x2, hx2, hx1⟩ := bind_some hx1
 refine .seqM 0 (fun (j : (List UInt8) × Int) => st34 l n2 j.1 j.2) (fun j => x2 = j) (lb rfl) ?_ ?_
 refine .block (.seq ?_)
 have e1 := zbj TPromise.d l n2 h1
 refine .plx zS (ai e1 hwn2) [1, 5, 8, 9, 10] ?_
 refine .seq (.plx zS hwn2 [1, 5, 7, 8, 9, 10] ?_)
 refine .cd (fun hc2 => ?_) (fun hc2 => ?_)
 replace hx2 := za0 hx2 hc2
 refine .drx zS hwn2 [7, 8, 9, 10] ?_
 refine ⟨_, ?_, (sj hx2).symm⟩
 exact .m [1, 5, 8, 9, 10] [] []
 replace hx2 := za1 hx2 hc2
 refine .skip ?_
 refine ⟨_, ?_, (sj hx2).symm⟩
 exact .m [1, 5, 8, 9, 10] [] []
 rintro ⟨s3, n3⟩ hj1
 subst x2
 try dsimp only at hx1
 simp only [st34]
 refine .plx zS hwn2 [1, 5, 8, 9, 10] ?_
 refine ⟨(n2 + 1, _, _), ?_, ⟨by omega, hx1⟩, by dsimp only; omega⟩
 exact .m [1, 5, 8, 9, 10] [] []
 have h2 : n2 = l.length := by have h2b := of_decide_eq_false hc1; omega
 rw [List.drop_of_length_le (by omega), zd5] at hx1
 refine .exit ?_
 refine ⟨_, ?_, (sj hx1).symm⟩
 exact .m [1] [] []
 rintro s1 hj2
 subst x1
 try dsimp only at h
 simp only [st32]
 refine .seq (.pl zS [1] ?_)
 obtain rfl := sj h
 exact .rr
@[go_sem] def ya4a (s1 : List UInt8) : St := ⟨[(6, .str s1)], [], 0⟩
@[go_sem] def ya49 (l : List TPromise) (n2 : Nat) (n1 : Int) (s2 : List UInt8) : St := ⟨[(0, .imm 3 (l.map TPromise.d) 4), (5, .int .i64 n1), (6, .str s2), (7, .int .i64 (n2 : Int))], [], 0⟩
@[go_sem] def ya48 (l : List TPromise) (n2 : Nat) (n3 : Int) (s3 : List UInt8) : St := ⟨[(0, .imm 3 (l.map TPromise.d) 4), (5, .int .i64 n3), (6, .str s3), (7, .int .i64 (n2 : Int))], [], 0⟩
theorem zh4 (l : List TPromise) (wish : List UInt8) (r : (List UInt8)) (h : zdl l wish = some r) : zb7 Tryz.prog 76 [.imm 3 (l.map TPromise.d) 4, .str wish] (.str r) := by
 refine za2 Tryz.tmOk 2 Tryz.func76 rfl (by decide) rfl rfl (lb rfl) ?_
 intro hwf
 unfold zdl at h
 refine .seq (.pl zS [0, 1] ?_)
 refine .seq (.pl zS [0, 1] ?_)
 obtain ⟨x1, hx1, h⟩ := bind_some h
 refine .seqM 0 (fun (j : (List UInt8)) => ya4a j) (fun j => x1 = j) (lb rfl) ?_ ?_
 refine .seq (.pl zS [0, 5, 6] ?_)
 refine .block ?_
 refine .loopG 0 (fun (j : Nat × Int × (List UInt8)) => ya49 l j.1 j.2.1 j.2.2) (fun j => j.1 <= l.length /\ zbo (l.drop j.1) j.2.1 j.2.2 = some x1) (fun j => l.length - j.1) (0, 0, wish) (lb rfl) ?_ ⟨Nat.zero_le _, hx1⟩ ?_
 exact .m [0, 5, 6, 7] [] []
 rintro ⟨n2, n1, s2⟩ ⟨hi1, hx1⟩
 simp only [ya49]
 simp only at hi1 hx1
 refine .wf 0 (.imm 3 (l.map TPromise.d) 4) rfl ?_
 intro hln2
 replace hln2 : (l.length : Int) <= 9223372036854775807 := by simp only [wf, wfL, IntKind.max, IntKind.min, IntKind.signed, IntKind.bits, List.length_map] at hln2; first | exact hln2.2 | exact hln2.1 | (simp at hln2; omega)
 refine .seq (.seq (.pl zS [0, 5, 6, 7] ?_))
 refine .cd (fun hc1 => ?_) (fun hc1 => ?_)
 have h1 : n2 < l.length := by simpa using hc1
 have hwn2 : wr .i64 ((n2 : Int) + 1) = ((n2 + 1 : Nat) : Int) := zbx h1 hln2
 have hpn2 : wr .i64 ((n2 : Int) - 1) = (n2 : Int) - 1 := zcm h1 hln2
 rw [List.drop_eq_getElem_cons h1, zbo] at hx1
 refine .skip ?_
 obtain ⟨x2, hx2, hx1⟩ := bind_some hx1
 refine .seqM 0 (fun (j : Int × (List UInt8)) => ya48 l n2 j.1 j.2) (fun j => x2 = j) (lb rfl) ?_ ?_
 refine .block (.seq ?_)
 have e1 := zbj TPromise.d l n2 h1
 refine .plx zS (ai e1 hwn2) [0, 5, 6, 7] ?_
 refine .cd (fun hc2 => ?_) (fun hc2 => ?_)
 replace hx2 := za0 hx2 hc2
 refine .seq ?_
 have e2 := zbj TPromise.d l n2 h1
 refine .plx zS (ai e2 hwn2) [0, 7] ?_
 have e3 := zbj TPromise.d l n2 h1
 refine .plx zS (ai e3 hwn2) [0, 5, 7] ?_
 refine ⟨_, ?_, (sj hx2).symm⟩
 exact .m [0, 5, 6, 7] [] []
 replace hx2 := za1 hx2 hc2
 refine .skip ?_
 refine ⟨_, ?_, (sj hx2).symm⟩
 exact .m [0, 5, 6, 7] [] []
 rintro ⟨n3, s3⟩ hj1
 subst x2
 try dsimp only at hx1
 simp only [ya48]
 refine .plx zS hwn2 [0, 5, 6, 7] ?_
 refine ⟨(n2 + 1, _, _), ?_, ⟨by omega, hx1⟩, by dsimp only; omega⟩
 exact .m [0, 5, 6, 7] [] []
 have h2 : n2 = l.length := by have h2b := of_decide_eq_false hc1; omega
 rw [List.drop_of_length_le (by omega), zbo] at hx1
 refine .exit ?_
 refine ⟨_, ?_, (sj hx1).symm⟩
 exact .m [6] [] []
 rintro s1 hj2
 subst x1
 try dsimp only at h
 simp only [ya4a]
 refine .seq (.pl zS [6] ?_)
 obtain rfl := sj h
 exact .rr
@[go_sem] def st39 (l1 : List Int) : St := ⟨[(2, .ref 0 1 0 l1.length (some uC))], [(0, .arr 3 1 true (l1.map (D.int .i64)))], 1⟩
@[go_sem] def st40 (l : List TPromise) (n1 : Nat) (l2 : List Int) : St := ⟨[(2, .ref 0 1 0 l2.length (some uC)), (5, .imm 3 (l.map TPromise.d) 4), (6, .int .i64 (l.length : Int)), (7, .int .i64 (n1 : Int))], [(0, .arr 3 1 true (l2.map (D.int .i64)))], 1⟩
@[go_sem] def st4 (r : (List Int)) : St := ⟨[(2, .ref 0 1 0 r.length (some uC))], [(0, .arr 3 1 true (r.map (D.int .i64)))], 1⟩
theorem zjk (l : List TPromise) (r : (List Int)) (h : zdd l = some r) : zd1 Tryz.prog 64 [.imm 3 (l.map TPromise.d) 4] [] (.ref 0 1 0 r.length (some uC)) [(0, some (.arr 3 1 true (r.map (D.int .i64))))] (0, 6) := by
 refine zab Tryz.tmOk Tryz.func64 rfl (by decide) (lb rfl) (by simp) ?_
 intro hwf
 unfold zdd at h
 refine .ends 0 (Nat.le_refl _) ?_
 refine .seq (.pl zS [0] ?_)
 obtain ⟨x1, hx1, h⟩ := bind_some h
 refine .seqM 0 (fun (j : (List Int)) => st39 j) (fun j => x1 = j) (lb rfl) ?_ ?_
 refine .seq (.pl zS [0, 2] ?_)
 refine .block ?_
 refine .loopG 0 (fun (j : Nat × (List Int)) => st40 l j.1 j.2) (fun j => j.1 <= l.length /\ zbu (l.drop j.1) j.2 = some x1) (fun j => l.length - j.1) (0, []) (lb rfl) ?_ ⟨Nat.zero_le _, hx1⟩ ?_
 refine Goes.new0 1 3 (lb rfl) ?_
 refine Goes.wk 2 _ (.ref 0 1 0 0 (some uC)) rfl (.own0 0 _ _ _ (by decide)) ?_
 exact .m [2, 5, 6, 7] [0] []
 rintro ⟨n1, l2⟩ ⟨hi1, hx1⟩
 simp only [st40]
 simp only at hi1 hx1
 refine .wf 6 (.int .i64 (l.length : Int)) rfl ?_
 intro hln1
 replace hln1 : (l.length : Int) <= 9223372036854775807 := by simp only [wf, wfL, IntKind.max, IntKind.min, IntKind.signed, IntKind.bits, List.length_map] at hln1; first | exact hln1.2 | exact hln1.1 | (simp at hln1; omega)
 refine .seq (.pl zS [2, 5, 6, 7] ?_)
 refine .seq (.cd (fun hc1 => ?_) (fun hc1 => ?_))
 have h1 : n1 < l.length := by simpa using hc1
 have hwn1 : wr .i64 ((n1 : Int) + 1) = ((n1 + 1 : Nat) : Int) := zbx h1 hln1
 have hpn1 : wr .i64 ((n1 : Int) - 1) = (n1 : Int) - 1 := zcm h1 hln1
 rw [List.drop_eq_getElem_cons h1, zl9] at hx1
 refine .skip (.seq (.block (.seq ?_)))
 have e1 := zbj TPromise.d l n1 h1
 refine .plx zS (ai e1 hwn1) [2, 5, 6, 7] ?_
 obtain ⟨k1, hx1⟩ := zaa hx1
 refine .plx zS hwn1 [2, 4, 5, 6, 7] ?_
 refine .plx zS hwn1 [2, 5, 6, 7] ?_
 refine ⟨(n1 + 1, _), ?_, ⟨by omega, hx1⟩, by dsimp only; omega⟩
 exact .m [2, 5, 6, 7] [3] [(3, 0)]
 have h2 : n1 = l.length := by have h2b := of_decide_eq_false hc1; omega
 rw [List.drop_of_length_le (by omega), zl8] at hx1
 refine .exit ?_
 refine ⟨_, ?_, (sj hx1).symm⟩
 exact .m [2] [0] []
 rintro l1 hj1
 subst x1
 try dsimp only at h
 simp only [st39]
 refine .seq (.pl zS [2] ?_)
 obtain rfl := sj h
 refine .ret ⟨st4 l1, ?_, .inr rfl, retH [0] ?_ ?_⟩
 exact .m [2] [0] []
 exact rsi0
 rfl
theorem zji (l : List TPromise) (r : (List Int)) (h : zdd l = some r) : zb7 Tryz.prog 64 [.imm 3 (l.map TPromise.d) 4] (.imm 1 (r.map (D.int .i64)) 13) :=
 zg8 (zbw zcd rfl rfl) (zjk l r h)
@[go_sem] def ya3y (l1 : List Int) : St := ⟨[(3, .ref 0 1 0 l1.length (some uC))], [(0, .arr 3 1 true (l1.map (D.int .i64)))], 1⟩
@[go_sem] def ya3x (l : List TPromise) (n1 : Nat) (l2 : List Int) : St := ⟨[(0, .imm 3 (l.map TPromise.d) 4), (3, .ref 0 1 0 l2.length (some uC)), (4, .int .i64 (n1 : Int))], [(0, .arr 3 1 true (l2.map (D.int .i64)))], 1⟩
@[go_sem] def st22 (r : (List Int)) : St := ⟨[(2, .ref 0 1 0 r.length (some uC))], [(0, .arr 3 1 true (r.map (D.int .i64)))], 1⟩
theorem ze4 (l : List TPromise) (r : (List Int)) (h : zbq l = some r) : zd1 Tryz.prog 73 [.imm 3 (l.map TPromise.d) 4] [] (.ref 0 1 0 r.length (some uC)) [(0, some (.arr 3 1 true (r.map (D.int .i64))))] (0, 5) := by
 refine zab Tryz.tmOk Tryz.func73 rfl (by decide) (lb rfl) (by simp) ?_
 intro hwf
 unfold zbq at h
 refine .ends 0 (Nat.le_refl _) ?_
 refine .seq (.pl zS [0] ?_)
 refine .seq (.pl zS [0] ?_)
 obtain ⟨x1, hx1, h⟩ := bind_some h
 refine .seqM 0 (fun (j : (List Int)) => ya3y j) (fun j => x1 = j) (lb rfl) ?_ ?_
 refine .seq (.pl zS [0, 3] ?_)
 refine .block ?_
 refine .loopG 0 (fun (j : Nat × (List Int)) => ya3x l j.1 j.2) (fun j => j.1 <= l.length /\ zao (l.drop j.1) j.2 = some x1) (fun j => l.length - j.1) (0, []) (lb rfl) ?_ ⟨Nat.zero_le _, hx1⟩ ?_
 refine Goes.new0 1 3 (lb rfl) ?_
 refine Goes.wk 3 _ (.ref 0 1 0 0 (some uC)) rfl (.own0 0 _ _ _ (by decide)) ?_
 exact .m [0, 3, 4] [0] []
 rintro ⟨n1, l2⟩ ⟨hi1, hx1⟩
 simp only [ya3x]
 simp only at hi1 hx1
 refine .wf 0 (.imm 3 (l.map TPromise.d) 4) rfl ?_
 intro hln1
 replace hln1 : (l.length : Int) <= 9223372036854775807 := by simp only [wf, wfL, IntKind.max, IntKind.min, IntKind.signed, IntKind.bits, List.length_map] at hln1; first | exact hln1.2 | exact hln1.1 | (simp at hln1; omega)
 refine .seq (.seq (.pl zS [0, 3, 4] ?_))
 refine .cd (fun hc1 => ?_) (fun hc1 => ?_)
 have h1 : n1 < l.length := by simpa using hc1
 have hwn1 : wr .i64 ((n1 : Int) + 1) = ((n1 + 1 : Nat) : Int) := zbx h1 hln1
 have hpn1 : wr .i64 ((n1 : Int) - 1) = (n1 : Int) - 1 := zcm h1 hln1
 rw [List.drop_eq_getElem_cons h1, zih] at hx1
 refine .skip (.seq (.block ?_))
 obtain ⟨k1, hx1⟩ := zaa hx1
 have e1 := zbj TPromise.d l n1 h1
 refine .rg zS [0, 3, 4] ?_
 refine .rnx 6 (ai e1 hwn1) ?_
 refine .rnx 3 (ai e1 hwn1) ?_
 refine .nn ?_
 refine .plx zS hwn1 [0, 3, 4] ?_
 refine ⟨(n1 + 1, _), ?_, ⟨by omega, hx1⟩, by dsimp only; omega⟩
 exact .m [0, 3, 4] [2] [(2, 0)]
 have h2 : n1 = l.length := by have h2b := of_decide_eq_false hc1; omega
 rw [List.drop_of_length_le (by omega), zig] at hx1
 refine .exit ?_
 refine ⟨_, ?_, (sj hx1).symm⟩
 exact .m [3] [0] []
 rintro l1 hj1
 subst x1
 try dsimp only at h
 simp only [ya3y]
 refine .seq (.pl zS [3] ?_)
 obtain rfl := sj h
 refine .ret ⟨st22 l1, ?_, .inr rfl, retH [0] ?_ ?_⟩
 exact .m [2] [0] []
 exact rsi0
 rfl
theorem zjn (l : List TPromise) (r : (List Int)) (h : zbq l = some r) : zb7 Tryz.prog 73 [.imm 3 (l.map TPromise.d) 4] (.imm 1 (r.map (D.int .i64)) 13) :=
 zg8 (zbw zcd rfl rfl) (ze4 l r h)
@[go_sem] def st81 : St := ⟨[], [], 0⟩
@[go_sem] def st82 (s : List Int) (v : Int) (n1 : Nat) : St := ⟨[(0, .imm 1 (s.map (D.int .i64)) 4), (1, .int .i64 v), (7, .int .i64 (s.length : Int)), (8, .int .i64 (n1 : Int))], [], 0⟩
theorem zjs (s : List Int) (v : Int) (r : Int) (h : zfb s v = some r) : zb7 Tryz.prog 101 [.imm 1 (s.map (D.int .i64)) 4, .int .i64 v] (.int .i64 r) := by
 refine za2 Tryz.tmOk 2 Tryz.func101 rfl (by decide) rfl rfl (lb rfl) ?_
 intro hwf
 unfold zfb at h
 refine .seq (.pl zS [0, 1] ?_)
 obtain ⟨x1, hx1, h⟩ := bind_some h
 refine .seqM 0 (fun (j : Unit) => st81) (fun j => x1 = (.inr j)) (lb rfl) ?_ ?_
 refine .seq (.pl zS [0, 1] ?_)
 refine .block ?_
 refine .loopG 0 (fun (j : Nat) => st82 s v j) (fun j => j <= s.length /\ zaz v (s.drop j) j  = some x1) (fun j => s.length - j) (0) (lb rfl) ?_ ⟨Nat.zero_le _, hx1⟩ ?_
 exact .m [0, 1, 7, 8] [] []
 rintro n1 ⟨hi1, hx1⟩
 simp only [st82]
 refine .wf 7 (.int .i64 (s.length : Int)) rfl ?_
 intro hln1
 replace hln1 : (s.length : Int) <= 9223372036854775807 := by simp only [wf, wfL, IntKind.max, IntKind.min, IntKind.signed, IntKind.bits, List.length_map] at hln1; first | exact hln1.2 | exact hln1.1 | (simp at hln1; omega)
 refine .seq (.pl zS [0, 1, 7, 8] ?_)
 refine .seq (.cd (fun hc1 => ?_) (fun hc1 => ?_))
 have h1 : n1 < s.length := by simpa using hc1
 have hwn1 : wr .i64 ((n1 : Int) + 1) = ((n1 + 1 : Nat) : Int) := zbx h1 hln1
 have hpn1 : wr .i64 ((n1 : Int) - 1) = (n1 : Int) - 1 := zcm h1 hln1
 rw [List.drop_eq_getElem_cons h1, zaz] at hx1
 refine .skip (.seq (.block (.seq (.plx zS hwn1 [0, 1, 7, 8] ?_))))
 refine .seq ?_
 have e1 := zbj (D.int .i64) s n1 h1
 refine .plx zS (ai e1 hwn1) [0, 1, 5, 7, 8] ?_
 refine .cd (fun hc2 => ?_) (fun hc2 => ?_)
 replace hx1 := za0 hx1 hc2
 refine .seq (.plx zS hwn1 [5] ?_)
 have hq := sj hx1
 subst x1
 try dsimp only at h
 obtain rfl := sj h
 exact .rr
 replace hx1 := za1 hx1 hc2
 refine .skip (.plx zS hwn1 [0, 1, 7, 8] ?_)
 refine ⟨n1 + 1, ?_, ⟨by omega, hx1⟩, by dsimp only; omega⟩
 exact .m [0, 1, 7, 8] [] []
 have h2 : n1 = s.length := by have h2b := of_decide_eq_false hc1; omega
 rw [List.drop_of_length_le (by omega), zaz] at hx1
 refine .exit ?_
 refine ⟨_, ?_, (sj hx1).symm⟩
 exact .m [] [] []
 rintro ⟨⟩ hj1
 subst x1
 try dsimp only at h
 simp only [st81]
 refine .seq (.pl zS [] ?_)
 obtain rfl := sj h
 exact .rr
@[go_sem] def st85 : St := ⟨[], [], 0⟩
@[go_sem] def st86 (a : List Int) (b : List Int) (n1 : Nat) : St := ⟨[(0, .imm 1 (a.map (D.int .i64)) 4), (1, .imm 1 (b.map (D.int .i64)) 4), (5, .int .i64 (n1 : Int))], [], 0⟩
theorem zdh (a : List Int) (b : List Int) (r : Bool) (h : zaq a b = some r) : zb7 Tryz.prog 29 [.imm 1 (a.map (D.int .i64)) 4, .imm 1 (b.map (D.int .i64)) 4] (.bool r) := by
 refine za2 Tryz.tmOk 2 Tryz.func29 rfl (by decide) rfl rfl (lb rfl) ?_
 intro hwf
 unfold zaq at h
 refine .seq (.pl zS [0, 1] ?_)
 refine .seq (.seq (.pl zS [0, 1] ?_))
 refine .cd (fun hc1 => ?_) (fun hc1 => ?_)
 replace h := za0 h hc1
 refine .seq (.pl zS [] ?_)
 obtain rfl := sj h
 exact .rr
 replace h := za1 h hc1
 obtain ⟨x1, hx1, h⟩ := bind_some h
 refine .skip ?_
 refine .seqM 0 (fun (j : Unit) => st85) (fun j => x1 = (.inr j)) (lb rfl) ?_ ?_
 refine .seq (.pl zS [0, 1] ?_)
 refine .block ?_
 refine .loopG 0 (fun (j : Nat) => st86 a b j) (fun j => j <= a.length /\ zaf b (a.drop j) j  = some x1) (fun j => a.length - j) (0) (lb rfl) ?_ ⟨Nat.zero_le _, hx1⟩ ?_
 exact .m [0, 1, 5] [] []
 rintro n1 ⟨hi1, hx1⟩
 simp only [st86]
 refine .wf 0 (.imm 1 (a.map (D.int .i64)) 4) rfl ?_
 intro hln1
 replace hln1 : (a.length : Int) <= 9223372036854775807 := by simp only [wf, wfL, IntKind.max, IntKind.min, IntKind.signed, IntKind.bits, List.length_map] at hln1; first | exact hln1.2 | exact hln1.1 | (simp at hln1; omega)
 refine .seq (.seq (.pl zS [0, 1, 5] ?_))
 refine .cd (fun hc2 => ?_) (fun hc2 => ?_)
 have h1 : n1 < a.length := by simpa using hc2
 have hwn1 : wr .i64 ((n1 : Int) + 1) = ((n1 + 1 : Nat) : Int) := zbx h1 hln1
 have hpn1 : wr .i64 ((n1 : Int) - 1) = (n1 : Int) - 1 := zcm h1 hln1
 rw [List.drop_eq_getElem_cons h1, zaf] at hx1
 refine .skip (.seq (.block (.seq ?_)))
 obtain ⟨k1, hx1⟩ := zaa hx1
 have e1 := zbj (D.int .i64) a n1 h1
 have e2 := zf8 (D.int .i64) b n1
 replace e2 := e2 k1
 refine .rg zS [0, 1, 5] ?_
 refine .rdx 6 (ai e1 (ai e2 hwn1)) ?_
 refine .rdx 3 (ai e1 (ai e2 hwn1)) ?_
 refine .nd ?_
 refine .cd (fun hc3 => ?_) (fun hc3 => ?_)
 replace hx1 := za0 hx1 hc3
 refine .seq (.plx zS hwn1 [] ?_)
 have hq := sj hx1
 subst x1
 try dsimp only at h
 obtain rfl := sj h
 exact .rr
 replace hx1 := za1 hx1 hc3
 refine .skip (.plx zS hwn1 [0, 1, 5] ?_)
 refine ⟨n1 + 1, ?_, ⟨by omega, hx1⟩, by dsimp only; omega⟩
 exact .m [0, 1, 5] [] []
 have h2 : n1 = a.length := by have h2b := of_decide_eq_false hc2; omega
 rw [List.drop_of_length_le (by omega), zaf] at hx1
 refine .exit ?_
 refine ⟨_, ?_, (sj hx1).symm⟩
 exact .m [] [] []
 rintro ⟨⟩ hj1
 subst x1
 try dsimp only at h
 simp only [st85]
 refine .seq (.pl zS [] ?_)
 obtain rfl := sj h
 exact .rr
theorem zim (a0 : List Int) (a1 : Int) (r : Bool) (h : zed a0 a1 = some r) : zb7 Tryz.prog 93 [.imm 1 (a0.map (D.int .i64)) 4, .int .i64 a1] (.bool r) := by
 refine za2 Tryz.tmOk 2 Tryz.func93 rfl (by decide) rfl rfl (lb rfl) ?_
 intro hwf
 unfold zed at h
 refine .seq (.pl zS [0, 1] ?_)
 obtain ⟨v1, hv1, h⟩ := bind_some h
 refine .seq (.rg zS [0, 1] ?_)
 refine .rn 2 ?_
 refine .cl (zjs a0 a1 v1 hv1) ?_
 refine .rn 2 ?_
 refine .nn ?_
 obtain rfl := sj h
 exact .rr
theorem zh7 (a0 : List Int) (a1 : Int) (r : Bool) (h : zfg a0 a1 = some r) : zb7 Tryz.prog 80 [.imm 1 (a0.map (D.int .i64)) 4, .int .i64 a1] (.bool r) := by
 refine za2 Tryz.tmOk 2 Tryz.func80 rfl (by decide) rfl rfl (lb rfl) ?_
 intro hwf
 unfold zfg at h
 refine .seq (.pl zS [0, 1] ?_)
 obtain ⟨v1, hv1, h⟩ := bind_some h
 refine .seq (.rg zS [0, 1] ?_)
 refine .rn 2 ?_
 refine .cl (zim a0 a1 v1 hv1) ?_
 refine .rn 1 ?_
 refine .nn ?_
 obtain rfl := sj h
 exact .rr
@[go_sem] def st62 (n1 : Int) : St := ⟨[(3, .int .i64 n1)], [], 0⟩
@[go_sem] def st63 (a0 : List Int) (n3 : Nat) (n2 : Int) : St := ⟨[(3, .int .i64 n2), (9, .imm 1 (a0.map (D.int .i64)) 4), (10, .int .i64 (a0.length : Int)), (11, .int .i64 (n3 : Int))], [], 0⟩
theorem zgf (a0 : List Int) (r : Int) (h : zcv a0 = some r) : zb7 Tryz.prog 31 [.imm 1 (a0.map (D.int .i64)) 4] (.int .i64 r) := by
 refine za2 Tryz.tmOk 2 Tryz.func31 rfl (by decide) rfl rfl (lb rfl) ?_
 intro hwf
 unfold zcv at h
 refine .seq (.pl zS [0] ?_)
 refine .seq (.seq (.pl zS [0] ?_))
 refine .cd (fun hc1 => ?_) (fun hc1 => ?_)
 replace h := za0 h hc1
 refine .seq (.pl zS [] ?_)
 obtain rfl := sj h
 exact .rr
 replace h := za1 h hc1
 refine .skip (.seq (.pl zS [0] ?_))
 obtain ⟨x1, hx1, h⟩ := bind_some h
 refine .seqM 0 (fun (j : Int) => st62 j) (fun j => x1 = (.inr j)) (lb rfl) ?_ ?_
 refine .seq (.pl zS [0, 3] ?_)
 refine .block ?_
 refine .loopG 0 (fun (j : Nat × Int) => st63 a0 j.1 j.2) (fun j => j.1 <= a0.length /\ zcj (a0.drop j.1) j.2 = some x1) (fun j => a0.length - j.1) (0, (-1)) (lb rfl) ?_ ⟨Nat.zero_le _, hx1⟩ ?_
 exact .m [3, 9, 10, 11] [] []
 rintro ⟨n3, n2⟩ ⟨hi1, hx1⟩
 simp only [st63]
 simp only at hi1 hx1
 refine .wf 10 (.int .i64 (a0.length : Int)) rfl ?_
 intro hln3
 replace hln3 : (a0.length : Int) <= 9223372036854775807 := by simp only [wf, wfL, IntKind.max, IntKind.min, IntKind.signed, IntKind.bits, List.length_map] at hln3; first | exact hln3.2 | exact hln3.1 | (simp at hln3; omega)
 refine .seq (.pl zS [3, 9, 10, 11] ?_)
 refine .seq (.cd (fun hc2 => ?_) (fun hc2 => ?_))
 have h1 : n3 < a0.length := by simpa using hc2
 have hwn3 : wr .i64 ((n3 : Int) + 1) = ((n3 + 1 : Nat) : Int) := zbx h1 hln3
 have hpn3 : wr .i64 ((n3 : Int) - 1) = (n3 : Int) - 1 := zcm h1 hln3
 rw [List.drop_eq_getElem_cons h1, zcj] at hx1
 refine .skip (.seq (.block (.seq ?_)))
 have e1 := zbj (D.int .i64) a0 n3 h1
 refine .plx zS (ai e1 hwn3) [3, 9, 10, 11] ?_
 refine .seq (.seq (.plx zS hwn3 [3, 5, 9, 10, 11] ?_))
 refine .cd (fun hc3 => ?_) (fun hc3 => ?_)
 replace hx1 := za0 hx1 hc3
 refine .seq (.plx zS hwn3 [] ?_)
 have hq := sj hx1
 subst x1
 try dsimp only at h
 obtain rfl := sj h
 exact .rr
 replace hx1 := za1 hx1 hc3
 refine .skip (.plx zS hwn3 [5, 9, 10, 11] ?_)
 refine .plx zS hwn3 [3, 9, 10, 11] ?_
 refine ⟨(n3 + 1, _), ?_, ⟨by omega, hx1⟩, by dsimp only; omega⟩
 exact .m [3, 9, 10, 11] [] []
 have h2 : n3 = a0.length := by have h2b := of_decide_eq_false hc2; omega
 rw [List.drop_of_length_le (by omega), zcj] at hx1
 refine .exit ?_
 refine ⟨_, ?_, (sj hx1).symm⟩
 exact .m [3] [] []
 rintro n1 hj1
 subst x1
 try dsimp only at h
 simp only [st62]
 refine .seq (.seq (.pl zS [3] ?_))
 refine .cd (fun hc4 => ?_) (fun hc4 => ?_)
 replace h := za0 h hc4
 refine .seq (.pl zS [] ?_)
 obtain rfl := sj h
 exact .rr
 replace h := za1 h hc4
 refine .skip (.seq (.pl zS [] ?_))
 obtain rfl := sj h
 exact .rr
theorem zm7 (a0 : Int) (r : Int × Int × Int) (h : zh8 a0 = some r) : zb7 Tryz.prog 34 [.int .i64 a0] (.tuple [.int .i64 r.1, .int .i64 r.2.1, .int .i64 r.2.2]) := by
 refine za2 Tryz.tmOk 2 Tryz.func34 rfl (by decide) rfl rfl (lb rfl) ?_
 intro hwf
 unfold zh8 at h
 refine .seq (.pl zS [0] ?_)
 refine .seq (.pl zS [0] ?_)
 refine .seq ?_
 obtain ⟨v1, hv1, h⟩ := bind_some h
 refine .seq (.rg zS [2, 3] ?_)
 refine .rn 8 ?_
 refine .gcall rfl rfl rfl rfl rfl (fun hg => ⟨[], [.int .i64 (a0.tmod 8)], _, rfl, gd hg, rfl, (zkp (a0.tmod 8) v1 (za0 hv1 hg))⟩) ?_
 refine .rn 2 ?_
 refine .nn ?_
 refine .cd (fun hc1 => ?_) (fun hc1 => ?_)
 replace h := za0 h hc1
 refine .seq (.pl zS [] ?_)
 obtain rfl := sj h
 exact .rr
 replace h := za1 h hc1
 refine .skip (.seq (.pl zS [2, 3] ?_))
 obtain rfl := sj h
 exact .rr
theorem ze0 (a0 : Int) (r : Int) (h : zcw a0 = some r) : zb7 Tryz.prog 62 [.int .i64 a0] (.int .i64 r) := by
 refine za2 Tryz.tmOk 2 Tryz.func62 rfl (by decide) rfl rfl (lb rfl) ?_
 intro hwf
 unfold zcw at h
 refine .seq (.pl zS [0] ?_)
 refine .seq ?_
 obtain ⟨v1, hv1, h⟩ := bind_some h
 refine .seq (.rg zS [0] ?_)
 refine .rn 1 ?_
 refine .cl (zm7 a0 v1 hv1) ?_
 refine .rn 7 ?_
 refine .nn ?_
 refine .seq (.pl zS [5] ?_)
 refine .cd (fun hc1 => ?_) (fun hc1 => ?_)
 replace h := za0 h hc1
 refine .seq (.pl zS [5] ?_)
 obtain rfl := sj h
 exact .rr
 replace h := za1 h hc1
 refine .skip (.seq (.pl zS [] ?_))
 obtain rfl := sj h
 exact .rr
theorem zot (a0 : List Int) (r : Int × Int) (h : ziu a0 = some r) : zb7 Tryz.prog 96 [.imm 1 (a0.map (D.int .i64)) 4] (.tuple [.int .i64 r.1, .int .i64 r.2]) := by
 refine za2 Tryz.tmOk 2 Tryz.func96 rfl (by decide) rfl rfl (lb rfl) ?_
 intro hwf
 unfold ziu at h
 refine .seq (.pl zS [0] ?_)
 refine .seq ?_
 obtain ⟨v1, hv1, h⟩ := bind_some h
 refine .seq (.rg zS [0] ?_)
 refine .rn 1 ?_
 refine .cl (zgf a0 v1 hv1) ?_
 refine .rn 1 ?_
 refine .nn ?_
 refine .seq (.pl zS [0, 4] ?_)
 refine .cd (fun hc1 => ?_) (fun hc1 => ?_)
 replace h := za0 h hc1
 refine .seq (.pl zS [4] ?_)
 obtain rfl := sj h
 exact .rr
 replace h := za1 h hc1
 refine .skip (.seq (.pl zS [0] ?_))
 obtain rfl := sj h
 exact .rr
@[go_sem] def st91 : St := ⟨[], [], 0⟩
@[go_sem] def st92 (a0 : List Int) (a1 : Int) (n1 : Nat) : St := ⟨[(0, .imm 1 (a0.map (D.int .i64)) 4), (1, .int .i64 a1), (5, .int .i64 (n1 : Int))], [], 0⟩
theorem zc2 (a0 : List Int) (a1 : Int) (r : Bool) (h : zbb a0 a1 = some r) : zb7 Tryz.prog 86 [.imm 1 (a0.map (D.int .i64)) 4, .int .i64 a1] (.bool r) := by
 refine za2 Tryz.tmOk 2 Tryz.func86 rfl (by decide) rfl rfl (lb rfl) ?_
 intro hwf
 unfold zbb at h
 refine .seq (.pl zS [0, 1] ?_)
 obtain ⟨x1, hx1, h⟩ := bind_some h
 refine .seqM 0 (fun (j : Unit) => st91) (fun j => x1 = (.inr j)) (lb rfl) ?_ ?_
 refine .seq (.pl zS [0, 1] ?_)
 refine .block ?_
 refine .loopG 0 (fun (j : Nat) => st92 a0 a1 j) (fun j => j <= a0.length /\ zbs a1 (a0.drop j)  = some x1) (fun j => a0.length - j) (0) (lb rfl) ?_ ⟨Nat.zero_le _, hx1⟩ ?_
 exact .m [0, 1, 5] [] []
 rintro n1 ⟨hi1, hx1⟩
 simp only [st92]
 refine .wf 0 (.imm 1 (a0.map (D.int .i64)) 4) rfl ?_
 intro hln1
 replace hln1 : (a0.length : Int) <= 9223372036854775807 := by simp only [wf, wfL, IntKind.max, IntKind.min, IntKind.signed, IntKind.bits, List.length_map] at hln1; first | exact hln1.2 | exact hln1.1 | (simp at hln1; omega)
 refine .seq (.seq (.pl zS [0, 1, 5] ?_))
 refine .cd (fun hc1 => ?_) (fun hc1 => ?_)
 have h1 : n1 < a0.length := by simpa using hc1
 have hwn1 : wr .i64 ((n1 : Int) + 1) = ((n1 + 1 : Nat) : Int) := zbx h1 hln1
 have hpn1 : wr .i64 ((n1 : Int) - 1) = (n1 : Int) - 1 := zcm h1 hln1
 rw [List.drop_eq_getElem_cons h1, zbs] at hx1
 refine .skip (.seq (.block (.seq ?_)))
 have e1 := zbj (D.int .i64) a0 n1 h1
 refine .plx zS (ai e1 hwn1) [0, 1, 5] ?_
 refine .cd (fun hc2 => ?_) (fun hc2 => ?_)
 replace hx1 := za0 hx1 hc2
 refine .seq (.plx zS hwn1 [] ?_)
 have hq := sj hx1
 subst x1
 try dsimp only at h
 obtain rfl := sj h
 exact .rr
 replace hx1 := za1 hx1 hc2
 refine .skip (.plx zS hwn1 [0, 1, 5] ?_)
 refine ⟨n1 + 1, ?_, ⟨by omega, hx1⟩, by dsimp only; omega⟩
 exact .m [0, 1, 5] [] []
 have h2 : n1 = a0.length := by have h2b := of_decide_eq_false hc1; omega
 rw [List.drop_of_length_le (by omega), zbs] at hx1
 refine .exit ?_
 refine ⟨_, ?_, (sj hx1).symm⟩
 exact .m [] [] []
 rintro ⟨⟩ hj1
 subst x1
 try dsimp only at h
 simp only [st91]
 refine .seq (.pl zS [] ?_)
 obtain rfl := sj h
 exact .rr
@[go_sem] def st95 : St := ⟨[], [], 0⟩
@[go_sem] def st96 (a0 : List Int) (a1 : List Int) (n1 : Nat) : St := ⟨[(0, .imm 1 (a0.map (D.int .i64)) 4), (1, .imm 1 (a1.map (D.int .i64)) 4), (5, .int .i64 (n1 : Int))], [], 0⟩
theorem zjg (a0 : List Int) (a1 : List Int) (r : Bool) (h : zdu a0 a1 = some r) : zb7 Tryz.prog 89 [.imm 1 (a0.map (D.int .i64)) 4, .imm 1 (a1.map (D.int .i64)) 4] (.bool r) := by
 refine za2 Tryz.tmOk 2 Tryz.func89 rfl (by decide) rfl rfl (lb rfl) ?_
 intro hwf
 unfold zdu at h
 refine .seq (.pl zS [0, 1] ?_)
 obtain ⟨x1, hx1, h⟩ := bind_some h
 refine .seqM 0 (fun (j : Unit) => st95) (fun j => x1 = (.inr j)) (lb rfl) ?_ ?_
 refine .seq (.pl zS [0, 1] ?_)
 refine .block ?_
 refine .loopG 0 (fun (j : Nat) => st96 a0 a1 j) (fun j => j <= a0.length /\ zb6 a1 (a0.drop j)  = some x1) (fun j => a0.length - j) (0) (lb rfl) ?_ ⟨Nat.zero_le _, hx1⟩ ?_
 exact .m [0, 1, 5] [] []
 rintro n1 ⟨hi1, hx1⟩
 simp only [st96]
 refine .wf 0 (.imm 1 (a0.map (D.int .i64)) 4) rfl ?_
 intro hln1
 replace hln1 : (a0.length : Int) <= 9223372036854775807 := by simp only [wf, wfL, IntKind.max, IntKind.min, IntKind.signed, IntKind.bits, List.length_map] at hln1; first | exact hln1.2 | exact hln1.1 | (simp at hln1; omega)
 refine .seq (.seq (.pl zS [0, 1, 5] ?_))
 refine .cd (fun hc1 => ?_) (fun hc1 => ?_)
 have h1 : n1 < a0.length := by simpa using hc1
 have hwn1 : wr .i64 ((n1 : Int) + 1) = ((n1 + 1 : Nat) : Int) := zbx h1 hln1
 have hpn1 : wr .i64 ((n1 : Int) - 1) = (n1 : Int) - 1 := zcm h1 hln1
 rw [List.drop_eq_getElem_cons h1, zb6] at hx1
 refine .skip (.seq (.block (.seq ?_)))
 obtain ⟨v1, hv1, hx1⟩ := bind_some hx1
 have e1 := zbj (D.int .i64) a0 n1 h1
 refine .rg zS [0, 1, 5] ?_
 refine .rnx 5 (ai e1 hwn1) ?_
 refine .cl (zc2 a1 (a0[n1]) v1 hv1) ?_
 refine .rnx 1 (ai e1 hwn1) ?_
 refine .nn ?_
 refine .cd (fun hc2 => ?_) (fun hc2 => ?_)
 replace hx1 := za0 hx1 hc2
 refine .seq (.plx zS hwn1 [] ?_)
 have hq := sj hx1
 subst x1
 try dsimp only at h
 obtain rfl := sj h
 exact .rr
 replace hx1 := za1 hx1 hc2
 refine .skip (.plx zS hwn1 [0, 1, 5] ?_)
 refine ⟨n1 + 1, ?_, ⟨by omega, hx1⟩, by dsimp only; omega⟩
 exact .m [0, 1, 5] [] []
 have h2 : n1 = a0.length := by have h2b := of_decide_eq_false hc1; omega
 rw [List.drop_of_length_le (by omega), zb6] at hx1
 refine .exit ?_
 refine ⟨_, ?_, (sj hx1).symm⟩
 exact .m [] [] []
 rintro ⟨⟩ hj1
 subst x1
 try dsimp only at h
 simp only [st95]
 refine .seq (.pl zS [] ?_)
 obtain rfl := sj h
 exact .rr
@[go_sem] def st93 (a0 : List Int) : St := ⟨[(0, .imm 1 (a0.map (D.int .i64)) 4)], [], 0⟩
@[go_sem] def st94 (a0 : List Int) (n1 : Nat) : St := ⟨[(0, .imm 1 (a0.map (D.int .i64)) 4), (3, .int .i64 (n1 : Int))], [], 0⟩
theorem zfy (a0 : List Int) (r : Bool) (h : zci a0 = some r) : zb7 Tryz.prog 37 [.imm 1 (a0.map (D.int .i64)) 4] (.bool r) := by
 refine za2 Tryz.tmOk 2 Tryz.func37 rfl (by decide) rfl rfl (lb rfl) ?_
 intro hwf
 unfold zci at h
 refine .seq (.pl zS [0] ?_)
 obtain ⟨x1, hx1, h⟩ := bind_some h
 refine .seqM 0 (fun (j : Unit) => st93 a0) (fun j => x1 = (.inr j)) (lb rfl) ?_ ?_
 refine .seq (.pl zS [0] ?_)
 refine .block ?_
 refine .loopG 0 (fun (j : Nat) => st94 a0 j) (fun j => j <= a0.length /\ zba a0 (a0.drop j) j  = some x1) (fun j => a0.length - j) (0) (lb rfl) ?_ ⟨Nat.zero_le _, hx1⟩ ?_
 exact .m [0, 3] [] []
 rintro n1 ⟨hi1, hx1⟩
 simp only [st94]
 refine .wf 0 (.imm 1 (a0.map (D.int .i64)) 4) rfl ?_
 intro hln1
 replace hln1 : (a0.length : Int) <= 9223372036854775807 := by simp only [wf, wfL, IntKind.max, IntKind.min, IntKind.signed, IntKind.bits, List.length_map] at hln1; first | exact hln1.2 | exact hln1.1 | (simp at hln1; omega)
 refine .seq (.seq (.pl zS [0, 3] ?_))
 refine .cd (fun hc1 => ?_) (fun hc1 => ?_)
 have h1 : n1 < a0.length := by simpa using hc1
 have hwn1 : wr .i64 ((n1 : Int) + 1) = ((n1 + 1 : Nat) : Int) := zbx h1 hln1
 have hpn1 : wr .i64 ((n1 : Int) - 1) = (n1 : Int) - 1 := zcm h1 hln1
 rw [List.drop_eq_getElem_cons h1, zba] at hx1
 refine .skip (.seq (.block (.seq ?_)))
 have e1 := zbj (D.int .i64) a0 n1 h1
 have e2 := zbj (D.int .i64) a0 n1 h1
 have e3 := zbj (D.int .i64) a0 n1 h1
 have e4 := zf8 (D.int .i64) a0 (n1 - 1) (by omega)
 refine .rg zS [0, 3] ?_
 refine .rdx 6 (ai e1 (ai e2 (ai e3 (ai e4 (ai hpn1 hwn1))))) ?_
 refine .rdx 6 (ai e1 (ai e2 (ai e3 (ai e4 (ai hpn1 hwn1))))) ?_
 refine .rdx 6 (ai e1 (ai e2 (ai e3 (ai e4 (ai hpn1 hwn1))))) ?_
 refine .rdx 6 (ai e1 (ai e2 (ai e3 (ai e4 (ai hpn1 hwn1))))) ?_
 refine .rdx 4 (ai e1 (ai e2 (ai e3 (ai e4 (ai hpn1 hwn1))))) ?_
 refine .nd ?_
 refine .cd (fun hc2 => ?_) (fun hc2 => ?_)
 replace hx1 := za0 hx1 hc2
 refine .seq (.plx zS hwn1 [] ?_)
 have hq := sj hx1
 subst x1
 try dsimp only at h
 obtain rfl := sj h
 exact .rr
 replace hx1 := za1 hx1 hc2
 refine .skip (.plx zS hwn1 [0, 3] ?_)
 refine ⟨n1 + 1, ?_, ⟨by omega, hx1⟩, by dsimp only; omega⟩
 exact .m [0, 3] [] []
 have h2 : n1 = a0.length := by have h2b := of_decide_eq_false hc1; omega
 rw [List.drop_of_length_le (by omega), zba] at hx1
 refine .exit ?_
 refine ⟨_, ?_, (sj hx1).symm⟩
 exact .m [0] [] []
 rintro ⟨⟩ hj1
 subst x1
 try dsimp only at h
 simp only [st93]
 refine .seq (.rg zS [0] ?_)
 refine .rn 6 ?_
 refine .rn 3 ?_
 refine .nn ?_
 obtain rfl := sj h
 exact .rr
theorem zjq (a0 : List Int) (r : Int) (h : ze8 a0 = some r) : zb7 Tryz.prog 83 [.imm 1 (a0.map (D.int .i64)) 4] (.int .i64 r) := by
 refine za2 Tryz.tmOk 2 Tryz.func83 rfl (by decide) rfl rfl (lb rfl) ?_
 intro hwf
 unfold ze8 at h
 refine .seq (.pl zS [0] ?_)
 refine .seq (.seq (.pl zS [0] ?_))
 refine .cd (fun hc1 => ?_) (fun hc1 => ?_)
 replace h := za0 h hc1
 refine .seq (.pl zS [] ?_)
 obtain rfl := sj h
 exact .rr
 replace h := za1 h hc1
 refine .skip (.seq ?_)
 obtain ⟨v1, hv1, h⟩ := bind_some h
 refine .seq (.rg zS [0] ?_)
 refine .rn 1 ?_
 refine .cl (zfy a0 v1 hv1) ?_
 refine .rn 1 ?_
 refine .nn ?_
 refine .cd (fun hc2 => ?_) (fun hc2 => ?_)
 replace h := za0 h hc2
 refine .seq (.pl zS [] ?_)
 obtain rfl := sj h
 exact .rr
 replace h := za1 h hc2
 refine .skip (.seq (.pl zS [] ?_))
 obtain rfl := sj h
 exact .rr
@[go_sem] def st88 (a0 : List Int) (n1 : Int) : St := ⟨[(0, .imm 1 (a0.map (D.int .i64)) 4), (5, .int .i64 n1)], [], 0⟩
@[go_sem] def st89 (a0 : List Int) (a1 : List Int) (n3 : Nat) (n2 : Int) : St := ⟨[(0, .imm 1 (a0.map (D.int .i64)) 4), (1, .imm 1 (a1.map (D.int .i64)) 4), (5, .int .i64 n2), (6, .int .i64 (n3 : Int))], [], 0⟩
@[go_sem] def st90 (a0 : List Int) (a1 : List Int) (n3 : Nat) (n4 : Int) : St := ⟨[(0, .imm 1 (a0.map (D.int .i64)) 4), (1, .imm 1 (a1.map (D.int .i64)) 4), (5, .int .i64 n4), (6, .int .i64 (n3 : Int))], [], 0⟩
theorem zdz (a0 : List Int) (a1 : List Int) (r : Bool) (h : zbt a0 a1 = some r) : zb7 Tryz.prog 75 [.imm 1 (a0.map (D.int .i64)) 4, .imm 1 (a1.map (D.int .i64)) 4] (.bool r) := by
 refine za2 Tryz.tmOk 2 Tryz.func75 rfl (by decide) rfl rfl (lb rfl) ?_
 intro hwf
 unfold zbt at h
 refine .seq (.pl zS [0, 1] ?_)
 refine .seq (.pl zS [0, 1] ?_)
 obtain ⟨x1, hx1, h⟩ := bind_some h
 refine .seqM 0 (fun (j : Int) => st88 a0 j) (fun j => x1 = j) (lb rfl) ?_ ?_
 refine .seq (.pl zS [0, 1, 5] ?_)
 refine .block ?_
 refine .loopG 0 (fun (j : Nat × Int) => st89 a0 a1 j.1 j.2) (fun j => j.1 <= a0.length /\ zav a1 (a0.drop j.1) j.2 = some x1) (fun j => a0.length - j.1) (0, 0) (lb rfl) ?_ ⟨Nat.zero_le _, hx1⟩ ?_
 exact .m [0, 1, 5, 6] [] []
 rintro ⟨n3, n2⟩ ⟨hi1, hx1⟩
 simp only [st89]
 simp only at hi1 hx1
 refine .wf 0 (.imm 1 (a0.map (D.int .i64)) 4) rfl ?_
 intro hln3
 replace hln3 : (a0.length : Int) <= 9223372036854775807 := by simp only [wf, wfL, IntKind.max, IntKind.min, IntKind.signed, IntKind.bits, List.length_map] at hln3; first | exact hln3.2 | exact hln3.1 | (simp at hln3; omega)
 refine .seq (.seq (.pl zS [0, 1, 5, 6] ?_))
 refine .cd (fun hc1 => ?_) (fun hc1 => ?_)
 have h1 : n3 < a0.length := by simpa using hc1
 have hwn3 : wr .i64 ((n3 : Int) + 1) = ((n3 + 1 : Nat) : Int) := zbx h1 hln3
 have hpn3 : wr .i64 ((n3 : Int) - 1) = (n3 : Int) - 1 := zcm h1 hln3
 rw [List.drop_eq_getElem_cons h1, zav] at hx1
 refine .skip ?_
 obtain ⟨x2, hx2, hx1⟩ := bind_some hx1
 refine .seqM 0 (fun (j : Int) => st90 a0 a1 n3 j) (fun j => x2 = j) (lb rfl) ?_ ?_
 refine .block (.seq ?_)
 obtain ⟨v1, hv1, hx2⟩ := bind_some hx2
 have e1 := zbj (D.int .i64) a0 n3 h1
 refine .rg zS [0, 1, 5, 6] ?_
 refine .rnx 5 (ai e1 hwn3) ?_
 refine .cl (zc2 a1 (a0[n3]) v1 hv1) ?_
 refine .nn ?_
 refine .cd (fun hc2 => ?_) (fun hc2 => ?_)
 replace hx2 := za0 hx2 hc2
 refine .plx zS hwn3 [0, 1, 5, 6] ?_
 refine ⟨_, ?_, (sj hx2).symm⟩
 exact .m [0, 1, 5, 6] [] []
 replace hx2 := za1 hx2 hc2
 refine .skip ?_
 refine ⟨_, ?_, (sj hx2).symm⟩
 exact .m [0, 1, 5, 6] [] []
 rintro n4 hj1
 subst x2
 try dsimp only at hx1
 simp only [st90]
 refine .plx zS hwn3 [0, 1, 5, 6] ?_
 refine ⟨(n3 + 1, _), ?_, ⟨by omega, hx1⟩, by dsimp only; omega⟩
 exact .m [0, 1, 5, 6] [] []
 have h2 : n3 = a0.length := by have h2b := of_decide_eq_false hc1; omega
 rw [List.drop_of_length_le (by omega), zav] at hx1
 refine .exit ?_
 refine ⟨_, ?_, (sj hx1).symm⟩
 exact .m [0, 5] [] []
 rintro n1 hj2
 subst x1
 try dsimp only at h
 simp only [st88]
 refine .seq (.pl zS [0, 5] ?_)
 obtain rfl := sj h
 exact .rr
theorem zc3 (a0 : Int) (r : Bool) (h : zbc a0 = some r) : zb7 Tryz.prog 71 [.int .i64 a0] (.bool r) := by
 refine za2 Tryz.tmOk 2 Tryz.func71 rfl (by decide) rfl rfl (lb rfl) ?_
 intro hwf
 unfold zbc at h
 refine .seq (.pl zS [0] ?_)
 refine .seq (.rg zS [0] ?_)
 refine .rn 6 ?_
 refine .rn 6 ?_
 refine .nn ?_
 obtain rfl := sj h
 exact .rr
@[go_sem] def ya3w (a0 : List Int) (a1 : List Int) : St := ⟨[(0, .imm 1 (a0.map (D.int .i64)) 4), (1, .imm 1 (a1.map (D.int .i64)) 4)], [], 0⟩
@[go_sem] def ya3v (a0 : List Int) (a1 : List Int) (n1 : Nat) : St := ⟨[(0, .imm 1 (a0.map (D.int .i64)) 4), (1, .imm 1 (a1.map (D.int .i64)) 4), (5, .int .i64 (n1 : Int))], [], 0⟩
theorem zgn (a0 : List Int) (a1 : List Int) (r : Bool) (h : zcy a0 a1 = some r) : zb7 Tryz.prog 72 [.imm 1 (a0.map (D.int .i64)) 4, .imm 1 (a1.map (D.int .i64)) 4] (.bool r) := by
 refine za2 Tryz.tmOk 2 Tryz.func72 rfl (by decide) rfl rfl (lb rfl) ?_
 intro hwf
 unfold zcy at h
 refine .seq (.pl zS [0, 1] ?_)
 obtain ⟨x1, hx1, h⟩ := bind_some h
 refine .seqM 0 (fun (j : Unit) => ya3w a0 a1) (fun j => x1 = (.inr j)) (lb rfl) ?_ ?_
 refine .seq (.pl zS [0, 1] ?_)
 refine .block ?_
 refine .loopG 0 (fun (j : Nat) => ya3v a0 a1 j) (fun j => j <= a0.length /\ zau a0 (a0.drop j) j  = some x1) (fun j => a0.length - j) (0) (lb rfl) ?_ ⟨Nat.zero_le _, hx1⟩ ?_
 exact .m [0, 1, 5] [] []
 rintro n1 ⟨hi1, hx1⟩
 simp only [ya3v]
 refine .wf 0 (.imm 1 (a0.map (D.int .i64)) 4) rfl ?_
 intro hln1
 replace hln1 : (a0.length : Int) <= 9223372036854775807 := by simp only [wf, wfL, IntKind.max, IntKind.min, IntKind.signed, IntKind.bits, List.length_map] at hln1; first | exact hln1.2 | exact hln1.1 | (simp at hln1; omega)
 refine .seq (.seq (.pl zS [0, 1, 5] ?_))
 refine .cd (fun hc1 => ?_) (fun hc1 => ?_)
 have h1 : n1 < a0.length := by simpa using hc1
 have hwn1 : wr .i64 ((n1 : Int) + 1) = ((n1 + 1 : Nat) : Int) := zbx h1 hln1
 have hpn1 : wr .i64 ((n1 : Int) - 1) = (n1 : Int) - 1 := zcm h1 hln1
 rw [List.drop_eq_getElem_cons h1, zau] at hx1
 refine .skip (.seq (.block (.seq ?_)))
 have e1 := zbj (D.int .i64) a0 n1 h1
 have e2 := zf8 (D.int .i64) a0 (n1 - 1) (by omega)
 refine .rg zS [0, 1, 5] ?_
 refine .rdx 6 (ai e1 (ai e2 (ai hpn1 hwn1))) ?_
 refine .rdx 8 (ai e1 (ai e2 (ai hpn1 hwn1))) ?_
 refine .nd ?_
 refine .cd (fun hc2 => ?_) (fun hc2 => ?_)
 replace hx1 := za0 hx1 hc2
 refine .seq (.plx zS hwn1 [] ?_)
 have hq := sj hx1
 subst x1
 try dsimp only at h
 obtain rfl := sj h
 exact .rr
 replace hx1 := za1 hx1 hc2
 refine .skip (.plx zS hwn1 [0, 1, 5] ?_)
 refine ⟨n1 + 1, ?_, ⟨by omega, hx1⟩, by dsimp only; omega⟩
 exact .m [0, 1, 5] [] []
 have h2 : n1 = a0.length := by have h2b := of_decide_eq_false hc1; omega
 rw [List.drop_of_length_le (by omega), zau] at hx1
 refine .exit ?_
 refine ⟨_, ?_, (sj hx1).symm⟩
 exact .m [0, 1] [] []
 rintro ⟨⟩ hj1
 subst x1
 try dsimp only at h
 simp only [ya3w]
 obtain ⟨v1, hv1, h⟩ := bind_some h
 refine .seq (.rg zS [0, 1] ?_)
 refine .rn 2 ?_
 refine .cl (zjg a0 a1 v1 hv1) ?_
 refine .rn 1 ?_
 refine .nn ?_
 obtain rfl := sj h
 exact .rr
theorem zfw (a0 : TPromise) (a1 : Int) (r : Bool) (h : zc0 a0 a1 = some r) : zb7 Tryz.prog 74 [.agg [.int .i64 a0.Node, .int .i64 a0.Ballot, .str a0.Value], .int .i64 a1] (.bool r) := by
 refine za2 Tryz.tmOk 3 Tryz.func74 rfl (by decide) rfl rfl (lb rfl) ?_
 intro hwf
 unfold zc0 at h
 refine .seq (.pl zS [0, 1] ?_)
 refine .seq (.seq (.pl zS [1, 2] ?_))
 refine .cd (fun hc1 => ?_) (fun hc1 => ?_)
 replace h := za0 h hc1
 refine .seq (.pl zS [2] ?_)
 obtain rfl := sj h
 exact .rr
 replace h := za1 h hc1
 refine .skip ?_
 obtain ⟨v1, hv1, h⟩ := bind_some h
 refine .seq (.rg zS [1, 2] ?_)
 refine .rn 2 ?_
 refine .cl (zc3 a0.Ballot v1 hv1) ?_
 refine .rn 6 ?_
 refine .rn 7 ?_
 refine .nn ?_
 obtain rfl := sj h
 exact .rr
@[go_sem] def st41 : St := ⟨[], [], 0⟩
@[go_sem] def st42 (a0 : List Int) (a1 : List Int) (n1 : Nat) : St := ⟨[(0, .imm 1 (a0.map (D.int .i64)) 4), (1, .imm 1 (a1.map (D.int .i64)) 4), (7, .imm 1 (a0.map (D.int .i64)) 4), (8, .int .i64 (a0.length : Int)), (9, .int .i64 (n1 : Int))], [], 0⟩
theorem zir (a0 : List Int) (a1 : List Int) (r : Bool) (h : ze2 a0 a1 = some r) : zb7 Tryz.prog 63 [.imm 1 (a0.map (D.int .i64)) 4, .imm 1 (a1.map (D.int .i64)) 4] (.bool r) := by
 refine za2 Tryz.tmOk 2 Tryz.func63 rfl (by decide) rfl rfl (lb rfl) ?_
 intro hwf
 unfold ze2 at h
 refine .seq (.pl zS [0, 1] ?_)
 obtain ⟨x1, hx1, h⟩ := bind_some h
 refine .seqM 0 (fun (j : Unit) => st41) (fun j => x1 = (.inr j)) (lb rfl) ?_ ?_
 refine .seq (.pl zS [0, 1] ?_)
 refine .block ?_
 refine .loopG 0 (fun (j : Nat) => st42 a0 a1 j) (fun j => j <= a0.length /\ zby a0 a1 (a0.drop j) j  = some x1) (fun j => a0.length - j) (0) (lb rfl) ?_ ⟨Nat.zero_le _, hx1⟩ ?_
 exact .m [0, 1, 7, 8, 9] [] []
 rintro n1 ⟨hi1, hx1⟩
 simp only [st42]
 refine .wf 8 (.int .i64 (a0.length : Int)) rfl ?_
 intro hln1
 replace hln1 : (a0.length : Int) <= 9223372036854775807 := by simp only [wf, wfL, IntKind.max, IntKind.min, IntKind.signed, IntKind.bits, List.length_map] at hln1; first | exact hln1.2 | exact hln1.1 | (simp at hln1; omega)
 refine .seq (.pl zS [0, 1, 7, 8, 9] ?_)
 refine .seq (.cd (fun hc1 => ?_) (fun hc1 => ?_))
 have h1 : n1 < a0.length := by simpa using hc1
 have hwn1 : wr .i64 ((n1 : Int) + 1) = ((n1 + 1 : Nat) : Int) := zbx h1 hln1
 have hpn1 : wr .i64 ((n1 : Int) - 1) = (n1 : Int) - 1 := zcm h1 hln1
 rw [List.drop_eq_getElem_cons h1, zby] at hx1
 refine .skip (.seq (.block (.seq ?_)))
 have e1 := zbj (D.int .i64) a0 n1 h1
 refine .plx zS (ai e1 hwn1) [0, 1, 7, 8, 9] ?_
 refine .seq ?_
 obtain ⟨v1, hv1, hx1⟩ := bind_some hx1
 have e2 := zf8 (D.int .i64) a0 (n1 - 1) (by omega)
 refine .rg zS [0, 1, 5, 6, 7, 8, 9] ?_
 refine .rnx 6 (ai e2 (ai hpn1 hwn1)) ?_
 refine .rnx 8 (ai e2 (ai hpn1 hwn1)) ?_
 refine .gcall rfl rfl rfl rfl rfl (fun hg => ⟨[], [.imm 1 (a1.map (D.int .i64)) 4, .int .i64 (a0[n1])], _, rfl, gd hg, rfl, (zh7 a1 (a0[n1]) v1 (za0 hv1 hg))⟩) ?_
 refine .rnx 2 (ai e2 (ai hpn1 hwn1)) ?_
 refine .nn ?_
 refine .cd (fun hc2 => ?_) (fun hc2 => ?_)
 replace hx1 := za0 hx1 hc2
 refine .seq (.plx zS hwn1 [] ?_)
 have hq := sj hx1
 subst x1
 try dsimp only at h
 obtain rfl := sj h
 exact .rr
 replace hx1 := za1 hx1 hc2
 refine .skip (.plx zS hwn1 [0, 1, 7, 8, 9] ?_)
 refine ⟨n1 + 1, ?_, ⟨by omega, hx1⟩, by dsimp only; omega⟩
 exact .m [0, 1, 7, 8, 9] [] []
 have h2 : n1 = a0.length := by have h2b := of_decide_eq_false hc1; omega
 rw [List.drop_of_length_le (by omega), zby] at hx1
 refine .exit ?_
 refine ⟨_, ?_, (sj hx1).symm⟩
 exact .m [] [] []
 rintro ⟨⟩ hj1
 subst x1
 try dsimp only at h
 simp only [st41]
 refine .seq (.pl zS [] ?_)
 obtain rfl := sj h
 exact .rr
theorem zkq (a0 : TPromise) (a1 : Int) (r : Bool) (h : zgs a0 a1 = some r) : zb7 Tryz.prog 67 [.agg [.int .i64 a0.Node, .int .i64 a0.Ballot, .str a0.Value], .int .i64 a1] (.bool r) := by
 refine za2 Tryz.tmOk 3 Tryz.func67 rfl (by decide) rfl rfl (lb rfl) ?_
 intro hwf
 unfold zgs at h
 refine .seq (.pl zS [0, 1] ?_)
 refine .seq (.seq (.pl zS [1, 2] ?_))
 refine .cd (fun hc1 => ?_) (fun hc1 => ?_)
 replace h := za0 h hc1
 refine .seq (.pl zS [2] ?_)
 obtain rfl := sj h
 exact .rr
 replace h := za1 h hc1
 refine .skip ?_
 obtain ⟨v1, hv1, h⟩ := bind_some h
 refine .seq (.rg zS [1, 2] ?_)
 refine .rn 2 ?_
 refine .cl (ze0 a0.Ballot v1 hv1) ?_
 refine .rn 6 ?_
 refine .rn 8 ?_
 refine .nn ?_
 obtain rfl := sj h
 exact .rr
end Go.Proofs
end
section
namespace Go.Proofs
open Go.Tm
set_option linter.unusedVariables false
def zb0 (a1 : List Int) : List Int -> Nat -> Option (Bool ⊕ Unit)
 | [], n1 =>
  some (.inr ())
 | y1 :: rest1, n1 =>
  if n1 < a1.length then
  if ¬ (y1 = (a1.getD n1 default)) then
  some (.inl false)
  else
  zb0 a1 rest1 (n1 + 1) 
  else none
def zbr (a0 : List Int) (a1 : List Int) : Option Bool :=
 if ¬ ((a0.length : Int) = (a1.length : Int)) then
 some false
 else
 Option.bind (α := Bool ⊕ Unit) (zb0 a1 a0 0 ) fun z => match z with
 | (.inl r) => some r
 | (.inr _) =>
 some true
def zag (a1 : List TPromise) : List TPromise -> Nat -> Option (Bool ⊕ Unit)
 | [], n1 =>
  some (.inr ())
 | y1 :: rest1, n1 =>
  if n1 < a1.length then
  if ¬ ((y1.Node = (a1.getD n1 default).Node) /\ (y1.Ballot = (a1.getD n1 default).Ballot) /\ (y1.Value = (a1.getD n1 default).Value)) then
  some (.inl false)
  else
  zag a1 rest1 (n1 + 1) 
  else none
def zc9 (a0 : List TPromise) (a1 : List TPromise) : Option Bool :=
 if ¬ ((a0.length : Int) = (a1.length : Int)) then
 some false
 else
 Option.bind (α := Bool ⊕ Unit) (zag a1 a0 0 ) fun z => match z with
 | (.inl r) => some r
 | (.inr _) =>
 some true
def zac (f : TPromise -> Option Bool) : List TPromise -> Nat -> Option (Int ⊕ Unit)
 | [], n1 =>
  some (.inr ())
 | y1 :: rest1, n1 =>
  Option.bind (f (y1)) fun v1 =>
  if v1 = true then
  some (.inl (n1 : Int))
  else
  zac f rest1 (n1 + 1) 
def zce (s : List TPromise) (f : TPromise -> Option Bool) : Option Int :=
 Option.bind (α := Int ⊕ Unit) (zac f s 0 ) fun z => match z with
 | (.inl r) => some r
 | (.inr _) =>
 some (-1)
def zas (s : List TPromise) (f : TPromise -> Option Bool) : Option Bool :=
 Option.bind (zce s f) fun v1 =>
 some (decide (v1 >= 0))
def zcu (f : Int -> Option Bool) : Nat -> Int -> Int -> Option (Int)
 | 0, _, _ => none
 | fu1 + 1, n2, n3 =>
  if n2 < n3 then
  Option.bind (f (wr .i64 (shw false .u64 (wr .u64 (wr .i64 (n2 + n3))) 1))) fun v1 =>
  if ¬ (v1 = true) then
  zcu f fu1 (wr .i64 ((wr .i64 (shw false .u64 (wr .u64 (wr .i64 (n2 + n3))) 1)) + 1)) n3
  else
  zcu f fu1 n2 (wr .i64 (shw false .u64 (wr .u64 (wr .i64 (n2 + n3))) 1))
  else
  some n2
def zg4 (n : Int) (f : Int -> Option Bool) : Option Int :=
 Option.bind (α := Int) (zcu f (n.toNat + 1) 0 n) fun n1 =>
 some n1
def zf4 (a0 : Int) (c0 : List Int) (c1 : Int) : Option Bool :=
 if (0 <= a0 /\ a0 < (c0.length : Int)) then
 some (decide ((c0.getD a0.toNat default) >= c1))
 else none
def zfs (a0 : List Int) (a1 : Int) : Option Int :=
 Option.bind (zg4 (a0.length : Int) (fun x0 => zf4 x0 a0 a1)) fun v1 =>
 some v1
end Go.Proofs
end
section
namespace Go.Proofs
open Go.Tm Go.RowKit Go.WideShapes
set_option maxRecDepth 100000
set_option maxHeartbeats 4000000
set_option linter.unusedSimpArgs false
set_option linter.unusedVariables false
@[go_sem] def st77 : St := ⟨[], [], 0⟩
@[go_sem] def st78 (a0 : List Int) (a1 : List Int) (n1 : Nat) : St := ⟨[(0, .imm 1 (a0.map (D.int .i64)) 4), (1, .imm 1 (a1.map (D.int .i64)) 4), (12, .int .i64 (a0.length : Int)), (13, .int .i64 (n1 : Int))], [], 0⟩
theorem ze3 (a0 : List Int) (a1 : List Int) (r : Bool) (h : zbr a0 a1 = some r) : zb7 Tryz.prog 35 [.imm 1 (a0.map (D.int .i64)) 4, .imm 1 (a1.map (D.int .i64)) 4] (.bool r) := by
 refine za2 Tryz.tmOk 2 Tryz.func35 rfl (by decide) rfl rfl (lb rfl) ?_
 intro hwf
 unfold zbr at h
 refine .seq (.pl zS [0, 1] ?_)
 refine .seq (.seq (.pl zS [0, 1] ?_))
 refine .cd (fun hc1 => ?_) (fun hc1 => ?_)
 replace h := za0 h hc1
 refine .seq (.pl zS [] ?_)
 obtain rfl := sj h
 exact .rr
 replace h := za1 h hc1
 obtain ⟨x1, hx1, h⟩ := bind_some h
 refine .skip ?_
 refine .seqM 0 (fun (j : Unit) => st77) (fun j => x1 = (.inr j)) (lb rfl) ?_ ?_
 refine .seq (.pl zS [0, 1] ?_)
 refine .block ?_
 refine .loopG 0 (fun (j : Nat) => st78 a0 a1 j) (fun j => j <= a0.length /\ zb0 a1 (a0.drop j) j  = some x1) (fun j => a0.length - j) (0) (lb rfl) ?_ ⟨Nat.zero_le _, hx1⟩ ?_
 exact .m [0, 1, 12, 13] [] []
 rintro n1 ⟨hi1, hx1⟩
 simp only [st78]
 refine .wf 12 (.int .i64 (a0.length : Int)) rfl ?_
 intro hln1
 replace hln1 : (a0.length : Int) <= 9223372036854775807 := by simp only [wf, wfL, IntKind.max, IntKind.min, IntKind.signed, IntKind.bits, List.length_map] at hln1; first | exact hln1.2 | exact hln1.1 | (simp at hln1; omega)
 refine .seq (.pl zS [0, 1, 12, 13] ?_)
 refine .seq (.cd (fun hc2 => ?_) (fun hc2 => ?_))
 have h1 : n1 < a0.length := by simpa using hc2
 have hwn1 : wr .i64 ((n1 : Int) + 1) = ((n1 + 1 : Nat) : Int) := zbx h1 hln1
 have hpn1 : wr .i64 ((n1 : Int) - 1) = (n1 : Int) - 1 := zcm h1 hln1
 rw [List.drop_eq_getElem_cons h1, zb0] at hx1
 refine .skip (.seq (.block (.seq (.plx zS hwn1 [0, 1, 12, 13] ?_))))
 refine .seq ?_
 obtain ⟨k1, hx1⟩ := zaa hx1
 have e1 := zbj (D.int .i64) a0 n1 h1
 have e2 := zf8 (D.int .i64) a1 n1
 replace e2 := e2 k1
 refine .rg zS [0, 1, 5, 12, 13] ?_
 refine .rdx 6 (ai e1 (ai e2 hwn1)) ?_
 refine .rdx 3 (ai e1 (ai e2 hwn1)) ?_
 refine .nd ?_
 refine .cd (fun hc3 => ?_) (fun hc3 => ?_)
 replace hx1 := za0 hx1 hc3
 refine .seq (.plx zS hwn1 [] ?_)
 have hq := sj hx1
 subst x1
 try dsimp only at h
 obtain rfl := sj h
 exact .rr
 replace hx1 := za1 hx1 hc3
 refine .skip (.plx zS hwn1 [0, 1, 12, 13] ?_)
 refine ⟨n1 + 1, ?_, ⟨by omega, hx1⟩, by dsimp only; omega⟩
 exact .m [0, 1, 12, 13] [] []
 have h2 : n1 = a0.length := by have h2b := of_decide_eq_false hc2; omega
 rw [List.drop_of_length_le (by omega), zb0] at hx1
 refine .exit ?_
 refine ⟨_, ?_, (sj hx1).symm⟩
 exact .m [] [] []
 rintro ⟨⟩ hj1
 subst x1
 try dsimp only at h
 simp only [st77]
 refine .seq (.pl zS [] ?_)
 obtain rfl := sj h
 exact .rr
@[go_sem] def st73 : St := ⟨[], [], 0⟩
@[go_sem] def st74 (a0 : List TPromise) (a1 : List TPromise) (n1 : Nat) : St := ⟨[(0, .imm 3 (a0.map TPromise.d) 4), (1, .imm 3 (a1.map TPromise.d) 4), (12, .int .i64 (a0.length : Int)), (13, .int .i64 (n1 : Int))], [], 0⟩
theorem zhi (a0 : List TPromise) (a1 : List TPromise) (r : Bool) (h : zc9 a0 a1 = some r) : zb7 Tryz.prog 77 [.imm 3 (a0.map TPromise.d) 4, .imm 3 (a1.map TPromise.d) 4] (.bool r) := by
 refine za2 Tryz.tmOk 2 Tryz.func77 rfl (by decide) rfl rfl (lb rfl) ?_
 intro hwf
 unfold zc9 at h
 refine .seq (.pl zS [0, 1] ?_)
 refine .seq (.seq (.pl zS [0, 1] ?_))
 refine .cd (fun hc1 => ?_) (fun hc1 => ?_)
 replace h := za0 h hc1
 refine .seq (.pl zS [] ?_)
 obtain rfl := sj h
 exact .rr
 replace h := za1 h hc1
 obtain ⟨x1, hx1, h⟩ := bind_some h
 refine .skip ?_
 refine .seqM 0 (fun (j : Unit) => st73) (fun j => x1 = (.inr j)) (lb rfl) ?_ ?_
 refine .seq (.pl zS [0, 1] ?_)
 refine .block ?_
 refine .loopG 0 (fun (j : Nat) => st74 a0 a1 j) (fun j => j <= a0.length /\ zag a1 (a0.drop j) j  = some x1) (fun j => a0.length - j) (0) (lb rfl) ?_ ⟨Nat.zero_le _, hx1⟩ ?_
 exact .m [0, 1, 12, 13] [] []
 rintro n1 ⟨hi1, hx1⟩
 simp only [st74]
 refine .wf 12 (.int .i64 (a0.length : Int)) rfl ?_
 intro hln1
 replace hln1 : (a0.length : Int) <= 9223372036854775807 := by simp only [wf, wfL, IntKind.max, IntKind.min, IntKind.signed, IntKind.bits, List.length_map] at hln1; first | exact hln1.2 | exact hln1.1 | (simp at hln1; omega)
 refine .seq (.pl zS [0, 1, 12, 13] ?_)
 refine .seq (.cd (fun hc2 => ?_) (fun hc2 => ?_))
 have h1 : n1 < a0.length := by simpa using hc2
 have hwn1 : wr .i64 ((n1 : Int) + 1) = ((n1 + 1 : Nat) : Int) := zbx h1 hln1
 have hpn1 : wr .i64 ((n1 : Int) - 1) = (n1 : Int) - 1 := zcm h1 hln1
 rw [List.drop_eq_getElem_cons h1, zag] at hx1
 refine .skip (.seq (.block (.seq (.plx zS hwn1 [0, 1, 12, 13] ?_))))
 refine .seq ?_
 obtain ⟨k1, hx1⟩ := zaa hx1
 have e1 := zbj TPromise.d a0 n1 h1
 have e2 := zf8 TPromise.d a1 n1
 replace e2 := e2 k1
 refine .rg zS [0, 1, 5, 12, 13] ?_
 refine .rdx 6 (ai e1 (ai e2 hwn1)) ?_
 refine .rdx 3 (ai e1 (ai e2 hwn1)) ?_
 refine .nd ?_
 refine .cd (fun hc3 => ?_) (fun hc3 => ?_)
 replace hx1 := za0 hx1 hc3
 refine .seq (.plx zS hwn1 [] ?_)
 have hq := sj hx1
 subst x1
 try dsimp only at h
 obtain rfl := sj h
 exact .rr
 replace hx1 := za1 hx1 hc3
 refine .skip (.plx zS hwn1 [0, 1, 12, 13] ?_)
 refine ⟨n1 + 1, ?_, ⟨by omega, hx1⟩, by dsimp only; omega⟩
 exact .m [0, 1, 12, 13] [] []
 have h2 : n1 = a0.length := by have h2b := of_decide_eq_false hc2; omega
 rw [List.drop_of_length_le (by omega), zag] at hx1
 refine .exit ?_
 refine ⟨_, ?_, (sj hx1).symm⟩
 exact .m [] [] []
 rintro ⟨⟩ hj1
 subst x1
 try dsimp only at h
 simp only [st73]
 refine .seq (.pl zS [] ?_)
 obtain rfl := sj h
 exact .rr
@[go_sem] def st79 : St := ⟨[], [], 0⟩
@[go_sem] def st80 (s : List TPromise) (Kf : Nat) (cf : List D) (n1 : Nat) : St := ⟨[(0, .imm 3 (s.map TPromise.d) 4), (1, .fn (.func Kf) cf), (7, .int .i64 (s.length : Int)), (8, .int .i64 (n1 : Int))], [], 0⟩
theorem zgu (s : List TPromise) (Kf : Nat) (cf : List D) (hcf : ∀ hp, zf3 hp cf = (cf, true)) (h2f : ∀ hp, zfc hp cf = (cf, true)) (h3f : ∀ hp, zk7 hp cf = []) (f : TPromise -> Option Bool) (hf : ∀ x0 y, f x0 = some y -> zb7 Tryz.prog Kf (.agg [.int .i64 x0.Node, .int .i64 x0.Ballot, .str x0.Value] :: cf) (.bool y)) (r : Int) (h : zce s f = some r) : zb7 Tryz.prog 87 [.imm 3 (s.map TPromise.d) 4, .fn (.func Kf) cf] (.int .i64 r) := by
 refine za2 Tryz.tmOk 2 Tryz.func87 rfl (by decide) rfl rfl (lb rfl) ?_
 intro hwf
 unfold zce at h
 refine .seq (.pl zS [0, 1] ?_)
 obtain ⟨x1, hx1, h⟩ := bind_some h
 refine .seqM 0 (fun (j : Unit) => st79) (fun j => x1 = (.inr j)) (lb rfl) ?_ ?_
 ·refine .seq (.pl zS [0, 1] ?_)
  refine .block ?_
  refine .loopG 0 (fun (j : Nat) => st80 s Kf cf j) (fun j => j <= s.length /\ zac f (s.drop j) j  = some x1) (fun j => s.length - j) (0) (lb rfl) ?_ ⟨Nat.zero_le _, hx1⟩ ?_
  ·refine Goes.mv [0, 1, 7, 8] [] [] ?_ (lb rfl) (lb rfl) (by first | rfl | (simp only [idsV, idsH, zer, getL, D.ids, Blk.ids, zjx, Nat.reduceBEq, cond_true, cond_false, List.append_nil, List.nil_append, List.cons_append, zgl hcf] <;> rfl))
   first | rfl | (simp only [go_sem, Nat.reduceBEq, Nat.reduceAdd, zdj hcf]; done) | (simp only [go_sem, Nat.reduceBEq, Nat.reduceAdd, zdj hcf]; rfl)
  rintro n1 ⟨hi1, hx1⟩
  simp only [st80]
  refine .wf 7 (.int .i64 (s.length : Int)) rfl ?_
  intro hln1
  replace hln1 : (s.length : Int) <= 9223372036854775807 := by simp only [wf, wfL, IntKind.max, IntKind.min, IntKind.signed, IntKind.bits, List.length_map] at hln1; first | exact hln1.2 | exact hln1.1 | (simp at hln1; omega)
  refine .seq (.pl zS [0, 1, 7, 8] ?_)
  refine .seq (.cd (fun hc1 => ?_) (fun hc1 => ?_))
  ·have h1 : n1 < s.length := by simpa using hc1
   have hwn1 : wr .i64 ((n1 : Int) + 1) = ((n1 + 1 : Nat) : Int) := zbx h1 hln1
   have hpn1 : wr .i64 ((n1 : Int) - 1) = (n1 : Int) - 1 := zcm h1 hln1
   rw [List.drop_eq_getElem_cons h1, zac] at hx1
   refine .skip (.seq (.block (.seq (.plx zS hwn1 [0, 1, 7, 8] ?_))))
   refine .seq ?_
   obtain ⟨v1, hv1, hx1⟩ := bind_some hx1
   have e1 := zbj TPromise.d s n1 h1
   refine .rg zS [0, 1, 5, 7, 8] ?_
   refine .rnx 5 (ai e1 hwn1) ?_
   refine .call (r := .bool v1) rfl rfl rfl rfl rfl (zc1 rfl (hcf _)) (hf _ v1 hv1) ?_
   refine .nn ?_
   refine .cd (fun hc2 => ?_) (fun hc2 => ?_)
   replace hx1 := za0 hx1 hc2
   refine .seq (.plx zS hwn1 [5] ?_)
   have hq := sj hx1
   subst x1
   try dsimp only at h
   obtain rfl := sj h
   exact .rr
   ·replace hx1 := za1 hx1 hc2
    refine .skip (.plx zS hwn1 [0, 1, 7, 8] ?_)
    refine ⟨n1 + 1, ?_, ⟨by omega, hx1⟩, by dsimp only; omega⟩
    refine Goes.mv [0, 1, 7, 8] [] [] ?_ (lb rfl) (lb rfl) (by first | rfl | (simp only [idsV, idsH, zer, getL, D.ids, Blk.ids, zjx, Nat.reduceBEq, cond_true, cond_false, List.append_nil, List.nil_append, List.cons_append, zgl hcf] <;> rfl))
    first | rfl | (simp only [go_sem, Nat.reduceBEq, Nat.reduceAdd, zdj hcf]; done) | (simp only [go_sem, Nat.reduceBEq, Nat.reduceAdd, zdj hcf]; rfl)
  ·have h2 : n1 = s.length := by have h2b := of_decide_eq_false hc1; omega
   rw [List.drop_of_length_le (by omega), zac] at hx1
   refine .exit ?_
   refine ⟨_, ?_, (sj hx1).symm⟩
   refine Goes.mv [] [] [] ?_ (lb rfl) (lb rfl) (by first | rfl | (simp only [idsV, idsH, zer, getL, D.ids, Blk.ids, zjx, Nat.reduceBEq, cond_true, cond_false, List.append_nil, List.nil_append, List.cons_append, zgl hcf] <;> rfl))
   first | rfl | (simp only [go_sem, Nat.reduceBEq, Nat.reduceAdd, zdj hcf]; done) | (simp only [go_sem, Nat.reduceBEq, Nat.reduceAdd, zdj hcf]; rfl)
 rintro ⟨⟩ hj1
 subst x1
 try dsimp only at h
 simp only [st79]
 refine .seq (.pl zS [] ?_)
 obtain rfl := sj h
 exact .rr
theorem zgd (s : List TPromise) (Kf : Nat) (cf : List D) (hcf : ∀ hp, zf3 hp cf = (cf, true)) (h2f : ∀ hp, zfc hp cf = (cf, true)) (h3f : ∀ hp, zk7 hp cf = []) (f : TPromise -> Option Bool) (hf : ∀ x0 y, f x0 = some y -> zb7 Tryz.prog Kf (.agg [.int .i64 x0.Node, .int .i64 x0.Ballot, .str x0.Value] :: cf) (.bool y)) (r : Bool) (h : zas s f = some r) : zb7 Tryz.prog 65 [.imm 3 (s.map TPromise.d) 4, .fn (.func Kf) cf] (.bool r) := by
 refine za2 Tryz.tmOk 2 Tryz.func65 rfl (by decide) rfl rfl (lb rfl) ?_
 intro hwf
 unfold zas at h
 refine .seq (.pl zS [0, 1] ?_)
 obtain ⟨v1, hv1, h⟩ := bind_some h
 refine .seq (.rg zS [0, 1] ?_)
 refine .rn 2 ?_
 refine .lcall (r := .int .i64 v1) [] rfl rfl rfl rfl rfl (za3 rfl (za3 (znv (h2f _)) zai)) (by show zk7 _ [.imm 3 (s.map TPromise.d) 4, .fn (.func Kf) cf] = _; simp only [zk7, ids2, List.append_nil, List.nil_append, List.cons_append, h3f]) (zgu s Kf cf hcf h2f h3f f hf v1 hv1) ?_
 refine .rn 2 ?_
 refine .nn ?_
 obtain rfl := sj h
 exact .rr
@[go_sem] def st83 (n1 : Int) : St := ⟨[(5, .int .i64 n1)], [], 0⟩
@[go_sem] def st84 (Kf : Nat) (cf : List D) (n2 : Int) (n3 : Int) : St := ⟨[(1, .fn (.func Kf) cf), (5, .int .i64 n2), (6, .int .i64 n3)], [], 0⟩
theorem zko (n : Int) (Kf : Nat) (cf : List D) (hcf : ∀ hp, zf3 hp cf = (cf, true)) (h2f : ∀ hp, zfc hp cf = (cf, true)) (h3f : ∀ hp, zk7 hp cf = []) (f : Int -> Option Bool) (hf : ∀ x0 y, f x0 = some y -> zb7 Tryz.prog Kf (.int .i64 x0 :: cf) (.bool y)) (r : Int) (h : zg4 n f = some r) : zb7 Tryz.prog 90 [.int .i64 n, .fn (.func Kf) cf] (.int .i64 r) := by
 refine za2 Tryz.tmOk 2 Tryz.func90 rfl (by decide) rfl rfl (lb rfl) ?_
 intro hwf
 unfold zg4 at h
 refine .seq (.pl zS [0, 1] ?_)
 refine .seq (.pl zS [0, 1] ?_)
 obtain ⟨x1, hx1, h⟩ := bind_some h
 refine .seqM 0 (fun (j : Int) => st83 j) (fun j => x1 = j) (lb rfl) ?_ ?_
 ·refine .block ?_
  refine .loopG 0 (fun (j : Nat × Int × Int) => st84 Kf cf j.2.1 j.2.2) (fun j => zcu f j.1 j.2.1 j.2.2 = some x1) (fun j => j.1) (n.toNat + 1, 0, n) (lb rfl) ?_ hx1 ?_
  ·refine Goes.mv [1, 5, 6] [] [] ?_ (lb rfl) (lb rfl) (by first | rfl | (simp only [idsV, idsH, zer, getL, D.ids, Blk.ids, zjx, Nat.reduceBEq, cond_true, cond_false, List.append_nil, List.nil_append, List.cons_append, zgl hcf] <;> rfl))
   first | rfl | (simp only [go_sem, Nat.reduceBEq, Nat.reduceAdd, zdj hcf]; done) | (simp only [go_sem, Nat.reduceBEq, Nat.reduceAdd, zdj hcf]; rfl)
  rintro ⟨fu1, n2, n3⟩ hx1
  simp only [st84]
  try simp only at hx1
  obtain ⟨fu1, rfl⟩ : ∃ k, fu1 = k + 1 := by cases fu1 with | zero => (rw [zcu] at hx1; cases hx1) | succ k => exact ⟨k, rfl⟩
  rw [zcu] at hx1
  refine .seq (.seq (.pl zS [1, 5, 6] ?_))
  refine .cd (fun hc1 => ?_) (fun hc1 => ?_)
  ·replace hx1 := za0 hx1 hc1
   refine .skip (.block (.seq (.pl zS [1, 5, 6] ?_)))
   refine .seq ?_
   obtain ⟨v1, hv1, hx1⟩ := bind_some hx1
   refine .rg zS [1, 5, 6, 7] ?_
   refine .rn 2 ?_
   refine .call (r := .bool v1) rfl rfl rfl rfl rfl (zc1 rfl (hcf _)) (hf _ v1 hv1) ?_
   refine .rn 1 ?_
   refine .nn ?_
   refine .cd (fun hc2 => ?_) (fun hc2 => ?_)
   ·replace hx1 := za0 hx1 hc2
    refine .pl zS [1, 6, 7] ?_
    refine ⟨(fu1, _, _), ?_, hx1, by dsimp only; omega⟩
    refine Goes.mv [1, 5, 6] [] [] ?_ (lb rfl) (lb rfl) (by first | rfl | (simp only [idsV, idsH, zer, getL, D.ids, Blk.ids, zjx, Nat.reduceBEq, cond_true, cond_false, List.append_nil, List.nil_append, List.cons_append, zgl hcf] <;> rfl))
    first | rfl | (simp only [go_sem, Nat.reduceBEq, Nat.reduceAdd, zdj hcf]; done) | (simp only [go_sem, Nat.reduceBEq, Nat.reduceAdd, zdj hcf]; rfl)
   ·replace hx1 := za1 hx1 hc2
    refine .pl zS [1, 5, 7] ?_
    refine ⟨(fu1, _, _), ?_, hx1, by dsimp only; omega⟩
    refine Goes.mv [1, 5, 6] [] [] ?_ (lb rfl) (lb rfl) (by first | rfl | (simp only [idsV, idsH, zer, getL, D.ids, Blk.ids, zjx, Nat.reduceBEq, cond_true, cond_false, List.append_nil, List.nil_append, List.cons_append, zgl hcf] <;> rfl))
    first | rfl | (simp only [go_sem, Nat.reduceBEq, Nat.reduceAdd, zdj hcf]; done) | (simp only [go_sem, Nat.reduceBEq, Nat.reduceAdd, zdj hcf]; rfl)
  ·replace hx1 := za1 hx1 hc1
   refine .exit ?_
   refine ⟨_, ?_, (sj hx1).symm⟩
   refine Goes.mv [5] [] [] ?_ (lb rfl) (lb rfl) (by first | rfl | (simp only [idsV, idsH, zer, getL, D.ids, Blk.ids, zjx, Nat.reduceBEq, cond_true, cond_false, List.append_nil, List.nil_append, List.cons_append, zgl hcf] <;> rfl))
   first | rfl | (simp only [go_sem, Nat.reduceBEq, Nat.reduceAdd, zdj hcf]; done) | (simp only [go_sem, Nat.reduceBEq, Nat.reduceAdd, zdj hcf]; rfl)
 rintro n1 hj1
 subst x1
 try dsimp only at h
 simp only [st83]
 refine .seq (.pl zS [5] ?_)
 obtain rfl := sj h
 exact .rr
theorem zlg (a0 : Int) (c0 : List Int) (c1 : Int) (r : Bool) (h : zf4 a0 c0 c1 = some r) : zb7 Tryz.prog 102 [.int .i64 a0, .iptr 0 [.imm 1 (c0.map (D.int .i64)) 4], .iptr 0 [.int .i64 c1]] (.bool r) := by
 refine za2 Tryz.tmOk 2 Tryz.func102 rfl (by decide) rfl rfl (lb rfl) ?_
 intro hwf
 unfold zf4 at h
 refine .seq (.pl zS [0, 1, 2] ?_)
 refine .seq ?_
 obtain ⟨k1, h⟩ := zaa h
 have e1 := zax (D.int .i64) c0 a0
 replace e1 := e1 k1
 refine .drx zS e1 [0, 1, 2] ?_
 obtain rfl := sj h
 exact .rr
theorem zm6 (a0 : List Int) (a1 : Int) (r : Int) (h : zfs a0 a1 = some r) : zb7 Tryz.prog 94 [.imm 1 (a0.map (D.int .i64)) 4, .int .i64 a1] (.int .i64 r) := by
 refine za2 Tryz.tmOk 4 Tryz.func94 rfl (by decide) rfl rfl (lb rfl) ?_
 intro hwf
 unfold zfs at h
 refine .seq (.pl zS [0, 1] ?_)
 obtain ⟨v1, hv1, h⟩ := bind_some h
 refine .seq (.rg zS [2, 3] ?_)
 refine .rn 3 ?_
 refine .lcall (r := .int .i64 v1) [] rfl rfl rfl rfl rfl (za3 rfl (za3 (znv (za3 (zm3 rfl (zc1 rfl zm1)) (za3 (zm3 rfl (zc1 rfl zm1)) zai))) zai)) rfl (zko (a0.length : Int) 102 [.iptr 0 [.imm 1 (a0.map (D.int .i64)) 4], .iptr 0 [.int .i64 a1]] (fun _ => rfl) (fun _ => rfl) (fun _ => rfl) (fun x0 => zf4 x0 a0 a1) (fun x0 y hy => zlg x0 a0 a1 y hy) v1 hv1) ?_
 refine .rn 1 ?_
 refine .nn ?_
 obtain rfl := sj h
 exact .rr
end Go.Proofs
end
section
namespace Go.Proofs
open Go.Tm
set_option linter.unusedVariables false
def zeu (a0 : Int) : Option Int :=
 some (bitw .and .i64 (wr .i64 (wr .u64 ((wr .u64 ((wr .u64 ((bitw .and .u64 (wr .u64 ((shw false .u64 (wr .u64 ((bitw .and .u64 (shw false .u64 (wr .u64 ((bitw .and .u64 (shw false .u64 a0 1) 6148914691236517205) + (bitw .and .u64 a0 6148914691236517205))) 2) 3689348814741910323) + (bitw .and .u64 (wr .u64 ((bitw .and .u64 (shw false .u64 a0 1) 6148914691236517205) + (bitw .and .u64 a0 6148914691236517205))) 3689348814741910323))) 4) + (wr .u64 ((bitw .and .u64 (shw false .u64 (wr .u64 ((bitw .and .u64 (shw false .u64 a0 1) 6148914691236517205) + (bitw .and .u64 a0 6148914691236517205))) 2) 3689348814741910323) + (bitw .and .u64 (wr .u64 ((bitw .and .u64 (shw false .u64 a0 1) 6148914691236517205) + (bitw .and .u64 a0 6148914691236517205))) 3689348814741910323))))) 1085102592571150095) + (shw false .u64 (bitw .and .u64 (wr .u64 ((shw false .u64 (wr .u64 ((bitw .and .u64 (shw false .u64 (wr .u64 ((bitw .and .u64 (shw false .u64 a0 1) 6148914691236517205) + (bitw .and .u64 a0 6148914691236517205))) 2) 3689348814741910323) + (bitw .and .u64 (wr .u64 ((bitw .and .u64 (shw false .u64 a0 1) 6148914691236517205) + (bitw .and .u64 a0 6148914691236517205))) 3689348814741910323))) 4) + (wr .u64 ((bitw .and .u64 (shw false .u64 (wr .u64 ((bitw .and .u64 (shw false .u64 a0 1) 6148914691236517205) + (bitw .and .u64 a0 6148914691236517205))) 2) 3689348814741910323) + (bitw .and .u64 (wr .u64 ((bitw .and .u64 (shw false .u64 a0 1) 6148914691236517205) + (bitw .and .u64 a0 6148914691236517205))) 3689348814741910323))))) 1085102592571150095) 8))) + (shw false .u64 (wr .u64 ((bitw .and .u64 (wr .u64 ((shw false .u64 (wr .u64 ((bitw .and .u64 (shw false .u64 (wr .u64 ((bitw .and .u64 (shw false .u64 a0 1) 6148914691236517205) + (bitw .and .u64 a0 6148914691236517205))) 2) 3689348814741910323) + (bitw .and .u64 (wr .u64 ((bitw .and .u64 (shw false .u64 a0 1) 6148914691236517205) + (bitw .and .u64 a0 6148914691236517205))) 3689348814741910323))) 4) + (wr .u64 ((bitw .and .u64 (shw false .u64 (wr .u64 ((bitw .and .u64 (shw false .u64 a0 1) 6148914691236517205) + (bitw .and .u64 a0 6148914691236517205))) 2) 3689348814741910323) + (bitw .and .u64 (wr .u64 ((bitw .and .u64 (shw false .u64 a0 1) 6148914691236517205) + (bitw .and .u64 a0 6148914691236517205))) 3689348814741910323))))) 1085102592571150095) + (shw false .u64 (bitw .and .u64 (wr .u64 ((shw false .u64 (wr .u64 ((bitw .and .u64 (shw false .u64 (wr .u64 ((bitw .and .u64 (shw false .u64 a0 1) 6148914691236517205) + (bitw .and .u64 a0 6148914691236517205))) 2) 3689348814741910323) + (bitw .and .u64 (wr .u64 ((bitw .and .u64 (shw false .u64 a0 1) 6148914691236517205) + (bitw .and .u64 a0 6148914691236517205))) 3689348814741910323))) 4) + (wr .u64 ((bitw .and .u64 (shw false .u64 (wr .u64 ((bitw .and .u64 (shw false .u64 a0 1) 6148914691236517205) + (bitw .and .u64 a0 6148914691236517205))) 2) 3689348814741910323) + (bitw .and .u64 (wr .u64 ((bitw .and .u64 (shw false .u64 a0 1) 6148914691236517205) + (bitw .and .u64 a0 6148914691236517205))) 3689348814741910323))))) 1085102592571150095) 8))) 16))) + (shw false .u64 (wr .u64 ((wr .u64 ((bitw .and .u64 (wr .u64 ((shw false .u64 (wr .u64 ((bitw .and .u64 (shw false .u64 (wr .u64 ((bitw .and .u64 (shw false .u64 a0 1) 6148914691236517205) + (bitw .and .u64 a0 6148914691236517205))) 2) 3689348814741910323) + (bitw .and .u64 (wr .u64 ((bitw .and .u64 (shw false .u64 a0 1) 6148914691236517205) + (bitw .and .u64 a0 6148914691236517205))) 3689348814741910323))) 4) + (wr .u64 ((bitw .and .u64 (shw false .u64 (wr .u64 ((bitw .and .u64 (shw false .u64 a0 1) 6148914691236517205) + (bitw .and .u64 a0 6148914691236517205))) 2) 3689348814741910323) + (bitw .and .u64 (wr .u64 ((bitw .and .u64 (shw false .u64 a0 1) 6148914691236517205) + (bitw .and .u64 a0 6148914691236517205))) 3689348814741910323))))) 1085102592571150095) + (shw false .u64 (bitw .and .u64 (wr .u64 ((shw false .u64 (wr .u64 ((bitw .and .u64 (shw false .u64 (wr .u64 ((bitw .and .u64 (shw false .u64 a0 1) 6148914691236517205) + (bitw .and .u64 a0 6148914691236517205))) 2) 3689348814741910323) + (bitw .and .u64 (wr .u64 ((bitw .and .u64 (shw false .u64 a0 1) 6148914691236517205) + (bitw .and .u64 a0 6148914691236517205))) 3689348814741910323))) 4) + (wr .u64 ((bitw .and .u64 (shw false .u64 (wr .u64 ((bitw .and .u64 (shw false .u64 a0 1) 6148914691236517205) + (bitw .and .u64 a0 6148914691236517205))) 2) 3689348814741910323) + (bitw .and .u64 (wr .u64 ((bitw .and .u64 (shw false .u64 a0 1) 6148914691236517205) + (bitw .and .u64 a0 6148914691236517205))) 3689348814741910323))))) 1085102592571150095) 8))) + (shw false .u64 (wr .u64 ((bitw .and .u64 (wr .u64 ((shw false .u64 (wr .u64 ((bitw .and .u64 (shw false .u64 (wr .u64 ((bitw .and .u64 (shw false .u64 a0 1) 6148914691236517205) + (bitw .and .u64 a0 6148914691236517205))) 2) 3689348814741910323) + (bitw .and .u64 (wr .u64 ((bitw .and .u64 (shw false .u64 a0 1) 6148914691236517205) + (bitw .and .u64 a0 6148914691236517205))) 3689348814741910323))) 4) + (wr .u64 ((bitw .and .u64 (shw false .u64 (wr .u64 ((bitw .and .u64 (shw false .u64 a0 1) 6148914691236517205) + (bitw .and .u64 a0 6148914691236517205))) 2) 3689348814741910323) + (bitw .and .u64 (wr .u64 ((bitw .and .u64 (shw false .u64 a0 1) 6148914691236517205) + (bitw .and .u64 a0 6148914691236517205))) 3689348814741910323))))) 1085102592571150095) + (shw false .u64 (bitw .and .u64 (wr .u64 ((shw false .u64 (wr .u64 ((bitw .and .u64 (shw false .u64 (wr .u64 ((bitw .and .u64 (shw false .u64 a0 1) 6148914691236517205) + (bitw .and .u64 a0 6148914691236517205))) 2) 3689348814741910323) + (bitw .and .u64 (wr .u64 ((bitw .and .u64 (shw false .u64 a0 1) 6148914691236517205) + (bitw .and .u64 a0 6148914691236517205))) 3689348814741910323))) 4) + (wr .u64 ((bitw .and .u64 (shw false .u64 (wr .u64 ((bitw .and .u64 (shw false .u64 a0 1) 6148914691236517205) + (bitw .and .u64 a0 6148914691236517205))) 2) 3689348814741910323) + (bitw .and .u64 (wr .u64 ((bitw .and .u64 (shw false .u64 a0 1) 6148914691236517205) + (bitw .and .u64 a0 6148914691236517205))) 3689348814741910323))))) 1085102592571150095) 8))) 16))) 32)))) 127)
def zel (a0 : Int) : Option Int :=
 Option.bind (zeu a0) fun v1 =>
 some v1
end Go.Proofs
end
section
namespace Go.Proofs
open Go.Tm Go.RowKit Go.WideShapes
set_option maxRecDepth 100000
set_option maxHeartbeats 4000000
set_option linter.unusedSimpArgs false
set_option linter.unusedVariables false
theorem zjh (a0 : Int) (r : Int) (h : zeu a0 = some r) : zb7 Tryz.prog 106 [.int .u64 a0] (.int .i64 r) := by
 refine za2 Tryz.tmOk 2 Tryz.func106 rfl (by decide) rfl rfl (lb rfl) ?_
 intro hwf
 unfold zeu at h
 refine .seq (.pl zS [0] ?_)
 refine .seq (.pl zS [0] ?_)
 refine .seq (.pl zS [0] ?_)
 refine .seq (.pl zS [0] ?_)
 refine .seq (.pl zS [0] ?_)
 refine .seq (.pl zS [0] ?_)
 refine .seq (.pl zS [0] ?_)
 refine .seq (.pl zS [0] ?_)
 obtain rfl := sj h
 exact .rr
theorem zke (a0 : Int) (r : Int) (h : zel a0 = some r) : zb7 Tryz.prog 97 [.int .u64 a0] (.int .i64 r) := by
 refine za2 Tryz.tmOk 2 Tryz.func97 rfl (by decide) rfl rfl (lb rfl) ?_
 intro hwf
 unfold zel at h
 refine .seq (.pl zS [0] ?_)
 refine .seq ?_
 refine .cond rfl rfl (fun hc => by cases hc) (fun hc => ?_)
 refine .skip ?_
 obtain ⟨v1, hv1, h⟩ := bind_some h
 refine .seq (.rg zS [0] ?_)
 refine .rn 1 ?_
 refine .cl (zjh a0 v1 hv1) ?_
 refine .rn 1 ?_
 refine .nn ?_
 obtain rfl := sj h
 exact .rr
end Go.Proofs
end
section
namespace Go.Proofs
open Go.Tm
set_option linter.unusedVariables false
def zdv : List Int -> Int -> Option (Int)
 | [], n2 =>
  some n2
 | y1 :: rest1, n2 =>
  Option.bind (α := Int) (if (y1 >= 0) /\ (y1 < 6) then
  if 0 <= y1 then
  some (bitw .or .u64 n2 (shw true .u64 1 (y1)))
  else none
  else
  some n2) fun n4 =>
  zdv rest1 n4
def zhd (a0 : List Int) : Option Int :=
 Option.bind (α := Int) (zdv a0 0) fun n1 =>
 some n1
def zho (a0 : List Int) (a1 : List Int) : Option (Bool × Int) :=
 Option.bind (ziu a0) fun v1 =>
 if ¬ (v1.2 = 0) then
 some (false, v1.2)
 else
 if (a1.length : Int) > 1000 then
 some (false, 4)
 else
 Option.bind (zhd a0) fun v2 =>
 Option.bind (zhd a1) fun v3 =>
 Option.bind (zel (bitw .and .u64 v2 v3)) fun v4 =>
 some ((decide (v4 >= v1.1)), 0)
def zde (a0 : List Int) (a1 : List Int) : Option Bool :=
 Option.bind (zho a0 a1) fun v1 =>
 some v1.1
def zee (a0 : TAttempt) (a1 : TAttempt) : Option Bool :=
 Option.bind (if (a0.Phase = a1.Phase) /\ (a0.Ballot = a1.Ballot) then zbr a0.Members a1.Members else some default) fun v1 =>
 Option.bind (if ((((a0.Phase = a1.Phase) /\ (a0.Ballot = a1.Ballot)) /\ (v1 = true)) /\ (a0.Wish = a1.Wish)) /\ (a0.Value = a1.Value) then zc9 a0.Promises a1.Promises else some default) fun v2 =>
 Option.bind (if (((((a0.Phase = a1.Phase) /\ (a0.Ballot = a1.Ballot)) /\ (v1 = true)) /\ (a0.Wish = a1.Wish)) /\ (a0.Value = a1.Value)) /\ (v2 = true) then zbr a0.Accepted a1.Accepted else some default) fun v3 =>
 some (((((((a0.Phase == a1.Phase) && (a0.Ballot == a1.Ballot)) && v1) && (a0.Wish == a1.Wish)) && (a0.Value == a1.Value)) && v2) && v3)
def zar (a1 : TAttempt) : List TPromise -> Nat -> Option (Bool ⊕ Unit)
 | [], n1 =>
  some (.inr ())
 | y1 :: rest1, n1 =>
  if n1 < a1.Promises.length then
  if ¬ ((y1.Node = (a1.Promises.getD n1 default).Node) /\ (y1.Ballot = (a1.Promises.getD n1 default).Ballot) /\ (y1.Value = (a1.Promises.getD n1 default).Value)) then
  some (.inl false)
  else
  zar a1 rest1 (n1 + 1) 
  else none
def zej (a0 : TAttempt) (a1 : TAttempt) : Option Bool :=
 Option.bind (if ¬ ((¬ (a0.Phase = a1.Phase)) \/ (¬ (a0.Ballot = a1.Ballot))) then zaq a0.Members a1.Members else some default) fun v1 =>
 Option.bind (if ¬ ((((((¬ (a0.Phase = a1.Phase)) \/ (¬ (a0.Ballot = a1.Ballot))) \/ (¬ (v1 = true))) \/ (¬ (a0.Wish = a1.Wish))) \/ (¬ (a0.Value = a1.Value))) \/ (¬ ((a0.Promises.length : Int) = (a1.Promises.length : Int)))) then zaq a0.Accepted a1.Accepted else some default) fun v2 =>
 if ((((((¬ (a0.Phase = a1.Phase)) \/ (¬ (a0.Ballot = a1.Ballot))) \/ (¬ (v1 = true))) \/ (¬ (a0.Wish = a1.Wish))) \/ (¬ (a0.Value = a1.Value))) \/ (¬ ((a0.Promises.length : Int) = (a1.Promises.length : Int)))) \/ (¬ (v2 = true)) then
 some false
 else
 Option.bind (α := Bool ⊕ Unit) (zar a1 a0.Promises 0 ) fun z => match z with
 | (.inl r) => some r
 | (.inr _) =>
 some true
def zc8 (a0 : TAttempt) : Option TAttempt :=
 if a0.Members.length * 8 <= 140737488355328 then
 if a0.Promises.length * 32 <= 140737488355328 then
 if a0.Accepted.length * 8 <= 140737488355328 then
 some a0
 else none
 else none
 else none
end Go.Proofs
end
section
namespace Go.Proofs
open Go.Tm Go.RowKit Go.WideShapes
set_option maxRecDepth 100000
set_option maxHeartbeats 4000000
set_option linter.unusedSimpArgs false
set_option linter.unusedVariables false
@[go_sem] def st64 (n1 : Int) : St := ⟨[(2, .int .u64 n1)], [], 0⟩
@[go_sem] def st65 (a0 : List Int) (n3 : Nat) (n2 : Int) : St := ⟨[(2, .int .u64 n2), (5, .imm 1 (a0.map (D.int .i64)) 4), (6, .int .i64 (a0.length : Int)), (7, .int .i64 (n3 : Int))], [], 0⟩
@[go_sem] def st66 (a0 : List Int) (n3 : Nat) (n4 : Int) : St := ⟨[(2, .int .u64 n4), (5, .imm 1 (a0.map (D.int .i64)) 4), (6, .int .i64 (a0.length : Int)), (7, .int .i64 (n3 : Int))], [], 0⟩
theorem zln (a0 : List Int) (r : Int) (h : zhd a0 = some r) : zb7 Tryz.prog 98 [.imm 1 (a0.map (D.int .i64)) 4] (.int .u64 r) := by
 refine za2 Tryz.tmOk 2 Tryz.func98 rfl (by decide) rfl rfl (lb rfl) ?_
 intro hwf
 unfold zhd at h
 refine .seq (.pl zS [0] ?_)
 obtain ⟨x1, hx1, h⟩ := bind_some h
 refine .seqM 0 (fun (j : Int) => st64 j) (fun j => x1 = j) (lb rfl) ?_ ?_
 refine .seq (.pl zS [0, 2] ?_)
 refine .block ?_
 refine .loopG 0 (fun (j : Nat × Int) => st65 a0 j.1 j.2) (fun j => j.1 <= a0.length /\ zdv (a0.drop j.1) j.2 = some x1) (fun j => a0.length - j.1) (0, 0) (lb rfl) ?_ ⟨Nat.zero_le _, hx1⟩ ?_
 exact .m [2, 5, 6, 7] [] []
 rintro ⟨n3, n2⟩ ⟨hi1, hx1⟩
 simp only [st65]
 simp only at hi1 hx1
 refine .wf 6 (.int .i64 (a0.length : Int)) rfl ?_
 intro hln3
 replace hln3 : (a0.length : Int) <= 9223372036854775807 := by simp only [wf, wfL, IntKind.max, IntKind.min, IntKind.signed, IntKind.bits, List.length_map] at hln3; first | exact hln3.2 | exact hln3.1 | (simp at hln3; omega)
 refine .seq (.pl zS [2, 5, 6, 7] ?_)
 refine .seq (.cd (fun hc1 => ?_) (fun hc1 => ?_))
 have h1 : n3 < a0.length := by simpa using hc1
 have hwn3 : wr .i64 ((n3 : Int) + 1) = ((n3 + 1 : Nat) : Int) := zbx h1 hln3
 have hpn3 : wr .i64 ((n3 : Int) - 1) = (n3 : Int) - 1 := zcm h1 hln3
 rw [List.drop_eq_getElem_cons h1, zdv] at hx1
 refine .skip ?_
 obtain ⟨x2, hx2, hx1⟩ := bind_some hx1
 refine .seqM 0 (fun (j : Int) => st66 a0 n3 j) (fun j => x2 = j) (lb rfl) ?_ ?_
 refine .block (.seq ?_)
 have e1 := zbj (D.int .i64) a0 n3 h1
 refine .plx zS (ai e1 hwn3) [2, 5, 6, 7] ?_
 refine .seq (.plx zS hwn3 [2, 4, 5, 6, 7] ?_)
 refine .cd (fun hc2 => ?_) (fun hc2 => ?_)
 replace hx2 := za0 hx2 hc2
 obtain ⟨k1, hx2⟩ := zaa hx2
 refine .plx zS hwn3 [2, 4, 5, 6, 7] ?_
 refine ⟨_, ?_, (sj hx2).symm⟩
 exact .m [2, 5, 6, 7] [] []
 replace hx2 := za1 hx2 hc2
 refine .skip ?_
 refine ⟨_, ?_, (sj hx2).symm⟩
 exact .m [2, 5, 6, 7] [] []
 rintro n4 hj1
 subst x2
 try dsimp only at hx1
 simp only [st66]
 refine .plx zS hwn3 [2, 5, 6, 7] ?_
 refine ⟨(n3 + 1, _), ?_, ⟨by omega, hx1⟩, by dsimp only; omega⟩
 exact .m [2, 5, 6, 7] [] []
 have h2 : n3 = a0.length := by have h2b := of_decide_eq_false hc1; omega
 rw [List.drop_of_length_le (by omega), zdv] at hx1
 refine .exit ?_
 refine ⟨_, ?_, (sj hx1).symm⟩
 exact .m [2] [] []
 rintro n1 hj2
 subst x1
 try dsimp only at h
 simp only [st64]
 refine .seq (.pl zS [2] ?_)
 obtain rfl := sj h
 exact .rr
theorem zou (a0 : List Int) (a1 : List Int) (r : Bool × Int) (h : zho a0 a1 = some r) : zb7 Tryz.prog 88 [.imm 1 (a0.map (D.int .i64)) 4, .imm 1 (a1.map (D.int .i64)) 4] (.tuple [.bool r.1, .int .i64 r.2]) := by
 refine za2 Tryz.tmOk 2 Tryz.func88 rfl (by decide) rfl rfl (lb rfl) ?_
 intro hwf
 unfold zho at h
 refine .seq (.pl zS [0, 1] ?_)
 obtain ⟨v1, hv1, h⟩ := bind_some h
 refine .seq (.rg zS [0, 1] ?_)
 refine .rn 1 ?_
 refine .cl (zot a0 v1 hv1) ?_
 refine .rn 5 ?_
 refine .nn ?_
 refine .seq (.seq (.pl zS [0, 1, 6, 7] ?_))
 refine .cd (fun hc1 => ?_) (fun hc1 => ?_)
 replace h := za0 h hc1
 refine .seq (.pl zS [7] ?_)
 obtain rfl := sj h
 exact .rr
 replace h := za1 h hc1
 refine .skip (.seq (.seq (.pl zS [0, 1, 6] ?_)))
 refine .cd (fun hc2 => ?_) (fun hc2 => ?_)
 replace h := za0 h hc2
 refine .seq (.pl zS [] ?_)
 obtain rfl := sj h
 exact .rr
 replace h := za1 h hc2
 refine .skip ?_
 obtain ⟨v2, hv2, h⟩ := bind_some h
 obtain ⟨v3, hv3, h⟩ := bind_some h
 obtain ⟨v4, hv4, h⟩ := bind_some h
 refine .seq (.rg zS [0, 1, 6] ?_)
 refine .rn 1 ?_
 refine .cl (zln a0 v2 hv2) ?_
 refine .rn 1 ?_
 refine .cl (zln a1 v3 hv3) ?_
 refine .rn 1 ?_
 refine .cl (zke (bitw .and .u64 v2 v3) v4 hv4) ?_
 refine .rn 4 ?_
 refine .nn ?_
 obtain rfl := sj h
 exact .rr
theorem zgg (a0 : List Int) (a1 : List Int) (r : Bool) (h : zde a0 a1 = some r) : zb7 Tryz.prog 68 [.imm 1 (a0.map (D.int .i64)) 4, .imm 1 (a1.map (D.int .i64)) 4] (.bool r) := by
 refine za2 Tryz.tmOk 2 Tryz.func68 rfl (by decide) rfl rfl (lb rfl) ?_
 intro hwf
 unfold zde at h
 refine .seq (.pl zS [0, 1] ?_)
 obtain ⟨v1, hv1, h⟩ := bind_some h
 refine .seq (.rg zS [0, 1] ?_)
 refine .rn 2 ?_
 refine .cl (zou a0 a1 v1 hv1) ?_
 refine .rn 5 ?_
 refine .nn ?_
 refine .seq (.pl zS [5] ?_)
 obtain rfl := sj h
 exact .rr
theorem zk3 (a0 : TAttempt) (a1 : TAttempt) (r : Bool) (h : zee a0 a1 = some r) : zb7 Tryz.prog 43 [.agg [.int .u8 a0.Phase, .int .i64 a0.Ballot, .imm 1 (a0.Members.map (D.int .i64)) 4, .str a0.Wish, .str a0.Value, .imm 3 (a0.Promises.map TPromise.d) 4, .imm 1 (a0.Accepted.map (D.int .i64)) 4], .agg [.int .u8 a1.Phase, .int .i64 a1.Ballot, .imm 1 (a1.Members.map (D.int .i64)) 4, .str a1.Wish, .str a1.Value, .imm 3 (a1.Promises.map TPromise.d) 4, .imm 1 (a1.Accepted.map (D.int .i64)) 4]] (.bool r) := by
 refine za2 Tryz.tmOk 4 Tryz.func43 rfl (by decide) rfl rfl (lb rfl) ?_
 intro hwf
 unfold zee at h
 refine .seq (.pl zS [0, 1] ?_)
 obtain ⟨v1, hv1, h⟩ := bind_some h
 obtain ⟨v2, hv2, h⟩ := bind_some h
 obtain ⟨v3, hv3, h⟩ := bind_some h
 refine .seq (.rg zS [2, 3] ?_)
 refine .rn 6 ?_
 refine .rn 6 ?_
 refine .rn 5 ?_
 refine .gcall rfl rfl rfl rfl rfl (fun hg => ⟨[], [.imm 1 (a0.Members.map (D.int .i64)) 4, .imm 1 (a1.Members.map (D.int .i64)) 4], _, rfl, gd hg, rfl, (ze3 a0.Members a1.Members v1 (za0 hv1 hg))⟩) ?_
 refine .rn 6 ?_
 refine .rn 6 ?_
 refine .rn 8 ?_
 refine .gcall rfl rfl rfl rfl rfl (fun hg => ⟨[], [.imm 3 (a0.Promises.map TPromise.d) 4, .imm 3 (a1.Promises.map TPromise.d) 4], _, rfl, gd hg, rfl, (zhi a0.Promises a1.Promises v2 (za0 hv2 hg))⟩) ?_
 refine .rn 6 ?_
 refine .gcall rfl rfl rfl rfl rfl (fun hg => ⟨[], [.imm 1 (a0.Accepted.map (D.int .i64)) 4, .imm 1 (a1.Accepted.map (D.int .i64)) 4], _, rfl, gd hg, rfl, (ze3 a0.Accepted a1.Accepted v3 (za0 hv3 hg))⟩) ?_
 refine .rn 2 ?_
 refine .nn ?_
 obtain rfl := sj h
 exact .rr
@[go_sem] def ya40 : St := ⟨[], [], 2⟩
@[go_sem] def ya3z (a0 : TAttempt) (a1 : TAttempt) (n1 : Nat) : St := ⟨[(2, .ptr 0 0), (3, .ptr 1 0), (5, .int .i64 (n1 : Int))], [(0, .box [.int .u8 a0.Phase, .int .i64 a0.Ballot, .imm 1 (a0.Members.map (D.int .i64)) 4, .str a0.Wish, .str a0.Value, .imm 3 (a0.Promises.map TPromise.d) 4, .imm 1 (a0.Accepted.map (D.int .i64)) 4]), (1, .box [.int .u8 a1.Phase, .int .i64 a1.Ballot, .imm 1 (a1.Members.map (D.int .i64)) 4, .str a1.Wish, .str a1.Value, .imm 3 (a1.Promises.map TPromise.d) 4, .imm 1 (a1.Accepted.map (D.int .i64)) 4])], 2⟩
theorem zkc (a0 : TAttempt) (a1 : TAttempt) (r : Bool) (h : zej a0 a1 = some r) : zb7 Tryz.prog 30 [.agg [.int .u8 a0.Phase, .int .i64 a0.Ballot, .imm 1 (a0.Members.map (D.int .i64)) 4, .str a0.Wish, .str a0.Value, .imm 3 (a0.Promises.map TPromise.d) 4, .imm 1 (a0.Accepted.map (D.int .i64)) 4], .agg [.int .u8 a1.Phase, .int .i64 a1.Ballot, .imm 1 (a1.Members.map (D.int .i64)) 4, .str a1.Wish, .str a1.Value, .imm 3 (a1.Promises.map TPromise.d) 4, .imm 1 (a1.Accepted.map (D.int .i64)) 4]] (.bool r) := by
 refine za2 Tryz.tmOk 4 Tryz.func30 rfl (by decide) rfl rfl (lb rfl) ?_
 intro hwf
 unfold zej at h
 refine .seq (.pl zS [0, 1] ?_)
 refine .seq ?_
 obtain ⟨v1, hv1, h⟩ := bind_some h
 obtain ⟨v2, hv2, h⟩ := bind_some h
 refine .seq (.rg zS [2, 3] ?_)
 refine .rn 6 ?_
 refine .rn 6 ?_
 refine .rn 5 ?_
 refine .gcall rfl rfl rfl rfl rfl (fun hg => ⟨[], [.imm 1 (a0.Members.map (D.int .i64)) 4, .imm 1 (a1.Members.map (D.int .i64)) 4], _, rfl, gd hg, rfl, (zdh a0.Members a1.Members v1 (za0 hv1 hg))⟩) ?_
 refine .rn 6 ?_
 refine .rn 6 ?_
 refine .rn 6 ?_
 refine .rn 6 ?_
 refine .rn 6 ?_
 refine .gcall rfl rfl rfl rfl rfl (fun hg => ⟨[], [.imm 1 (a0.Accepted.map (D.int .i64)) 4, .imm 1 (a1.Accepted.map (D.int .i64)) 4], _, rfl, gd hg, rfl, (zdh a0.Accepted a1.Accepted v2 (za0 hv2 hg))⟩) ?_
 refine .rn 2 ?_
 refine .nn ?_
 refine .cd (fun hc1 => ?_) (fun hc1 => ?_)
 replace h := za0 h hc1
 refine .seq (.pl zS [] ?_)
 obtain rfl := sj h
 exact .rr
 replace h := za1 h hc1
 obtain ⟨x1, hx1, h⟩ := bind_some h
 refine .skip ?_
 refine .seqM 2 (fun (j : Unit) => ya40) (fun j => x1 = (.inr j)) (lb rfl) ?_ ?_
 refine .seq (.pl zS [2, 3] ?_)
 refine .block ?_
 refine .loopG 2 (fun (j : Nat) => ya3z a0 a1 j) (fun j => j <= a0.Promises.length /\ zar a1 (a0.Promises.drop j) j  = some x1) (fun j => a0.Promises.length - j) (0) (lb rfl) ?_ ⟨Nat.zero_le _, hx1⟩ ?_
 exact .m [2, 3, 5] [0, 1] []
 rintro n1 ⟨hi1, hx1⟩
 simp only [ya3z]
 refine .wfb 0 [.int .u8 a0.Phase, .int .i64 a0.Ballot, .imm 1 (a0.Members.map (D.int .i64)) 4, .str a0.Wish, .str a0.Value, .imm 3 (a0.Promises.map TPromise.d) 4, .imm 1 (a0.Accepted.map (D.int .i64)) 4] rfl ?_
 intro hln1
 replace hln1 : (a0.Promises.length : Int) <= 9223372036854775807 := by simp only [wf, wfL, IntKind.max, IntKind.min, IntKind.signed, IntKind.bits, List.length_map] at hln1; first | exact hln1.2 | exact hln1.1 | (simp at hln1; omega)
 refine .seq (.seq (.pl zS [2, 3, 5] ?_))
 refine .cd (fun hc2 => ?_) (fun hc2 => ?_)
 have h1 : n1 < a0.Promises.length := by simpa using hc2
 have hwn1 : wr .i64 ((n1 : Int) + 1) = ((n1 + 1 : Nat) : Int) := zbx h1 hln1
 have hpn1 : wr .i64 ((n1 : Int) - 1) = (n1 : Int) - 1 := zcm h1 hln1
 rw [List.drop_eq_getElem_cons h1, zar] at hx1
 refine .skip (.seq (.block (.seq ?_)))
 obtain ⟨k1, hx1⟩ := zaa hx1
 have e1 := zbj TPromise.d a0.Promises n1 h1
 have e2 := zf8 TPromise.d a1.Promises n1
 replace e2 := e2 k1
 refine .rg zS [2, 3, 5] ?_
 refine .rdx 6 (ai e1 (ai e2 hwn1)) ?_
 refine .rdx 5 (ai e1 (ai e2 hwn1)) ?_
 refine .nd ?_
 refine .cd (fun hc3 => ?_) (fun hc3 => ?_)
 replace hx1 := za0 hx1 hc3
 refine .seq (.plx zS hwn1 [] ?_)
 have hq := sj hx1
 subst x1
 try dsimp only at h
 obtain rfl := sj h
 exact .rr
 replace hx1 := za1 hx1 hc3
 refine .skip (.plx zS hwn1 [2, 3, 5] ?_)
 refine ⟨n1 + 1, ?_, ⟨by omega, hx1⟩, by dsimp only; omega⟩
 exact .m [2, 3, 5] [0, 1] []
 have h2 : n1 = a0.Promises.length := by have h2b := of_decide_eq_false hc2; omega
 rw [List.drop_of_length_le (by omega), zar] at hx1
 refine .exit ?_
 refine ⟨_, ?_, (sj hx1).symm⟩
 exact .m [] [] []
 rintro ⟨⟩ hj1
 subst x1
 try dsimp only at h
 simp only [ya40]
 refine .seq (.pl zS [] ?_)
 obtain rfl := sj h
 exact .rr
@[go_sem] def st21 (r : TAttempt) : St := ⟨[(2, .ptr 3 0)], [(0, .arr 3 1 true (r.Members.map (D.int .i64))), (1, .arr 83 3 true (r.Promises.map TPromise.d)), (2, .arr 3 1 true (r.Accepted.map (D.int .i64))), (3, .box [.int .u8 r.Phase, .int .i64 r.Ballot, .ref 0 1 0 r.Members.length (some uC), .str r.Wish, .str r.Value, .ref 1 3 0 r.Promises.length (some uC), .ref 2 1 0 r.Accepted.length (some uC)])], 4⟩
theorem zfo (a0 : TAttempt) (r : TAttempt) (h : zc8 a0 = some r) : zd1 Tryz.prog 15 [.agg [.int .u8 a0.Phase, .int .i64 a0.Ballot, .imm 1 (a0.Members.map (D.int .i64)) 4, .str a0.Wish, .str a0.Value, .imm 3 (a0.Promises.map TPromise.d) 4, .imm 1 (a0.Accepted.map (D.int .i64)) 4]] [] (.agg [.int .u8 r.Phase, .int .i64 r.Ballot, .ref 0 1 0 r.Members.length (some uC), .str r.Wish, .str r.Value, .ref 1 3 0 r.Promises.length (some uC), .ref 2 1 0 r.Accepted.length (some uC)]) [(0, some (.arr 3 1 true (r.Members.map (D.int .i64)))), (1, some (.arr 83 3 true (r.Promises.map TPromise.d))), (2, some (.arr 3 1 true (r.Accepted.map (D.int .i64))))] (0, 8) := by
 refine zab Tryz.tmOk Tryz.func15 rfl (by decide) (lb rfl) (by simp) ?_
 intro hwf
 unfold zc8 at h
 refine .ends 0 (Nat.le_refl _) ?_
 refine .seq (.pl zS [0] ?_)
 refine .seq (.pl zS [1, 2] ?_)
 obtain ⟨k1, h⟩ := zaa h
 refine .seqM 3 (fun (_ : Unit) => ⟨[(1, .ptr 0 0), (2, .ptr 1 0), (3, .ptr 2 0)], [(0, .box [.int .u8 a0.Phase, .int .i64 a0.Ballot, .imm 1 (a0.Members.map (D.int .i64)) 4, .str a0.Wish, .str a0.Value, .imm 3 (a0.Promises.map TPromise.d) 4, .imm 1 (a0.Accepted.map (D.int .i64)) 4]), (1, .box [.int .u8 0, .int .i64 0, .imm 0 [] 0, .str [], .str [], .imm 0 [] 0, .imm 0 [] 0]), (2, .box [.int .u8 a0.Phase, .int .i64 a0.Ballot, .ref 3 1 0 a0.Members.length (some uC), .str a0.Wish, .str a0.Value, .imm 3 (a0.Promises.map TPromise.d) 4, .imm 1 (a0.Accepted.map (D.int .i64)) 4]), (3, .arr 3 1 true (a0.Members.map (D.int .i64)))], 4⟩) (fun _ => True) (lb rfl) ?_ (fun _ _ => ?_)
 rcases zb5 a0.Members with hE1 | ⟨y, ys, hE1⟩
 have hM1 : a0.Members.map (D.int .i64) = [] := by rw [hE1]; simp
 refine .px zS (apn hM1) [1, 2, 3] ?_
 refine ⟨(), ?_, trivial⟩
 refine Goes.new0 1 3 (lb rfl) ?_
 refine Goes.boxs 2 _ [.int .u8 a0.Phase, .int .i64 a0.Ballot, .ref 3 1 0 0 (some uC), .str a0.Wish, .str a0.Value, .imm 3 (a0.Promises.map TPromise.d) 4, .imm 1 (a0.Accepted.map (D.int .i64)) 4] rfl (.keep (.keep (.cons (.own0 3 _ _ _ (by decide)) (.refl _)))) ?_
 exact .mx hE1 [1, 2, 3] [0, 1, 2, 3] []
 have hM1 : a0.Members.map (D.int .i64) ≠ [] := by rw [hE1]; simp
 refine .px zS (apc hM1) [1, 2, 3] ?_
 refine ⟨(), ?_, trivial⟩
 refine Goes.boxs 2 _ [.int .u8 a0.Phase, .int .i64 a0.Ballot, .ref 3 1 0 a0.Members.length (some uC), .str a0.Wish, .str a0.Value, .imm 3 (a0.Promises.map TPromise.d) 4, .imm 1 (a0.Accepted.map (D.int .i64)) 4] rfl (.keep (.keep (.cons (.unk _ _ _ _ _) (.refl _)))) ?_
 exact .mx hE1 [1, 2, 3] [0, 1, 2, 3] []
 obtain ⟨k2, h⟩ := zaa h
 refine .seqM 4 (fun (_ : Unit) => ⟨[(1, .ptr 0 0), (2, .ptr 1 0), (3, .ptr 2 0)], [(0, .box [.int .u8 a0.Phase, .int .i64 a0.Ballot, .imm 1 (a0.Members.map (D.int .i64)) 4, .str a0.Wish, .str a0.Value, .imm 3 (a0.Promises.map TPromise.d) 4, .imm 1 (a0.Accepted.map (D.int .i64)) 4]), (1, .box [.int .u8 0, .int .i64 0, .imm 0 [] 0, .str [], .str [], .imm 0 [] 0, .imm 0 [] 0]), (2, .box [.int .u8 a0.Phase, .int .i64 a0.Ballot, .ref 3 1 0 a0.Members.length (some uC), .str a0.Wish, .str a0.Value, .ref 4 3 0 a0.Promises.length (some uC), .imm 1 (a0.Accepted.map (D.int .i64)) 4]), (3, .arr 3 1 true (a0.Members.map (D.int .i64))), (4, .arr 83 3 true (a0.Promises.map TPromise.d))], 5⟩) (fun _ => True) (lb rfl) ?_ (fun _ _ => ?_)
 rcases zb5 a0.Promises with hE2 | ⟨y, ys, hE2⟩
 have hM2 : a0.Promises.map TPromise.d = [] := by rw [hE2]; simp
 refine .px zS (apn hM2) [1, 2, 3] ?_
 refine ⟨(), ?_, trivial⟩
 refine Goes.new0 3 83 (lb rfl) ?_
 refine Goes.boxs 2 _ [.int .u8 a0.Phase, .int .i64 a0.Ballot, .ref 3 1 0 a0.Members.length (some uC), .str a0.Wish, .str a0.Value, .ref 4 3 0 0 (some uC), .imm 1 (a0.Accepted.map (D.int .i64)) 4] rfl (.keep (.keep (.keep (.keep (.keep (.cons (.own0 4 _ _ _ (by decide)) (.refl _))))))) ?_
 exact .mx hE2 [1, 2, 3] [0, 1, 2, 3, 4] []
 have hM2 : a0.Promises.map TPromise.d ≠ [] := by rw [hE2]; simp
 refine .px zS (apc hM2) [1, 2, 3] ?_
 refine ⟨(), ?_, trivial⟩
 refine Goes.boxs 2 _ [.int .u8 a0.Phase, .int .i64 a0.Ballot, .ref 3 1 0 a0.Members.length (some uC), .str a0.Wish, .str a0.Value, .ref 4 3 0 a0.Promises.length (some uC), .imm 1 (a0.Accepted.map (D.int .i64)) 4] rfl (.keep (.keep (.keep (.keep (.keep (.cons (.unk _ _ _ _ _) (.refl _))))))) ?_
 exact .mx hE2 [1, 2, 3] [0, 1, 2, 3, 4] []
 obtain ⟨k3, h⟩ := zaa h
 refine .seqM 5 (fun (_ : Unit) => ⟨[(2, .ptr 1 0), (3, .ptr 2 0)], [(1, .box [.int .u8 0, .int .i64 0, .imm 0 [] 0, .str [], .str [], .imm 0 [] 0, .imm 0 [] 0]), (2, .box [.int .u8 a0.Phase, .int .i64 a0.Ballot, .ref 3 1 0 a0.Members.length (some uC), .str a0.Wish, .str a0.Value, .ref 4 3 0 a0.Promises.length (some uC), .ref 5 1 0 a0.Accepted.length (some uC)]), (3, .arr 3 1 true (a0.Members.map (D.int .i64))), (4, .arr 83 3 true (a0.Promises.map TPromise.d)), (5, .arr 3 1 true (a0.Accepted.map (D.int .i64)))], 6⟩) (fun _ => True) (lb rfl) ?_ (fun _ _ => ?_)
 rcases zb5 a0.Accepted with hE3 | ⟨y, ys, hE3⟩
 have hM3 : a0.Accepted.map (D.int .i64) = [] := by rw [hE3]; simp
 refine .px zS (apn hM3) [1, 2, 3] ?_
 refine ⟨(), ?_, trivial⟩
 refine Goes.new0 1 3 (lb rfl) ?_
 refine Goes.boxs 2 _ [.int .u8 a0.Phase, .int .i64 a0.Ballot, .ref 3 1 0 a0.Members.length (some uC), .str a0.Wish, .str a0.Value, .ref 4 3 0 a0.Promises.length (some uC), .ref 5 1 0 0 (some uC)] rfl (.keep (.keep (.keep (.keep (.keep (.keep (.cons (.own0 5 _ _ _ (by decide)) (.refl _)))))))) ?_
 exact .mx hE3 [2, 3] [1, 2, 3, 4, 5] []
 have hM3 : a0.Accepted.map (D.int .i64) ≠ [] := by rw [hE3]; simp
 refine .px zS (apc hM3) [1, 2, 3] ?_
 refine ⟨(), ?_, trivial⟩
 refine Goes.boxs 2 _ [.int .u8 a0.Phase, .int .i64 a0.Ballot, .ref 3 1 0 a0.Members.length (some uC), .str a0.Wish, .str a0.Value, .ref 4 3 0 a0.Promises.length (some uC), .ref 5 1 0 a0.Accepted.length (some uC)] rfl (.keep (.keep (.keep (.keep (.keep (.keep (.cons (.unk _ _ _ _ _) (.refl _)))))))) ?_
 exact .mx hE3 [2, 3] [1, 2, 3, 4, 5] []
 refine .seq (.pl zS [2, 3] ?_)
 obtain rfl := sj h
 refine .ret ⟨st21 a0, ?_, .inr rfl, retH [2, 1, 0] ?_ ?_⟩
 exact .m [2] [3, 4, 5, 1] [(3, 0), (4, 1), (5, 2), (1, 3)]
 exact rsi0
 rfl
theorem zkb (a0 : TAttempt) (r : TAttempt) (h : zc8 a0 = some r) : zb7 Tryz.prog 15 [.agg [.int .u8 a0.Phase, .int .i64 a0.Ballot, .imm 1 (a0.Members.map (D.int .i64)) 4, .str a0.Wish, .str a0.Value, .imm 3 (a0.Promises.map TPromise.d) 4, .imm 1 (a0.Accepted.map (D.int .i64)) 4]] (.agg [.int .u8 r.Phase, .int .i64 r.Ballot, .imm 1 (r.Members.map (D.int .i64)) 13, .str r.Wish, .str r.Value, .imm 3 (r.Promises.map TPromise.d) 13, .imm 1 (r.Accepted.map (D.int .i64)) 13]) :=
 zg8 (zk8 (za4 rfl (za4 rfl (za4 (zbw zcd rfl rfl) (za4 rfl (za4 rfl (za4 (zbw zdk rfl rfl) (za4 (zbw zcd rfl rfl) zfi)))))))) (zfo a0 r h)
end Go.Proofs
end
section
namespace Go.Proofs
open Go.Tm
set_option linter.unusedVariables false
def zb9 (a0 : TAttempt) : List TPromise -> Option (Bool ⊕ Unit)
 | [] =>
  some (.inr ())
 | y1 :: rest1 =>
  Option.bind (zc0 (y1) a0.Ballot) fun v6 =>
  if ¬ (v6 = true) then
  some (.inl false)
  else
  zb9 a0 rest1 
def zd2 (a0 : TAttempt) : Option Bool :=
 if a0.Phase = 0 then
 some ((((((a0.Ballot == 0) && ((a0.Members.length : Int) == 0)) && (a0.Wish == [])) && (a0.Value == [])) && ((a0.Promises.length : Int) == 0)) && ((a0.Accepted.length : Int) == 0))
 else
 Option.bind (if ¬ (a0.Phase > 3) then zbc a0.Ballot else some default) fun v1 =>
 Option.bind (if ¬ ((a0.Phase > 3) \/ (¬ (v1 = true))) then zci a0.Members else some default) fun v2 =>
 Option.bind (if ¬ ((((a0.Phase > 3) \/ (¬ (v1 = true))) \/ (¬ (v2 = true))) \/ ((a0.Wish.length : Int) > 1024)) then zbq a0.Promises else some default) fun v3 =>
 Option.bind (if ¬ ((((a0.Phase > 3) \/ (¬ (v1 = true))) \/ (¬ (v2 = true))) \/ ((a0.Wish.length : Int) > 1024)) then zcy v3 a0.Members else some default) fun v4 =>
 Option.bind (if ¬ (((((a0.Phase > 3) \/ (¬ (v1 = true))) \/ (¬ (v2 = true))) \/ ((a0.Wish.length : Int) > 1024)) \/ (¬ (v4 = true))) then zcy a0.Accepted a0.Members else some default) fun v5 =>
 if (((((a0.Phase > 3) \/ (¬ (v1 = true))) \/ (¬ (v2 = true))) \/ ((a0.Wish.length : Int) > 1024)) \/ (¬ (v4 = true))) \/ (¬ (v5 = true)) then
 some false
 else
 Option.bind (α := Bool ⊕ Unit) (zb9 a0 a0.Promises ) fun z => match z with
 | (.inl r) => some r
 | (.inr _) =>
 Option.bind (zbq a0.Promises) fun v7 =>
 Option.bind (zbt a0.Members v7) fun v8 =>
 if a0.Phase = 1 then
 some (((!v8) && (a0.Value == [])) && ((a0.Accepted.length : Int) == 0))
 else
 Option.bind (if v8 = true then zdl a0.Promises a0.Wish else some default) fun v9 =>
 Option.bind (if (v8 = true) /\ (a0.Value = v9) then zbt a0.Members a0.Accepted else some default) fun v10 =>
 some ((v8 && (a0.Value == v9)) && (v10 == (a0.Phase == 3)))
def zeb (a0 : TPromise) (c0 : TAttempt) : Option Bool :=
 Option.bind (zgs a0 c0.Ballot) fun v1 =>
 some (!v1)
def zf6 (a0 : TAttempt) : Option Int :=
 Option.bind (α := Bool) (Option.bind (α := Bool ⊕ (Bool ⊕ Bool)) (if a0.Phase = 0 then
 Option.bind (zee a0 (⟨0, 0, [], [], [], [], []⟩ : TAttempt)) fun v1 =>
 some (.inl v1)
 else
 if a0.Phase = 1 then
 some (.inr (.inr ((a0.Value == []) && ((a0.Accepted.length : Int) == 0))))
 else
 Option.bind (α := Bool) (if a0.Phase = 2 then
 some (a0.Phase == 2)
 else
 some (a0.Phase == 3)) fun b5 =>
 if b5 = true then
 some (.inr (.inr true))
 else
 some (.inr (.inl b5))) fun z => match z with
 | (.inl b3) => some b3
 | (.inr (.inl b4)) => some false
 | (.inr (.inr b2)) =>
 Option.bind (if b2 = true then zcw a0.Ballot else some default) fun v2 =>
 Option.bind (if (b2 = true) /\ (v2 = 0) then zcv a0.Members else some default) fun v3 =>
 Option.bind (if (((b2 = true) /\ (v2 = 0)) /\ (v3 = 0)) /\ ((a0.Wish.length : Int) <= 1024) then zdd a0.Promises else some default) fun v4 =>
 Option.bind (if (((b2 = true) /\ (v2 = 0)) /\ (v3 = 0)) /\ ((a0.Wish.length : Int) <= 1024) then ze2 v4 a0.Members else some default) fun v5 =>
 Option.bind (if ((((b2 = true) /\ (v2 = 0)) /\ (v3 = 0)) /\ ((a0.Wish.length : Int) <= 1024)) /\ (v5 = true) then ze2 a0.Accepted a0.Members else some default) fun v6 =>
 Option.bind (if (((((b2 = true) /\ (v2 = 0)) /\ (v3 = 0)) /\ ((a0.Wish.length : Int) <= 1024)) /\ (v5 = true)) /\ (v6 = true) then zas a0.Promises (fun x0 => zeb x0 a0) else some default) fun v7 =>
 Option.bind (if ((((((b2 = true) /\ (v2 = 0)) /\ (v3 = 0)) /\ ((a0.Wish.length : Int) <= 1024)) /\ (v5 = true)) /\ (v6 = true)) /\ (¬ (v7 = true)) then zdd a0.Promises else some default) fun v8 =>
 Option.bind (if ((((((b2 = true) /\ (v2 = 0)) /\ (v3 = 0)) /\ ((a0.Wish.length : Int) <= 1024)) /\ (v5 = true)) /\ (v6 = true)) /\ (¬ (v7 = true)) then zde a0.Members v8 else some default) fun v9 =>
 Option.bind (if (((((((b2 = true) /\ (v2 = 0)) /\ (v3 = 0)) /\ ((a0.Wish.length : Int) <= 1024)) /\ (v5 = true)) /\ (v6 = true)) /\ (¬ (v7 = true))) /\ ((v9 == (decide (a0.Phase > 1))) = true) then zde a0.Members a0.Accepted else some default) fun v10 =>
 Option.bind (if (((((((((b2 = true) /\ (v2 = 0)) /\ (v3 = 0)) /\ ((a0.Wish.length : Int) <= 1024)) /\ (v5 = true)) /\ (v6 = true)) /\ (¬ (v7 = true))) /\ ((v9 == (decide (a0.Phase > 1))) = true)) /\ ((v10 == (a0.Phase == 3)) = true)) /\ (¬ (a0.Phase = 1)) then zfm a0.Promises a0.Wish else some default) fun v11 =>
 some (((((((((b2 && (v2 == 0)) && (v3 == 0)) && (decide ((a0.Wish.length : Int) <= 1024))) && v5) && v6) && (!v7)) && (v9 == (decide (a0.Phase > 1)))) && (v10 == (a0.Phase == 3))) && ((a0.Phase == 1) || (a0.Value == v11)))) fun b1 =>
 if ¬ (b1 = true) then
 some 8
 else
 some 0
def zbg : List TPromise -> Nat -> Int -> Option (Int)
 | [], n3, n2 =>
  some n2
 | y1 :: rest1, n3, n2 =>
  if ((n3 : Int) < 100) then
  zbg rest1 (n3 + 1) (wr .i64 (n2 + (min ((y1.Value).length : Int) 100000)))
  else
  some n2
theorem zg0 (n3 : Nat) (n2 : Int) : zbg [] n3 n2 =
  (some n2 : Option (Int)) := rfl
theorem zek (y1 : TPromise) (rest1 : List TPromise) (n3 : Nat) (n2 : Int) : zbg (y1 :: rest1) n3 n2 =
  (if ((n3 : Int) < 100) then
  zbg rest1 (n3 + 1) (wr .i64 (n2 + (min ((y1.Value).length : Int) 100000)))
  else
  some n2 : Option (Int)) := rfl
def ze7 (a0 : TAttempt) : Option Bool :=
 Option.bind (α := Int) (zbg a0.Promises 0 (wr .i64 ((a0.Wish.length : Int) + (a0.Value.length : Int)))) fun n1 =>
 some ((((decide ((a0.Members.length : Int) > 100)) || (decide ((a0.Promises.length : Int) > 50))) || (decide ((a0.Accepted.length : Int) > 100))) || (decide (n1 > 50000)))
end Go.Proofs
end
