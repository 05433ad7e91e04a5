/- Texts of the proof. -/
import Derived.Test.YtkananhhhkkpkaaGreatOrderAsksPg
import Derived.Test.YtkananhhhkkpkaaGreatOrderAsksPf
import Derived.Test.YtkananhhhkkpkaaGreatOrderAsksPh
import Derived.Test.YtkananhhhkkpkaaGreatOrderAsksPi
section
namespace Go.Proofs
open Go.Tm Go.RowKit Go.WideShapes
set_option maxRecDepth 100000
set_option maxHeartbeats 4000000
set_option linter.unusedSimpArgs false
set_option linter.unusedVariables false
attribute [local go_sem] tn1 tn2 tn3
theorem zm4 (a0 : Int) (r : Bool) (h : zfl a0 = some r) : zbn Tryz.prog 132 [.int .i64 a0] (.bool r) := by
 refine za2 Tryz.tmOk 2 Tryz.func132 rfl (by decide) rfl rfl (lb rfl) ?_
 intro hwf
 unfold zfl at h
 refine .seq (.pl zS [0] ?_)
 refine .seq (.pl zS [0] ?_)
 have hq := sj h
 subst r
 exact .ret ⟨.inr rfl, rsi⟩
@[go_sem] def ya6d : St := ⟨[], [], 0⟩
@[go_sem] def ya6c (a0 : List Int) (n3 : Nat) (n1 : Int) (n2 : Int) : St := ⟨[(0, .imm 1 (a0.map (D.int .u8)) 4), (5, .int .i64 n1), (6, .int .i64 n2), (7, .int .i64 (n3 : Int))], [], 0⟩
theorem zf4 (a0 : List Int) (r : Int × Int × Int) (h : zd8 a0 = some r) : zbn Tryz.prog 126 [.imm 1 (a0.map (D.int .u8)) 4] (.tuple [.int .i64 r.1, .int .i64 r.2.1, .int .i64 r.2.2]) := by
 refine za2 Tryz.tmOk 2 Tryz.func126 rfl (by decide) rfl rfl (lb rfl) ?_
 intro hwf
 unfold zd8 at h
 refine .seq (.pl zS [0] ?_)
 refine .seq (.pl zS [0] ?_)
 obtain ⟨x1, hx1, h⟩ := bind_some h
 refine .seqM 0 (fun (j : Unit) => ya6d) (fun j => x1 = (.inr j)) (lb rfl) ?_ ?_
 refine .seq (.pl zS [0, 5, 6] ?_)
 refine .block ?_
 refine .loopG 0 (fun (j : Nat × Int × Int) => ya6c a0 j.1 j.2.1 j.2.2) (fun j => j.1 <= a0.length /\ zap (a0.drop j.1) j.1 j.2.1 j.2.2 = some x1) (fun j => a0.length - j.1) (0, 0, 1) (lb rfl) ?_ ⟨Nat.zero_le _, hx1⟩ ?_
 exact .m [0, 5, 6, 7] [] []
 rintro ⟨n3, n1, n2⟩ ⟨hi1, hx1⟩
 simp only [ya6c]
 simp only at hi1 hx1
 refine .wf 0 (.imm 1 (a0.map (D.int .u8)) 4) rfl ?_
 intro hln3
 replace hln3 : (a0.length : Int) <= 9223372036854775807 := by simp only [wf, wfL, IntKind.max, IntKind.min, IntKind.signed, IntKind.bits, List.length_map] at hln3; first | exact hln3.2 | exact hln3.1 | (simp at hln3; omega)
 refine .seq (.seq (.pl zS [0, 5, 6, 7] ?_))
 refine .cond rfl rfl (fun hc1 => ?_) (fun hc1 => ?_)
 have h1 : n3 < a0.length := by have hq := hc1; simp at hq; omega
 have hwn3 : wr .i64 ((n3 : Int) + 1) = ((n3 + 1 : Nat) : Int) := zch h1 hln3
 have hpn3 : wr .i64 ((n3 : Int) - 1) = (n3 : Int) - 1 := zci h1 hln3
 rw [List.drop_eq_getElem_cons h1, zap] at hx1
 replace hx1 := za0 hx1 hc1
 refine .skip ?_
 refine .seq (.block (.seq ?_))
 have e1 := zay (D.int .u8) a0 n3 h1
 refine .rg zS [0, 5, 6, 7] ?_
 refine .rnx 6 (ai e1 hwn3) ?_
 refine .rnx 5 (ai e1 hwn3) ?_
 refine .nil ⟨nofun, ?_⟩
 refine .seq (.plx zS hwn3 [0, 5, 6, 7] ?_)
 refine .seq ?_
 have e2 := zay (D.int .u8) a0 n3 h1
 refine .plx zS (ai e2 hwn3) [0, 5, 6, 7] ?_
 refine .cond rfl rfl (fun hc2 => ?_) (fun hc2 => ?_)
 replace hx1 := za0 hx1 hc2
 refine .seq (.seq ?_)
 obtain ⟨v1, hv1, hx1⟩ := bind_some hx1
 have e3 := zay (D.int .u8) a0 n3 h1
 refine .rg zS [0, 5, 7] ?_
 refine .rnx 6 (ai e3 hwn3) ?_
 refine .rnx 5 (ai e3 hwn3) ?_
 refine .gcall (r := .bool v1) rfl rfl rfl rfl rfl (fun hg => ⟨[], [.int .i64 (wr .i64 (n1 + (wr .i64 ((wr .i64 ((a0[n3]).tmod 128)) * n2))))], _, rfl, gd hg, rfl, (zm4 (wr .i64 (n1 + (wr .i64 ((wr .i64 ((a0[n3]).tmod 128)) * n2)))) v1 (za0 hv1 hg))⟩) ?_
 refine .rnx 2 (ai e3 hwn3) ?_
 refine .nil ⟨nofun, ?_⟩
 refine .cond rfl rfl (fun hc3 => ?_) (fun hc3 => ?_)
 replace hx1 := za0 hx1 hc3
 refine .seq (.plx zS hwn3 [] ?_)
 have hq := sj hx1
 subst x1
 try dsimp only at h
 have hq := sj h
 subst r
 exact .ret ⟨.inr rfl, rsi⟩
 replace hx1 := za3 hx1 hc3
 refine .skip ?_
 refine .seq (.plx zS hwn3 [5, 7] ?_)
 have hq := sj hx1
 subst x1
 try dsimp only at h
 have hq := sj h
 subst r
 rw [hwn3]
 exact .ret ⟨.inr rfl, rsi⟩
 replace hx1 := za3 hx1 hc2
 refine .skip ?_
 refine .plx zS hwn3 [0, 5, 6, 7] ?_
 refine ⟨(n3 + 1, _, _), ?_, ⟨by omega, hx1⟩, by dsimp only; omega⟩
 exact .m [0, 5, 6, 7] [] []
 by_cases h2 : n3 < a0.length
 rw [List.drop_eq_getElem_cons h2, zap] at hx1
 replace hx1 := ya7h hx1 (by have hq := hc1; simp at hq ⊢; first | exact hq (by omega) | omega | grind)
 refine .exit ?_
 refine ⟨_, ?_, (sj hx1).symm⟩
 exact .m [] [] []
 rw [List.drop_of_length_le (by omega), zap] at hx1
 refine .exit ?_
 refine ⟨_, ?_, (sj hx1).symm⟩
 exact .m [] [] []
 rintro ⟨⟩ hj1
 subst x1
 try dsimp only at h
 simp only [ya6d]
 refine .seq (.pl zS [] ?_)
 have hq := sj h
 subst r
 exact .ret ⟨.inr rfl, rsi⟩
theorem zh9 (a0 : List Int) (r : (List UInt8) × Int × Int) (h : zdh a0 = some r) : zbn Tryz.prog 128 [.imm 1 (a0.map (D.int .u8)) 4] (.tuple [.str r.1, .int .i64 r.2.1, .int .i64 r.2.2]) := by
 refine za2 Tryz.tmOk 2 Tryz.func128 rfl (by decide) rfl rfl (lb rfl) ?_
 intro hwf
 unfold zdh at h
 refine .seq (.pl zS [0] ?_)
 refine .seq ?_
 obtain ⟨v1, hv1, h⟩ := bind_some h
 refine .rg zS [0] ?_
 refine .rn 1 ?_
 refine .call (r := .tuple [.int .i64 v1.1, .int .i64 v1.2.1, .int .i64 v1.2.2]) rfl rfl rfl rfl rfl rfl (zf4 a0 v1 hv1) ?_
 refine .rn 7 ?_
 refine .nil ⟨nofun, ?_⟩
 refine .seq (.seq ?_)
 refine .rg zS [0, 5, 6, 7] ?_
 refine .rn 6 ?_
 refine .rn 8 ?_
 refine .nil ⟨nofun, ?_⟩
 refine .cond rfl rfl (fun hc1 => ?_) (fun hc1 => ?_)
 replace h := za0 h hc1
 refine .seq (.pl zS [] ?_)
 have hq := sj h
 subst r
 exact .ret ⟨.inr rfl, rsi⟩
 replace h := za3 h hc1
 refine .skip ?_
 refine .seq ?_
 obtain ⟨k1, h⟩ := zae h
 refine .rg zS [0, 5, 6] ?_
 refine .rn 6 ?_
 refine .rn 7 ?_
 refine .nil ⟨nofun, ?_⟩
 have hq := sj h
 subst r
 exact .ret ⟨.inr rfl, rsi⟩
@[go_sem] def ya6f (n1 : Int) (l1 : List Int) : St := ⟨[(8, .int .i64 n1), (10, .ref 0 1 0 l1.length (some uC))], [(0, .arr 3 1 true (l1.map (D.int .i64)))], 1⟩
@[go_sem] def ya6e (a0 : List Int) (v1 : Int × Int × Int) (n2 : Int) (l2 : List Int) (n3 : Int) : St := ⟨[(0, .imm 1 (a0.map (D.int .u8)) 4), (7, .int .i64 v1.1), (8, .int .i64 n2), (10, .ref 0 1 0 l2.length (some uC)), (11, .int .i64 n3)], [(0, .arr 3 1 true (l2.map (D.int .i64)))], 1⟩
@[go_sem] def st28 (r : (List Int) × Int × Int) : St := ⟨[(4, .ref 0 1 0 r.1.length (some uC)), (5, .int .i64 r.2.1), (6, .int .i64 r.2.2)], [(0, .arr 3 1 true (r.1.map (D.int .i64)))], 1⟩
theorem zjn (a0 : List Int) (a1 : Int) (r : (List Int) × Int × Int) (h : ze7 a0 a1 = some r) : zcv Tryz.prog 127 [.imm 1 (a0.map (D.int .u8)) 4, .int .i64 a1] [] (.tuple [.ref 0 1 0 r.1.length (some uC), .int .i64 r.2.1, .int .i64 r.2.2]) [(0, some (.arr 3 1 true (r.1.map (D.int .i64))))] (0, 5) := by
 refine za5 Tryz.tmOk Tryz.func127 rfl (by decide) (lb rfl) (by simp) ?_
 intro hwf
 unfold ze7 at h
 refine .ends 0 (Nat.le_refl _) ?_
 refine .seq (.pl zS [0, 1] ?_)
 refine .seq (.seq (.pl zS [0, 1] ?_))
 refine .cond rfl rfl (fun hc1 => ?_) (fun hc1 => ?_)
 replace h := za0 h hc1
 refine .seq (.pl zS [] ?_)
 have hq := sj h
 subst r
 refine .ret ⟨st28 ([], 0, 2), ?_, .inr rfl, retH [0] ?_ ?_⟩
 refine Goes.new0 1 3 (lb rfl) ?_
 refine Goes.wk 4 _ (.ref 0 1 0 0 (some uC)) rfl (.own0 0 _ _ _ (by decide)) ?_
 exact .m [4, 5, 6] [0] []
 exact rsi0
 rfl
 replace h := za3 h hc1
 refine .skip ?_
 refine .seq ?_
 obtain ⟨v1, hv1, h⟩ := bind_some h
 refine .rg zS [0, 1] ?_
 refine .rn 1 ?_
 refine .call (r := .tuple [.int .i64 v1.1, .int .i64 v1.2.1, .int .i64 v1.2.2]) rfl rfl rfl rfl rfl rfl (zf4 a0 v1 hv1) ?_
 refine .rn 7 ?_
 refine .nil ⟨nofun, ?_⟩
 refine .seq (.seq (.pl zS [0, 1, 7, 8, 9] ?_))
 refine .cond rfl rfl (fun hc2 => ?_) (fun hc2 => ?_)
 replace h := za0 h hc2
 refine .seq (.pl zS [] ?_)
 have hq := sj h
 subst r
 refine .ret ⟨st28 ([], 0, 8), ?_, .inr rfl, retH [0] ?_ ?_⟩
 refine Goes.new0 1 3 (lb rfl) ?_
 refine Goes.wk 4 _ (.ref 0 1 0 0 (some uC)) rfl (.own0 0 _ _ _ (by decide)) ?_
 exact .m [4, 5, 6] [0] []
 exact rsi0
 rfl
 replace h := za3 h hc2
 refine .skip ?_
 refine .seq (.pl zS [0, 7, 8] ?_)
 obtain ⟨x1, hx1, h⟩ := bind_some h
 refine .seqM 0 (fun (j : Int × (List Int)) => ya6f j.1 j.2) (fun j => x1 = (.inr j)) (lb rfl) ?_ ?_
 refine .seq (.pl zS [0, 7, 8, 10] ?_)
 refine .block ?_
 refine .loopG 0 (fun (j : Nat × Int × (List Int) × Int) => ya6e a0 v1 j.2.1 j.2.2.1 j.2.2.2) (fun j => zbs a0 v1 j.1 j.2.1 j.2.2.1 j.2.2.2 = some x1) (fun j => j.1) (v1.1.toNat + 1, v1.2.1, [], 0) (lb rfl) ?_ hx1 ?_
 refine Goes.new0 1 3 (lb rfl) ?_
 refine Goes.wk 10 _ (.ref 0 1 0 0 (some uC)) rfl (.own0 0 _ _ _ (by decide)) ?_
 exact .m [0, 7, 8, 10, 11] [0] []
 rintro ⟨fu1, n2, l2, n3⟩ hx1
 simp only [ya6e]
 try simp only at hx1
 obtain ⟨fu1, rfl⟩ : ∃ k, fu1 = k + 1 := by cases fu1 with | zero => (rw [zbs] at hx1; cases hx1) | succ k => exact ⟨k, rfl⟩
 rw [zbs] at hx1
 refine .seq (.seq (.pl zS [0, 7, 8, 10, 11] ?_))
 refine .cond rfl rfl (fun hc3 => ?_) (fun hc3 => ?_)
 replace hx1 := za0 hx1 hc3
 refine .skip ?_
 refine .seq (.block (.seq ?_))
 obtain ⟨k1, hx1⟩ := zae hx1
 obtain ⟨v2, hv2, hx1⟩ := bind_some hx1
 refine .rg zS [0, 7, 8, 10, 11] ?_
 refine .rn 3 ?_
 refine .call (r := .tuple [.int .i64 v2.1, .int .i64 v2.2.1, .int .i64 v2.2.2]) rfl rfl rfl rfl rfl rfl (zf4 (a0.drop n2.toNat) v2 hv2) ?_
 refine .rn 7 ?_
 refine .nil ⟨nofun, ?_⟩
 refine .seq (.seq (.pl zS [0, 7, 8, 10, 11, 12, 13, 14] ?_))
 refine .cond rfl rfl (fun hc4 => ?_) (fun hc4 => ?_)
 replace hx1 := za0 hx1 hc4
 refine .seq (.pl zS [] ?_)
 have hq := sj hx1
 subst x1
 try dsimp only at h
 have hq := sj h
 subst r
 refine .ret ⟨st28 ([], 0, 8), ?_, .inr rfl, retH [0] ?_ ?_⟩
 refine Goes.new0 1 3 (lb rfl) ?_
 refine Goes.wk 4 _ (.ref 1 1 0 0 (some uC)) rfl (.own0 1 _ _ _ (by decide)) ?_
 exact .m [4, 5, 6] [1] [(1, 0)]
 exact rsi0
 rfl
 replace hx1 := za3 hx1 hc4
 refine .skip ?_
 refine .seq ?_
 obtain ⟨k2, hx1⟩ := zae hx1
 refine .pl zS [0, 7, 8, 10, 11, 12, 13] ?_
 refine .pl zS [0, 7, 8, 10, 11, 13] ?_
 refine .pl zS [0, 7, 8, 10, 11] ?_
 refine ⟨(fu1, _, _, _), ?_, hx1, by dsimp only; omega⟩
 exact .m [0, 7, 8, 10, 11] [2] [(2, 0)]
 replace hx1 := za3 hx1 hc3
 refine .exit ?_
 refine ⟨_, ?_, (sj hx1).symm⟩
 exact .m [8, 10] [0] []
 rintro ⟨n1, l1⟩ hj1
 subst x1
 try dsimp only at h
 simp only [ya6f]
 refine .seq (.pl zS [8, 10] ?_)
 have hq := sj h
 subst r
 refine .ret ⟨st28 (l1, n1, 0), ?_, .inr rfl, retH [0] ?_ ?_⟩
 exact .m [4, 5, 6] [0] []
 exact rsi0
 rfl
@[go_sem] def ya62 (l1 : List Int) (l2 : List Int) : St := ⟨[(0, .imm 1 (l1.map (D.int .u8)) 4), (7, .ref 0 1 0 l2.length (some uC))], [(0, .arr 3 1 true (l2.map (D.int .i64)))], 1⟩
@[go_sem] def ya61 (a1 : Int) (l3 : List Int) (l4 : List Int) (n1 : Int) : St := ⟨[(0, .imm 1 (l3.map (D.int .u8)) 4), (1, .int .i64 a1), (7, .ref 0 1 0 l4.length (some uC)), (8, .int .i64 n1)], [(0, .arr 3 1 true (l4.map (D.int .i64)))], 1⟩
@[go_sem] def st30 (r : (List Int) × (List Int) × Bool) : St := ⟨[(4, .ref 0 1 0 r.1.length (some uC)), (5, .imm 1 (r.2.1.map (D.int .u8)) 4), (6, .bool r.2.2)], [(0, .arr 3 1 true (r.1.map (D.int .i64)))], 1⟩
theorem zco (a0 : List Int) (a1 : Int) (r : (List Int) × (List Int) × Bool) (h : zai a0 a1 = some r) : zcv Tryz.prog 113 [.imm 1 (a0.map (D.int .u8)) 4, .int .i64 a1] [] (.tuple [.ref 0 1 0 r.1.length (some uC), .imm 1 (r.2.1.map (D.int .u8)) 4, .bool r.2.2]) [(0, some (.arr 3 1 true (r.1.map (D.int .i64))))] (0, 5) := by
 refine za5 Tryz.tmOk Tryz.func113 rfl (by decide) (lb rfl) (by simp) ?_
 intro hwf
 unfold zai at h
 refine .ends 0 (Nat.le_refl _) ?_
 refine .seq (.pl zS [0, 1] ?_)
 refine .seq (.pl zS [0, 1] ?_)
 obtain ⟨x1, hx1, h⟩ := bind_some h
 refine .seqM 0 (fun (j : (List Int) × (List Int)) => ya62 j.1 j.2) (fun j => x1 = (.inr j)) (lb rfl) ?_ ?_
 refine .seq (.pl zS [0, 1, 7] ?_)
 refine .block ?_
 refine .loopG 0 (fun (j : Nat × (List Int) × (List Int) × Int) => ya61 a1 j.2.1 j.2.2.1 j.2.2.2) (fun j => zb5 a1 j.1 j.2.1 j.2.2.1 j.2.2.2 = some x1) (fun j => j.1) (a1.toNat + 1, a0, [], 0) (lb rfl) ?_ hx1 ?_
 refine Goes.new0 1 3 (lb rfl) ?_
 refine Goes.wk 7 _ (.ref 0 1 0 0 (some uC)) rfl (.own0 0 _ _ _ (by decide)) ?_
 exact .m [0, 1, 7, 8] [0] []
 rintro ⟨fu1, l3, l4, n1⟩ hx1
 simp only [ya61]
 try simp only at hx1
 obtain ⟨fu1, rfl⟩ : ∃ k, fu1 = k + 1 := by cases fu1 with | zero => (rw [zb5] at hx1; cases hx1) | succ k => exact ⟨k, rfl⟩
 rw [zb5] at hx1
 refine .seq (.seq (.pl zS [0, 1, 7, 8] ?_))
 refine .cond rfl rfl (fun hc1 => ?_) (fun hc1 => ?_)
 replace hx1 := za0 hx1 hc1
 refine .skip ?_
 refine .seq (.block (.seq ?_))
 obtain ⟨v1, hv1, hx1⟩ := bind_some hx1
 refine .rg zS [0, 1, 7, 8] ?_
 refine .rn 1 ?_
 refine .call (r := .tuple [.int .i64 v1.1, .int .i64 v1.2.1, .int .i64 v1.2.2]) rfl rfl rfl rfl rfl rfl (zf4 l3 v1 hv1) ?_
 refine .rn 7 ?_
 refine .nil ⟨nofun, ?_⟩
 refine .seq (.seq (.pl zS [0, 1, 7, 8, 9, 10, 11] ?_))
 refine .cond rfl rfl (fun hc2 => ?_) (fun hc2 => ?_)
 replace hx1 := za0 hx1 hc2
 refine .seq (.pl zS [] ?_)
 have hq := sj hx1
 subst x1
 try dsimp only at h
 have hq := sj h
 subst r
 refine .ret ⟨st30 ([], [], false), ?_, .inr rfl, retH [0] ?_ ?_⟩
 refine Goes.new0 1 3 (lb rfl) ?_
 refine Goes.wk 4 _ (.ref 1 1 0 0 (some uC)) rfl (.own0 1 _ _ _ (by decide)) ?_
 refine Goes.wk 5 _ (.imm 1 [] 4) rfl (.nil4 _ _ 0 rfl) ?_
 exact .m [4, 5, 6] [1] [(1, 0)]
 exact rsi0
 rfl
 replace hx1 := za3 hx1 hc2
 refine .skip ?_
 refine .seq ?_
 obtain ⟨k1, hx1⟩ := zae hx1
 refine .pl zS [0, 1, 7, 8, 9, 10] ?_
 obtain ⟨k2, hx1⟩ := zae hx1
 refine .pl zS [0, 1, 7, 8, 10] ?_
 refine .pl zS [0, 1, 7, 8] ?_
 refine ⟨(fu1, _, _, _), ?_, hx1, by dsimp only; omega⟩
 exact .m [0, 1, 7, 8] [2] [(2, 0)]
 replace hx1 := za3 hx1 hc1
 refine .exit ?_
 refine ⟨_, ?_, (sj hx1).symm⟩
 exact .m [0, 7] [0] []
 rintro ⟨l1, l2⟩ hj1
 subst x1
 try dsimp only at h
 simp only [ya62]
 refine .seq (.pl zS [0, 7] ?_)
 have hq := sj h
 subst r
 refine .ret ⟨st30 (l2, l1, true), ?_, .inr rfl, retH [0] ?_ ?_⟩
 exact .m [4, 5, 6] [0] []
 exact rsi0
 rfl
@[go_sem] def st29 (r : (List Int) × (List Int) × Bool) : St := ⟨[(4, .ref 0 1 0 r.1.length (some uC)), (5, .imm 1 (r.2.1.map (D.int .u8)) 4), (6, .bool r.2.2)], [(0, .arr 3 1 true (r.1.map (D.int .i64)))], 1⟩
theorem zht (a0 : List Int) (a1 : Int) (r : (List Int) × (List Int) × Bool) (h : ze6 a0 a1 = some r) : zcv Tryz.prog 114 [.imm 1 (a0.map (D.int .u8)) 4, .int .i64 a1] [] (.tuple [.ref 0 1 0 r.1.length (some uC), .imm 1 (r.2.1.map (D.int .u8)) 4, .bool r.2.2]) [(0, some (.arr 3 1 true (r.1.map (D.int .i64))))] (0, 13) := by
 refine za5 Tryz.tmOk Tryz.func114 rfl (by decide) (lb rfl) (by simp) ?_
 intro hwf
 unfold ze6 at h
 refine .ends 0 (Nat.le_refl _) ?_
 refine .seq (.pl zS [0, 1] ?_)
 refine .seq ?_
 obtain ⟨v1, hv1, h⟩ := bind_some h
 refine .rg zS [0, 1] ?_
 refine .rn 2 ?_
 refine .ncall (r := .tuple [.ref 5 1 0 v1.1.length (some uC), .int .i64 v1.2.1, .int .i64 v1.2.2]) (eff := [(5, some (.arr 3 1 true (v1.1.map (D.int .i64))))]) (nw := (5, 10)) [] rfl rfl rfl rfl rfl (za7 rfl (za7 rfl zb9)) rfl (zeh 5 (lb rfl) (zjn a0 a1 v1 hv1)) (zfu rfl rfl (zji zks _ _ _) zjh) (by intro i hi; simp [D.ids, D.idsL] at hi <;> omega) rfl ⟨lb rfl, lb rfl⟩ ?_
 refine .rn 7 ?_
 refine .nil ⟨nofun, ?_⟩
 refine .seq (.seq (.pl zS [0, 7, 8, 9] ?_))
 refine .cond rfl rfl (fun hc1 => ?_) (fun hc1 => ?_)
 replace h := za0 h hc1
 refine .seq (.pl zS [] ?_)
 have hq := sj h
 subst r
 refine .ret ⟨st29 ([], [], false), ?_, .inr rfl, retH [0] ?_ ?_⟩
 refine Goes.new0 1 3 (lb rfl) ?_
 refine Goes.wk 4 _ (.ref 10 1 0 0 (some uC)) rfl (.own0 10 _ _ _ (by decide)) ?_
 refine Goes.wk 5 _ (.imm 1 [] 4) rfl (.nil4 _ _ 0 rfl) ?_
 exact .m [4, 5, 6] [10] [(10, 0)]
 exact rsi0
 rfl
 replace h := za3 h hc1
 refine .skip ?_
 refine .seq ?_
 obtain ⟨k1, h⟩ := zae h
 refine .dr zS [0, 7, 8] ?_
 have hq := sj h
 subst r
 refine .ret ⟨st29 (v1.1, (a0.drop v1.2.1.toNat), true), ?_, .inr rfl, retH [0] ?_ ?_⟩
 exact .m [4, 5, 6] [5] [(5, 0)]
 exact rsi0
 rfl
@[go_sem] def st32 (r : (List UInt8) × (List UInt8) × (List Int) × Bool) : St := ⟨[(2, .str r.1), (3, .str r.2.1), (4, .imm 1 (r.2.2.1.map (D.int .u8)) 4), (5, .bool r.2.2.2)], [], 0⟩
theorem zkl (a0 : List Int) (r : (List UInt8) × (List UInt8) × (List Int) × Bool) (h : zeq a0 = some r) : zcv Tryz.prog 115 [.imm 1 (a0.map (D.int .u8)) 4] [] (.tuple [.str r.1, .str r.2.1, .imm 1 (r.2.2.1.map (D.int .u8)) 4, .bool r.2.2.2]) [] (0, 2) := by
 refine za5 Tryz.tmOk Tryz.func115 rfl (by decide) (lb rfl) (by simp) ?_
 intro hwf
 unfold zeq at h
 refine .ends 0 (Nat.le_refl _) ?_
 refine .seq (.pl zS [0] ?_)
 refine .seq ?_
 obtain ⟨v1, hv1, h⟩ := bind_some h
 refine .rg zS [0] ?_
 refine .rn 1 ?_
 refine .call (r := .tuple [.str v1.1, .int .i64 v1.2.1, .int .i64 v1.2.2]) rfl rfl rfl rfl rfl rfl (zh9 a0 v1 hv1) ?_
 refine .rn 7 ?_
 refine .nil ⟨nofun, ?_⟩
 refine .seq (.seq (.pl zS [0, 6, 7, 8] ?_))
 refine .cond rfl rfl (fun hc1 => ?_) (fun hc1 => ?_)
 replace h := za0 h hc1
 refine .seq (.pl zS [] ?_)
 have hq := sj h
 subst r
 refine .ret ⟨st32 ([], [], [], false), ?_, .inr rfl, retH [] ?_ ?_⟩
 refine Goes.wk 4 _ (.imm 1 [] 4) rfl (.nil4 _ _ 0 rfl) ?_
 exact .m [2, 3, 4, 5] [] []
 exact rsi0
 rfl
 replace h := za3 h hc1
 refine .skip ?_
 refine .seq ?_
 obtain ⟨k1, h⟩ := zae h
 obtain ⟨v2, hv2, h⟩ := bind_some h
 refine .rg zS [0, 6, 7] ?_
 refine .rn 3 ?_
 refine .call (r := .tuple [.str v2.1, .int .i64 v2.2.1, .int .i64 v2.2.2]) rfl rfl rfl rfl rfl rfl (zh9 (a0.drop v1.2.1.toNat) v2 hv2) ?_
 refine .rn 7 ?_
 refine .nil ⟨nofun, ?_⟩
 refine .seq (.seq (.pl zS [0, 6, 7, 9, 10, 11] ?_))
 refine .cond rfl rfl (fun hc2 => ?_) (fun hc2 => ?_)
 replace h := za0 h hc2
 refine .seq (.pl zS [] ?_)
 have hq := sj h
 subst r
 refine .ret ⟨st32 ([], [], [], false), ?_, .inr rfl, retH [] ?_ ?_⟩
 refine Goes.wk 4 _ (.imm 1 [] 4) rfl (.nil4 _ _ 0 rfl) ?_
 exact .m [2, 3, 4, 5] [] []
 exact rsi0
 rfl
 replace h := za3 h hc2
 refine .skip ?_
 refine .seq ?_
 obtain ⟨k2, h⟩ := zae h
 refine .rg zS [0, 6, 7, 9, 10] ?_
 refine .rd 6 ?_
 refine .rd 5 ?_
 refine .nd ?_
 have hq := sj h
 subst r
 refine .ret ⟨st32 (v1.1, v2.1, (a0.drop (wr .i64 (v1.2.1 + v2.2.1)).toNat), true), ?_, .inr rfl, retH [] ?_ ?_⟩
 exact .m [2, 3, 4, 5] [] []
 exact rsi0
 rfl
@[go_sem] def ya60 (v1 : (List Int) × (List Int) × Bool) (l1 : List Int) (b1 : Bool) (n1 : Int) (l2 : List Int) (n2 : Int) (s1 : List UInt8) (s2 : List UInt8) (n3 : Int) (n4 : Int) (l3 : List Int) (n5 : Int) (n6 : Int) (n7 : Int) : St := ⟨[(2, .ptr 0 0), (6, .imm 1 (l1.map (D.int .u8)) 4), (7, .bool b1), (8, .ptr 10 0)], [(0, .box [.int .u8 0, .int .i64 0, .imm 0 [] 0, .int .i64 0, .str [], .str [], .int .i64 0, .int .i64 0, .imm 0 [] 0, .int .i64 0, .int .i64 0, .int .i64 0]), (10, .box [.int .u8 (wr .u8 (v1.1.getD 0 default)), .int .i64 n1, .ref 11 1 0 l2.length (some uC), .int .i64 n2, .str s1, .str s2, .int .i64 n3, .int .i64 n4, .ref 12 1 0 l3.length (some uC), .int .i64 n5, .int .i64 n6, .int .i64 n7]), (11, .arr 3 1 true (l2.map (D.int .i64))), (12, .arr 3 1 true (l3.map (D.int .i64)))], 13⟩
@[go_sem] def ya5z (v1 : (List Int) × (List Int) × Bool) (b2 : Bool) : St := ⟨[(2, .ptr 0 0), (6, .imm 1 (v1.2.1.map (D.int .u8)) 4), (7, .bool v1.2.2), (8, .ptr 10 0), (135, .bool b2)], [(0, .box [.int .u8 0, .int .i64 0, .imm 0 [] 0, .int .i64 0, .str [], .str [], .int .i64 0, .int .i64 0, .imm 0 [] 0, .int .i64 0, .int .i64 0, .int .i64 0]), (10, .box [.int .u8 (wr .u8 (v1.1.getD 0 default)), .int .i64 0, .imm 0 [] 0, .int .i64 0, .str [], .str [], .int .i64 0, .int .i64 0, .imm 0 [] 0, .int .i64 0, .int .i64 0, .int .i64 0])], 11⟩
@[go_sem] def st33 (r : TCommand × (List Int) × Bool) : St := ⟨[(2, .ptr 2 0), (3, .imm 1 (r.2.1.map (D.int .u8)) 4), (4, .bool r.2.2)], [(0, .arr 3 1 true (r.1.Message.Groups.map (D.int .i64))), (1, .arr 3 1 true (r.1.Members.map (D.int .i64))), (2, .box [.int .u8 r.1.Kind, .int .i64 r.1.Message.Id, .ref 0 1 0 r.1.Message.Groups.length (some uC), .int .i64 r.1.Message.Topic, .str r.1.Message.Key, .str r.1.Message.Body, .int .i64 r.1.Id, .int .i64 r.1.Time, .ref 1 1 0 r.1.Members.length (some uC), .int .i64 r.1.Topic, .int .i64 r.1.Who, .int .i64 r.1.N])], 3⟩
theorem zkk (a0 : List Int) (r : TCommand × (List Int) × Bool) (h : zdx a0 = some r) : zcv Tryz.prog 90 [.imm 1 (a0.map (D.int .u8)) 4] [] (.tuple [.agg [.int .u8 r.1.Kind, .int .i64 r.1.Message.Id, .ref 0 1 0 r.1.Message.Groups.length (some uC), .int .i64 r.1.Message.Topic, .str r.1.Message.Key, .str r.1.Message.Body, .int .i64 r.1.Id, .int .i64 r.1.Time, .ref 1 1 0 r.1.Members.length (some uC), .int .i64 r.1.Topic, .int .i64 r.1.Who, .int .i64 r.1.N], .imm 1 (r.2.1.map (D.int .u8)) 4, .bool r.2.2]) [(0, some (.arr 3 1 true (r.1.Message.Groups.map (D.int .i64)))), (1, some (.arr 3 1 true (r.1.Members.map (D.int .i64))))] (0, 39) := by
 refine za5 Tryz.tmOk Tryz.func90 rfl (by decide) (lb rfl) (by simp) ?_
 intro hwf
 unfold zdx at h
 refine .ends 0 (Nat.le_refl _) ?_
 refine .seq (.pl zS [0] ?_)
 refine .seq ?_
 obtain ⟨v1, hv1, h⟩ := bind_some h
 refine .rg zS [0, 2] ?_
 refine .rn 1 ?_
 refine .hcall (H := []) (eff := [(5, some (.arr 3 1 true (v1.1.map (D.int .i64))))]) (nw := (5, 10)) (r := .tuple [.ref 5 1 0 v1.1.length (some uC), .imm 1 (v1.2.1.map (D.int .u8)) 4, .bool v1.2.2]) rfl rfl rfl rfl rfl (zeh 5 (lb rfl) (zco a0 1 v1 hv1)) (fun id b h => zaj [] _ id b h) (by simp) (.inr ⟨lb rfl, lb rfl⟩) ?_
 refine .rn 7 ?_
 refine .nil ⟨nofun, ?_⟩
 refine .seq ?_
 obtain ⟨k1, h⟩ := zae h
 refine .seqM 10 (fun (_ : Unit) => ⟨[(2, .ptr 0 0), (5, .ref 5 1 0 v1.1.length (some uC)), (6, .imm 1 (v1.2.1.map (D.int .u8)) 4), (7, .bool v1.2.2), (23, .bool ((!v1.2.2) || (decide ((v1.1.getD 0 default) > 6))))], [(0, .box [.int .u8 0, .int .i64 0, .imm 0 [] 0, .int .i64 0, .str [], .str [], .int .i64 0, .int .i64 0, .imm 0 [] 0, .int .i64 0, .int .i64 0, .int .i64 0]), (5, .arr 3 1 true (v1.1.map (D.int .i64)))], 10⟩) (fun _ => True) (lb rfl) ?_ (fun _ _ => ?_)
 by_cases hgd : ¬ (¬ (v1.2.2 = true))
 have eg10 := zdl (D.int .i64) v1.1 0 (k1 hgd)
 have hk := k1 hgd
 have hb : v1.2.2 = true := by simpa using hgd
 refine .plx zS eg10 [2, 5, 6, 7] (hv := by simp [hk, hb, oneD]) ?_
 refine ⟨(), ?_, trivial⟩
 exact .m [2, 5, 6, 7, 23] [0, 5] []
 have hgf1 : (!(!v1.2.2)) = false := by first | simpa using hgd | (simp at hgd ⊢; omega) | grind
 have hgf1t : (!v1.2.2) = true := by first | simpa using hgf1 | grind
 rcases zl9 (D.int .i64) v1.1 0 with eg10 | eg10
 refine .plx zS (ai eg10 (ai hgf1 hgf1t)) [2, 5, 6, 7] ?_
 refine ⟨(), ?_, trivial⟩
 exact .mx (ai hgf1 hgf1t) [2, 5, 6, 7, 23] [0, 5] []
 refine .plx zS (ai eg10 (ai hgf1 hgf1t)) [2, 5, 6, 7] ?_
 refine ⟨(), ?_, trivial⟩
 exact .mx (ai hgf1 hgf1t) [2, 5, 6, 7, 23] [0, 5] []
 refine .cond rfl rfl (fun hc1 => ?_) (fun hc1 => ?_)
 replace h := za0 h hc1
 refine .seq (.pl zS [2] ?_)
 have hq := sj h
 subst r
 refine .ret ⟨st33 ((⟨0, (⟨0, [], 0, [], []⟩ : TMessage), 0, 0, [], 0, 0, 0⟩ : TCommand), [], false), ?_, .inr rfl, retH [1, 0] ?_ ?_⟩
 refine Goes.new0 1 3 (lb rfl) ?_
 refine Goes.new0 1 3 (lb rfl) ?_
 refine Goes.boxs 0 _ [.int .u8 0, .int .i64 0, .ref 10 1 0 0 (some uC), .int .i64 0, .str [], .str [], .int .i64 0, .int .i64 0, .ref 11 1 0 0 (some uC), .int .i64 0, .int .i64 0, .int .i64 0] rfl (.keep (.keep (.cons (.own0 10 _ _ _ (by decide)) (.keep (.keep (.keep (.keep (.keep (.cons (.own0 11 _ _ _ (by decide)) (.refl _)))))))))) ?_
 refine Goes.wk 3 _ (.imm 1 [] 4) rfl (.nil4 _ _ 0 rfl) ?_
 exact .m [2, 3, 4] [10, 11, 0] [(10, 0), (11, 1), (0, 2)]
 exact rsi0
 rfl
 replace h := za3 h hc1
 refine .skip ?_
 refine .seq ?_
 obtain ⟨k2, h⟩ := zae h
 have e1 := zdl (D.int .i64) v1.1 0 k2
 refine .plx zS e1 [2, 5, 6, 7] ?_
 refine .seq (.pl zS [2, 6, 7, 8] ?_)
 obtain ⟨x1, hx1, h⟩ := bind_some h
 refine .seqM 11 (fun (j : (List Int) × Bool × Int × (List Int) × Int × (List UInt8) × (List UInt8) × Int × Int × (List Int) × Int × Int × Int) => ya60 v1 j.1 j.2.1 j.2.2.1 j.2.2.2.1 j.2.2.2.2.1 j.2.2.2.2.2.1 j.2.2.2.2.2.2.1 j.2.2.2.2.2.2.2.1 j.2.2.2.2.2.2.2.2.1 j.2.2.2.2.2.2.2.2.2.1 j.2.2.2.2.2.2.2.2.2.2.1 j.2.2.2.2.2.2.2.2.2.2.2.1 j.2.2.2.2.2.2.2.2.2.2.2.2) (fun j => x1 = (.inr j)) (lb rfl) ?_ ?_
 refine .seq (.pl zS [2, 6, 7, 8] ?_)
 refine .block ?_
 refine .seq (.pl zS [2, 6, 7, 8, 31] ?_)
 refine .cond rfl rfl (fun hc2 => ?_) (fun hc2 => ?_)
 replace hx1 := za0 hx1 hc2
 refine .seq ?_
 obtain ⟨v2, hv2, hx1⟩ := bind_some hx1
 refine .rg zS [2, 6, 8] ?_
 refine .rn 1 ?_
 refine .hcall (H := []) (eff := [(11, some (.arr 3 1 true (v2.1.map (D.int .i64))))]) (nw := (11, 16)) (r := .tuple [.ref 11 1 0 v2.1.length (some uC), .imm 1 (v2.2.1.map (D.int .u8)) 4, .bool v2.2.2]) rfl rfl rfl rfl rfl (zeh 11 (lb rfl) (zco v1.2.1 1 v2 hv2)) (fun id b h => zaj [] _ id b h) (by simp) (.inr ⟨lb rfl, lb rfl⟩) ?_
 refine .rn 7 ?_
 refine .nil ⟨nofun, ?_⟩
 refine .seq (.seq (.pl zS [2, 6, 7, 8, 9] ?_))
 refine .cond rfl rfl (fun hc3 => ?_) (fun hc3 => ?_)
 replace hx1 := za0 hx1 hc3
 refine .seq (.pl zS [2, 8] ?_)
 have hq := sj hx1
 subst x1
 try dsimp only at h
 have hq := sj h
 subst r
 refine .ret ⟨st33 ((⟨(wr .u8 (v1.1.getD 0 default)), (⟨0, [], 0, [], []⟩ : TMessage), 0, 0, [], 0, 0, 0⟩ : TCommand), [], false), ?_, .inr rfl, retH [1, 0] ?_ ?_⟩
 refine Goes.new0 1 3 (lb rfl) ?_
 refine Goes.new0 1 3 (lb rfl) ?_
 refine Goes.boxs 0 _ [.int .u8 (wr .u8 (v1.1.getD 0 default)), .int .i64 0, .ref 16 1 0 0 (some uC), .int .i64 0, .str [], .str [], .int .i64 0, .int .i64 0, .ref 17 1 0 0 (some uC), .int .i64 0, .int .i64 0, .int .i64 0] rfl (.keep (.keep (.cons (.own0 16 _ _ _ (by decide)) (.keep (.keep (.keep (.keep (.keep (.cons (.own0 17 _ _ _ (by decide)) (.refl _)))))))))) ?_
 refine Goes.wk 3 _ (.imm 1 [] 4) rfl (.nil4 _ _ 0 rfl) ?_
 exact .m [2, 3, 4] [16, 17, 0] [(16, 0), (17, 1), (0, 2)]
 exact rsi0
 rfl
 replace hx1 := za3 hx1 hc3
 refine .skip ?_
 refine .seq ?_
 obtain ⟨k3, hx1⟩ := zae hx1
 have e2 := zdl (D.int .i64) v2.1 0 k3
 refine .plx zS e2 [2, 6, 8, 9] ?_
 refine .seq ?_
 obtain ⟨v3, hv3, hx1⟩ := bind_some hx1
 refine .rg zS [2, 6, 8] ?_
 refine .rn 1 ?_
 refine .hcall (H := []) (eff := [(16, some (.arr 3 1 true (v3.1.map (D.int .i64))))]) (nw := (16, 29)) (r := .tuple [.ref 16 1 0 v3.1.length (some uC), .imm 1 (v3.2.1.map (D.int .u8)) 4, .bool v3.2.2]) rfl rfl rfl rfl rfl (zeh 16 (lb rfl) (zht v2.2.1 4 v3 hv3)) (fun id b h => zaj [] _ id b h) (by simp) (.inr ⟨lb rfl, lb rfl⟩) ?_
 refine .rn 6 ?_
 refine .rn 3 ?_
 refine .nil ⟨nofun, ?_⟩
 refine .seq (.seq (.pl zS [2, 6, 7, 8] ?_))
 refine .cond rfl rfl (fun hc4 => ?_) (fun hc4 => ?_)
 replace hx1 := za0 hx1 hc4
 refine .seq (.pl zS [2, 8] ?_)
 have hq := sj hx1
 subst x1
 try dsimp only at h
 have hq := sj h
 subst r
 refine .ret ⟨st33 ((⟨(wr .u8 (v1.1.getD 0 default)), (⟨(v2.1.getD 0 default), v3.1, 0, [], []⟩ : TMessage), 0, 0, [], 0, 0, 0⟩ : TCommand), [], false), ?_, .inr rfl, retH [1, 0] ?_ ?_⟩
 refine Goes.new0 1 3 (lb rfl) ?_
 refine Goes.boxs 0 _ [.int .u8 (wr .u8 (v1.1.getD 0 default)), .int .i64 (v2.1.getD 0 default), .ref 16 1 0 v3.1.length (some uC), .int .i64 0, .str [], .str [], .int .i64 0, .int .i64 0, .ref 29 1 0 0 (some uC), .int .i64 0, .int .i64 0, .int .i64 0] rfl (.keep (.keep (.keep (.keep (.keep (.keep (.keep (.keep (.cons (.own0 29 _ _ _ (by decide)) (.refl _)))))))))) ?_
 refine Goes.wk 3 _ (.imm 1 [] 4) rfl (.nil4 _ _ 0 rfl) ?_
 exact .m [2, 3, 4] [16, 29, 0] [(16, 0), (29, 1), (0, 2)]
 exact rsi0
 rfl
 replace hx1 := za3 hx1 hc4
 refine .skip ?_
 refine .seq ?_
 obtain ⟨v4, hv4, hx1⟩ := bind_some hx1
 refine .rg zS [2, 6, 8] ?_
 refine .rn 1 ?_
 refine .hcall (H := []) (eff := [(29, some (.arr 3 1 true (v4.1.map (D.int .i64))))]) (nw := (29, 34)) (r := .tuple [.ref 29 1 0 v4.1.length (some uC), .imm 1 (v4.2.1.map (D.int .u8)) 4, .bool v4.2.2]) rfl rfl rfl rfl rfl (zeh 29 (lb rfl) (zco v3.2.1 1 v4 hv4)) (fun id b h => zaj [] _ id b h) (by simp) (.inr ⟨lb rfl, lb rfl⟩) ?_
 refine .rn 7 ?_
 refine .nil ⟨nofun, ?_⟩
 refine .seq (.seq (.pl zS [2, 6, 7, 8, 9] ?_))
 refine .cond rfl rfl (fun hc5 => ?_) (fun hc5 => ?_)
 replace hx1 := za0 hx1 hc5
 refine .seq (.pl zS [2, 8] ?_)
 have hq := sj hx1
 subst x1
 try dsimp only at h
 have hq := sj h
 subst r
 refine .ret ⟨st33 ((⟨(wr .u8 (v1.1.getD 0 default)), (⟨(v2.1.getD 0 default), v3.1, 0, [], []⟩ : TMessage), 0, 0, [], 0, 0, 0⟩ : TCommand), [], false), ?_, .inr rfl, retH [1, 0] ?_ ?_⟩
 refine Goes.new0 1 3 (lb rfl) ?_
 refine Goes.boxs 0 _ [.int .u8 (wr .u8 (v1.1.getD 0 default)), .int .i64 (v2.1.getD 0 default), .ref 16 1 0 v3.1.length (some uC), .int .i64 0, .str [], .str [], .int .i64 0, .int .i64 0, .ref 34 1 0 0 (some uC), .int .i64 0, .int .i64 0, .int .i64 0] rfl (.keep (.keep (.keep (.keep (.keep (.keep (.keep (.keep (.cons (.own0 34 _ _ _ (by decide)) (.refl _)))))))))) ?_
 refine Goes.wk 3 _ (.imm 1 [] 4) rfl (.nil4 _ _ 0 rfl) ?_
 exact .m [2, 3, 4] [16, 34, 0] [(16, 0), (34, 1), (0, 2)]
 exact rsi0
 rfl
 replace hx1 := za3 hx1 hc5
 refine .skip ?_
 refine .seq ?_
 obtain ⟨k4, hx1⟩ := zae hx1
 have e3 := zdl (D.int .i64) v4.1 0 k4
 refine .plx zS e3 [2, 6, 8, 9] ?_
 obtain ⟨v5, hv5, hx1⟩ := bind_some hx1
 refine .rg zS [2, 6, 8] ?_
 refine .rn 1 ?_
 refine .hcall (H := []) (eff := []) (nw := (34, 36)) (r := .tuple [.str v5.1, .str v5.2.1, .imm 1 (v5.2.2.1.map (D.int .u8)) 4, .bool v5.2.2.2]) rfl rfl rfl rfl rfl (zeh 34 (lb rfl) (zkl v4.2.1 v5 hv5)) (fun id b h => zaj [] _ id b h) (by simp) (.inr ⟨lb rfl, lb rfl⟩) ?_
 refine .rn 6 ?_
 refine .rn 7 ?_
 refine .nil ⟨nofun, ?_⟩
 refine ⟨_, ?_, (sj hx1).symm⟩
 refine Goes.new0 1 3 (lb rfl) ?_
 refine Goes.boxs 10 _ [.int .u8 (wr .u8 (v1.1.getD 0 default)), .int .i64 (v2.1.getD 0 default), .ref 16 1 0 v3.1.length (some uC), .int .i64 (v4.1.getD 0 default), .str v5.1, .str v5.2.1, .int .i64 0, .int .i64 0, .ref 36 1 0 0 (some uC), .int .i64 0, .int .i64 0, .int .i64 0] rfl (.keep (.keep (.keep (.keep (.keep (.keep (.keep (.keep (.cons (.own0 36 _ _ _ (by decide)) (.refl _)))))))))) ?_
 exact .m [2, 6, 7, 8] [0, 10, 16, 36] [(16, 11), (36, 12)]
 replace hx1 := za3 hx1 hc2
 refine .seq (.pl zS [2, 6, 7, 8, 31] ?_)
 refine .cond rfl rfl (fun hc6 => ?_) (fun hc6 => ?_)
 replace hx1 := za0 hx1 hc6
 refine .seq ?_
 obtain ⟨v6, hv6, hx1⟩ := bind_some hx1
 refine .rg zS [2, 6, 8] ?_
 refine .rn 1 ?_
 refine .hcall (H := []) (eff := [(11, some (.arr 3 1 true (v6.1.map (D.int .i64))))]) (nw := (11, 16)) (r := .tuple [.ref 11 1 0 v6.1.length (some uC), .imm 1 (v6.2.1.map (D.int .u8)) 4, .bool v6.2.2]) rfl rfl rfl rfl rfl (zeh 11 (lb rfl) (zco v1.2.1 2 v6 hv6)) (fun id b h => zaj [] _ id b h) (by simp) (.inr ⟨lb rfl, lb rfl⟩) ?_
 refine .rn 7 ?_
 refine .nil ⟨nofun, ?_⟩
 refine .seq (.pl zS [2, 6, 7, 8, 9] ?_)
 refine .cond rfl rfl (fun hc7 => ?_) (fun hc7 => ?_)
 replace hx1 := za0 hx1 hc7
 refine .seq ?_
 obtain ⟨k5, hx1⟩ := zae hx1
 have e4 := zdl (D.int .i64) v6.1 0 k5
 refine .plx zS e4 [2, 6, 7, 8, 9] ?_
 obtain ⟨k6, hx1⟩ := zae hx1
 have e5 := zdl (D.int .i64) v6.1 1 k6
 refine .plx zS e5 [2, 6, 7, 8, 9] ?_
 refine ⟨_, ?_, (sj hx1).symm⟩
 refine Goes.new0 1 3 (lb rfl) ?_
 refine Goes.new0 1 3 (lb rfl) ?_
 refine Goes.boxs 10 _ [.int .u8 (wr .u8 (v1.1.getD 0 default)), .int .i64 0, .ref 16 1 0 0 (some uC), .int .i64 0, .str [], .str [], .int .i64 (v6.1.getD 0 default), .int .i64 (v6.1.getD 1 default), .ref 17 1 0 0 (some uC), .int .i64 0, .int .i64 0, .int .i64 0] rfl (.keep (.keep (.cons (.own0 16 _ _ _ (by decide)) (.keep (.keep (.keep (.keep (.keep (.cons (.own0 17 _ _ _ (by decide)) (.refl _)))))))))) ?_
 exact .m [2, 6, 7, 8] [0, 10, 16, 17] [(16, 11), (17, 12)]
 replace hx1 := za3 hx1 hc7
 refine .skip ?_
 refine ⟨_, ?_, (sj hx1).symm⟩
 refine Goes.new0 1 3 (lb rfl) ?_
 refine Goes.new0 1 3 (lb rfl) ?_
 refine Goes.boxs 10 _ [.int .u8 (wr .u8 (v1.1.getD 0 default)), .int .i64 0, .ref 16 1 0 0 (some uC), .int .i64 0, .str [], .str [], .int .i64 0, .int .i64 0, .ref 17 1 0 0 (some uC), .int .i64 0, .int .i64 0, .int .i64 0] rfl (.keep (.keep (.cons (.own0 16 _ _ _ (by decide)) (.keep (.keep (.keep (.keep (.keep (.cons (.own0 17 _ _ _ (by decide)) (.refl _)))))))))) ?_
 exact .m [2, 6, 7, 8] [0, 10, 16, 17] [(16, 11), (17, 12)]
 replace hx1 := za3 hx1 hc6
 refine .seq (.pl zS [2, 6, 7, 8, 31] ?_)
 refine .cond rfl rfl (fun hc8 => ?_) (fun hc8 => ?_)
 replace hx1 := za0 hx1 hc8
 obtain ⟨v7, hv7, hx1⟩ := bind_some hx1
 refine .rg zS [2, 6, 8] ?_
 refine .rn 1 ?_
 refine .hcall (H := []) (eff := [(13, some (.arr 3 1 true (v7.1.map (D.int .i64))))]) (nw := (13, 26)) (r := .tuple [.ref 13 1 0 v7.1.length (some uC), .imm 1 (v7.2.1.map (D.int .u8)) 4, .bool v7.2.2]) rfl rfl rfl rfl rfl (zeh 13 (lb rfl) (zht v1.2.1 6 v7 hv7)) (fun id b h => zaj [] _ id b h) (by simp) (.inr ⟨lb rfl, lb rfl⟩) ?_
 refine .rn 8 ?_
 refine .nil ⟨nofun, ?_⟩
 refine ⟨_, ?_, (sj hx1).symm⟩
 refine Goes.new0 1 3 (lb rfl) ?_
 refine Goes.boxs 10 _ [.int .u8 (wr .u8 (v1.1.getD 0 default)), .int .i64 0, .ref 26 1 0 0 (some uC), .int .i64 0, .str [], .str [], .int .i64 0, .int .i64 0, .ref 13 1 0 v7.1.length (some uC), .int .i64 0, .int .i64 0, .int .i64 0] rfl (.keep (.keep (.cons (.own0 26 _ _ _ (by decide)) (.refl _)))) ?_
 exact .m [2, 6, 7, 8] [0, 10, 26, 13] [(26, 11), (13, 12)]
 replace hx1 := za3 hx1 hc8
 refine .seq (.pl zS [2, 6, 7, 8, 31] ?_)
 refine .cond rfl rfl (fun hc9 => ?_) (fun hc9 => ?_)
 replace hx1 := za0 hx1 hc9
 refine .seq ?_
 obtain ⟨v8, hv8, hx1⟩ := bind_some hx1
 refine .rg zS [2, 6, 8] ?_
 refine .rn 1 ?_
 refine .hcall (H := []) (eff := [(11, some (.arr 3 1 true (v8.1.map (D.int .i64))))]) (nw := (11, 16)) (r := .tuple [.ref 11 1 0 v8.1.length (some uC), .imm 1 (v8.2.1.map (D.int .u8)) 4, .bool v8.2.2]) rfl rfl rfl rfl rfl (zeh 11 (lb rfl) (zco v1.2.1 4 v8 hv8)) (fun id b h => zaj [] _ id b h) (by simp) (.inr ⟨lb rfl, lb rfl⟩) ?_
 refine .rn 7 ?_
 refine .nil ⟨nofun, ?_⟩
 refine .seq (.pl zS [2, 6, 7, 8, 9] ?_)
 refine .cond rfl rfl (fun hc10 => ?_) (fun hc10 => ?_)
 replace hx1 := za0 hx1 hc10
 refine .seq ?_
 obtain ⟨k7, hx1⟩ := zae hx1
 have e6 := zdl (D.int .i64) v8.1 0 k7
 refine .plx zS e6 [2, 6, 7, 8, 9] ?_
 refine .seq ?_
 obtain ⟨k8, hx1⟩ := zae hx1
 have e7 := zdl (D.int .i64) v8.1 1 k8
 refine .plx zS e7 [2, 6, 7, 8, 9] ?_
 refine .seq ?_
 obtain ⟨k9, hx1⟩ := zae hx1
 have e8 := zdl (D.int .i64) v8.1 2 k9
 refine .plx zS e8 [2, 6, 7, 8, 9] ?_
 obtain ⟨k10, hx1⟩ := zae hx1
 have e9 := zdl (D.int .i64) v8.1 3 k10
 refine .plx zS e9 [2, 6, 7, 8, 9] ?_
 refine ⟨_, ?_, (sj hx1).symm⟩
 refine Goes.new0 1 3 (lb rfl) ?_
 refine Goes.new0 1 3 (lb rfl) ?_
 refine Goes.boxs 10 _ [.int .u8 (wr .u8 (v1.1.getD 0 default)), .int .i64 0, .ref 16 1 0 0 (some uC), .int .i64 0, .str [], .str [], .int .i64 (v8.1.getD 0 default), .int .i64 0, .ref 17 1 0 0 (some uC), .int .i64 (v8.1.getD 1 default), .int .i64 (v8.1.getD 2 default), .int .i64 (v8.1.getD 3 default)] rfl (.keep (.keep (.cons (.own0 16 _ _ _ (by decide)) (.keep (.keep (.keep (.keep (.keep (.cons (.own0 17 _ _ _ (by decide)) (.refl _)))))))))) ?_
 exact .m [2, 6, 7, 8] [0, 10, 16, 17] [(16, 11), (17, 12)]
 replace hx1 := za3 hx1 hc10
 refine .skip ?_
 refine ⟨_, ?_, (sj hx1).symm⟩
 refine Goes.new0 1 3 (lb rfl) ?_
 refine Goes.new0 1 3 (lb rfl) ?_
 refine Goes.boxs 10 _ [.int .u8 (wr .u8 (v1.1.getD 0 default)), .int .i64 0, .ref 16 1 0 0 (some uC), .int .i64 0, .str [], .str [], .int .i64 0, .int .i64 0, .ref 17 1 0 0 (some uC), .int .i64 0, .int .i64 0, .int .i64 0] rfl (.keep (.keep (.cons (.own0 16 _ _ _ (by decide)) (.keep (.keep (.keep (.keep (.keep (.cons (.own0 17 _ _ _ (by decide)) (.refl _)))))))))) ?_
 exact .m [2, 6, 7, 8] [0, 10, 16, 17] [(16, 11), (17, 12)]
 replace hx1 := za3 hx1 hc9
 obtain ⟨x2, hx2, hx1⟩ := bind_some hx1
 refine .seqM 11 (fun (j : Bool) => ya5z v1 j) (fun j => x2 = j) (lb rfl) ?_ ?_
 refine .seq (.pl zS [2, 6, 7, 8, 31] ?_)
 refine .cond rfl rfl (fun hc11 => ?_) (fun hc11 => ?_)
 replace hx2 := za0 hx2 hc11
 refine .skip ?_
 refine ⟨_, ?_, (sj hx2).symm⟩
 exact .m [2, 6, 7, 8, 135] [0, 10] []
 replace hx2 := za3 hx2 hc11
 refine .pl zS [2, 6, 7, 8, 31] ?_
 refine ⟨_, ?_, (sj hx2).symm⟩
 exact .m [2, 6, 7, 8, 135] [0, 10] []
 rintro b2 hj1
 subst x2
 try dsimp only at hx1
 simp only [ya5z]
 refine .cond rfl rfl (fun hc12 => ?_) (fun hc12 => ?_)
 replace hx1 := za0 hx1 hc12
 refine .seq ?_
 obtain ⟨v9, hv9, hx1⟩ := bind_some hx1
 refine .rg zS [2, 6, 8] ?_
 refine .rn 1 ?_
 refine .hcall (H := []) (eff := [(11, some (.arr 3 1 true (v9.1.map (D.int .i64))))]) (nw := (11, 16)) (r := .tuple [.ref 11 1 0 v9.1.length (some uC), .imm 1 (v9.2.1.map (D.int .u8)) 4, .bool v9.2.2]) rfl rfl rfl rfl rfl (zeh 11 (lb rfl) (zco v1.2.1 3 v9 hv9)) (fun id b h => zaj [] _ id b h) (by simp) (.inr ⟨lb rfl, lb rfl⟩) ?_
 refine .rn 7 ?_
 refine .nil ⟨nofun, ?_⟩
 refine .seq (.pl zS [2, 6, 7, 8, 9] ?_)
 refine .cond rfl rfl (fun hc13 => ?_) (fun hc13 => ?_)
 replace hx1 := za0 hx1 hc13
 refine .seq ?_
 obtain ⟨k11, hx1⟩ := zae hx1
 have e10 := zdl (D.int .i64) v9.1 0 k11
 refine .plx zS e10 [2, 6, 7, 8, 9] ?_
 refine .seq ?_
 obtain ⟨k12, hx1⟩ := zae hx1
 have e11 := zdl (D.int .i64) v9.1 1 k12
 refine .plx zS e11 [2, 6, 7, 8, 9] ?_
 obtain ⟨k13, hx1⟩ := zae hx1
 have e12 := zdl (D.int .i64) v9.1 2 k13
 refine .plx zS e12 [2, 6, 7, 8, 9] ?_
 refine ⟨_, ?_, (sj hx1).symm⟩
 refine Goes.new0 1 3 (lb rfl) ?_
 refine Goes.new0 1 3 (lb rfl) ?_
 refine Goes.boxs 10 _ [.int .u8 (wr .u8 (v1.1.getD 0 default)), .int .i64 0, .ref 16 1 0 0 (some uC), .int .i64 0, .str [], .str [], .int .i64 (v9.1.getD 0 default), .int .i64 0, .ref 17 1 0 0 (some uC), .int .i64 (v9.1.getD 1 default), .int .i64 0, .int .i64 (v9.1.getD 2 default)] rfl (.keep (.keep (.cons (.own0 16 _ _ _ (by decide)) (.keep (.keep (.keep (.keep (.keep (.cons (.own0 17 _ _ _ (by decide)) (.refl _)))))))))) ?_
 exact .m [2, 6, 7, 8] [0, 10, 16, 17] [(16, 11), (17, 12)]
 replace hx1 := za3 hx1 hc13
 refine .skip ?_
 refine ⟨_, ?_, (sj hx1).symm⟩
 refine Goes.new0 1 3 (lb rfl) ?_
 refine Goes.new0 1 3 (lb rfl) ?_
 refine Goes.boxs 10 _ [.int .u8 (wr .u8 (v1.1.getD 0 default)), .int .i64 0, .ref 16 1 0 0 (some uC), .int .i64 0, .str [], .str [], .int .i64 0, .int .i64 0, .ref 17 1 0 0 (some uC), .int .i64 0, .int .i64 0, .int .i64 0] rfl (.keep (.keep (.cons (.own0 16 _ _ _ (by decide)) (.keep (.keep (.keep (.keep (.keep (.cons (.own0 17 _ _ _ (by decide)) (.refl _)))))))))) ?_
 exact .m [2, 6, 7, 8] [0, 10, 16, 17] [(16, 11), (17, 12)]
 replace hx1 := za3 hx1 hc12
 refine .skip ?_
 refine ⟨_, ?_, (sj hx1).symm⟩
 refine Goes.new0 1 3 (lb rfl) ?_
 refine Goes.new0 1 3 (lb rfl) ?_
 refine Goes.boxs 10 _ [.int .u8 (wr .u8 (v1.1.getD 0 default)), .int .i64 0, .ref 11 1 0 0 (some uC), .int .i64 0, .str [], .str [], .int .i64 0, .int .i64 0, .ref 12 1 0 0 (some uC), .int .i64 0, .int .i64 0, .int .i64 0] rfl (.keep (.keep (.cons (.own0 11 _ _ _ (by decide)) (.keep (.keep (.keep (.keep (.keep (.cons (.own0 12 _ _ _ (by decide)) (.refl _)))))))))) ?_
 exact .m [2, 6, 7, 8] [0, 10, 11, 12] []
 rintro ⟨l1, b1, n1, l2, n2, s1, s2, n3, n4, l3, n5, n6, n7⟩ hj2
 subst x1
 try dsimp only at h
 simp only [ya60]
 refine .seq (.pl zS [2, 6, 7, 8] ?_)
 have hq := sj h
 subst r
 refine .ret ⟨st33 ((⟨(wr .u8 (v1.1.getD 0 default)), (⟨n1, l2, n2, s1, s2⟩ : TMessage), n3, n4, l3, n5, n6, n7⟩ : TCommand), l1, b1), ?_, .inr rfl, retH [1, 0] ?_ ?_⟩
 exact .m [2, 3, 4] [11, 12, 0] [(11, 0), (12, 1), (0, 2)]
 exact rsi0
 rfl
@[go_sem] def st31 (r : TCommand × Int) : St := ⟨[(2, .ptr 2 0), (3, .int .i64 r.2)], [(0, .arr 3 1 true (r.1.Message.Groups.map (D.int .i64))), (1, .arr 3 1 true (r.1.Members.map (D.int .i64))), (2, .box [.int .u8 r.1.Kind, .int .i64 r.1.Message.Id, .ref 0 1 0 r.1.Message.Groups.length (some uC), .int .i64 r.1.Message.Topic, .str r.1.Message.Key, .str r.1.Message.Body, .int .i64 r.1.Id, .int .i64 r.1.Time, .ref 1 1 0 r.1.Members.length (some uC), .int .i64 r.1.Topic, .int .i64 r.1.Who, .int .i64 r.1.N])], 3⟩
theorem zhs (a0 : List UInt8) (r : TCommand × Int) (h : zc6 a0 = some r) : zcv Tryz.prog 71 [.str a0] [] (.tuple [.agg [.int .u8 r.1.Kind, .int .i64 r.1.Message.Id, .ref 0 1 0 r.1.Message.Groups.length (some uC), .int .i64 r.1.Message.Topic, .str r.1.Message.Key, .str r.1.Message.Body, .int .i64 r.1.Id, .int .i64 r.1.Time, .ref 1 1 0 r.1.Members.length (some uC), .int .i64 r.1.Topic, .int .i64 r.1.Who, .int .i64 r.1.N], .int .i64 r.2]) [(0, some (.arr 3 1 true (r.1.Message.Groups.map (D.int .i64)))), (1, some (.arr 3 1 true (r.1.Members.map (D.int .i64))))] (0, 83) := by
 refine za5 Tryz.tmOk Tryz.func71 rfl (by decide) (lb rfl) (by simp) ?_
 intro hwf
 unfold zc6 at h
 refine .ends 0 (Nat.le_refl _) ?_
 refine .seq (.pl zS [0] ?_)
 refine .seq (.seq (.pl zS [0, 2] ?_))
 refine .cond rfl rfl (fun hc1 => ?_) (fun hc1 => ?_)
 replace h := za0 h hc1
 refine .seq (.pl zS [2] ?_)
 have hq := sj h
 subst r
 refine .ret ⟨st31 ((⟨0, (⟨0, [], 0, [], []⟩ : TMessage), 0, 0, [], 0, 0, 0⟩ : TCommand), 3), ?_, .inr rfl, retH [1, 0] ?_ ?_⟩
 refine Goes.new0 1 3 (lb rfl) ?_
 refine Goes.new0 1 3 (lb rfl) ?_
 refine Goes.boxs 0 _ [.int .u8 0, .int .i64 0, .ref 1 1 0 0 (some uC), .int .i64 0, .str [], .str [], .int .i64 0, .int .i64 0, .ref 2 1 0 0 (some uC), .int .i64 0, .int .i64 0, .int .i64 0] rfl (.keep (.keep (.cons (.own0 1 _ _ _ (by decide)) (.keep (.keep (.keep (.keep (.keep (.cons (.own0 2 _ _ _ (by decide)) (.refl _)))))))))) ?_
 exact .m [2, 3] [1, 2, 0] [(1, 0), (2, 1), (0, 2)]
 exact rsi0
 rfl
 replace h := za3 h hc1
 refine .skip ?_
 refine .seq ?_
 obtain ⟨v1, hv1, h⟩ := bind_some h
 refine .rg zS [0, 2] ?_
 refine .rn 2 ?_
 refine .hcall (H := []) (eff := [(39, some (.arr 3 1 true (v1.1.Message.Groups.map (D.int .i64)))), (40, some (.arr 3 1 true (v1.1.Members.map (D.int .i64))))]) (nw := (39, 78)) (r := .tuple [.agg [.int .u8 v1.1.Kind, .int .i64 v1.1.Message.Id, .ref 39 1 0 v1.1.Message.Groups.length (some uC), .int .i64 v1.1.Message.Topic, .str v1.1.Message.Key, .str v1.1.Message.Body, .int .i64 v1.1.Id, .int .i64 v1.1.Time, .ref 40 1 0 v1.1.Members.length (some uC), .int .i64 v1.1.Topic, .int .i64 v1.1.Who, .int .i64 v1.1.N], .imm 1 (v1.2.1.map (D.int .u8)) 4, .bool v1.2.2]) rfl rfl rfl rfl rfl (zeh 39 (lb rfl) (zot (.cons (.new4 _ _ rfl) (.refl _)) (zkk (zh1 a0) v1 hv1))) (fun id b h => zaj [] _ id b h) (by simp) (.inr ⟨lb rfl, lb rfl⟩) ?_
 refine .rn 8 ?_
 refine .nil ⟨nofun, ?_⟩
 refine .seq (.seq ?_)
 obtain ⟨v2, hv2, h⟩ := bind_some h
 refine .rg zS [2, 4, 5, 6] ?_
 refine .rn 6 ?_
 refine .rn 3 ?_
 refine .glcall (r := .bool v2) [] rfl rfl rfl rfl rfl (fun hg => ⟨[], [.agg [.int .u8 v1.1.Kind, .int .i64 v1.1.Message.Id, .ref 39 1 0 v1.1.Message.Groups.length (some uC), .int .i64 v1.1.Message.Topic, .str v1.1.Message.Key, .str v1.1.Message.Body, .int .i64 v1.1.Id, .int .i64 v1.1.Time, .ref 40 1 0 v1.1.Members.length (some uC), .int .i64 v1.1.Topic, .int .i64 v1.1.Who, .int .i64 v1.1.N]], _, rfl, gd hg, (za7 (zly (zob (za1 rfl (za1 rfl (za1 (zhw (zsp .i64) (by first | rfl | (simp only [go_sem, Nat.reduceBEq]; rfl)) (by first | rfl | (simp; done) | (simp <;> omega))) (za1 rfl (za1 rfl (za1 rfl (za1 rfl (za1 rfl (za1 (zhw (zsp .i64) (by first | rfl | (simp only [go_sem, Nat.reduceBEq]; rfl)) (by first | rfl | (simp; done) | (simp <;> omega))) (za1 rfl (za1 rfl (za1 rfl zgv))))))))))))) trivial) zb9), rfl, (zlg v1.1 v2 (za0 hv2 hg))⟩) ?_
 refine .rn 2 ?_
 refine .nil ⟨nofun, ?_⟩
 refine .cond rfl rfl (fun hc2 => ?_) (fun hc2 => ?_)
 replace h := za0 h hc2
 refine .seq (.pl zS [2] ?_)
 have hq := sj h
 subst r
 refine .ret ⟨st31 ((⟨0, (⟨0, [], 0, [], []⟩ : TMessage), 0, 0, [], 0, 0, 0⟩ : TCommand), 8), ?_, .inr rfl, retH [1, 0] ?_ ?_⟩
 refine Goes.new0 1 3 (lb rfl) ?_
 refine Goes.new0 1 3 (lb rfl) ?_
 refine Goes.boxs 0 _ [.int .u8 0, .int .i64 0, .ref 79 1 0 0 (some uC), .int .i64 0, .str [], .str [], .int .i64 0, .int .i64 0, .ref 80 1 0 0 (some uC), .int .i64 0, .int .i64 0, .int .i64 0] rfl (.keep (.keep (.cons (.own0 79 _ _ _ (by decide)) (.keep (.keep (.keep (.keep (.keep (.cons (.own0 80 _ _ _ (by decide)) (.refl _)))))))))) ?_
 exact .m [2, 3] [79, 80, 0] [(79, 0), (80, 1), (0, 2)]
 exact rsi0
 rfl
 replace h := za3 h hc2
 refine .skip ?_
 refine .seq (.pl zS [2, 4] ?_)
 have hq := sj h
 subst r
 refine .ret ⟨st31 (v1.1, 0), ?_, .inr rfl, retH [1, 0] ?_ ?_⟩
 exact .m [2, 3] [39, 40, 0] [(39, 0), (40, 1), (0, 2)]
 exact rsi0
 rfl
theorem zl0 (a0 : List UInt8) (r : TCommand × Int) (h : zc6 a0 = some r) : zbn Tryz.prog 71 [.str a0] (.tuple [.agg [.int .u8 r.1.Kind, .int .i64 r.1.Message.Id, .imm 1 (r.1.Message.Groups.map (D.int .i64)) 12, .int .i64 r.1.Message.Topic, .str r.1.Message.Key, .str r.1.Message.Body, .int .i64 r.1.Id, .int .i64 r.1.Time, .imm 1 (r.1.Members.map (D.int .i64)) 12, .int .i64 r.1.Topic, .int .i64 r.1.Who, .int .i64 r.1.N], .int .i64 r.2]) :=
 zg0 (zpb (zak (zrk (zak rfl (zak rfl (zak (ziv zks rfl rfl) (zak rfl (zak rfl (zak rfl (zak rfl (zak rfl (zak (ziv zks rfl rfl) (zak rfl (zak rfl (zak rfl zhx))))))))))))) (zak rfl zhx))) (zhs a0 r h)
@[go_sem] def ya5w : St := ⟨[], [], 0⟩
@[go_sem] def ya5v (a0 : List (List UInt8)) (n1 : Nat) : St := ⟨[(0, .imm 1 (a0.map D.str) 4), (3, .int .i64 (n1 : Int))], [], 0⟩
theorem zkf (a0 : List (List UInt8)) (r : Int) (h : zdc a0 = some r) : zbn Tryz.prog 46 [.imm 1 (a0.map D.str) 4] (.int .i64 r) := by
 refine za2 Tryz.tmOk 169 Tryz.func46 rfl (by decide) rfl rfl (lb rfl) ?_
 intro hwf
 unfold zdc at h
 refine .seq (.pl zS [0] ?_)
 refine .seq (.seq (.pl zS [0] ?_))
 refine .cond rfl rfl (fun hc1 => ?_) (fun hc1 => ?_)
 replace h := za0 h hc1
 refine .seq (.pl zS [] ?_)
 have hq := sj h
 subst r
 exact .ret ⟨.inr rfl, rsi⟩
 replace h := za3 h hc1
 refine .skip ?_
 obtain ⟨x1, hx1, h⟩ := bind_some h
 refine .seqM 0 (fun (j : Unit) => ya5w) (fun j => x1 = (.inr j)) (lb rfl) ?_ ?_
 refine .seq (.pl zS [0] ?_)
 refine .block ?_
 refine .loopG 0 (fun (j : Nat) => ya5v a0 j) (fun j => j <= a0.length /\ zbk (a0.drop j)  = some x1) (fun j => a0.length - j) (0) (lb rfl) ?_ ⟨Nat.zero_le _, hx1⟩ ?_
 exact .m [0, 3] [] []
 rintro n1 ⟨hi1, hx1⟩
 simp only [ya5v]
 refine .wf 0 (.imm 1 (a0.map D.str) 4) rfl ?_
 intro hln1
 replace hln1 : (a0.length : Int) <= 9223372036854775807 := by simp only [wf, wfL, IntKind.max, IntKind.min, IntKind.signed, IntKind.bits, List.length_map] at hln1; first | exact hln1.2 | exact hln1.1 | (simp at hln1; omega)
 refine .seq (.seq (.pl zS [0, 3] ?_))
 refine .cond rfl rfl (fun hc2 => ?_) (fun hc2 => ?_)
 have h1 : n1 < a0.length := by simpa using hc2
 have hwn1 : wr .i64 ((n1 : Int) + 1) = ((n1 + 1 : Nat) : Int) := zch h1 hln1
 have hpn1 : wr .i64 ((n1 : Int) - 1) = (n1 : Int) - 1 := zci h1 hln1
 rw [List.drop_eq_getElem_cons h1, zbk] at hx1
 refine .skip ?_
 refine .seq (.block (.seq ?_))
 obtain ⟨v1, hv1, hx1⟩ := bind_some hx1
 have e1 := zay D.str a0 n1 h1
 refine .rg zS [0, 3] ?_
 refine .rnx 4 (ai e1 hwn1) ?_
 refine .ncall (r := .tuple [.agg [.int .u8 v1.1.Kind, .int .i64 v1.1.Message.Id, .ref 83 1 0 v1.1.Message.Groups.length (some uC), .int .i64 v1.1.Message.Topic, .str v1.1.Message.Key, .str v1.1.Message.Body, .int .i64 v1.1.Id, .int .i64 v1.1.Time, .ref 84 1 0 v1.1.Members.length (some uC), .int .i64 v1.1.Topic, .int .i64 v1.1.Who, .int .i64 v1.1.N], .int .i64 v1.2]) (eff := [(83, some (.arr 3 1 true (v1.1.Message.Groups.map (D.int .i64)))), (84, some (.arr 3 1 true (v1.1.Members.map (D.int .i64))))]) (nw := (83, 166)) [] rfl rfl rfl rfl rfl (za7 rfl zb9) rfl (zeh 83 (lb rfl) (zhs (a0[n1]) v1 hv1)) (zfu rfl rfl (zji zks _ _ _) (zfu rfl rfl (zji zks _ _ _) zjh)) (by intro i hi; simp [D.ids, D.idsL] at hi <;> omega) rfl ⟨lb rfl, lb rfl⟩ ?_
 refine .rnx 6 (ai e1 hwn1) ?_
 refine .nil ⟨nofun, ?_⟩
 refine .seq (.plx zS hwn1 [0, 3, 5] ?_)
 refine .cond rfl rfl (fun hc3 => ?_) (fun hc3 => ?_)
 replace hx1 := za0 hx1 hc3
 refine .seq (.plx zS hwn1 [] ?_)
 have hq := sj hx1
 subst x1
 try dsimp only at h
 have hq := sj h
 subst r
 exact .ret ⟨.inr rfl, rsi⟩
 replace hx1 := za3 hx1 hc3
 refine .skip ?_
 refine .plx zS hwn1 [0, 3] ?_
 refine ⟨n1 + 1, ?_, ⟨by omega, hx1⟩, by dsimp only; omega⟩
 exact .m [0, 3] [] []
 have h2 : n1 = a0.length := by have h2b := of_decide_eq_false hc2; omega
 rw [List.drop_of_length_le (by omega), zbk] at hx1
 refine .exit ?_
 refine ⟨_, ?_, (sj hx1).symm⟩
 exact .m [] [] []
 rintro ⟨⟩ hj1
 subst x1
 try dsimp only at h
 simp only [ya5w]
 refine .seq (.pl zS [] ?_)
 have hq := sj h
 subst r
 exact .ret ⟨.inr rfl, rsi⟩
@[go_sem] def ya5y (l1 : List TCommand) : St := ⟨[(3, .ref 0 12 0 l1.length (some uC))], [(0, .arr 59 12 true (l1.map TCommand.n))], 1⟩
@[go_sem] def ya5x (a0 : List (List UInt8)) (n1 : Nat) (l2 : List TCommand) : St := ⟨[(0, .imm 1 (a0.map D.str) 4), (3, .ref 0 12 0 l2.length (some uC)), (4, .int .i64 (n1 : Int))], [(0, .arr 59 12 true (l2.map TCommand.n))], 1⟩
@[go_sem] def st34 (r : (List TCommand)) : St := ⟨[(2, .ref 0 12 0 r.length (some uC))], [(0, .arr 59 12 true (r.map TCommand.n))], 1⟩
theorem zlo (a0 : List (List UInt8)) (r : (List TCommand)) (h : zf9 a0 = some r) : zcv Tryz.prog 72 [.imm 1 (a0.map D.str) 4] [] (.ref 0 12 0 r.length (some uC)) [(0, some (.arr 59 12 true (r.map TCommand.n)))] (0, 6) := by
 refine za5 Tryz.tmOk Tryz.func72 rfl (by decide) (lb rfl) (by simp) ?_
 intro hwf
 unfold zf9 at h
 refine .ends 0 (Nat.le_refl _) ?_
 refine .seq (.pl zS [0] ?_)
 refine .seq (.pl zS [0] ?_)
 obtain ⟨x1, hx1, h⟩ := bind_some h
 refine .seqM 0 (fun (j : (List TCommand)) => ya5y j) (fun j => x1 = j) (lb rfl) ?_ ?_
 refine .seq (.pl zS [0, 3] ?_)
 refine .block ?_
 refine .loopG 0 (fun (j : Nat × (List TCommand)) => ya5x a0 j.1 j.2) (fun j => j.1 <= a0.length /\ zbd (a0.drop j.1) j.2 = some x1) (fun j => a0.length - j.1) (0, []) (lb rfl) ?_ ⟨Nat.zero_le _, hx1⟩ ?_
 refine Goes.new0 12 59 (lb rfl) ?_
 refine Goes.wk 3 _ (.ref 0 12 0 0 (some uC)) rfl (.own0 0 _ _ _ (by decide)) ?_
 exact .m [0, 3, 4] [0] []
 rintro ⟨n1, l2⟩ ⟨hi1, hx1⟩
 simp only [ya5x]
 simp only at hi1 hx1
 refine .wf 0 (.imm 1 (a0.map D.str) 4) rfl ?_
 intro hln1
 replace hln1 : (a0.length : Int) <= 9223372036854775807 := by simp only [wf, wfL, IntKind.max, IntKind.min, IntKind.signed, IntKind.bits, List.length_map] at hln1; first | exact hln1.2 | exact hln1.1 | (simp at hln1; omega)
 refine .seq (.seq (.pl zS [0, 3, 4] ?_))
 refine .cond rfl rfl (fun hc1 => ?_) (fun hc1 => ?_)
 have h1 : n1 < a0.length := by simpa using hc1
 have hwn1 : wr .i64 ((n1 : Int) + 1) = ((n1 + 1 : Nat) : Int) := zch h1 hln1
 have hpn1 : wr .i64 ((n1 : Int) - 1) = (n1 : Int) - 1 := zci h1 hln1
 rw [List.drop_eq_getElem_cons h1, zjk] at hx1
 refine .skip ?_
 refine .seq (.block (.seq ?_))
 obtain ⟨v1, hv1, hx1⟩ := bind_some hx1
 have e1 := zay D.str a0 n1 h1
 refine .rg zS [0, 3, 4] ?_
 refine .rnx 4 (ai e1 hwn1) ?_
 refine .call (r := .tuple [.agg [.int .u8 v1.1.Kind, .int .i64 v1.1.Message.Id, .imm 1 (v1.1.Message.Groups.map (D.int .i64)) 12, .int .i64 v1.1.Message.Topic, .str v1.1.Message.Key, .str v1.1.Message.Body, .int .i64 v1.1.Id, .int .i64 v1.1.Time, .imm 1 (v1.1.Members.map (D.int .i64)) 12, .int .i64 v1.1.Topic, .int .i64 v1.1.Who, .int .i64 v1.1.N], .int .i64 v1.2]) rfl rfl rfl rfl rfl rfl (zl0 (a0[n1]) v1 hv1) ?_
 refine .rnx 6 (ai e1 hwn1) ?_
 refine .nil ⟨nofun, ?_⟩
 obtain ⟨k1, hx1⟩ := zae hx1
 refine .plx zS hwn1 [0, 3, 4, 5] ?_
 refine .plx zS hwn1 [0, 3, 4] ?_
 refine ⟨(n1 + 1, _), ?_, ⟨by omega, hx1⟩, by dsimp only; omega⟩
 exact .m [0, 3, 4] [3] [(3, 0)]
 have h2 : n1 = a0.length := by have h2b := of_decide_eq_false hc1; omega
 rw [List.drop_of_length_le (by omega), zjj] at hx1
 refine .exit ?_
 refine ⟨_, ?_, (sj hx1).symm⟩
 exact .m [3] [0] []
 rintro l1 hj1
 subst x1
 try dsimp only at h
 simp only [ya5y]
 refine .seq (.pl zS [3] ?_)
 have hq := sj h
 subst r
 refine .ret ⟨st34 l1, ?_, .inr rfl, retH [0] ?_ ?_⟩
 exact .m [2] [0] []
 exact rsi0
 rfl
theorem zlf (a0 : List (List UInt8)) (r : (List TCommand)) (h : zf9 a0 = some r) : zbn Tryz.prog 72 [.imm 1 (a0.map D.str) 4] (.imm 12 (r.map TCommand.d) 12) :=
 zg0 (ziu zpw rfl rfl) (zlo a0 r h)
@[go_sem] def ya5d (a0 : List TWait) (a1 : TWait) (l1 : List TWait) : St := ⟨[(0, .ref 20000 7 0 a0.length (some uC)), (3, .ptr 20100 0), (5, .ref 20101 7 0 l1.length (some uC))], [(20000, .arr 78 7 true (a0.map TWait.n)), (20100, .box [.int .i64 a1.Message.Id, .imm 1 (a1.Message.Groups.map (D.int .i64)) 12, .int .i64 a1.Message.Topic, .str a1.Message.Key, .str a1.Message.Body, .int .i64 a1.Time, .bool a1.Final]), (20101, .arr 78 7 true (l1.map TWait.n))], 20102⟩
@[go_sem] def ya5b (a0 : List TWait) (a1 : TWait) (l2 : List TWait) (n1 : Int) : St := ⟨[(0, .ref 20000 7 0 a0.length (some uC)), (3, .ptr 20100 0), (5, .ref 20101 7 0 l2.length (some uC)), (6, .int .i64 n1)], [(20000, .arr 78 7 true (a0.map TWait.n)), (20100, .box [.int .i64 a1.Message.Id, .imm 1 (a1.Message.Groups.map (D.int .i64)) 12, .int .i64 a1.Message.Topic, .str a1.Message.Key, .str a1.Message.Body, .int .i64 a1.Time, .bool a1.Final]), (20101, .arr 78 7 true (l2.map TWait.n))], 20102⟩
@[go_sem] def ya5a (a0 : List TWait) (a1 : TWait) (n1 : Int) (l3 : List TWait) : St := ⟨[(0, .ref 20000 7 0 a0.length (some uC)), (3, .ptr 20100 0), (5, .ref 20102 7 0 l3.length (some uC)), (6, .int .i64 n1)], [(20000, .arr 78 7 true (a0.map TWait.n)), (20100, .box [.int .i64 a1.Message.Id, .imm 1 (a1.Message.Groups.map (D.int .i64)) 12, .int .i64 a1.Message.Topic, .str a1.Message.Key, .str a1.Message.Body, .int .i64 a1.Time, .bool a1.Final]), (20102, .arr 78 7 true (l3.map TWait.n))], 20103⟩
@[go_sem] def ya59 (l4 : List TWait) : St := ⟨[(5, .ref 20104 7 0 l4.length (some uC))], [(20104, .arr 78 7 true (l4.map TWait.n))], 20105⟩
@[go_sem] def ya58 (a0 : List TWait) (a1 : TWait) (l5 : List TWait) (n2 : Int) : St := ⟨[(0, .ref 20000 7 0 a0.length (some uC)), (3, .ptr 20100 0), (5, .ref 20104 7 0 l5.length (some uC)), (7, .int .i64 n2)], [(20000, .arr 78 7 true (a0.map TWait.n)), (20100, .box [.int .i64 a1.Message.Id, .imm 1 (a1.Message.Groups.map (D.int .i64)) 12, .int .i64 a1.Message.Topic, .str a1.Message.Key, .str a1.Message.Body, .int .i64 a1.Time, .bool a1.Final]), (20104, .arr 78 7 true (l5.map TWait.n))], 20105⟩
@[go_sem] def ya5c (a0 : List TWait) (a1 : TWait) (n2 : Int) (l6 : List TWait) : St := ⟨[(0, .ref 20000 7 0 a0.length (some uC)), (3, .ptr 20100 0), (5, .ref 20105 7 0 l6.length (some uC)), (7, .int .i64 n2)], [(20000, .arr 78 7 true (a0.map TWait.n)), (20100, .box [.int .i64 a1.Message.Id, .imm 1 (a1.Message.Groups.map (D.int .i64)) 12, .int .i64 a1.Message.Topic, .str a1.Message.Key, .str a1.Message.Body, .int .i64 a1.Time, .bool a1.Final]), (20105, .arr 78 7 true (l6.map TWait.n))], 20106⟩
@[go_sem] def st38 (r : (List TWait)) : St := ⟨[(4, .ref 20100 7 0 r.length (some uC))], [(20100, .arr 78 7 true (r.map TWait.n))], 20101⟩
theorem zk8 (a0 : List TWait) (a1 : TWait) (r : (List TWait)) (h : zed a0 a1 = some r) : zcv Tryz.prog 95 [.ref 20000 7 0 a0.length (some uC), .agg [.int .i64 a1.Message.Id, .imm 1 (a1.Message.Groups.map (D.int .i64)) 12, .int .i64 a1.Message.Topic, .str a1.Message.Key, .str a1.Message.Body, .int .i64 a1.Time, .bool a1.Final]] [(20000, .arr 78 7 true (a0.map TWait.n))] (.ref 20100 7 0 r.length (some uC)) [(20000, none), (20100, some (.arr 78 7 true (r.map TWait.n)))] (20100, 20109) := by
 refine za5 Tryz.tmOk Tryz.func95 rfl (by decide) (lb rfl) (by simp) ?_
 intro hwf
 unfold zed at h
 refine .ends 20100 (Nat.le_refl _) ?_
 refine .seq (.pl zS [0, 1] ?_)
 refine .seq (.pl zS [0, 3] ?_)
 obtain ⟨x1, hx1, h⟩ := bind_some h
 refine .seqM 20101 (fun (j : (List TWait)) => ya5d a0 a1 j) (fun j => x1 = j) (lb rfl) ?_ ?_
 refine .seq (.pl zS [0, 3, 5] ?_)
 refine .block ?_
 refine .loopG 20101 (fun (j : Nat × (List TWait) × Int) => ya5b a0 a1 j.2.1 j.2.2) (fun j => zby a0 a1 j.1 j.2.1 j.2.2 = some x1) (fun j => j.1) (a0.length + 1, [], 0) (lb rfl) ?_ hx1 ?_
 refine Goes.new0 7 78 (lb rfl) ?_
 refine Goes.wk 5 _ (.ref 20101 7 0 0 (some uC)) rfl (.own0 20101 _ _ _ (by decide)) ?_
 exact .m [0, 3, 5, 6] [20000, 20100, 20101] []
 rintro ⟨fu1, l2, n1⟩ hx1
 simp only [ya5b]
 try simp only at hx1
 obtain ⟨fu1, rfl⟩ : ∃ k, fu1 = k + 1 := by cases fu1 with | zero => (rw [zby] at hx1; cases hx1) | succ k => exact ⟨k, rfl⟩
 rw [zby] at hx1
 refine .seq (.seq (.pl zS [0, 3, 5, 6] ?_))
 refine .cond rfl rfl (fun hc1 => ?_) (fun hc1 => ?_)
 replace hx1 := za0 hx1 hc1
 refine .skip ?_
 obtain ⟨x2, hx2, hx1⟩ := bind_some hx1
 refine .seqM 20102 (fun (j : (List TWait)) => ya5a a0 a1 n1 j) (fun j => x2 = j) (lb rfl) ?_ ?_
 refine .block ?_
 refine .seq ?_
 obtain ⟨k1, hx2⟩ := zae hx2
 have e1 := zb1 TWait.n a0 n1
 replace e1 := e1 k1
 refine .rg zS [0, 3, 5, 6] ?_
 refine .rdx 6 e1 ?_
 refine .rdx 4 e1 ?_
 refine .nd ?_
 refine .cond rfl rfl (fun hc2 => ?_) (fun hc2 => ?_)
 replace hx2 := za0 hx2 hc2
 obtain ⟨k2, hx2⟩ := zae hx2
 obtain ⟨k3, hx2⟩ := zae hx2
 have e2 := zb1 TWait.n a0 n1
 replace e2 := e2 k2
 refine .plx zS e2 [0, 3, 5, 6] ?_
 refine ⟨_, ?_, (sj hx2).symm⟩
 exact .m [0, 3, 5, 6] [20000, 20100, 20103] [(20103, 20102)]
 replace hx2 := za3 hx2 hc2
 refine .skip ?_
 refine ⟨_, ?_, (sj hx2).symm⟩
 exact .m [0, 3, 5, 6] [20000, 20100, 20101] [(20101, 20102)]
 rintro l3 hj1
 subst x2
 try dsimp only at hx1
 simp only [ya5a]
 refine .pl zS [0, 3, 5, 6] ?_
 refine ⟨(fu1, _, _), ?_, hx1, by dsimp only; omega⟩
 exact .m [0, 3, 5, 6] [20000, 20100, 20102] [(20102, 20101)]
 replace hx1 := za3 hx1 hc1
 refine .exit ?_
 refine ⟨_, ?_, (sj hx1).symm⟩
 exact .m [0, 3, 5] [20000, 20100, 20101] []
 rintro l1 hj2
 subst x1
 try dsimp only at h
 simp only [ya5d]
 refine .seq ?_
 obtain ⟨k4, h⟩ := zae h
 refine .pl zS [0, 3, 5] ?_
 obtain ⟨x3, hx3, h⟩ := bind_some h
 refine .seqM 20104 (fun (j : (List TWait)) => ya59 j) (fun j => x3 = j) (lb rfl) ?_ ?_
 refine .seq (.pl zS [0, 3, 5] ?_)
 refine .block ?_
 refine .loopG 20104 (fun (j : Nat × (List TWait) × Int) => ya58 a0 a1 j.2.1 j.2.2) (fun j => zbx a0 a1 j.1 j.2.1 j.2.2 = some x3) (fun j => j.1) (a0.length + 1, (l1 ++ [a1]), 0) (lb rfl) ?_ hx3 ?_
 exact .m [0, 3, 5, 7] [20000, 20100, 20103] [(20103, 20104)]
 rintro ⟨fu2, l5, n2⟩ hx3
 simp only [ya58]
 try simp only at hx3
 obtain ⟨fu2, rfl⟩ : ∃ k, fu2 = k + 1 := by cases fu2 with | zero => (rw [zbx] at hx3; cases hx3) | succ k => exact ⟨k, rfl⟩
 rw [zbx] at hx3
 refine .seq (.seq (.pl zS [0, 3, 5, 7] ?_))
 refine .cond rfl rfl (fun hc3 => ?_) (fun hc3 => ?_)
 replace hx3 := za0 hx3 hc3
 refine .skip ?_
 obtain ⟨x4, hx4, hx3⟩ := bind_some hx3
 refine .seqM 20105 (fun (j : (List TWait)) => ya5c a0 a1 n2 j) (fun j => x4 = j) (lb rfl) ?_ ?_
 refine .block ?_
 refine .seq ?_
 obtain ⟨k5, hx4⟩ := zae hx4
 have e3 := zb1 TWait.n a0 n2
 replace e3 := e3 k5
 refine .rg zS [0, 3, 5, 7] ?_
 refine .rdx 6 e3 ?_
 refine .rdx 4 e3 ?_
 refine .nd ?_
 refine .cond rfl rfl (fun hc4 => ?_) (fun hc4 => ?_)
 replace hx4 := za0 hx4 hc4
 obtain ⟨k6, hx4⟩ := zae hx4
 obtain ⟨k7, hx4⟩ := zae hx4
 have e4 := zb1 TWait.n a0 n2
 replace e4 := e4 k6
 refine .plx zS e4 [0, 3, 5, 7] ?_
 refine ⟨_, ?_, (sj hx4).symm⟩
 exact .m [0, 3, 5, 7] [20000, 20100, 20106] [(20106, 20105)]
 replace hx4 := za3 hx4 hc4
 refine .skip ?_
 refine ⟨_, ?_, (sj hx4).symm⟩
 exact .m [0, 3, 5, 7] [20000, 20100, 20104] [(20104, 20105)]
 rintro l6 hj3
 subst x4
 try dsimp only at hx3
 simp only [ya5c]
 refine .pl zS [0, 3, 5, 7] ?_
 refine ⟨(fu2, _, _), ?_, hx3, by dsimp only; omega⟩
 exact .m [0, 3, 5, 7] [20000, 20100, 20105] [(20105, 20104)]
 replace hx3 := za3 hx3 hc3
 refine .exit ?_
 refine ⟨_, ?_, (sj hx3).symm⟩
 exact .m [5] [20104] []
 rintro l4 hj4
 subst x3
 try dsimp only at h
 simp only [ya59]
 refine .seq (.pl zS [5] ?_)
 have hq := sj h
 subst r
 refine .ret ⟨st38 l4, ?_, .inr rfl, retH [20100] ?_ ?_⟩
 exact .m [4] [20104] [(20104, 20100)]
 exact rsi0
 rfl
@[go_sem] def ya57 (l1 : List TWait) : St := ⟨[(5, .ref 20100 7 0 l1.length (some uC))], [(20100, .arr 78 7 true (l1.map TWait.n))], 20101⟩
@[go_sem] def ya56 (a0 : List TWait) (a1 : Int) (l2 : List TWait) (n1 : Int) : St := ⟨[(0, .ref 20000 7 0 a0.length (some uC)), (1, .int .i64 a1), (5, .ref 20100 7 0 l2.length (some uC)), (6, .int .i64 n1)], [(20000, .arr 78 7 true (a0.map TWait.n)), (20100, .arr 78 7 true (l2.map TWait.n))], 20101⟩
@[go_sem] def ya55 (a0 : List TWait) (a1 : Int) (n1 : Int) (l3 : List TWait) : St := ⟨[(0, .ref 20000 7 0 a0.length (some uC)), (1, .int .i64 a1), (5, .ref 20101 7 0 l3.length (some uC)), (6, .int .i64 n1)], [(20000, .arr 78 7 true (a0.map TWait.n)), (20101, .arr 78 7 true (l3.map TWait.n))], 20102⟩
@[go_sem] def st39 (r : (List TWait)) : St := ⟨[(4, .ref 20100 7 0 r.length (some uC))], [(20100, .arr 78 7 true (r.map TWait.n))], 20101⟩
theorem zj6 (a0 : List TWait) (a1 : Int) (r : (List TWait)) (h : zdm a0 a1 = some r) : zcv Tryz.prog 99 [.ref 20000 7 0 a0.length (some uC), .int .i64 a1] [(20000, .arr 78 7 true (a0.map TWait.n))] (.ref 20100 7 0 r.length (some uC)) [(20000, none), (20100, some (.arr 78 7 true (r.map TWait.n)))] (20100, 20105) := by
 refine za5 Tryz.tmOk Tryz.func99 rfl (by decide) (lb rfl) (by simp) ?_
 intro hwf
 unfold zdm at h
 refine .ends 20100 (Nat.le_refl _) ?_
 refine .seq (.pl zS [0, 1] ?_)
 refine .seq (.pl zS [0, 1] ?_)
 obtain ⟨x1, hx1, h⟩ := bind_some h
 refine .seqM 20100 (fun (j : (List TWait)) => ya57 j) (fun j => x1 = j) (lb rfl) ?_ ?_
 refine .seq (.pl zS [0, 1, 5] ?_)
 refine .block ?_
 refine .loopG 20100 (fun (j : Nat × (List TWait) × Int) => ya56 a0 a1 j.2.1 j.2.2) (fun j => zbb a0 a1 j.1 j.2.1 j.2.2 = some x1) (fun j => j.1) (a0.length + 1, [], 0) (lb rfl) ?_ hx1 ?_
 refine Goes.new0 7 78 (lb rfl) ?_
 refine Goes.wk 5 _ (.ref 20100 7 0 0 (some uC)) rfl (.own0 20100 _ _ _ (by decide)) ?_
 exact .m [0, 1, 5, 6] [20000, 20100] []
 rintro ⟨fu1, l2, n1⟩ hx1
 simp only [ya56]
 try simp only at hx1
 obtain ⟨fu1, rfl⟩ : ∃ k, fu1 = k + 1 := by cases fu1 with | zero => (rw [zbb] at hx1; cases hx1) | succ k => exact ⟨k, rfl⟩
 rw [zbb] at hx1
 refine .seq (.seq (.pl zS [0, 1, 5, 6] ?_))
 refine .cond rfl rfl (fun hc1 => ?_) (fun hc1 => ?_)
 replace hx1 := za0 hx1 hc1
 refine .skip ?_
 obtain ⟨x2, hx2, hx1⟩ := bind_some hx1
 refine .seqM 20101 (fun (j : (List TWait)) => ya55 a0 a1 n1 j) (fun j => x2 = j) (lb rfl) ?_ ?_
 refine .block ?_
 refine .seq (.pl zS [0, 1, 5, 6] ?_)
 refine .cond rfl rfl (fun hc2 => ?_) (fun hc2 => ?_)
 replace hx2 := za0 hx2 hc2
 obtain ⟨k1, hx2⟩ := zae hx2
 obtain ⟨k2, hx2⟩ := zae hx2
 have e1 := zb1 TWait.n a0 n1
 replace e1 := e1 k1
 refine .plx zS e1 [0, 1, 5, 6] ?_
 refine ⟨_, ?_, (sj hx2).symm⟩
 exact .m [0, 1, 5, 6] [20000, 20102] [(20102, 20101)]
 replace hx2 := za3 hx2 hc2
 refine .skip ?_
 refine ⟨_, ?_, (sj hx2).symm⟩
 exact .m [0, 1, 5, 6] [20000, 20100] [(20100, 20101)]
 rintro l3 hj1
 subst x2
 try dsimp only at hx1
 simp only [ya55]
 refine .pl zS [0, 1, 5, 6] ?_
 refine ⟨(fu1, _, _), ?_, hx1, by dsimp only; omega⟩
 exact .m [0, 1, 5, 6] [20000, 20101] [(20101, 20100)]
 replace hx1 := za3 hx1 hc1
 refine .exit ?_
 refine ⟨_, ?_, (sj hx1).symm⟩
 exact .m [5] [20100] []
 rintro l1 hj2
 subst x1
 try dsimp only at h
 simp only [ya57]
 refine .seq (.pl zS [5] ?_)
 have hq := sj h
 subst r
 refine .ret ⟨st39 l1, ?_, .inr rfl, retH [20100] ?_ ?_⟩
 exact .m [4] [20100] []
 exact rsi0
 rfl
@[go_sem] def ya5u (a0 : TSkeen) (a2 : TCommand) (n1 : Int) (l1 : List TWait) : St := ⟨[(3, .ptr 20100 0), (5, .ptr 20101 0), (6, .ptr 20102 0)], [(20001, .arr 72 2 true (a0.Done.map TStamp.d)), (20100, .box [.int .i64 n1, .ref 20103 7 0 l1.length (some uC), .ref 20001 2 0 a0.Done.length (some uC)]), (20101, .box [.int .u8 a2.Kind, .int .i64 a2.Message.Id, .imm 1 (a2.Message.Groups.map (D.int .i64)) 4, .int .i64 a2.Message.Topic, .str a2.Message.Key, .str a2.Message.Body, .int .i64 a2.Id, .int .i64 a2.Time, .imm 1 (a2.Members.map (D.int .i64)) 4, .int .i64 a2.Topic, .int .i64 a2.Who, .int .i64 a2.N]), (20102, .box [.int .i64 0, .imm 0 [] 0, .imm 0 [] 0]), (20103, .arr 78 7 true (l1.map TWait.n))], 20104⟩
@[go_sem] def ya5t (a0 : TSkeen) (n2 : Int) (l2 : List TWait) : St := ⟨[(3, .ptr 20100 0), (6, .ptr 20102 0)], [(20001, .arr 72 2 true (a0.Done.map TStamp.d)), (20100, .box [.int .i64 n2, .ref 20104 7 0 l2.length (some uC), .ref 20001 2 0 a0.Done.length (some uC)]), (20102, .box [.int .i64 0, .imm 0 [] 0, .imm 0 [] 0]), (20104, .arr 78 7 true (l2.map TWait.n))], 20105⟩
@[go_sem] def ya5s (n2 : Int) (l3 : List TWait) (l4 : List TStamp) (l5 : List TMessage) : St := ⟨[(3, .ptr 20100 0), (6, .ptr 20102 0), (10, .ref 20107 5 0 l5.length (some uC))], [(20100, .box [.int .i64 n2, .ref 20105 7 0 l3.length (some uC), .ref 20106 2 0 l4.length (some uC)]), (20102, .box [.int .i64 0, .imm 0 [] 0, .imm 0 [] 0]), (20105, .arr 78 7 true (l3.map TWait.n)), (20106, .arr 72 2 true (l4.map TStamp.d)), (20107, .arr 46 5 true (l5.map TMessage.n))], 20108⟩
@[go_sem] def ya5r (n2 : Int) (l6 : List TWait) (l7 : List TStamp) (l8 : List TMessage) : St := ⟨[(3, .ptr 20100 0), (6, .ptr 20102 0), (10, .ref 20107 5 0 l8.length (some uC))], [(20100, .box [.int .i64 n2, .ref 20105 7 0 l6.length (some uC), .ref 20106 2 0 l7.length (some uC)]), (20102, .box [.int .i64 0, .imm 0 [] 0, .imm 0 [] 0]), (20105, .arr 78 7 true (l6.map TWait.n)), (20106, .arr 72 2 true (l7.map TStamp.d)), (20107, .arr 46 5 true (l8.map TMessage.n))], 20108⟩
@[go_sem] def st35 (r : TSkeen × (List TMessage) × Bool) : St := ⟨[(6, .ptr 20103 0), (7, .ref 20102 5 0 r.2.1.length (some uC)), (8, .bool r.2.2)], [(20100, .arr 78 7 true (r.1.Waits.map TWait.n)), (20101, .arr 72 2 true (r.1.Done.map TStamp.d)), (20102, .arr 46 5 true (r.2.1.map TMessage.n)), (20103, .box [.int .i64 r.1.Clock, .ref 20100 7 0 r.1.Waits.length (some uC), .ref 20101 2 0 r.1.Done.length (some uC)])], 20104⟩
theorem zln (a0 : TSkeen) (a1 : Int) (a2 : TCommand) (r : TSkeen × (List TMessage) × Bool) (h : zei a0 a1 a2 = some r) : zcv Tryz.prog 73 [.agg [.int .i64 a0.Clock, .ref 20000 7 0 a0.Waits.length (some uC), .ref 20001 2 0 a0.Done.length (some uC)], .int .i64 a1, .agg [.int .u8 a2.Kind, .int .i64 a2.Message.Id, .imm 1 (a2.Message.Groups.map (D.int .i64)) 4, .int .i64 a2.Message.Topic, .str a2.Message.Key, .str a2.Message.Body, .int .i64 a2.Id, .int .i64 a2.Time, .imm 1 (a2.Members.map (D.int .i64)) 4, .int .i64 a2.Topic, .int .i64 a2.Who, .int .i64 a2.N]] [(20000, .arr 78 7 true (a0.Waits.map TWait.n)), (20001, .arr 72 2 true (a0.Done.map TStamp.d))] (.tuple [.agg [.int .i64 r.1.Clock, .ref 20100 7 0 r.1.Waits.length (some uC), .ref 20101 2 0 r.1.Done.length (some uC)], .ref 20102 5 0 r.2.1.length (some uC), .bool r.2.2]) [(20000, none), (20001, none), (20100, some (.arr 78 7 true (r.1.Waits.map TWait.n))), (20101, some (.arr 72 2 true (r.1.Done.map TStamp.d))), (20102, some (.arr 46 5 true (r.2.1.map TMessage.n)))] (20100, 20120) := by
 refine za5 Tryz.tmOk Tryz.func73 rfl (by decide) (lb rfl) (by simp) ?_
 intro hwf
 unfold zei at h
 refine .ends 20100 (Nat.le_refl _) ?_
 refine .seq (.pl zS [0, 1, 2] ?_)
 obtain ⟨x1, hx1, h⟩ := bind_some h
 refine .seqM 20103 (fun (j : Int × (List TWait)) => ya5u a0 a2 j.1 j.2) (fun j => x1 = (.inr j)) (lb rfl) ?_ ?_
 refine .seq ?_
 obtain ⟨v1, hv1, hx1⟩ := bind_some hx1
 obtain ⟨v2, hv2, hx1⟩ := bind_some hx1
 obtain ⟨v3, hv3, hx1⟩ := bind_some hx1
 refine .rg zS [1, 3, 5, 6] ?_
 refine .rn 8 ?_
 refine .glcall (r := .int .i64 v1) [] rfl rfl rfl rfl rfl (fun hg => ⟨[], [.agg [.int .i64 a0.Clock, .ref 20000 7 0 a0.Waits.length (some uC), .ref 20001 2 0 a0.Done.length (some uC)], .int .i64 a2.Message.Id], _, rfl, gd hg, (za7 (zly (zob (za1 rfl (za1 (zj1 zft (by first | rfl | (simp only [go_sem, Nat.reduceBEq]; rfl)) (by first | rfl | (simp; done) | (simp <;> omega))) (za1 (zhw ziy (by first | rfl | (simp only [go_sem, Nat.reduceBEq]; rfl)) (by first | rfl | (simp; done) | (simp <;> omega))) zgv)))) trivial) (za7 rfl zb9)), rfl, (zhj a0 a2.Message.Id v1 (za0 hv1 hg))⟩) ?_
 refine .rn 7 ?_
 refine .glcall (r := .bool v2) [] rfl rfl rfl rfl rfl (fun hg => ⟨[], [.agg [.int .i64 a0.Clock, .ref 20000 7 0 a0.Waits.length (some uC), .ref 20001 2 0 a0.Done.length (some uC)], .int .i64 a2.Message.Id], _, rfl, gd hg, (za7 (zly (zob (za1 rfl (za1 (zj1 zft (by first | rfl | (simp only [go_sem, Nat.reduceBEq]; rfl)) (by first | rfl | (simp; done) | (simp <;> omega))) (za1 (zhw ziy (by first | rfl | (simp only [go_sem, Nat.reduceBEq]; rfl)) (by first | rfl | (simp; done) | (simp <;> omega))) zgv)))) trivial) (za7 rfl zb9)), rfl, (zkw a0 a2.Message.Id v2 (za0 hv2 hg))⟩) ?_
 refine .rn 7 ?_
 refine .gcall (r := .bool v3) rfl rfl rfl rfl rfl (fun hg => ⟨[], [.imm 1 (a2.Message.Groups.map (D.int .i64)) 4, .int .i64 a1], _, rfl, gd hg, rfl, (zli a2.Message.Groups a1 v3 (za0 hv3 hg))⟩) ?_
 refine .rn 1 ?_
 refine .nil ⟨nofun, ?_⟩
 refine .cond rfl rfl (fun hc1 => ?_) (fun hc1 => ?_)
 replace hx1 := za0 hx1 hc1
 refine .seq (.seq ?_)
 refine .rg zS [3, 5, 6] ?_
 refine .rn 6 ?_
 refine .rn 3 ?_
 refine .nil ⟨nofun, ?_⟩
 refine .cond rfl rfl (fun hc2 => ?_) (fun hc2 => ?_)
 replace hx1 := za0 hx1 hc2
 refine .seq (.pl zS [3, 6] ?_)
 have hq := sj hx1
 subst x1
 try dsimp only at h
 have hq := sj h
 subst r
 refine .ret ⟨st35 (a0, [], false), ?_, .inr rfl, retH [20102, 20101, 20100] ?_ ?_⟩
 refine Goes.new0 5 46 (lb rfl) ?_
 refine Goes.wk 7 _ (.ref 20103 5 0 0 (some uC)) rfl (.own0 20103 _ _ _ (by decide)) ?_
 exact .m [6, 7, 8] [20000, 20001, 20103, 20102] [(20000, 20100), (20001, 20101), (20103, 20102), (20102, 20103)]
 exact rsi0
 rfl
 replace hx1 := za3 hx1 hc2
 refine .skip ?_
 refine .seq (.pl zS [3, 5, 6] ?_)
 obtain ⟨v4, hv4, hx1⟩ := bind_some hx1
 obtain ⟨v5, hv5, hx1⟩ := bind_some hx1
 refine .rg zS [3, 5, 6] ?_
 refine .rd 4 ?_
 refine .call (r := .agg [.int .i64 v4.Id, .imm 1 (v4.Groups.map (D.int .i64)) 12, .int .i64 v4.Topic, .str v4.Key, .str v4.Body]) rfl rfl rfl rfl rfl rfl (zg5 a2.Message v4 hv4) ?_
 refine .rd 3 ?_
 refine .hcall (H := [(20000, .arr 78 7 true (a0.Waits.map TWait.n))]) (eff := [(20000, none), (20109, some (.arr 78 7 true (v5.map TWait.n)))]) (nw := (20109, 20118)) (r := .ref 20109 7 0 v5.length (some uC)) rfl rfl rfl rfl rfl (zc5 20000 20000 (zd7 20109 (zk8 a0.Waits (⟨v4, (wr .i64 (a0.Clock + 1)), false⟩ : TWait) v5 hv5))) (fun id b h => zaj [20000] _ id b h) (by simp) (.inr ⟨lb rfl, lb rfl⟩) ?_
 refine .rd 2 ?_
 refine .nd ?_
 refine ⟨_, ?_, (sj hx1).symm⟩
 exact .m [3, 5, 6] [20001, 20100, 20101, 20102, 20109] [(20109, 20103)]
 replace hx1 := za3 hx1 hc1
 refine .skip ?_
 refine ⟨_, ?_, (sj hx1).symm⟩
 exact .m [3, 5, 6] [20001, 20100, 20101, 20102, 20000] [(20000, 20103)]
 rintro ⟨n1, l1⟩ hj1
 subst x1
 try dsimp only at h
 simp only [ya5u]
 refine .seq ?_
 obtain ⟨v6, hv6, h⟩ := bind_some h
 refine .rg zS [3, 5, 6] ?_
 refine .rn 3 ?_
 refine .lcall (r := .int .i64 v6) [] rfl rfl rfl rfl rfl (za7 (zly (zob (za1 rfl (za1 (zj1 zft (by first | rfl | (simp only [go_sem, Nat.reduceBEq]; rfl)) (by first | rfl | (simp; done) | (simp <;> omega))) (za1 (zhw ziy (by first | rfl | (simp only [go_sem, Nat.reduceBEq]; rfl)) (by first | rfl | (simp; done) | (simp <;> omega))) zgv)))) trivial) (za7 rfl zb9)) rfl (zhj (⟨n1, l1, a0.Done⟩ : TSkeen) a2.Id v6 hv6) ?_
 refine .rn 1 ?_
 refine .nil ⟨nofun, ?_⟩
 obtain ⟨x2, hx2, h⟩ := bind_some h
 refine .seqM 20104 (fun (j : Int × (List TWait)) => ya5t a0 j.1 j.2) (fun j => x2 = j) (lb rfl) ?_ ?_
 obtain ⟨k1, hx2⟩ := zae hx2
 obtain ⟨k2, hx2⟩ := zae hx2
 refine .seqM 20104 (fun (_ : Unit) => ⟨[(3, .ptr 20100 0), (5, .ptr 20101 0), (6, .ptr 20102 0), (9, .int .i64 v6), (92, .bool ((((a2.Kind == 2) && (decide (v6 >= 0))) && (!(l1.getD v6.toNat default).Final)) && (decide (a2.Time >= (l1.getD v6.toNat default).Time))))], [(20001, .arr 72 2 true (a0.Done.map TStamp.d)), (20100, .box [.int .i64 n1, .ref 20103 7 0 l1.length (some uC), .ref 20001 2 0 a0.Done.length (some uC)]), (20101, .box [.int .u8 a2.Kind, .int .i64 a2.Message.Id, .imm 1 (a2.Message.Groups.map (D.int .i64)) 4, .int .i64 a2.Message.Topic, .str a2.Message.Key, .str a2.Message.Body, .int .i64 a2.Id, .int .i64 a2.Time, .imm 1 (a2.Members.map (D.int .i64)) 4, .int .i64 a2.Topic, .int .i64 a2.Who, .int .i64 a2.N]), (20102, .box [.int .i64 0, .imm 0 [] 0, .imm 0 [] 0]), (20103, .arr 78 7 true (l1.map TWait.n))], 20104⟩) (fun _ => True) (lb rfl) ?_ (fun _ _ => ?_)
 by_cases hgd : (a2.Kind = 2) /\ (v6 >= 0)
 have eg10 := zb1 TWait.n l1 v6 (k1 hgd)
 by_cases hgd : ((a2.Kind = 2) /\ (v6 >= 0)) /\ (¬ ((l1.getD v6.toNat default).Final = true))
 have eg20 := zb1 TWait.n l1 v6 (k2 hgd)
 refine .rg zS [3, 5, 6, 9] ?_
 refine .rdx 6 (ai eg10 eg20) ?_
 refine .rdx 6 (ai eg10 eg20) ?_
 refine .rdx 6 (ai eg10 eg20) ?_
 refine .rdx 6 (ai eg10 eg20) ?_
 refine .rdx 3 (ai eg10 eg20) ?_
 refine .nd ?_
 refine ⟨(), ?_, trivial⟩
 exact .m [3, 5, 6, 9, 92] [20001, 20100, 20101, 20102, 20103] []
 have hgf2 : (((a2.Kind == 2) && (decide (v6 >= 0))) && (!(l1.getD v6.toNat default).Final)) = false := by first | simpa using hgd | (simp at hgd ⊢; omega) | grind
 rcases zl9 TWait.n l1 v6.toNat with eg20 | eg20
 refine .rg zS [3, 5, 6, 9] ?_
 refine .rdx 6 (ai eg10 (ai eg20 hgf2)) ?_
 refine .rdx 6 (ai eg10 (ai eg20 hgf2)) ?_
 refine .rdx 6 (ai eg10 (ai eg20 hgf2)) ?_
 refine .rdx 6 (ai eg10 (ai eg20 hgf2)) ?_
 refine .rdx 3 (ai eg10 (ai eg20 hgf2)) ?_
 refine .nd ?_
 refine ⟨(), ?_, trivial⟩
 exact .mx hgf2 [3, 5, 6, 9, 92] [20001, 20100, 20101, 20102, 20103] []
 refine .rg zS [3, 5, 6, 9] ?_
 refine .rdx 6 (ai eg10 (ai eg20 hgf2)) ?_
 refine .rdx 6 (ai eg10 (ai eg20 hgf2)) ?_
 refine .rdx 6 (ai eg10 (ai eg20 hgf2)) ?_
 refine .rdx 6 (ai eg10 (ai eg20 hgf2)) ?_
 refine .rdx 3 (ai eg10 (ai eg20 hgf2)) ?_
 refine .nd ?_
 refine ⟨(), ?_, trivial⟩
 exact .mx hgf2 [3, 5, 6, 9, 92] [20001, 20100, 20101, 20102, 20103] []
 have hgf1 : ((a2.Kind == 2) && (decide (v6 >= 0))) = false := by first | simpa using hgd | (simp at hgd ⊢; omega) | grind
 rcases zl9 TWait.n l1 v6.toNat with eg10 | eg10
 by_cases hgd : ((a2.Kind = 2) /\ (v6 >= 0)) /\ (¬ ((l1.getD v6.toNat default).Final = true))
 have eg30 := zb1 TWait.n l1 v6 (k2 hgd)
 refine .rg zS [3, 5, 6, 9] ?_
 refine .rdx 6 (ai eg10 (ai hgf1 eg30)) ?_
 refine .rdx 6 (ai eg10 (ai hgf1 eg30)) ?_
 refine .rdx 6 (ai eg10 (ai hgf1 eg30)) ?_
 refine .rdx 6 (ai eg10 (ai hgf1 eg30)) ?_
 refine .rdx 3 (ai eg10 (ai hgf1 eg30)) ?_
 refine .nd ?_
 refine ⟨(), ?_, trivial⟩
 exact .mx hgf1 [3, 5, 6, 9, 92] [20001, 20100, 20101, 20102, 20103] []
 have hgf3 : (((a2.Kind == 2) && (decide (v6 >= 0))) && (!(l1.getD v6.toNat default).Final)) = false := by first | simpa using hgd | (simp at hgd ⊢; omega) | grind
 rcases zl9 TWait.n l1 v6.toNat with eg30 | eg30
 refine .rg zS [3, 5, 6, 9] ?_
 refine .rdx 6 (ai eg10 (ai hgf1 (ai eg30 hgf3))) ?_
 refine .rdx 6 (ai eg10 (ai hgf1 (ai eg30 hgf3))) ?_
 refine .rdx 6 (ai eg10 (ai hgf1 (ai eg30 hgf3))) ?_
 refine .rdx 6 (ai eg10 (ai hgf1 (ai eg30 hgf3))) ?_
 refine .rdx 3 (ai eg10 (ai hgf1 (ai eg30 hgf3))) ?_
 refine .nd ?_
 refine ⟨(), ?_, trivial⟩
 exact .mx (ai hgf1 hgf3) [3, 5, 6, 9, 92] [20001, 20100, 20101, 20102, 20103] []
 refine .rg zS [3, 5, 6, 9] ?_
 refine .rdx 6 (ai eg10 (ai hgf1 (ai eg30 hgf3))) ?_
 refine .rdx 6 (ai eg10 (ai hgf1 (ai eg30 hgf3))) ?_
 refine .rdx 6 (ai eg10 (ai hgf1 (ai eg30 hgf3))) ?_
 refine .rdx 6 (ai eg10 (ai hgf1 (ai eg30 hgf3))) ?_
 refine .rdx 3 (ai eg10 (ai hgf1 (ai eg30 hgf3))) ?_
 refine .nd ?_
 refine ⟨(), ?_, trivial⟩
 exact .mx (ai hgf1 hgf3) [3, 5, 6, 9, 92] [20001, 20100, 20101, 20102, 20103] []
 by_cases hgd : ((a2.Kind = 2) /\ (v6 >= 0)) /\ (¬ ((l1.getD v6.toNat default).Final = true))
 have eg40 := zb1 TWait.n l1 v6 (k2 hgd)
 refine .rg zS [3, 5, 6, 9] ?_
 refine .rdx 6 (ai eg10 (ai hgf1 eg40)) ?_
 refine .rdx 6 (ai eg10 (ai hgf1 eg40)) ?_
 refine .rdx 6 (ai eg10 (ai hgf1 eg40)) ?_
 refine .rdx 6 (ai eg10 (ai hgf1 eg40)) ?_
 refine .rdx 3 (ai eg10 (ai hgf1 eg40)) ?_
 refine .nd ?_
 refine ⟨(), ?_, trivial⟩
 exact .mx hgf1 [3, 5, 6, 9, 92] [20001, 20100, 20101, 20102, 20103] []
 have hgf4 : (((a2.Kind == 2) && (decide (v6 >= 0))) && (!(l1.getD v6.toNat default).Final)) = false := by first | simpa using hgd | (simp at hgd ⊢; omega) | grind
 rcases zl9 TWait.n l1 v6.toNat with eg40 | eg40
 refine .rg zS [3, 5, 6, 9] ?_
 refine .rdx 6 (ai eg10 (ai hgf1 (ai eg40 hgf4))) ?_
 refine .rdx 6 (ai eg10 (ai hgf1 (ai eg40 hgf4))) ?_
 refine .rdx 6 (ai eg10 (ai hgf1 (ai eg40 hgf4))) ?_
 refine .rdx 6 (ai eg10 (ai hgf1 (ai eg40 hgf4))) ?_
 refine .rdx 3 (ai eg10 (ai hgf1 (ai eg40 hgf4))) ?_
 refine .nd ?_
 refine ⟨(), ?_, trivial⟩
 exact .mx (ai hgf1 hgf4) [3, 5, 6, 9, 92] [20001, 20100, 20101, 20102, 20103] []
 refine .rg zS [3, 5, 6, 9] ?_
 refine .rdx 6 (ai eg10 (ai hgf1 (ai eg40 hgf4))) ?_
 refine .rdx 6 (ai eg10 (ai hgf1 (ai eg40 hgf4))) ?_
 refine .rdx 6 (ai eg10 (ai hgf1 (ai eg40 hgf4))) ?_
 refine .rdx 6 (ai eg10 (ai hgf1 (ai eg40 hgf4))) ?_
 refine .rdx 3 (ai eg10 (ai hgf1 (ai eg40 hgf4))) ?_
 refine .nd ?_
 refine ⟨(), ?_, trivial⟩
 exact .mx (ai hgf1 hgf4) [3, 5, 6, 9, 92] [20001, 20100, 20101, 20102, 20103] []
 refine .cond rfl rfl (fun hc3 => ?_) (fun hc3 => ?_)
 replace hx2 := za0 hx2 hc3
 refine .seq ?_
 obtain ⟨k3, hx2⟩ := zae hx2
 have e1 := zb1 TWait.n l1 v6
 have es1 := zq7 TWait.n l1 v6.toNat (⟨(l1.getD v6.toNat default).Message, a2.Time, (l1.getD v6.toNat default).Final⟩ : TWait)
 replace e1 := e1 k3
 replace es1 : setN (l1.map TWait.n) v6.toNat (.agg [.int .i64 ((l1.getD v6.toNat default).Message.Id), .imm 1 (((l1.getD v6.toNat default).Message.Groups).map (D.int .i64)) 12, .int .i64 ((l1.getD v6.toNat default).Message.Topic), .str ((l1.getD v6.toNat default).Message.Key), .str ((l1.getD v6.toNat default).Message.Body), .int .i64 a2.Time, .bool ((l1.getD v6.toNat default).Final)]) = (l1.set v6.toNat (⟨(l1.getD v6.toNat default).Message, a2.Time, (l1.getD v6.toNat default).Final⟩ : TWait)).map TWait.n := es1
 refine .plx zS (ai e1 es1) [3, 5, 6, 9] ?_
 refine .seq ?_
 obtain ⟨k4, hx2⟩ := zae hx2
 have e2 := zb1 TWait.n (l1.set v6.toNat (⟨(l1.getD v6.toNat default).Message, a2.Time, (l1.getD v6.toNat default).Final⟩ : TWait)) v6
 have es2 := zq7 TWait.n (l1.set v6.toNat (⟨(l1.getD v6.toNat default).Message, a2.Time, (l1.getD v6.toNat default).Final⟩ : TWait)) v6.toNat (⟨((l1.set v6.toNat (⟨(l1.getD v6.toNat default).Message, a2.Time, (l1.getD v6.toNat default).Final⟩ : TWait)).getD v6.toNat default).Message, ((l1.set v6.toNat (⟨(l1.getD v6.toNat default).Message, a2.Time, (l1.getD v6.toNat default).Final⟩ : TWait)).getD v6.toNat default).Time, true⟩ : TWait)
 replace e2 := e2 k4
 replace es2 : setN ((l1.set v6.toNat (⟨(l1.getD v6.toNat default).Message, a2.Time, (l1.getD v6.toNat default).Final⟩ : TWait)).map TWait.n) v6.toNat (.agg [.int .i64 (((l1.set v6.toNat (⟨(l1.getD v6.toNat default).Message, a2.Time, (l1.getD v6.toNat default).Final⟩ : TWait)).getD v6.toNat default).Message.Id), .imm 1 ((((l1.set v6.toNat (⟨(l1.getD v6.toNat default).Message, a2.Time, (l1.getD v6.toNat default).Final⟩ : TWait)).getD v6.toNat default).Message.Groups).map (D.int .i64)) 12, .int .i64 (((l1.set v6.toNat (⟨(l1.getD v6.toNat default).Message, a2.Time, (l1.getD v6.toNat default).Final⟩ : TWait)).getD v6.toNat default).Message.Topic), .str (((l1.set v6.toNat (⟨(l1.getD v6.toNat default).Message, a2.Time, (l1.getD v6.toNat default).Final⟩ : TWait)).getD v6.toNat default).Message.Key), .str (((l1.set v6.toNat (⟨(l1.getD v6.toNat default).Message, a2.Time, (l1.getD v6.toNat default).Final⟩ : TWait)).getD v6.toNat default).Message.Body), .int .i64 (((l1.set v6.toNat (⟨(l1.getD v6.toNat default).Message, a2.Time, (l1.getD v6.toNat default).Final⟩ : TWait)).getD v6.toNat default).Time), .bool true]) = ((l1.set v6.toNat (⟨(l1.getD v6.toNat default).Message, a2.Time, (l1.getD v6.toNat default).Final⟩ : TWait)).set v6.toNat (⟨((l1.set v6.toNat (⟨(l1.getD v6.toNat default).Message, a2.Time, (l1.getD v6.toNat default).Final⟩ : TWait)).getD v6.toNat default).Message, ((l1.set v6.toNat (⟨(l1.getD v6.toNat default).Message, a2.Time, (l1.getD v6.toNat default).Final⟩ : TWait)).getD v6.toNat default).Time, true⟩ : TWait)).map TWait.n := es2
 refine .plx zS (ai e2 es2) [3, 5, 6, 9] ?_
 refine .pl zS [3, 5, 6] ?_
 refine ⟨_, ?_, (sj hx2).symm⟩
 exact .m [3, 6] [20001, 20100, 20102, 20103] [(20103, 20104)]
 replace hx2 := za3 hx2 hc3
 refine .skip ?_
 refine ⟨_, ?_, (sj hx2).symm⟩
 exact .m [3, 6] [20001, 20100, 20102, 20103] [(20103, 20104)]
 rintro ⟨n2, l2⟩ hj2
 subst x2
 try dsimp only at h
 simp only [ya5t]
 refine .seq (.pl zS [3, 6] ?_)
 obtain ⟨x3, hx3, h⟩ := bind_some h
 refine .seqM 20105 (fun (j : (List TWait) × (List TStamp) × (List TMessage)) => ya5s n2 j.1 j.2.1 j.2.2) (fun j => x3 = j) (lb rfl) ?_ ?_
 refine .block ?_
 refine .loopG 20105 (fun (j : Nat × (List TWait) × (List TStamp) × (List TMessage)) => ya5r n2 j.2.1 j.2.2.1 j.2.2.2) (fun j => zbc j.1 j.2.1 j.2.2.1 j.2.2.2 = some x3) (fun j => j.1) (a0.Waits.length + 2, l2, a0.Done, []) (lb rfl) ?_ hx3 ?_
 refine Goes.new0 5 46 (lb rfl) ?_
 refine Goes.wk 10 _ (.ref 20105 5 0 0 (some uC)) rfl (.own0 20105 _ _ _ (by decide)) ?_
 exact .m [3, 6, 10] [20100, 20102, 20104, 20001, 20105] [(20104, 20105), (20001, 20106), (20105, 20107)]
 rintro ⟨fu1, l6, l7, l8⟩ hx3
 simp only [ya5r]
 try simp only at hx3
 obtain ⟨fu1, rfl⟩ : ∃ k, fu1 = k + 1 := by cases fu1 with | zero => (rw [zbc] at hx3; cases hx3) | succ k => exact ⟨k, rfl⟩
 rw [zbc] at hx3
 refine .seq (.seq (.pl zS [3, 6, 10] ?_))
 refine .cond rfl rfl (fun hc4 => ?_) (fun hc4 => ?_)
 replace hx3 := za0 hx3 hc4
 refine .skip ?_
 refine .block ?_
 refine .seq ?_
 obtain ⟨v7, hv7, hx3⟩ := bind_some hx3
 refine .rg zS [3, 6, 10] ?_
 refine .rn 2 ?_
 refine .lcall (r := .int .i64 v7) [] rfl rfl rfl rfl rfl (za7 (zly (zj1 zft (by first | rfl | (simp only [go_sem, Nat.reduceBEq]; rfl)) (by first | rfl | (simp; done) | (simp <;> omega))) trivial) zb9) rfl (zke l6 v7 hv7) ?_
 refine .rn 1 ?_
 refine .nil ⟨nofun, ?_⟩
 refine .seq (.seq ?_)
 obtain ⟨k5, hx3⟩ := zae hx3
 have e3 := zb1 TWait.n l6 v7
 replace e3 := e3 k5
 refine .plx zS e3 [3, 6, 10, 11] ?_
 refine .cond rfl rfl (fun hc5 => ?_) (fun hc5 => ?_)
 replace hx3 := za0 hx3 hc5
 refine .exit ?_
 refine ⟨_, ?_, (sj hx3).symm⟩
 exact .m [3, 6, 10] [20100, 20102, 20105, 20106, 20107] []
 replace hx3 := za3 hx3 hc5
 refine .skip ?_
 refine .seq ?_
 obtain ⟨k6, hx3⟩ := zae hx3
 obtain ⟨v8, hv8, hx3⟩ := bind_some hx3
 obtain ⟨k7, hx3⟩ := zae hx3
 have e4 := zb1 TWait.n l6 v7
 replace e4 := e4 k6
 refine .rg zS [3, 6, 10, 11] ?_
 refine .rdx 7 e4 ?_
 refine .call (r := .agg [.int .i64 v8.Time, .int .i64 v8.Id]) rfl rfl rfl rfl rfl rfl (zfp (l6.getD v7.toNat default) v8 hv8) ?_
 refine .rdx 4 e4 ?_
 refine .nd ?_
 refine .seq ?_
 obtain ⟨k8, hx3⟩ := zae hx3
 obtain ⟨k9, hx3⟩ := zae hx3
 have e5 := zb1 TWait.n l6 v7
 replace e5 := e5 k8
 refine .rg zS [3, 6, 10, 11] ?_
 refine .rnx 6 e5 ?_
 refine .rnx 4 e5 ?_
 refine .nil ⟨nofun, ?_⟩
 obtain ⟨v9, hv9, hx3⟩ := bind_some hx3
 refine .rg zS [3, 6, 10, 11] ?_
 refine .rn 3 ?_
 refine .hcall (H := [(20105, .arr 78 7 true (l6.map TWait.n))]) (eff := [(20105, none), (20112, some (.arr 78 7 true (v9.map TWait.n)))]) (nw := (20112, 20117)) (r := .ref 20112 7 0 v9.length (some uC)) rfl rfl rfl rfl rfl (zc5 20000 20105 (zd7 20112 (zj6 l6 v7 v9 hv9))) (fun id b h => zaj [20105] _ id b h) (by simp) (.inr ⟨lb rfl, lb rfl⟩) ?_
 refine .rn 2 ?_
 refine .nil ⟨nofun, ?_⟩
 refine ⟨(fu1, _, _, _), ?_, hx3, by dsimp only; omega⟩
 exact .m [3, 6, 10] [20100, 20102, 20112, 20109, 20111] [(20112, 20105), (20109, 20106), (20111, 20107)]
 replace hx3 := za3 hx3 hc4
 refine .exit ?_
 refine ⟨_, ?_, (sj hx3).symm⟩
 exact .m [3, 6, 10] [20100, 20102, 20105, 20106, 20107] []
 rintro ⟨l3, l4, l5⟩ hj3
 subst x3
 try dsimp only at h
 simp only [ya5s]
 refine .seq ?_
 refine .rg zS [3, 6, 10] ?_
 refine .rd 6 ?_
 refine .rd 3 ?_
 refine .nd ?_
 have hq := sj h
 subst r
 refine .ret ⟨st35 ((⟨n2, l3, l4⟩ : TSkeen), l5, (decide ((l4.length : Int) <= 200))), ?_, .inr rfl, retH [20102, 20101, 20100] ?_ ?_⟩
 exact .m [6, 7, 8] [20105, 20106, 20107, 20102] [(20105, 20100), (20106, 20101), (20107, 20102), (20102, 20103)]
 exact rsi0
 rfl
@[go_sem] def ya4o (l1 : List Ttowncrierref16_Step) : St := ⟨[(5, .ref 1 19 0 l1.length (some uC))], [(1, .arr 105 19 true (l1.map Ttowncrierref16_Step.n))], 2⟩
@[go_sem] def ya4n (a0 : Int) (v1 : List TCommand) (n2 : Nat) (l2 : List Ttowncrierref16_Step) (n1 : Int) (l3 : List TWait) (l4 : List TStamp) : St := ⟨[(0, .int .i64 a0), (5, .ref 1 19 0 l2.length (some uC)), (6, .ptr 0 0), (7, .imm 12 (v1.map TCommand.d) 12), (8, .int .i64 (n2 : Int))], [(0, .box [.int .i64 n1, .imm 7 (l3.map TWait.d) 12, .imm 2 (l4.map TStamp.d) 12]), (1, .arr 105 19 true (l2.map Ttowncrierref16_Step.n))], 2⟩
@[go_sem] def ya4m (a0 : Int) (v1 : List TCommand) (n2 : Nat) (l2 : List Ttowncrierref16_Step) (n1 : Int) (l3 : List TWait) (l4 : List TStamp) (n3 : Int) (l5 : List TWait) (l6 : List TStamp) (l7 : List TMessage) : St := ⟨[(0, .int .i64 a0), (5, .ref 1 19 0 l2.length (some uC)), (6, .ptr 0 0), (7, .imm 12 (v1.map TCommand.d) 12), (8, .int .i64 (n2 : Int)), (9, .ptr 40 0), (10, .imm 5 (l7.map TMessage.d) 12)], [(0, .box [.int .i64 n1, .imm 7 (l3.map TWait.d) 12, .imm 2 (l4.map TStamp.d) 12]), (1, .arr 105 19 true (l2.map Ttowncrierref16_Step.n)), (40, .box [.int .i64 n3, .imm 7 (l5.map TWait.d) 12, .imm 2 (l6.map TStamp.d) 12])], 41⟩
@[go_sem] def st40 (r : (List Ttowncrierref16_Step)) : St := ⟨[(4, .ref 0 19 0 r.length (some uC))], [(0, .arr 105 19 true (r.map Ttowncrierref16_Step.n))], 1⟩
theorem zkj (a0 : Int) (a1 : List (List UInt8)) (r : (List Ttowncrierref16_Step)) (h : zdb a0 a1 = some r) : zcv Tryz.prog 47 [.int .i64 a0, .imm 1 (a1.map D.str) 4] [] (.ref 0 19 0 r.length (some uC)) [(0, some (.arr 105 19 true (r.map Ttowncrierref16_Step.n)))] (0, 45) := by
 refine za5 Tryz.tmOk Tryz.func47 rfl (by decide) (lb rfl) (by simp) ?_
 intro hwf
 unfold zdb at h
 refine .ends 0 (Nat.le_refl _) ?_
 refine .seq (.pl zS [0, 1] ?_)
 refine .seq (.pl zS [0, 1] ?_)
 refine .seq (.pl zS [0, 1, 5] ?_)
 refine .seq ?_
 obtain ⟨v1, hv1, h⟩ := bind_some h
 refine .rg zS [0, 1, 5, 6] ?_
 refine .rn 1 ?_
 refine .call (r := .imm 12 (v1.map TCommand.d) 12) rfl rfl rfl rfl rfl rfl (zlf a1 v1 hv1) ?_
 refine .rn 1 ?_
 refine .nil ⟨nofun, ?_⟩
 obtain ⟨x1, hx1, h⟩ := bind_some h
 refine .seqM 1 (fun (j : (List Ttowncrierref16_Step)) => ya4o j) (fun j => x1 = j) (lb rfl) ?_ ?_
 refine .seq (.pl zS [0, 5, 6, 7] ?_)
 refine .block ?_
 refine .loopG 1 (fun (j : Nat × (List Ttowncrierref16_Step) × Int × (List TWait) × (List TStamp)) => ya4n a0 v1 j.1 j.2.1 j.2.2.1 j.2.2.2.1 j.2.2.2.2) (fun j => j.1 <= v1.length /\ zbe a0 (v1.drop j.1) j.2.1 j.2.2.1 j.2.2.2.1 j.2.2.2.2 = some x1) (fun j => v1.length - j.1) (0, [], 0, [], []) (lb rfl) ?_ ⟨Nat.zero_le _, hx1⟩ ?_
 refine Goes.new0 19 105 (lb rfl) ?_
 refine Goes.boxs 0 _ [.int .i64 0, .imm 7 [] 12, .imm 2 [] 12] rfl (.keep (.cons (.nil12 _ _ 0 (by decide)) (.cons (.nil12 _ _ 0 (by decide)) (.refl _)))) ?_
 refine Goes.wk 5 _ (.ref 1 19 0 0 (some uC)) rfl (.own0 1 _ _ _ (by decide)) ?_
 exact .m [0, 5, 6, 7, 8] [0, 1] []
 rintro ⟨n2, l2, n1, l3, l4⟩ ⟨hi1, hx1⟩
 simp only [ya4n]
 simp only at hi1 hx1
 refine .wf 7 (.imm 12 (v1.map TCommand.d) 12) rfl ?_
 intro hln2
 replace hln2 : (v1.length : Int) <= 9223372036854775807 := by simp only [wf, wfL, IntKind.max, IntKind.min, IntKind.signed, IntKind.bits, List.length_map] at hln2; first | exact hln2.2 | exact hln2.1 | (simp at hln2; omega)
 refine .seq (.seq (.pl zS [0, 5, 6, 7, 8] ?_))
 refine .cond rfl rfl (fun hc1 => ?_) (fun hc1 => ?_)
 have h1 : n2 < v1.length := by simpa using hc1
 have hwn2 : wr .i64 ((n2 : Int) + 1) = ((n2 + 1 : Nat) : Int) := zch h1 hln2
 have hpn2 : wr .i64 ((n2 : Int) - 1) = (n2 : Int) - 1 := zci h1 hln2
 rw [List.drop_eq_getElem_cons h1, zgk] at hx1
 refine .skip ?_
 refine .seq (.block (.seq ?_))
 obtain ⟨v2, hv2, hx1⟩ := bind_some hx1
 obtain ⟨v3, hv3, hx1⟩ := bind_some hx1
 have e1 := zay TCommand.d v1 n2 h1
 refine .rg zS [0, 5, 6, 7, 8] ?_
 refine .rdx 1 (ai e1 hwn2) ?_
 refine .ncall (r := .agg [.int .i64 v2.Clock, .ref 10 7 0 v2.Waits.length (some uC), .ref 11 2 0 v2.Done.length (some uC)]) (eff := [(10, some (.arr 78 7 true (v2.Waits.map TWait.n))), (11, some (.arr 72 2 true (v2.Done.map TStamp.d)))]) (nw := (10, 20)) [] rfl rfl rfl rfl rfl (za7 rfl zb9) rfl (zeh 10 (lb rfl) (zl3 (⟨n1, l3, l4⟩ : TSkeen) v2 hv2)) (zfu rfl rfl (zmp zft _ _ _) (zfu rfl rfl (zji zhf _ _ _) zjh)) (by intro i hi; simp [D.ids, D.idsL] at hi <;> omega) rfl ⟨lb rfl, lb rfl⟩ ?_
 refine .rdx 5 (ai e1 hwn2) ?_
 refine .hcall (H := [(10, .arr 78 7 true (v2.Waits.map TWait.n)), (11, .arr 72 2 true (v2.Done.map TStamp.d))]) (eff := [(10, none), (11, none), (20, some (.arr 78 7 true (v3.1.Waits.map TWait.n))), (21, some (.arr 72 2 true (v3.1.Done.map TStamp.d))), (22, some (.arr 46 5 true (v3.2.1.map TMessage.n)))]) (nw := (20, 40)) (r := .tuple [.agg [.int .i64 v3.1.Clock, .ref 20 7 0 v3.1.Waits.length (some uC), .ref 21 2 0 v3.1.Done.length (some uC)], .ref 22 5 0 v3.2.1.length (some uC), .bool v3.2.2]) rfl rfl rfl rfl rfl (zk9 20 (zc5 20001 11 (zc5 20000 10 (zot (.keep (.keep (.cons (.aggs (.keep (.keep (.cons (.new4 _ _ rfl) (.keep (.keep (.keep (.keep (.keep (.cons (.new4 _ _ rfl) (.refl _))))))))))) (.refl _)))) (zln v2 a0 (v1[n2]) v3 hv3))))) (fun id b h => zaj [10, 11] _ id b h) (by simp) (.inr ⟨lb rfl, lb rfl⟩) ?_
 refine .rdx 8 (ai e1 hwn2) ?_
 refine .nd ?_
 obtain ⟨x2, hx2, hx1⟩ := bind_some hx1
 refine .seqM 41 (fun (j : Int × (List TWait) × (List TStamp) × (List TMessage)) => ya4m a0 v1 n2 l2 n1 l3 l4 j.1 j.2.1 j.2.2.1 j.2.2.2) (fun j => x2 = j) (lb rfl) ?_ ?_
 refine .seq (.plx zS hwn2 [0, 5, 6, 7, 8, 9, 10, 11] ?_)
 refine .cond rfl rfl (fun hc2 => ?_) (fun hc2 => ?_)
 replace hx2 := za0 hx2 hc2
 refine .seq (.plx zS hwn2 [0, 5, 6, 7, 8, 9] ?_)
 refine .plx zS hwn2 [0, 5, 6, 7, 8, 9] ?_
 refine ⟨_, ?_, (sj hx2).symm⟩
 refine Goes.wk 10 _ (.imm 5 [] 12) rfl (.nil12 _ _ 0 (by decide)) ?_
 exact .m [0, 5, 6, 7, 8, 9, 10] [0, 1, 40] []
 replace hx2 := za3 hx2 hc2
 refine .skip ?_
 refine ⟨_, ?_, (sj hx2).symm⟩
 refine Goes.giveb 40 [.int .i64 v3.1.Clock, .ref 20 7 0 v3.1.Waits.length (some uC), .ref 21 2 0 v3.1.Done.length (some uC)] [.int .i64 v3.1.Clock, .imm 7 (v3.1.Waits.map TWait.d) 12, .imm 2 (v3.1.Done.map TStamp.d) 12] [0, 1, 22, 40] rfl rfl (zak rfl (zak (ziu zft rfl rfl) (zak (ziv zhf rfl rfl) zhx))) (by simp only [go_sem, D.ids, D.idsL, List.append_nil, List.nil_append, List.cons_append, List.mem_cons, List.not_mem_nil, or_false, forall_eq_or_imp, forall_eq, Nat.reduceBEq] <;> simp) ?_
 refine Goes.give 10 (.ref 22 5 0 v3.2.1.length (some uC)) (.imm 5 (v3.2.1.map TMessage.d) 12) [0, 1, 40] rfl (ziu zpv rfl rfl) (by simp only [go_sem, D.ids, D.idsL, List.append_nil, List.nil_append, List.cons_append, List.mem_cons, List.not_mem_nil, or_false, forall_eq_or_imp, forall_eq, Nat.reduceBEq] <;> simp) ?_
 exact .m [0, 5, 6, 7, 8, 9, 10] [0, 1, 40] []
 rintro ⟨n3, l5, l6, l7⟩ hj1
 subst x2
 try dsimp only at hx1
 simp only [ya4m]
 refine .seq ?_
 obtain ⟨k1, hx1⟩ := zae hx1
 have e2 := zay TCommand.d v1 n2 h1
 refine .rg zS [0, 5, 6, 7, 8, 9, 10] ?_
 refine .rdx 6 (ai e2 hwn2) ?_
 refine .rdx 6 (ai e2 hwn2) ?_
 refine .nd ?_
 refine .plx zS hwn2 [0, 5, 6, 7, 8, 9] ?_
 refine .plx zS hwn2 [0, 5, 6, 7, 8] ?_
 refine ⟨(n2 + 1, _, _, _, _), ?_, ⟨by omega, hx1⟩, by dsimp only; omega⟩
 exact .m [0, 5, 6, 7, 8] [0, 42] [(42, 1)]
 have h2 : n2 = v1.length := by have h2b := of_decide_eq_false hc1; omega
 rw [List.drop_of_length_le (by omega), zgj] at hx1
 refine .exit ?_
 refine ⟨_, ?_, (sj hx1).symm⟩
 exact .m [5] [1] []
 rintro l1 hj2
 subst x1
 try dsimp only at h
 simp only [ya4o]
 refine .seq (.pl zS [5] ?_)
 have hq := sj h
 subst r
 refine .ret ⟨st40 l1, ?_, .inr rfl, retH [0] ?_ ?_⟩
 exact .m [4] [1] [(1, 0)]
 exact rsi0
 rfl
theorem zhi (a0 : Int) (a1 : List (List UInt8)) (r : (List Ttowncrierref16_Step)) (h : zdb a0 a1 = some r) : zbn Tryz.prog 47 [.int .i64 a0, .imm 1 (a1.map D.str) 4] (.imm 19 (r.map Ttowncrierref16_Step.d) 12) :=
 zg0 (ziu zl7 rfl rfl) (zkj a0 a1 r h)
@[go_sem] def ya4l (l1 : List Ttowncrierref16_Given) : St := ⟨[(5, .ref 0 6 0 l1.length (some uC))], [(0, .arr 76 6 true (l1.map Ttowncrierref16_Given.n))], 1⟩
@[go_sem] def ya4k (v1 : List Ttowncrierref16_Step) (n1 : Nat) (l2 : List Ttowncrierref16_Given) : St := ⟨[(5, .ref 0 6 0 l2.length (some uC)), (6, .imm 19 (v1.map Ttowncrierref16_Step.d) 12), (7, .int .i64 (n1 : Int))], [(0, .arr 76 6 true (l2.map Ttowncrierref16_Given.n))], 1⟩
@[go_sem] def ya4j (v1 : List Ttowncrierref16_Step) (n1 : Nat) (l3 : List Ttowncrierref16_Given) : St := ⟨[(5, .ref 1 6 0 l3.length (some uC)), (6, .imm 19 (v1.map Ttowncrierref16_Step.d) 12), (7, .int .i64 (n1 : Int))], [(1, .arr 76 6 true (l3.map Ttowncrierref16_Given.n))], 2⟩
@[go_sem] def st41 (r : (List Ttowncrierref16_Given)) : St := ⟨[(4, .ref 0 6 0 r.length (some uC))], [(0, .arr 76 6 true (r.map Ttowncrierref16_Given.n))], 1⟩
theorem zki (a0 : Int) (a1 : List (List UInt8)) (r : (List Ttowncrierref16_Given)) (h : zcp a0 a1 = some r) : zcv Tryz.prog 25 [.int .i64 a0, .imm 1 (a1.map D.str) 4] [] (.ref 0 6 0 r.length (some uC)) [(0, some (.arr 76 6 true (r.map Ttowncrierref16_Given.n)))] (0, 5) := by
 refine za5 Tryz.tmOk Tryz.func25 rfl (by decide) (lb rfl) (by simp) ?_
 intro hwf
 unfold zcp at h
 refine .ends 0 (Nat.le_refl _) ?_
 refine .seq (.pl zS [0, 1] ?_)
 refine .seq (.pl zS [0, 1] ?_)
 refine .seq ?_
 obtain ⟨v1, hv1, h⟩ := bind_some h
 refine .rg zS [0, 1, 5] ?_
 refine .rn 2 ?_
 refine .call (r := .imm 19 (v1.map Ttowncrierref16_Step.d) 12) rfl rfl rfl rfl rfl rfl (zhi a0 a1 v1 hv1) ?_
 refine .rn 1 ?_
 refine .nil ⟨nofun, ?_⟩
 obtain ⟨x1, hx1, h⟩ := bind_some h
 refine .seqM 0 (fun (j : (List Ttowncrierref16_Given)) => ya4l j) (fun j => x1 = j) (lb rfl) ?_ ?_
 refine .seq (.pl zS [5, 6] ?_)
 refine .block ?_
 refine .loopG 0 (fun (j : Nat × (List Ttowncrierref16_Given)) => ya4k v1 j.1 j.2) (fun j => j.1 <= v1.length /\ zc4 (v1.drop j.1) j.2 = some x1) (fun j => v1.length - j.1) (0, []) (lb rfl) ?_ ⟨Nat.zero_le _, hx1⟩ ?_
 refine Goes.new0 6 76 (lb rfl) ?_
 refine Goes.wk 5 _ (.ref 0 6 0 0 (some uC)) rfl (.own0 0 _ _ _ (by decide)) ?_
 exact .m [5, 6, 7] [0] []
 rintro ⟨n1, l2⟩ ⟨hi1, hx1⟩
 simp only [ya4k]
 simp only at hi1 hx1
 refine .wf 6 (.imm 19 (v1.map Ttowncrierref16_Step.d) 12) rfl ?_
 intro hln1
 replace hln1 : (v1.length : Int) <= 9223372036854775807 := by simp only [wf, wfL, IntKind.max, IntKind.min, IntKind.signed, IntKind.bits, List.length_map] at hln1; first | exact hln1.2 | exact hln1.1 | (simp at hln1; omega)
 refine .seq (.seq (.pl zS [5, 6, 7] ?_))
 refine .cond rfl rfl (fun hc1 => ?_) (fun hc1 => ?_)
 have h1 : n1 < v1.length := by simpa using hc1
 have hwn1 : wr .i64 ((n1 : Int) + 1) = ((n1 + 1 : Nat) : Int) := zch h1 hln1
 have hpn1 : wr .i64 ((n1 : Int) - 1) = (n1 : Int) - 1 := zci h1 hln1
 rw [List.drop_eq_getElem_cons h1, zgi] at hx1
 refine .skip ?_
 obtain ⟨x2, hx2, hx1⟩ := bind_some hx1
 refine .seqM 1 (fun (j : (List Ttowncrierref16_Given)) => ya4j v1 n1 j) (fun j => x2 = j) (lb rfl) ?_ ?_
 refine .block ?_
 refine .seq ?_
 have e1 := zay Ttowncrierref16_Step.d v1 n1 h1
 have e2 := zay Ttowncrierref16_Step.d v1 n1 h1
 refine .rg zS [5, 6, 7] ?_
 refine .rdx 6 (ai e1 (ai e2 hwn1)) ?_
 refine .rdx 6 (ai e1 (ai e2 hwn1)) ?_
 refine .rdx 3 (ai e1 (ai e2 hwn1)) ?_
 refine .nd ?_
 refine .cond rfl rfl (fun hc2 => ?_) (fun hc2 => ?_)
 replace hx2 := za0 hx2 hc2
 obtain ⟨k1, hx2⟩ := zae hx2
 have e3 := zay Ttowncrierref16_Step.d v1 n1 h1
 have e4 := zay Ttowncrierref16_Step.d v1 n1 h1
 refine .rg zS [5, 6, 7] ?_
 refine .rdx 6 (ai e3 (ai e4 hwn1)) ?_
 refine .rdx 6 (ai e3 (ai e4 hwn1)) ?_
 refine .rdx 5 (ai e3 (ai e4 hwn1)) ?_
 refine .nd ?_
 refine ⟨_, ?_, (sj hx2).symm⟩
 exact .m [5, 6, 7] [2] [(2, 1)]
 replace hx2 := za3 hx2 hc2
 refine .skip ?_
 refine ⟨_, ?_, (sj hx2).symm⟩
 exact .m [5, 6, 7] [0] [(0, 1)]
 rintro l3 hj1
 subst x2
 try dsimp only at hx1
 simp only [ya4j]
 refine .plx zS hwn1 [5, 6, 7] ?_
 refine ⟨(n1 + 1, _), ?_, ⟨by omega, hx1⟩, by dsimp only; omega⟩
 exact .m [5, 6, 7] [1] [(1, 0)]
 have h2 : n1 = v1.length := by have h2b := of_decide_eq_false hc1; omega
 rw [List.drop_of_length_le (by omega), zgh] at hx1
 refine .exit ?_
 refine ⟨_, ?_, (sj hx1).symm⟩
 exact .m [5] [0] []
 rintro l1 hj2
 subst x1
 try dsimp only at h
 simp only [ya4l]
 refine .seq (.pl zS [5] ?_)
 have hq := sj h
 subst r
 refine .ret ⟨st41 l1, ?_, .inr rfl, retH [0] ?_ ?_⟩
 exact .m [4] [0] []
 exact rsi0
 rfl
theorem zhh (a0 : Int) (a1 : List (List UInt8)) (r : (List Ttowncrierref16_Given)) (h : zcp a0 a1 = some r) : zbn Tryz.prog 25 [.int .i64 a0, .imm 1 (a1.map D.str) 4] (.imm 6 (r.map Ttowncrierref16_Given.d) 12) :=
 zg0 (ziu zkr rfl rfl) (zki a0 a1 r h)
end Go.Proofs
end
section
namespace Go.Proofs
open Go.Tm Go.RowKit Go.WideShapes
set_option maxRecDepth 100000
set_option maxHeartbeats 4000000
set_option linter.unusedSimpArgs false
set_option linter.unusedVariables false
attribute [local go_sem] Tryz.f76 Int.sub_zero
theorem ya3g (n : Int) (hn : 0 <= n /\ n.toNat * 80 <= 140737488355328) : zcv Tryz.prog 76 [.imm 0 [] 0, .int .i64 n] [] (.ref 0 6 0 0 (some uC)) [(0, some (.arr 70 6 true []))] (0, 3) := by
 refine za5 Tryz.tmOk Tryz.func76 rfl (by decide) (lb rfl) (by simp) ?_
 intro hwf
 have hw0 : wr .i64 0 = 0 := zju _ _ (by show (-9223372036854775808 : Int) <= _; omega) (by show _ <= (9223372036854775807 : Int); omega)
 have hwn : wr .i64 n = n := zju _ _ (by show (-9223372036854775808 : Int) <= _; omega) (by show _ <= (9223372036854775807 : Int); omega)
 refine .ends 0 (Nat.le_refl _) ?_
 refine .seq (.pl zS [0, 1] ?_)
 refine .seq (.seq (.pl zS [0, 1] ?_))
 refine .cond rfl rfl (fun hc => ?_) (fun hc => ?_)
 exact absurd hn.1 (by have := of_decide_eq_true hc; omega)
 refine .skip ?_
 refine .seqM 0 (fun (_ : Unit) => ⟨[(0, .ref 0 6 0 0 (some uC))], [(0, .arr 70 6 true [])], 1⟩) (fun _ => True) (lb rfl) ?_ (fun _ _ => ?_)
 refine .seq ?_
 refine .plx zS (ai hw0 hwn) [0, 1] ?_
 refine .seq (.pl zS [0, 1] ?_)
 refine .cond rfl rfl (fun hc => ?_) (fun hc => ?_)
 have hE : wr .i64 (n - wr .i64 (((0 : Nat) : Int) - ((0 : Nat) : Int))) = n := by simp [hw0, hwn]
 rw [hE] at hc
 have hp : 0 < n := of_decide_eq_true hc
 have hm : (0 : Int) <= max n 0 := Int.le_max_right _ _
 refine .pl zS [0, 1] (hv := by simp [hw0, hwn, hp, hn.2, hm]) ?_
 refine ⟨(), ?_, trivial⟩
 refine Goes.pre 0 0 _ rfl ?_
 refine Goes.wk 0 _ (.ref 0 6 0 0 (some uC)) rfl (.unk _ _ _ _ _) ?_
 exact .m [0] [0] []
 refine .skip ?_
 refine ⟨(), ?_, trivial⟩
 refine Goes.new0 6 70 (lb rfl) ?_
 refine Goes.wk 0 _ (.ref 0 6 0 0 (some uC)) rfl (.own0 0 _ _ _ (by decide)) ?_
 exact .m [0] [0] []
 refine .seq (.pl zS [0] ?_)
 refine .ret ⟨⟨[(4, .ref 0 6 0 0 (some uC))], [(0, .arr 70 6 true [])], 1⟩, ?_, .inr rfl, retH [0] ?_ ?_⟩
 exact .m [4] [0] []
 exact rsi0
 rfl
end Go.Proofs
end
