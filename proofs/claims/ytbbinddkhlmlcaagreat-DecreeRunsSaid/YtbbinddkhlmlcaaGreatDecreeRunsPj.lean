/- Texts of the proof. -/
import Derived.Test.YtbbinddkhlmlcaaGreatDecreeRunsPg
import Derived.Test.YtbbinddkhlmlcaaGreatDecreeRunsPh
import Derived.Test.YtbbinddkhlmlcaaGreatDecreeRunsPi
section
namespace Go.Proofs
open Go.Tm Go.RowKit Go.WideShapes
set_option maxRecDepth 100000
set_option maxHeartbeats 4000000
set_option linter.unusedSimpArgs false
set_option linter.unusedVariables false
theorem callP_attempt_Promised_1 (a0 : Int) (c0 : TAttempt) (c1 : TPromise) (r : Bool) (h : zc4 a0 c0 c1 = some r) : CallP Tryz.prog 97 [.int .i64 a0, .iptr 0 [.int .u8 c0.Phase, .int .i64 c0.Ballot, .imm 1 (c0.Members.map (D.int .i64)) 4, .str c0.Wish, .str c0.Value, .imm 3 (c0.Promises.map TPromise.d) 4, .imm 1 (c0.Accepted.map (D.int .i64)) 4], .iptr 0 [.int .i64 c1.Node, .int .i64 c1.Ballot, .str c1.Value]] (.bool r) := by
 refine za5 Tryz.tmOk 2 Tryz.func97 rfl (by decide) rfl rfl (lb rfl) ?_
 intro hwf
 unfold zc4 at h
 refine .seq (.pl zS [0, 1, 2] ?_)
 refine .seq ?_
 obtain ⟨k1, h⟩ := zaa h
 have e1 := zaj TPromise.d c0.Promises a0
 replace e1 := e1 k1
 refine .rg zS [0, 1, 2] ?_
 refine .rdx 6 e1 ?_
 refine .rdx 4 e1 ?_
 refine .nd ?_
 have hq := sj h
 subst r
 exact .ret ⟨.inr rfl, rsi⟩
@[go_sem] def Tryz.St_attempt_Promised_1 (p : TPromise) (v4 : TAttempt) (v5 : Int) (n1 : Int) (s1 : List UInt8) : St := ⟨[(3, .ptr 0 0), (6, .ptr 2 0)], [(0, .box [.int .u8 n1, .int .i64 v4.Ballot, .ref 14 1 0 v4.Members.length (some uC), .str v4.Wish, .str s1, .ref 29 3 0 (((v4.Promises.take v5.toNat) ++ (p :: (v4.Promises.drop v5.toNat))).length) (some uC), .ref 16 1 0 v4.Accepted.length (some uC)]), (2, .box [.int .u8 0, .int .i64 0, .imm 0 [] 0, .str [], .str [], .imm 0 [] 0, .imm 0 [] 0]), (14, .arr 3 1 true (v4.Members.map (D.int .i64))), (16, .arr 3 1 true (v4.Accepted.map (D.int .i64))), (29, .arr 91 3 true (((v4.Promises.take v5.toNat) ++ (p :: (v4.Promises.drop v5.toNat))).map TPromise.d))], 30⟩
@[go_sem] def Tryz.Re_attempt_Promised (r : TAttempt × Int) : St := ⟨[(6, .ptr 3 0), (7, .int .i64 r.2)], [(0, .arr 3 1 true (r.1.Members.map (D.int .i64))), (1, .arr 91 3 true (r.1.Promises.map TPromise.d)), (2, .arr 3 1 true (r.1.Accepted.map (D.int .i64))), (3, .box [.int .u8 r.1.Phase, .int .i64 r.1.Ballot, .ref 0 1 0 r.1.Members.length (some uC), .str r.1.Wish, .str r.1.Value, .ref 1 3 0 r.1.Promises.length (some uC), .ref 2 1 0 r.1.Accepted.length (some uC)])], 4⟩
theorem callH_attempt_Promised (a : TAttempt) (b : Int) (p : TPromise) (r : TAttempt × Int) (h : zc1 a b p = some r) : CallH Tryz.prog 86 [.agg [.int .u8 a.Phase, .int .i64 a.Ballot, .imm 1 (a.Members.map (D.int .i64)) 4, .str a.Wish, .str a.Value, .imm 3 (a.Promises.map TPromise.d) 4, .imm 1 (a.Accepted.map (D.int .i64)) 4], .int .i64 b, .agg [.int .i64 p.Node, .int .i64 p.Ballot, .str p.Value]] [] (.tuple [.agg [.int .u8 r.1.Phase, .int .i64 r.1.Ballot, .ref 0 1 0 r.1.Members.length (some uC), .str r.1.Wish, .str r.1.Value, .ref 1 3 0 r.1.Promises.length (some uC), .ref 2 1 0 r.1.Accepted.length (some uC)], .int .i64 r.2]) [(0, some (.arr 3 1 true (r.1.Members.map (D.int .i64)))), (1, some (.arr 91 3 true (r.1.Promises.map TPromise.d))), (2, some (.arr 3 1 true (r.1.Accepted.map (D.int .i64))))] (0, 38) := by
 refine za8 Tryz.tmOk Tryz.func86 rfl (by decide) (lb rfl) (by simp) ?_
 intro hwf
 unfold zc1 at h
 refine .ends 0 (Nat.le_refl _) ?_
 refine .seq (.pl zS [0, 1, 2] ?_)
 refine .seq (.seq ?_)
 obtain ⟨v1, hv1, h⟩ := bind_some h
 refine .rg zS [1, 3, 5, 6] ?_
 refine .rn 1 ?_
 refine .call (r := .int .i64 v1) rfl rfl rfl rfl rfl rfl (callP_attempt_Check a v1 hv1) ?_
 refine .rn 1 ?_
 refine .nil ⟨nofun, ?_⟩
 refine .seq (.pl zS [1, 3, 5, 6, 8] ?_)
 refine .cond rfl rfl (fun hc1 => ?_) (fun hc1 => ?_)
 ·replace h := za0 h hc1
  refine .seq (.pl zS [6, 8] ?_)
  have hq := sj h
  subst r
  refine .ret ⟨Tryz.Re_attempt_Promised ((⟨0, 0, [], [], [], [], []⟩ : TAttempt), v1), ?_, .inr rfl, retH [2, 1, 0] ?_ ?_⟩
  ·refine Goes.new0 1 3 (lb rfl) ?_
   refine Goes.new0 3 91 (lb rfl) ?_
   refine Goes.new0 1 3 (lb rfl) ?_
   refine Goes.boxs 2 _ [.int .u8 0, .int .i64 0, .ref 3 1 0 0 (some uC), .str [], .str [], .ref 4 3 0 0 (some uC), .ref 5 1 0 0 (some uC)] rfl (.keep (.keep (.cons (.own0 3 _ _ _ (by decide)) (.keep (.keep (.cons (.own0 4 _ _ _ (by decide)) (.cons (.own0 5 _ _ _ (by decide)) (.refl _)))))))) ?_
   exact .m [6, 7] [3, 4, 5, 2] [(3, 0), (4, 1), (5, 2), (2, 3)]
  ·exact rsi0
  rfl
 replace h := za3 h hc1
 refine .skip ?_
 refine .seq (.seq ?_)
 obtain ⟨v2, hv2, h⟩ := bind_some h
 refine .rg zS [1, 3, 5, 6] ?_
 refine .rn 6 ?_
 refine .rn 8 ?_
 refine .gcall (r := .bool v2) rfl rfl rfl rfl rfl (fun hg => ⟨[], [.imm 1 (a.Members.map (D.int .i64)) 4, .int .i64 p.Node], _, rfl, gd hg, rfl, (callP_quorum_Has a.Members p.Node v2 (za0 hv2 hg))⟩) ?_
 refine .rn 2 ?_
 refine .nil ⟨nofun, ?_⟩
 refine .cond rfl rfl (fun hc2 => ?_) (fun hc2 => ?_)
 ·replace h := za0 h hc2
  refine .seq (.pl zS [6] ?_)
  have hq := sj h
  subst r
  refine .ret ⟨Tryz.Re_attempt_Promised ((⟨0, 0, [], [], [], [], []⟩ : TAttempt), 6), ?_, .inr rfl, retH [2, 1, 0] ?_ ?_⟩
  ·refine Goes.new0 1 3 (lb rfl) ?_
   refine Goes.new0 3 91 (lb rfl) ?_
   refine Goes.new0 1 3 (lb rfl) ?_
   refine Goes.boxs 2 _ [.int .u8 0, .int .i64 0, .ref 3 1 0 0 (some uC), .str [], .str [], .ref 4 3 0 0 (some uC), .ref 5 1 0 0 (some uC)] rfl (.keep (.keep (.cons (.own0 3 _ _ _ (by decide)) (.keep (.keep (.cons (.own0 4 _ _ _ (by decide)) (.cons (.own0 5 _ _ _ (by decide)) (.refl _)))))))) ?_
   exact .m [6, 7] [3, 4, 5, 2] [(3, 0), (4, 1), (5, 2), (2, 3)]
  ·exact rsi0
  rfl
 replace h := za3 h hc2
 refine .skip ?_
 refine .seq (.seq ?_)
 obtain ⟨v3, hv3, h⟩ := bind_some h
 refine .rg zS [1, 3, 5, 6] ?_
 refine .rn 2 ?_
 refine .call (r := .bool v3) rfl rfl rfl rfl rfl rfl (callP_attempt_may p b v3 hv3) ?_
 refine .rn 1 ?_
 refine .nil ⟨nofun, ?_⟩
 refine .cond rfl rfl (fun hc3 => ?_) (fun hc3 => ?_)
 ·replace h := za0 h hc3
  refine .seq (.pl zS [6] ?_)
  have hq := sj h
  subst r
  refine .ret ⟨Tryz.Re_attempt_Promised ((⟨0, 0, [], [], [], [], []⟩ : TAttempt), 8), ?_, .inr rfl, retH [2, 1, 0] ?_ ?_⟩
  ·refine Goes.new0 1 3 (lb rfl) ?_
   refine Goes.new0 3 91 (lb rfl) ?_
   refine Goes.new0 1 3 (lb rfl) ?_
   refine Goes.boxs 2 _ [.int .u8 0, .int .i64 0, .ref 3 1 0 0 (some uC), .str [], .str [], .ref 4 3 0 0 (some uC), .ref 5 1 0 0 (some uC)] rfl (.keep (.keep (.cons (.own0 3 _ _ _ (by decide)) (.keep (.keep (.cons (.own0 4 _ _ _ (by decide)) (.cons (.own0 5 _ _ _ (by decide)) (.refl _)))))))) ?_
   exact .m [6, 7] [3, 4, 5, 2] [(3, 0), (4, 1), (5, 2), (2, 3)]
  ·exact rsi0
  rfl
 replace h := za3 h hc3
 refine .skip ?_
 refine .seq ?_
 obtain ⟨v4, hv4, h⟩ := bind_some h
 refine .rg zS [3, 5, 6] ?_
 refine .rn 1 ?_
 refine .ncall (r := .agg [.int .u8 v4.Phase, .int .i64 v4.Ballot, .ref 14 1 0 v4.Members.length (some uC), .str v4.Wish, .str v4.Value, .ref 15 3 0 v4.Promises.length (some uC), .ref 16 1 0 v4.Accepted.length (some uC)]) (eff := [(14, some (.arr 3 1 true (v4.Members.map (D.int .i64)))), (15, some (.arr 91 3 true (v4.Promises.map TPromise.d))), (16, some (.arr 3 1 true (v4.Accepted.map (D.int .i64))))]) (nw := (14, 28)) [] rfl rfl rfl rfl rfl (za2 rfl zad) rfl (zbw 14 (lb rfl) (callH_attempt_Twin a v4 hv4)) (zab rfl rfl (zag zar _ _ _) (zab rfl rfl (zag zbu _ _ _) (zab rfl rfl (zag zar _ _ _) zbx))) (by intro i hi; simp [D.ids, D.idsL] at hi <;> omega) rfl ⟨Nat.le_of_ble_eq_true rfl, Nat.le_of_ble_eq_true rfl⟩ ?_
 refine .rn 1 ?_
 refine .nil ⟨nofun, ?_⟩
 refine .seq ?_
 obtain ⟨v5, hv5, h⟩ := bind_some h
 refine .rg zS [3, 5, 6] ?_
 refine .rn 4 ?_
 refine .lcall (r := .int .i64 v5) [14, 15, 16] rfl rfl rfl rfl rfl (za2 rfl (za2 (lend2_fn (za2 (lend2_ptr rfl (zan rfl (zan rfl (zan (zax (pl_int .i64) (by first | rfl | (simp only [go_sem, Nat.reduceBEq]; rfl)) (by first | rfl | (simp; done) | (simp <;> omega))) (zan rfl (zan rfl (zan (zax pl_TPromise (by first | rfl | (simp only [go_sem, Nat.reduceBEq]; rfl)) (by first | rfl | (simp; done) | (simp <;> omega))) (zan (zax (pl_int .i64) (by first | rfl | (simp only [go_sem, Nat.reduceBEq]; rfl)) (by first | rfl | (simp; done) | (simp <;> omega))) lends_nil)))))))) (za2 (lend2_ptr rfl (zan rfl (zan rfl (zan rfl lends_nil)))) zad))) zad)) rfl (callP_sort_Search (v4.Promises.length : Int) 97 [.iptr 0 [.int .u8 v4.Phase, .int .i64 v4.Ballot, .imm 1 (v4.Members.map (D.int .i64)) 4, .str v4.Wish, .str v4.Value, .imm 3 (v4.Promises.map TPromise.d) 4, .imm 1 (v4.Accepted.map (D.int .i64)) 4], .iptr 0 [.int .i64 p.Node, .int .i64 p.Ballot, .str p.Value]] (fun _ => rfl) (fun _ => rfl) (fun _ => rfl) (fun x0 => zc4 x0 v4 p) (fun x0 y hy => callP_attempt_Promised_1 x0 v4 p y hy) v5 hv5) ?_
 refine .rn 1 ?_
 refine .nil ⟨nofun, ?_⟩
 refine .seq ?_
 obtain ⟨k1, h⟩ := zaa h
 refine .seqM 28 (fun (_ : Unit) => ⟨[(3, .ptr 0 0), (5, .ptr 1 0), (6, .ptr 2 0), (9, .int .i64 v5), (61, .bool ((decide (v5 < (v4.Promises.length : Int))) && ((v4.Promises.getD v5.toNat default).Node == p.Node)))], [(0, .box [.int .u8 v4.Phase, .int .i64 v4.Ballot, .ref 14 1 0 v4.Members.length (some uC), .str v4.Wish, .str v4.Value, .ref 15 3 0 v4.Promises.length (some uC), .ref 16 1 0 v4.Accepted.length (some uC)]), (1, .box [.int .i64 p.Node, .int .i64 p.Ballot, .str p.Value]), (2, .box [.int .u8 0, .int .i64 0, .imm 0 [] 0, .str [], .str [], .imm 0 [] 0, .imm 0 [] 0]), (14, .arr 3 1 true (v4.Members.map (D.int .i64))), (15, .arr 91 3 true (v4.Promises.map TPromise.d)), (16, .arr 3 1 true (v4.Accepted.map (D.int .i64)))], 28⟩) (fun _ => True) (lb rfl) ?_ (fun _ _ => ?_)
 ·by_cases hgd : v5 < (v4.Promises.length : Int)
  ·have eg10 := zaj TPromise.d v4.Promises v5 (k1 hgd)
   refine .rg zS [3, 5, 6, 9] ?_
   refine .rdx 6 eg10 ?_
   refine .rdx 6 eg10 ?_
   refine .rdx 4 eg10 ?_
   refine .nd ?_
   refine ⟨(), ?_, trivial⟩
   exact .m [3, 5, 6, 9, 61] [0, 1, 2, 14, 15, 16] []
  have hgf1 : (decide (v5 < (v4.Promises.length : Int))) = false := by first | simpa using hgd | (simp at hgd ⊢; omega) | grind
  rcases nth_or TPromise.d v4.Promises v5.toNat with eg10 | eg10
  ·refine .rg zS [3, 5, 6, 9] ?_
   refine .rdx 6 (And.intro eg10 hgf1) ?_
   refine .rdx 6 (And.intro eg10 hgf1) ?_
   refine .rdx 4 (And.intro eg10 hgf1) ?_
   refine .nd ?_
   refine ⟨(), ?_, trivial⟩
   exact .mx hgf1 [3, 5, 6, 9, 61] [0, 1, 2, 14, 15, 16] []
  refine .rg zS [3, 5, 6, 9] ?_
  refine .rdx 6 (And.intro eg10 hgf1) ?_
  refine .rdx 6 (And.intro eg10 hgf1) ?_
  refine .rdx 4 (And.intro eg10 hgf1) ?_
  refine .nd ?_
  refine ⟨(), ?_, trivial⟩
  exact .mx hgf1 [3, 5, 6, 9, 61] [0, 1, 2, 14, 15, 16] []
 refine .cond rfl rfl (fun hc4 => ?_) (fun hc4 => ?_)
 ·replace h := za0 h hc4
  refine .seq (.pl zS [3, 6] ?_)
  have hq := sj h
  subst r
  refine .ret ⟨Tryz.Re_attempt_Promised (v4, 0), ?_, .inr rfl, retH [2, 1, 0] ?_ ?_⟩
  ·exact .m [6, 7] [14, 15, 16, 2] [(14, 0), (15, 1), (16, 2), (2, 3)]
  ·exact rsi0
  rfl
 replace h := za3 h hc4
 refine .skip ?_
 refine .seq ?_
 obtain ⟨k2, h⟩ := zaa h
 obtain ⟨k3, h⟩ := zaa h
 refine .rg zS [3, 5, 6, 9] ?_
 refine .rn 5 ?_
 refine .hcall (r := .ref 29 3 0 (((v4.Promises.take v5.toNat) ++ (p :: (v4.Promises.drop v5.toNat))).length) (some uC)) rfl rfl rfl rfl rfl (insT98 15 28 29 (by decide) (by decide) (by decide) v4.Promises p v5 k2 k3) (fun id b h => zbb [15, 28] _ id b h) (by simp) (.inr ⟨Nat.le_refl _, Nat.le_of_ble_eq_true rfl⟩) ?_
 refine .rn 2 ?_
 refine .nil ⟨nofun, ?_⟩
 obtain ⟨x1, hx1, h⟩ := bind_some h
 refine .seqM 30 (fun (j : Int × (List UInt8)) => Tryz.St_attempt_Promised_1 p v4 v5 j.1 j.2) (fun j => x1 = j) (lb rfl) ?_ ?_
 ·refine .seq ?_
  obtain ⟨v6, hv6, hx1⟩ := bind_some hx1
  obtain ⟨v7, hv7, hx1⟩ := bind_some hx1
  refine .rg zS [3, 6] ?_
  refine .rd 4 ?_
  refine .ncall (r := .ref 30 1 0 v6.length (some uC)) (eff := [(30, some (.arr 3 1 true (v6.map (D.int .i64))))]) (nw := (30, 36)) [] rfl rfl rfl rfl rfl (za2 (zc8 (zax pl_TPromise (by first | rfl | (simp only [go_sem, Nat.reduceBEq]; rfl)) (by first | rfl | (simp; done) | (simp <;> omega))) trivial) zad) rfl (zbw 30 (lb rfl) (callH_attempt_nodes ((v4.Promises.take v5.toNat) ++ (p :: (v4.Promises.drop v5.toNat))) v6 hv6)) (zab rfl rfl (zag zar _ _ _) zbx) (by intro i hi; simp [D.ids, D.idsL] at hi <;> omega) rfl ⟨Nat.le_of_ble_eq_true rfl, Nat.le_of_ble_eq_true rfl⟩ ?_
  refine .rd 0 ?_
  refine .lcall (r := .bool v7) [] rfl rfl rfl rfl rfl (za2 (zc8 (zax (pl_int .i64) (by first | rfl | (simp only [go_sem, Nat.reduceBEq]; rfl)) (by first | rfl | (simp; done) | (simp <;> omega))) trivial) (za2 (zc8 (zax (pl_int .i64) (by first | rfl | (simp only [go_sem, Nat.reduceBEq]; rfl)) (by first | rfl | (simp; done) | (simp <;> omega))) trivial) zad)) rfl (callP_attempt_most v4.Members v6 v7 hv7) ?_
  refine .nd ?_
  refine .cond rfl rfl (fun hc5 => ?_) (fun hc5 => ?_)
  ·replace hx1 := za0 hx1 hc5
   obtain ⟨v8, hv8, hx1⟩ := bind_some hx1
   refine .rg zS [3, 6] ?_
   refine .rn 4 ?_
   refine .lcall (r := .str v8) [] rfl rfl rfl rfl rfl (za2 (zc8 (zax pl_TPromise (by first | rfl | (simp only [go_sem, Nat.reduceBEq]; rfl)) (by first | rfl | (simp; done) | (simp <;> omega))) trivial) (za2 rfl zad)) rfl (callP_attempt_Best ((v4.Promises.take v5.toNat) ++ (p :: (v4.Promises.drop v5.toNat))) v4.Wish v8 hv8) ?_
   refine .rn 4 ?_
   refine .nil ⟨nofun, ?_⟩
   refine ⟨_, ?_, (sj hx1).symm⟩
   exact .m [3, 6] [0, 2, 14, 16, 29] []
  replace hx1 := za3 hx1 hc5
  refine .skip ?_
  refine ⟨_, ?_, (sj hx1).symm⟩
  exact .m [3, 6] [0, 2, 14, 16, 29] []
 rintro ⟨n1, s1⟩ hj1
 subst x1
 try dsimp only at h
 simp only [Tryz.St_attempt_Promised_1]
 refine .seq (.pl zS [3, 6] ?_)
 have hq := sj h
 subst r
 refine .ret ⟨Tryz.Re_attempt_Promised ((⟨n1, v4.Ballot, v4.Members, v4.Wish, s1, ((v4.Promises.take v5.toNat) ++ (p :: (v4.Promises.drop v5.toNat))), v4.Accepted⟩ : TAttempt), 0), ?_, .inr rfl, retH [2, 1, 0] ?_ ?_⟩
 ·exact .m [6, 7] [14, 29, 16, 2] [(14, 0), (29, 1), (16, 2), (2, 3)]
 ·exact rsi0
 rfl
theorem callP_attempt_Promised (a : TAttempt) (b : Int) (p : TPromise) (r : TAttempt × Int) (h : zc1 a b p = some r) : CallP Tryz.prog 86 [.agg [.int .u8 a.Phase, .int .i64 a.Ballot, .imm 1 (a.Members.map (D.int .i64)) 4, .str a.Wish, .str a.Value, .imm 3 (a.Promises.map TPromise.d) 4, .imm 1 (a.Accepted.map (D.int .i64)) 4], .int .i64 b, .agg [.int .i64 p.Node, .int .i64 p.Ballot, .str p.Value]] (.tuple [.agg [.int .u8 r.1.Phase, .int .i64 r.1.Ballot, .imm 1 (r.1.Members.map (D.int .i64)) 12, .str r.1.Wish, .str r.1.Value, .imm 3 (r.1.Promises.map TPromise.d) 12, .imm 1 (r.1.Accepted.map (D.int .i64)) 12], .int .i64 r.2]) :=
 callP_frz (frz_tup (za1 (frz_agg (za1 rfl (za1 rfl (za1 (zap zar rfl rfl) (za1 rfl (za1 rfl (za1 (zap zbu rfl rfl) (za1 (zap zar rfl rfl) zc9)))))))) (za1 rfl zc9))) (callH_attempt_Promised a b p r h)
@[go_sem] def Tryz.St_attempt_Accepted_1 (v3 : TAttempt) (l1 : List Int) : St := ⟨[(3, .ptr 0 0), (6, .ptr 1 0)], [(0, .box [.int .u8 v3.Phase, .int .i64 v3.Ballot, .ref 14 1 0 v3.Members.length (some uC), .str v3.Wish, .str v3.Value, .ref 15 3 0 v3.Promises.length (some uC), .ref 28 1 0 l1.length (some uC)]), (1, .box [.int .u8 0, .int .i64 0, .imm 0 [] 0, .str [], .str [], .imm 0 [] 0, .imm 0 [] 0]), (14, .arr 3 1 true (v3.Members.map (D.int .i64))), (15, .arr 91 3 true (v3.Promises.map TPromise.d)), (28, .arr 3 1 true (l1.map (D.int .i64)))], 29⟩
@[go_sem] def Tryz.St_attempt_Accepted_3 (v3 : TAttempt) (l1 : List Int) (n1 : Int) : St := ⟨[(3, .ptr 0 0), (6, .ptr 1 0)], [(0, .box [.int .u8 n1, .int .i64 v3.Ballot, .ref 14 1 0 v3.Members.length (some uC), .str v3.Wish, .str v3.Value, .ref 15 3 0 v3.Promises.length (some uC), .ref 28 1 0 l1.length (some uC)]), (1, .box [.int .u8 0, .int .i64 0, .imm 0 [] 0, .str [], .str [], .imm 0 [] 0, .imm 0 [] 0]), (14, .arr 3 1 true (v3.Members.map (D.int .i64))), (15, .arr 91 3 true (v3.Promises.map TPromise.d)), (28, .arr 3 1 true (l1.map (D.int .i64)))], 29⟩
@[go_sem] def Tryz.Re_attempt_Accepted (r : TAttempt × Int) : St := ⟨[(6, .ptr 3 0), (7, .int .i64 r.2)], [(0, .arr 3 1 true (r.1.Members.map (D.int .i64))), (1, .arr 91 3 true (r.1.Promises.map TPromise.d)), (2, .arr 3 1 true (r.1.Accepted.map (D.int .i64))), (3, .box [.int .u8 r.1.Phase, .int .i64 r.1.Ballot, .ref 0 1 0 r.1.Members.length (some uC), .str r.1.Wish, .str r.1.Value, .ref 1 3 0 r.1.Promises.length (some uC), .ref 2 1 0 r.1.Accepted.length (some uC)])], 4⟩
theorem callH_attempt_Accepted (a : TAttempt) (b : Int) (node : Int) (r : TAttempt × Int) (h : zc2 a b node = some r) : CallH Tryz.prog 88 [.agg [.int .u8 a.Phase, .int .i64 a.Ballot, .imm 1 (a.Members.map (D.int .i64)) 4, .str a.Wish, .str a.Value, .imm 3 (a.Promises.map TPromise.d) 4, .imm 1 (a.Accepted.map (D.int .i64)) 4], .int .i64 b, .int .i64 node] [] (.tuple [.agg [.int .u8 r.1.Phase, .int .i64 r.1.Ballot, .ref 0 1 0 r.1.Members.length (some uC), .str r.1.Wish, .str r.1.Value, .ref 1 3 0 r.1.Promises.length (some uC), .ref 2 1 0 r.1.Accepted.length (some uC)], .int .i64 r.2]) [(0, some (.arr 3 1 true (r.1.Members.map (D.int .i64)))), (1, some (.arr 91 3 true (r.1.Promises.map TPromise.d))), (2, some (.arr 3 1 true (r.1.Accepted.map (D.int .i64))))] (0, 32) := by
 refine za8 Tryz.tmOk Tryz.func88 rfl (by decide) (lb rfl) (by simp) ?_
 intro hwf
 unfold zc2 at h
 refine .ends 0 (Nat.le_refl _) ?_
 refine .seq (.pl zS [0, 1, 2] ?_)
 refine .seq (.seq ?_)
 obtain ⟨v1, hv1, h⟩ := bind_some h
 refine .rg zS [1, 2, 3, 6] ?_
 refine .rn 1 ?_
 refine .call (r := .int .i64 v1) rfl rfl rfl rfl rfl rfl (callP_attempt_Check a v1 hv1) ?_
 refine .rn 1 ?_
 refine .nil ⟨nofun, ?_⟩
 refine .seq (.pl zS [1, 2, 3, 6, 8] ?_)
 refine .cond rfl rfl (fun hc1 => ?_) (fun hc1 => ?_)
 ·replace h := za0 h hc1
  refine .seq (.pl zS [6, 8] ?_)
  have hq := sj h
  subst r
  refine .ret ⟨Tryz.Re_attempt_Accepted ((⟨0, 0, [], [], [], [], []⟩ : TAttempt), v1), ?_, .inr rfl, retH [2, 1, 0] ?_ ?_⟩
  ·refine Goes.new0 1 3 (lb rfl) ?_
   refine Goes.new0 3 91 (lb rfl) ?_
   refine Goes.new0 1 3 (lb rfl) ?_
   refine Goes.boxs 1 _ [.int .u8 0, .int .i64 0, .ref 2 1 0 0 (some uC), .str [], .str [], .ref 3 3 0 0 (some uC), .ref 4 1 0 0 (some uC)] rfl (.keep (.keep (.cons (.own0 2 _ _ _ (by decide)) (.keep (.keep (.cons (.own0 3 _ _ _ (by decide)) (.cons (.own0 4 _ _ _ (by decide)) (.refl _)))))))) ?_
   exact .m [6, 7] [2, 3, 4, 1] [(2, 0), (3, 1), (4, 2), (1, 3)]
  ·exact rsi0
  rfl
 replace h := za3 h hc1
 refine .skip ?_
 refine .seq (.seq ?_)
 obtain ⟨v2, hv2, h⟩ := bind_some h
 refine .rg zS [1, 2, 3, 6] ?_
 refine .rn 6 ?_
 refine .rn 7 ?_
 refine .gcall (r := .bool v2) rfl rfl rfl rfl rfl (fun hg => ⟨[], [.imm 1 (a.Members.map (D.int .i64)) 4, .int .i64 node], _, rfl, gd hg, rfl, (callP_quorum_Has a.Members node v2 (za0 hv2 hg))⟩) ?_
 refine .rn 2 ?_
 refine .nil ⟨nofun, ?_⟩
 refine .cond rfl rfl (fun hc2 => ?_) (fun hc2 => ?_)
 ·replace h := za0 h hc2
  refine .seq (.pl zS [6] ?_)
  have hq := sj h
  subst r
  refine .ret ⟨Tryz.Re_attempt_Accepted ((⟨0, 0, [], [], [], [], []⟩ : TAttempt), 6), ?_, .inr rfl, retH [2, 1, 0] ?_ ?_⟩
  ·refine Goes.new0 1 3 (lb rfl) ?_
   refine Goes.new0 3 91 (lb rfl) ?_
   refine Goes.new0 1 3 (lb rfl) ?_
   refine Goes.boxs 1 _ [.int .u8 0, .int .i64 0, .ref 2 1 0 0 (some uC), .str [], .str [], .ref 3 3 0 0 (some uC), .ref 4 1 0 0 (some uC)] rfl (.keep (.keep (.cons (.own0 2 _ _ _ (by decide)) (.keep (.keep (.cons (.own0 3 _ _ _ (by decide)) (.cons (.own0 4 _ _ _ (by decide)) (.refl _)))))))) ?_
   exact .m [6, 7] [2, 3, 4, 1] [(2, 0), (3, 1), (4, 2), (1, 3)]
  ·exact rsi0
  rfl
 replace h := za3 h hc2
 refine .skip ?_
 refine .seq ?_
 obtain ⟨v3, hv3, h⟩ := bind_some h
 refine .rg zS [2, 3, 6] ?_
 refine .rn 1 ?_
 refine .ncall (r := .agg [.int .u8 v3.Phase, .int .i64 v3.Ballot, .ref 14 1 0 v3.Members.length (some uC), .str v3.Wish, .str v3.Value, .ref 15 3 0 v3.Promises.length (some uC), .ref 16 1 0 v3.Accepted.length (some uC)]) (eff := [(14, some (.arr 3 1 true (v3.Members.map (D.int .i64)))), (15, some (.arr 91 3 true (v3.Promises.map TPromise.d))), (16, some (.arr 3 1 true (v3.Accepted.map (D.int .i64))))]) (nw := (14, 28)) [] rfl rfl rfl rfl rfl (za2 rfl zad) rfl (zbw 14 (lb rfl) (callH_attempt_Twin a v3 hv3)) (zab rfl rfl (zag zar _ _ _) (zab rfl rfl (zag zbu _ _ _) (zab rfl rfl (zag zar _ _ _) zbx))) (by intro i hi; simp [D.ids, D.idsL] at hi <;> omega) rfl ⟨Nat.le_of_ble_eq_true rfl, Nat.le_of_ble_eq_true rfl⟩ ?_
 refine .rn 1 ?_
 refine .nil ⟨nofun, ?_⟩
 refine .seq ?_
 obtain ⟨v4, hv4, h⟩ := bind_some h
 refine .rg zS [2, 3, 6] ?_
 refine .rn 3 ?_
 refine .lcall (r := .int .i64 v4) [] rfl rfl rfl rfl rfl (za2 (zc8 (zax (pl_int .i64) (by first | rfl | (simp only [go_sem, Nat.reduceBEq]; rfl)) (by first | rfl | (simp; done) | (simp <;> omega))) trivial) (za2 rfl zad)) rfl (callP_sort_SearchInts v3.Accepted node v4 hv4) ?_
 refine .rn 1 ?_
 refine .nil ⟨nofun, ?_⟩
 obtain ⟨x1, hx1, h⟩ := bind_some h
 refine .seqM 28 (fun (j : (List Int)) => Tryz.St_attempt_Accepted_1 v3 j) (fun j => x1 = j) (lb rfl) ?_ ?_
 ·obtain ⟨k1, hx1⟩ := zaa hx1
  refine .seqM 28 (fun (_ : Unit) => ⟨[(2, .int .i64 node), (3, .ptr 0 0), (6, .ptr 1 0), (9, .int .i64 v4), (52, .bool ((v4 == (v3.Accepted.length : Int)) || ((v3.Accepted.getD v4.toNat default) != node)))], [(0, .box [.int .u8 v3.Phase, .int .i64 v3.Ballot, .ref 14 1 0 v3.Members.length (some uC), .str v3.Wish, .str v3.Value, .ref 15 3 0 v3.Promises.length (some uC), .ref 16 1 0 v3.Accepted.length (some uC)]), (1, .box [.int .u8 0, .int .i64 0, .imm 0 [] 0, .str [], .str [], .imm 0 [] 0, .imm 0 [] 0]), (14, .arr 3 1 true (v3.Members.map (D.int .i64))), (15, .arr 91 3 true (v3.Promises.map TPromise.d)), (16, .arr 3 1 true (v3.Accepted.map (D.int .i64)))], 28⟩) (fun _ => True) (lb rfl) ?_ (fun _ _ => ?_)
  ·by_cases hgd : ¬ (v4 = (v3.Accepted.length : Int))
   ·have eg10 := zaj (D.int .i64) v3.Accepted v4 (k1 hgd)
    refine .rg zS [2, 3, 6, 9] ?_
    refine .rnx 6 eg10 ?_
    refine .rnx 8 eg10 ?_
    refine .nil ⟨nofun, ?_⟩
    refine ⟨(), ?_, trivial⟩
    exact .m [2, 3, 6, 9, 52] [0, 1, 14, 15, 16] []
   have hgf1 : (!(v4 == (v3.Accepted.length : Int))) = false := by first | simpa using hgd | (simp at hgd ⊢; omega) | grind
   have hgf1t : (v4 == (v3.Accepted.length : Int)) = true := by first | simpa using hgf1 | grind
   rcases nth_or (D.int .i64) v3.Accepted v4.toNat with eg10 | eg10
   ·refine .rg zS [2, 3, 6, 9] ?_
    refine .rnx 6 (And.intro eg10 (And.intro hgf1 hgf1t)) ?_
    refine .rnx 8 (And.intro eg10 (And.intro hgf1 hgf1t)) ?_
    refine .nil ⟨nofun, ?_⟩
    refine ⟨(), ?_, trivial⟩
    exact .mx (And.intro hgf1 hgf1t) [2, 3, 6, 9, 52] [0, 1, 14, 15, 16] []
   refine .rg zS [2, 3, 6, 9] ?_
   refine .rnx 6 (And.intro eg10 (And.intro hgf1 hgf1t)) ?_
   refine .rnx 8 (And.intro eg10 (And.intro hgf1 hgf1t)) ?_
   refine .nil ⟨nofun, ?_⟩
   refine ⟨(), ?_, trivial⟩
   exact .mx (And.intro hgf1 hgf1t) [2, 3, 6, 9, 52] [0, 1, 14, 15, 16] []
  refine .cond rfl rfl (fun hc3 => ?_) (fun hc3 => ?_)
  ·replace hx1 := za0 hx1 hc3
   obtain ⟨k2, hx1⟩ := zaa hx1
   obtain ⟨k3, hx1⟩ := zaa hx1
   refine .rg zS [2, 3, 6, 9] ?_
   refine .rn 5 ?_
   refine .hcall (r := .ref 29 1 0 (((v3.Accepted.take v4.toNat) ++ (node :: (v3.Accepted.drop v4.toNat))).length) (some uC)) rfl rfl rfl rfl rfl (insT101 16 28 29 (by decide) (by decide) (by decide) v3.Accepted node v4 k2 k3) (fun id b h => zbb [16, 28] _ id b h) (by simp) (.inr ⟨Nat.le_refl _, Nat.le_of_ble_eq_true rfl⟩) ?_
   refine .rn 2 ?_
   refine .nil ⟨nofun, ?_⟩
   refine ⟨_, ?_, (sj hx1).symm⟩
   exact .m [3, 6] [0, 1, 14, 15, 29] [(29, 28)]
  replace hx1 := za3 hx1 hc3
  refine .skip ?_
  refine ⟨_, ?_, (sj hx1).symm⟩
  exact .m [3, 6] [0, 1, 14, 15, 16] [(16, 28)]
 rintro l1 hj1
 subst x1
 try dsimp only at h
 simp only [Tryz.St_attempt_Accepted_1]
 obtain ⟨x2, hx2, h⟩ := bind_some h
 refine .seqM 29 (fun (j : Int) => Tryz.St_attempt_Accepted_3 v3 l1 j) (fun j => x2 = j) (lb rfl) ?_ ?_
 ·refine .seq ?_
  obtain ⟨v5, hv5, hx2⟩ := bind_some hx2
  refine .rg zS [3, 6] ?_
  refine .rn 4 ?_
  refine .lcall (r := .bool v5) [] rfl rfl rfl rfl rfl (za2 (zc8 (zax (pl_int .i64) (by first | rfl | (simp only [go_sem, Nat.reduceBEq]; rfl)) (by first | rfl | (simp; done) | (simp <;> omega))) trivial) (za2 (zc8 (zax (pl_int .i64) (by first | rfl | (simp only [go_sem, Nat.reduceBEq]; rfl)) (by first | rfl | (simp; done) | (simp <;> omega))) trivial) zad)) rfl (callP_attempt_most v3.Members l1 v5 hv5) ?_
  refine .nil ⟨nofun, ?_⟩
  refine .cond rfl rfl (fun hc4 => ?_) (fun hc4 => ?_)
  ·replace hx2 := za0 hx2 hc4
   refine .pl zS [3, 6] ?_
   refine ⟨_, ?_, (sj hx2).symm⟩
   exact .m [3, 6] [0, 1, 14, 15, 28] []
  replace hx2 := za3 hx2 hc4
  refine .skip ?_
  refine ⟨_, ?_, (sj hx2).symm⟩
  exact .m [3, 6] [0, 1, 14, 15, 28] []
 rintro n1 hj2
 subst x2
 try dsimp only at h
 simp only [Tryz.St_attempt_Accepted_3]
 refine .seq (.pl zS [3, 6] ?_)
 have hq := sj h
 subst r
 refine .ret ⟨Tryz.Re_attempt_Accepted ((⟨n1, v3.Ballot, v3.Members, v3.Wish, v3.Value, v3.Promises, l1⟩ : TAttempt), 0), ?_, .inr rfl, retH [2, 1, 0] ?_ ?_⟩
 ·exact .m [6, 7] [14, 15, 28, 1] [(14, 0), (15, 1), (28, 2), (1, 3)]
 ·exact rsi0
 rfl
theorem callP_attempt_Accepted (a : TAttempt) (b : Int) (node : Int) (r : TAttempt × Int) (h : zc2 a b node = some r) : CallP Tryz.prog 88 [.agg [.int .u8 a.Phase, .int .i64 a.Ballot, .imm 1 (a.Members.map (D.int .i64)) 4, .str a.Wish, .str a.Value, .imm 3 (a.Promises.map TPromise.d) 4, .imm 1 (a.Accepted.map (D.int .i64)) 4], .int .i64 b, .int .i64 node] (.tuple [.agg [.int .u8 r.1.Phase, .int .i64 r.1.Ballot, .imm 1 (r.1.Members.map (D.int .i64)) 12, .str r.1.Wish, .str r.1.Value, .imm 3 (r.1.Promises.map TPromise.d) 12, .imm 1 (r.1.Accepted.map (D.int .i64)) 12], .int .i64 r.2]) :=
 callP_frz (frz_tup (za1 (frz_agg (za1 rfl (za1 rfl (za1 (zap zar rfl rfl) (za1 rfl (za1 rfl (za1 (zap zbu rfl rfl) (za1 (zap zar rfl rfl) zc9)))))))) (za1 rfl zc9))) (callH_attempt_Accepted a b node r h)
end Go.Proofs
end
section
namespace Go.Proofs
open Go.Tm
theorem delT25 (i k : Nat) (hik : i ≠ k) (l : List TMail) (at' : Int) (h : 0 <= at' /\ at' < (l.length : Int)) (hl : l.length < 1000000) :
  CallH Tryz.prog 25 [.ref i 10 0 l.length (some uC), .int .i64 at', .int .i64 (wr .i64 (at' + 1))] [(i, .arr 51 10 true (l.map TMail.d))] (.ref k 10 0 (l.eraseIdx at'.toNat).length (some uC)) [(k, some (.arr 51 10 true ((l.eraseIdx at'.toNat).map TMail.d))), (i, none)] (k, k + 1) := by
 have t := del25 i k hik (l.map TMail.d) true at'.toNat (by rw [List.length_map]; omega) (by rw [List.length_map]; exact hl)
 have hw : wr .i64 (at' + 1) = ((at'.toNat + 1 : Nat) : Int) := by
  rw [wr_eq _ _ (by show (-9223372036854775808 : Int) <= _; omega) (by show _ <= (9223372036854775807 : Int); omega)]
  omega
 rw [Int.toNat_of_nonneg h.1, List.length_map, take_map, drop_map, <- List.map_append, <- List.eraseIdx_eq_take_drop_succ, <- hw] at t
 have e : l.length - 1 = (l.eraseIdx at'.toNat).length := by rw [List.length_eraseIdx_of_lt (by omega)]
 rw [e] at t
 exact t
end Go.Proofs
end
section
namespace Go.Proofs
open Go.Tm
set_option linter.unusedVariables false
def m_vote_Check (a0 : TVote) : Option Int :=
 Option.bind (if ¬ (a0.Promised = 0) then zbc a0.Promised else some default) fun v1 =>
 Option.bind (α := Bool) (if a0.Ballot = 0 then
 some (((a0.Promised == 0) || (v1 == 0)) && (a0.Value == []))
 else
 Option.bind (if (a0.Promised = 0) \/ (v1 = 0) then zbc a0.Ballot else some default) fun v2 =>
 some (((((a0.Promised == 0) || (v1 == 0)) && (v2 == 0)) && (decide (a0.Ballot <= a0.Promised))) && (decide ((a0.Value.length : Int) <= 1024)))) fun b1 =>
 if ¬ (b1 = true) then
 some 8
 else
 some 0
def m_vote_asked (a0 : TVote) (a1 : Int) (a2 : List UInt8) : Option Int :=
 Option.bind (m_vote_Check a0) fun v1 =>
 if ¬ (v1 = 0) then
 some v1
 else
 Option.bind (zbc a1) fun v2 =>
 if ¬ (v2 = 0) then
 some v2
 else
 if (a2.length : Int) > 1024 then
 some 3
 else
 if a1 < a0.Promised then
 some 70
 else
 some 0
def m_vote_Prepare (a0 : TVote) (a1 : Int) : Option (TVote × Int) :=
 Option.bind (m_vote_asked a0 a1 []) fun v1 =>
 if ¬ (v1 = 0) then
 some ((⟨0, 0, []⟩ : TVote), v1)
 else
 some ((⟨a1, a0.Ballot, a0.Value⟩ : TVote), 0)
def m_vote_Accept (a0 : TVote) (a1 : Int) (a2 : List UInt8) : Option (TVote × Int) :=
 Option.bind (m_vote_asked a0 a1 a2) fun v1 =>
 if ¬ (v1 = 0) then
 some ((⟨0, 0, []⟩ : TVote), v1)
 else
 some ((⟨a1, a1, a2⟩ : TVote), 0)
def m_ballot_Next (a0 : Int) (a1 : Int) : Option (Int × Int) :=
 Option.bind (m_ballot_node a1) fun v1 =>
 if ((¬ (v1 = true)) \/ (a0 < 0)) \/ (a0 > 8388613) then
 some (0, 2)
 else
 Option.bind (α := Int) (if ((wr .i64 ((wr .i64 ((wr .i64 (a0.tdiv 8)) * 8)) + a1)) <= a0) \/ ((wr .i64 ((wr .i64 ((wr .i64 (a0.tdiv 8)) * 8)) + a1)) < 8) then
 some (wr .i64 ((wr .i64 ((wr .i64 ((wr .i64 (a0.tdiv 8)) * 8)) + a1)) + 8))
 else
 some (wr .i64 ((wr .i64 ((wr .i64 (a0.tdiv 8)) * 8)) + a1))) fun n1 =>
 if n1 > 8388613 then
 some (0, 9)
 else
 some (n1, 0)
def m_decree_node (a0 : Int) : Option Bool :=
 some ((decide (a0 >= 0)) && (decide (a0 < 6)))
def m_decree_mail (a0 : TMail) : Option Bool :=
 Option.bind (m_decree_node a0.From) fun v1 =>
 Option.bind (if v1 = true then m_decree_node a0.To else some default) fun v2 =>
 Option.bind (if (((v1 = true) /\ (v2 = true)) /\ (a0.Kind >= 1)) /\ (a0.Kind <= 5) then zbc a0.Ballot else some default) fun v3 =>
 some ((((((((((v1 && v2) && (decide (a0.Kind >= 1))) && (decide (a0.Kind <= 5))) && (v3 == 0)) && (decide (a0.Prior >= 0))) && (decide ((a0.Value.length : Int) <= 1024))) && (a0.Group == 0)) && (a0.Slot == 0)) && (a0.Id == 0)) && (a0.Time == 0))
def zb4 (a0 : TWorld) : List TAttempt -> Nat -> Bool -> Option (Bool)
 | [], n1, b2 =>
  some b2
 | y1 :: rest1, n1, b2 =>
  Option.bind (α := Bool) (if (b2 = true) -> n1 < a0.Votes.length then
  Option.bind (if b2 = true then m_vote_Check (a0.Votes.getD n1 default) else some default) fun v2 =>
  Option.bind (if (b2 = true) /\ (v2 = 0) then m_attempt_Check (y1) else some default) fun v3 =>
  if ¬ (y1.Phase = 0) then
  Option.bind (m_ballot_Of (y1.Ballot)) fun v4 =>
  Option.bind (if (((b2 = true) /\ (v2 = 0)) /\ (v3 = 0)) /\ (v4.2.1 = (n1 : Int)) then zat (y1.Members) a0.Members else some default) fun v5 =>
  some ((((b2 && (v2 == 0)) && (v3 == 0)) && (v4.2.1 == (n1 : Int))) && v5)
  else
  some ((b2 && (v2 == 0)) && (v3 == 0))
  else none) fun b3 =>
  zb4 a0 rest1 (n1 + 1) b3
def zb3 : List TMail -> Bool -> Option (Bool)
 | [], b5 =>
  some b5
 | y2 :: rest2, b5 =>
  Option.bind (if b5 = true then m_decree_mail (y2) else some default) fun v6 =>
  zb3 rest2 (b5 && v6)
def zbi : List TChoice -> Bool -> Option (Bool)
 | [], b7 =>
  some b7
 | y3 :: rest3, b7 =>
  Option.bind (if b7 = true then m_decree_node (y3.Node) else some default) fun v7 =>
  zbi rest3 ((b7 && v7) && (decide (((y3.Value).length : Int) <= 1024)))
theorem m_decree_Check_loop3_n (b7 : Bool) : zbi [] b7 =
  (some b7 : Option (Bool)) := rfl
theorem m_decree_Check_loop3_c (y3 : TChoice) (rest3 : List TChoice) (b7 : Bool) : zbi (y3 :: rest3) b7 =
  (Option.bind (if b7 = true then m_decree_node (y3.Node) else some default) fun v7 =>
  zbi rest3 ((b7 && v7) && (decide (((y3.Value).length : Int) <= 1024))) : Option (Bool)) := rfl
def m_decree_Check (a0 : TWorld) : Option Int :=
 Option.bind (zaz a0.Members) fun v1 =>
 if ¬ (((((v1 = 0) /\ ((a0.Votes.length : Int) = 6)) /\ ((a0.Tries.length : Int) = 6)) /\ ((a0.Mail.length : Int) <= 1000)) /\ ((a0.Chosen.length : Int) <= 1000)) then
 some 8
 else
 Option.bind (α := Bool) (zb4 a0 a0.Tries 0 (((((v1 == 0) && ((a0.Votes.length : Int) == 6)) && ((a0.Tries.length : Int) == 6)) && (decide ((a0.Mail.length : Int) <= 1000))) && (decide ((a0.Chosen.length : Int) <= 1000)))) fun b1 =>
 Option.bind (α := Bool) (zb3 a0.Mail b1) fun b4 =>
 Option.bind (α := Bool) (zbi a0.Chosen b4) fun b6 =>
 if ¬ (b6 = true) then
 some 8
 else
 some 0
def m_slices_Clone_Vote_Vote (a0 : List TVote) : Option ((List TVote)) :=
 if a0.length * 32 <= 140737488355328 then
 some a0
 else none
def m_slices_Clone_Mail_Mail (a0 : List TMail) : Option ((List TMail)) :=
 if a0.length * 88 <= 140737488355328 then
 some a0
 else none
def zbv (a0 : List TChoice) : Option ((List TChoice)) :=
 if a0.length * 24 <= 140737488355328 then
 some a0
 else none
def zbl (a0 : List TAttempt) : Option ((List TAttempt)) :=
 if a0.length * 120 <= 140737488355328 then
 some a0
 else none
def m_decree_New (a0 : List Int) : Option (TWorld × Int) :=
 Option.bind (zaz a0) fun v1 =>
 if ¬ (v1 = 0) then
 some ((⟨[], [], [], [], []⟩ : TWorld), v1)
 else
 Option.bind (zah a0) fun v2 =>
 some ((⟨v2, ((List.replicate 6 (⟨0, 0, []⟩ : TVote)).take 6), ((List.replicate 6 (⟨0, 0, [], [], [], [], []⟩ : TAttempt)).take 6), [], []⟩ : TWorld), 0)
def zba (v5 : (List TAttempt)) : Nat -> (List TAttempt) -> Int -> Option ((List TAttempt))
 | 0, _, _ => none
 | fu1 + 1, l2, n1 =>
  if n1 < (v5.length : Int) then
  if (0 <= n1 /\ n1 < (l2.length : Int)) then
  Option.bind (m_attempt_Twin (l2.getD n1.toNat default)) fun v6 =>
  if (0 <= n1 /\ n1 < (l2.length : Int)) then
  if l2.length < 1000000 then
  zba v5 fu1 (l2.set n1.toNat v6) (wr .i64 (n1 + 1))
  else none
  else none
  else none
  else
  if l2.length <= n1.toNat then
  some l2
  else none
def m_decree_Twin (a0 : TWorld) : Option TWorld :=
 Option.bind (zah a0.Members) fun v1 =>
 Option.bind (m_slices_Clone_Vote_Vote a0.Votes) fun v2 =>
 Option.bind (m_slices_Clone_Mail_Mail a0.Mail) fun v3 =>
 Option.bind (zbv a0.Chosen) fun v4 =>
 Option.bind (zbl a0.Tries) fun v5 =>
 Option.bind (α := (List TAttempt)) (zba v5 (a0.Tries.length + 1) v5 0) fun l1 =>
 some (⟨v1, v2, l1, v3, v4⟩ : TWorld)
def zaq (a0 : Tdecree_world) (a1 : TMail) : Nat -> (List TMail) -> Int -> Int -> Option (Tdecree_world)
 | 0, _, _, _ => none
 | fu1 + 1, l1, n1, n2 =>
  if n2 < (a0.World.Members.length : Int) then
  Option.bind (α := (List TMail)) (if (0 <= n2 /\ n2 < (a0.World.Members.length : Int)) then
  if ¬ ((a0.World.Members.getD n2.toNat default) = a1.From) then
  if l1.length + [(⟨a1.From, (a0.World.Members.getD n2.toNat default), a1.Kind, a1.Group, a1.Slot, a1.Ballot, a1.Prior, a1.Value, a1.Id, a1.Time⟩ : TMail)].length < 1000000 then
  some (l1 ++ [(⟨a1.From, (a0.World.Members.getD n2.toNat default), a1.Kind, a1.Group, a1.Slot, a1.Ballot, a1.Prior, a1.Value, a1.Id, a1.Time⟩ : TMail)])
  else none
  else
  some l1
  else none) fun l2 =>
  zaq a0 a1 fu1 l2 (a0.World.Members.getD n2.toNat default) (wr .i64 (n2 + 1))
  else
  some (⟨(⟨a0.World.Members, a0.World.Votes, a0.World.Tries, l1, a0.World.Chosen⟩ : TWorld)⟩ : Tdecree_world)
def zcb (a0 : Tdecree_world) (a1 : TMail) : Option Tdecree_world :=
 zaq a0 a1 (a0.World.Members.length + 1) a0.World.Mail a1.To 0
def zbh (a0 : Tdecree_world) (a1 : Int) (a2 : Int) (a3 : Int) : Option Tdecree_world :=
 if (0 <= a1 /\ a1 < (a0.World.Tries.length : Int)) then
 Option.bind (zc2 (a0.World.Tries.getD a1.toNat default) a2 a3) fun v1 =>
 if ¬ (v1.2 = 0) then
 some a0
 else
 Option.bind (α := (List TChoice)) (if (v1.1.Phase = 3) -> (0 <= a1 /\ a1 < (a0.World.Tries.length : Int)) then
 if (v1.1.Phase = 3) /\ (¬ ((a0.World.Tries.getD a1.toNat default).Phase = 3)) then
 if a0.World.Chosen.length + [(⟨a1, v1.1.Value⟩ : TChoice)].length < 1000000 then
 some (a0.World.Chosen ++ [(⟨a1, v1.1.Value⟩ : TChoice)])
 else none
 else
 some a0.World.Chosen
 else none) fun l1 =>
 if (0 <= a1 /\ a1 < (a0.World.Tries.length : Int)) then
 some (⟨(⟨a0.World.Members, a0.World.Votes, (a0.World.Tries.set a1.toNat v1.1), a0.World.Mail, l1⟩ : TWorld)⟩ : Tdecree_world)
 else none
 else none
def zbe (a0 : Tdecree_world) (a1 : Int) (a2 : Int) (a3 : TPromise) : Option Tdecree_world :=
 if (0 <= a1 /\ a1 < (a0.World.Tries.length : Int)) then
 Option.bind (zc1 (a0.World.Tries.getD a1.toNat default) a2 a3) fun v1 =>
 if ¬ (v1.2 = 0) then
 some a0
 else
 if (0 <= a1 /\ a1 < (a0.World.Tries.length : Int)) then
 if v1.1.Phase = 1 then
 some (⟨(⟨a0.World.Members, a0.World.Votes, (a0.World.Tries.set a1.toNat v1.1), a0.World.Mail, a0.World.Chosen⟩ : TWorld)⟩ : Tdecree_world)
 else
 Option.bind (zcb (⟨(⟨a0.World.Members, a0.World.Votes, (a0.World.Tries.set a1.toNat v1.1), a0.World.Mail, a0.World.Chosen⟩ : TWorld)⟩ : Tdecree_world) (⟨a1, 0, 3, 0, 0, a2, 0, v1.1.Value, 0, 0⟩ : TMail)) fun v2 =>
 Option.bind (m_quorum_Has v2.World.Members a1) fun v3 =>
 if ¬ (v3 = true) then
 some v2
 else
 if (0 <= a1 /\ a1 < (v2.World.Votes.length : Int)) then
 Option.bind (m_vote_Accept (v2.World.Votes.getD a1.toNat default) a2 v1.1.Value) fun v4 =>
 if v4.2 = 0 then
 if (0 <= a1 /\ a1 < (v2.World.Votes.length : Int)) then
 Option.bind (zbh (⟨(⟨v2.World.Members, (v2.World.Votes.set a1.toNat v4.1), v2.World.Tries, v2.World.Mail, v2.World.Chosen⟩ : TWorld)⟩ : Tdecree_world) a1 a2 a1) fun v5 =>
 some v5
 else none
 else
 some v2
 else none
 else none
 else none
def m_decree_world_begin (a0 : Tdecree_world) (a1 : Int) (a2 : List UInt8) : Option (Int × Tdecree_world) :=
 if (0 <= a1 /\ a1 < (a0.World.Votes.length : Int)) then
 Option.bind (m_ballot_Next ((a0.World.Votes.getD a1.toNat default).Promised) a1) fun v1 =>
 if ¬ (v1.2 = 0) then
 some (v1.2, a0)
 else
 Option.bind (m_vote_Prepare (a0.World.Votes.getD a1.toNat default) v1.1) fun v2 =>
 if (0 <= a1 /\ a1 < (a0.World.Votes.length : Int)) then
 if ¬ (v2.2 = 0) then
 some (v2.2, (⟨(⟨a0.World.Members, (a0.World.Votes.set a1.toNat v2.1), a0.World.Tries, a0.World.Mail, a0.World.Chosen⟩ : TWorld)⟩ : Tdecree_world))
 else
 Option.bind (m_attempt_Begin a0.World.Members v1.1 a2) fun v3 =>
 if (0 <= a1 /\ a1 < (a0.World.Tries.length : Int)) then
 if ¬ (v3.2 = 0) then
 some (v3.2, (⟨(⟨a0.World.Members, (a0.World.Votes.set a1.toNat v2.1), (a0.World.Tries.set a1.toNat v3.1), a0.World.Mail, a0.World.Chosen⟩ : TWorld)⟩ : Tdecree_world))
 else
 Option.bind (zcb (⟨(⟨a0.World.Members, (a0.World.Votes.set a1.toNat v2.1), (a0.World.Tries.set a1.toNat v3.1), a0.World.Mail, a0.World.Chosen⟩ : TWorld)⟩ : Tdecree_world) (⟨a1, 0, 1, 0, 0, v1.1, 0, [], 0, 0⟩ : TMail)) fun v4 =>
 Option.bind (zbe v4 a1 v1.1 (⟨a1, (a0.World.Votes.getD a1.toNat default).Ballot, (a0.World.Votes.getD a1.toNat default).Value⟩ : TPromise)) fun v5 =>
 some (0, v5)
 else none
 else none
 else none
def m_decree_world_come (a0 : Tdecree_world) (a1 : TMail) : Option Tdecree_world :=
 if (0 <= a1.To /\ a1.To < (a0.World.Votes.length : Int)) then
 Option.bind (α := Tdecree_world ⊕ (Int × Int × (List UInt8) × Int × Int × (List UInt8) × Int)) (if a1.Kind = 2 then
 Option.bind (zbe a0 a1.To a1.Ballot (⟨a1.From, a1.Prior, a1.Value⟩ : TPromise)) fun v1 =>
 some (.inl v1)
 else
 if a1.Kind = 4 then
 Option.bind (zbh a0 a1.To a1.Ballot a1.From) fun v2 =>
 some (.inl v2)
 else
 if a1.Kind = 5 then
 some (.inl a0)
 else
 if a1.Kind = 1 then
 Option.bind (m_vote_Prepare (a0.World.Votes.getD a1.To.toNat default) a1.Ballot) fun v3 =>
 some (.inr (v3.1.Promised, v3.1.Ballot, v3.1.Value, 2, v3.1.Ballot, v3.1.Value, v3.2))
 else
 if a1.Kind = 3 then
 Option.bind (m_vote_Accept (a0.World.Votes.getD a1.To.toNat default) a1.Ballot a1.Value) fun v4 =>
 some (.inr (v4.1.Promised, v4.1.Ballot, v4.1.Value, 4, 0, [], v4.2))
 else
 some (.inr ((a0.World.Votes.getD a1.To.toNat default).Promised, (a0.World.Votes.getD a1.To.toNat default).Ballot, (a0.World.Votes.getD a1.To.toNat default).Value, 0, 0, [], 0))) fun z => match z with
 | (.inl r) => some r
 | (.inr (n1, n2, s1, n3, n4, s2, n5)) =>
 Option.bind (α := (List TVote) × Int × Int × (List UInt8)) (if ¬ (n5 = 0) then
 if (0 <= a1.To /\ a1.To < (a0.World.Votes.length : Int)) then
 some (a0.World.Votes, 5, (a0.World.Votes.getD a1.To.toNat default).Promised, [])
 else none
 else
 if (0 <= a1.To /\ a1.To < (a0.World.Votes.length : Int)) then
 some ((a0.World.Votes.set a1.To.toNat (⟨n1, n2, s1⟩ : TVote)), n3, n4, s2)
 else none) fun (l1, n6, n7, s3) =>
 if a0.World.Mail.length + [(⟨a1.To, a1.From, n6, 0, 0, a1.Ballot, n7, s3, 0, 0⟩ : TMail)].length < 1000000 then
 some (⟨(⟨a0.World.Members, l1, a0.World.Tries, (a0.World.Mail ++ [(⟨a1.To, a1.From, n6, 0, 0, a1.Ballot, n7, s3, 0, 0⟩ : TMail)]), a0.World.Chosen⟩ : TWorld)⟩ : Tdecree_world)
 else none
 else none
def m_decree_Do (a0 : TWorld) (a1 : TMove) : Option (TWorld × Int) :=
 Option.bind (m_decree_Check a0) fun v1 =>
 if ¬ (v1 = 0) then
 some ((⟨[], [], [], [], []⟩ : TWorld), v1)
 else
 Option.bind (m_decree_Twin a0) fun v2 =>
 Option.bind (α := (TWorld × Int) ⊕ ((List Int) × (List TVote) × (List TAttempt) × (List TMail) × (List TChoice))) (Option.bind (α := Bool) (if a1.Kind = 1 then
 some (a1.Kind == 1)
 else
 some (a1.Kind == 5)) fun b1 =>
 if b1 = true then
 Option.bind (m_decree_node a1.Node) fun v3 =>
 if ¬ (v3 = true) then
 some (.inl ((⟨[], [], [], [], []⟩ : TWorld), 2))
 else
 if a1.Kind = 5 then
 if (0 <= a1.Node /\ a1.Node < (v2.Tries.length : Int)) then
 some (.inr (v2.Members, v2.Votes, (v2.Tries.set a1.Node.toNat (⟨0, 0, [], [], [], [], []⟩ : TAttempt)), v2.Mail, v2.Chosen))
 else none
 else
 if (a1.Value.length : Int) > 1024 then
 some (.inl ((⟨[], [], [], [], []⟩ : TWorld), 3))
 else
 Option.bind (m_decree_world_begin (⟨v2⟩ : Tdecree_world) a1.Node a1.Value) fun v4 =>
 if ¬ (v4.1 = 0) then
 some (.inl ((⟨[], [], [], [], []⟩ : TWorld), v4.1))
 else
 some (.inr (v4.2.World.Members, v4.2.World.Votes, v4.2.World.Tries, v4.2.World.Mail, v4.2.World.Chosen))
 else
 Option.bind (α := Bool) (if a1.Kind = 2 then
 some (a1.Kind == 2)
 else
 if a1.Kind = 3 then
 some (a1.Kind == 3)
 else
 some (a1.Kind == 4)) fun b2 =>
 if b2 = true then
 if (a1.At < 0) \/ (a1.At >= (v2.Mail.length : Int)) then
 some (.inl ((⟨[], [], [], [], []⟩ : TWorld), 6))
 else
 if (0 <= a1.At /\ a1.At < (v2.Mail.length : Int)) then
 Option.bind (α := (List TMail)) (if ¬ (a1.Kind = 3) then
 if 0 <= a1.At /\ a1.At < (v2.Mail.length : Int) then
 if v2.Mail.length < 1000000 then
 some (v2.Mail.eraseIdx a1.At.toNat)
 else none
 else none
 else
 some v2.Mail) fun l6 =>
 if ¬ (a1.Kind = 4) then
 Option.bind (m_decree_world_come (⟨(⟨v2.Members, v2.Votes, v2.Tries, l6, v2.Chosen⟩ : TWorld)⟩ : Tdecree_world) (v2.Mail.getD a1.At.toNat default)) fun v5 =>
 some (.inr (v5.World.Members, v5.World.Votes, v5.World.Tries, v5.World.Mail, v5.World.Chosen))
 else
 some (.inr (v2.Members, v2.Votes, v2.Tries, l6, v2.Chosen))
 else none
 else
 some (.inl ((⟨[], [], [], [], []⟩ : TWorld), 2))) fun z => match z with
 | (.inl r) => some r
 | (.inr (l1, l2, l3, l4, l5)) =>
 if ((l4.length : Int) > 1000) \/ ((l5.length : Int) > 1000) then
 some ((⟨[], [], [], [], []⟩ : TWorld), 9)
 else
 some ((⟨l1, l2, l3, l4, l5⟩ : TWorld), 0)
def zb8 : List TMove -> (List Int) -> (List TVote) -> (List TAttempt) -> (List TMail) -> (List TChoice) -> Option ((List Int) × (List TVote) × (List TAttempt) × (List TMail) × (List TChoice))
 | [], l6, l7, l8, l9, l10 =>
  some (l6, l7, l8, l9, l10)
 | y1 :: rest1, l6, l7, l8, l9, l10 =>
  Option.bind (α := (List Int) × (List TVote) × (List TAttempt) × (List TMail) × (List TChoice)) (Option.bind (m_decree_Do (⟨l6, l7, l8, l9, l10⟩ : TWorld) (y1)) fun v2 =>
  if v2.2 = 0 then
  some (v2.1.Members, v2.1.Votes, v2.1.Tries, v2.1.Mail, v2.1.Chosen)
  else
  some (l6, l7, l8, l9, l10)) fun (l11, l12, l13, l14, l15) =>
  zb8 rest1 l11 l12 l13 l14 l15
def m_decree_Run (a0 : List Int) (a1 : List TMove) : Option (TWorld × Int) :=
 Option.bind (m_decree_New a0) fun v1 =>
 if ¬ (v1.2 = 0) then
 some ((⟨[], [], [], [], []⟩ : TWorld), v1.2)
 else
 if (a1.length : Int) > 1000 then
 some ((⟨[], [], [], [], []⟩ : TWorld), 4)
 else
 Option.bind (α := (List Int) × (List TVote) × (List TAttempt) × (List TMail) × (List TChoice)) (zb8 a1 v1.1.Members v1.1.Votes v1.1.Tries v1.1.Mail v1.1.Chosen) fun (l1, l2, l3, l4, l5) =>
 some ((⟨l1, l2, l3, l4, l5⟩ : TWorld), 0)
def m_w09_long_loop1 : List TMove -> Option (Bool ⊕ Unit)
 | [] =>
  some (.inr ())
 | y1 :: rest1 =>
  if ((y1.Value).length : Int) > 2000 then
  some (.inl true)
  else
  m_w09_long_loop1 rest1 
theorem m_w09_long_loop1_n : m_w09_long_loop1 [] =
  (some (.inr ()) : Option (Bool ⊕ Unit)) := rfl
theorem m_w09_long_loop1_c (y1 : TMove) (rest1 : List TMove) : m_w09_long_loop1 (y1 :: rest1) =
  (if ((y1.Value).length : Int) > 2000 then
  some (.inl true)
  else
  m_w09_long_loop1 rest1 : Option (Bool ⊕ Unit)) := rfl
def m_w09_long (a0 : List TMove) : Option Bool :=
 Option.bind (α := Bool ⊕ Unit) (m_w09_long_loop1 a0 ) fun z => match z with
 | (.inl r) => some r
 | (.inr _) =>
 some false
end Go.Proofs
end
