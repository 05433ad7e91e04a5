/- Texts of the proof. -/
import Derived.Test.YtafdfmkjjhimaaaGreatDoorChecked
import Derived.WalkKit
import Derived.LaidEql
import Derived.Stop.Asserts
import Derived.RowKitTokens
import Derived.Test.YtafdfmkjjhimaaaGreatDoorGroupPutsCardPj
import Derived.Test.YtafdfmkjjhimaaaGreatDoorGroupPutsCardPg
import Derived.Test.YtafdfmkjjhimaaaGreatDoorGroupPutsCardPk
import Derived.Test.YtafdfmkjjhimaaaGreatDoorGroupPutsCardPa
import Derived.Test.YtafdfmkjjhimaaaGreatDoorGroupPutsCardPh
import Derived.Test.YtafdfmkjjhimaaaGreatDoorGroupPutsCardPi
namespace Go.Proofs
open Go.Tm Go.RowKit Go.WideShapes
set_option maxRecDepth 100000
set_option maxHeartbeats 4000000
set_option linter.unusedSimpArgs false
set_option linter.unusedVariables false
attribute [local go_sem] Tryz.f179 Tryz.f195 Tryz.f209 ya3g
theorem zhv (a0 : List TEntry) : zby Tryz.prog 195 [.imm 4 (a0.map TEntry.d) 4] [] (.fn (.func 209) [.ptr 0 0]) [(0, some (.box [.imm 4 (a0.map TEntry.d) 4]))] (0, 3) := by
 refine zcu Tryz.func195 ?_
 intro hwf
 refine .ends 0 (za4 _) ?_
 refine .sp [0] ?_
 refine .sp [1] ?_
 refine .ret ⟨⟨[(2, .fn (.func 209) [.ptr 0 0])], [(0, .box [.imm 4 (a0.map TEntry.d) 4])], 1⟩, ?_, .inr rfl, retH [0] ?_ ?_⟩
 exact .m [2] [0] []
 exact rsi0
 rfl
def Tryz.CmH (v2 : TTopic) (mk : Int) (w : List (List UInt8 × Int)) : List (Nat × Blk) := [(0, .box [.int .i64 v2.Base, .int .i64 v2.Next, .int .i64 mk, .imm 4 (v2.Entries.map TEntry.d) 13]), (1, .box [.int .i64 0, .int .i64 0, .int .i64 0, .imm 0 [] 0]), (2, .map (mapD D.str (D.int .i64) w)), (3, .box [.mref 2])]
def st47 (v2 : TTopic) (mk : Int) (i : Nat) (w : List (List UInt8 × Int)) : St := ⟨[(2, .ptr 0 0), (4, .ptr 1 0), (7, .ptr 3 0), (38, .imm 4 (v2.Entries.map TEntry.d) 13), (39, .int .i64 (v2.Entries.length : Int)), (40, .int .i64 (i : Int))], Tryz.CmH v2 mk w, 4⟩
def Tryz.CmI (v2 : TTopic) (mk : Int) (w : List (List UInt8 × Int)) (left : List TEntry) : List (Nat × Blk) := [(0, .box [.int .i64 v2.Base, .int .i64 v2.Next, .int .i64 mk, .imm 4 (v2.Entries.map TEntry.d) 13]), (1, .box [.int .i64 0, .int .i64 0, .int .i64 0, .imm 0 [] 0]), (2, .map (mapD D.str (D.int .i64) w)), (3, .box [.mref 2]), (4, .box [.ref 8 4 0 left.length (some uC)]), (5, .box [.imm 4 (v2.Entries.map TEntry.d) 4]), (8, .arr 96 4 true (left.map TEntry.d))]
def Tryz.CmS (v2 : TTopic) (mk : Int) (k : Nat) (w : List (List UInt8 × Int)) (left : List TEntry) : St := ⟨[(1, .ptr 5 0), (3, .int .i64 ((k : Int) - 1))], Tryz.CmI v2 mk w left, 9⟩
attribute [local go_sem] Tryz.CmH st47 Tryz.CmI Tryz.CmS
theorem zy1 : ∀ (n : Nat) (l : List TEntry) (i j : Int) {r : List TEntry}, zau n l i j = some r -> r.length = l.length
 | 0, l, i, j, r, h => by rw [zau] at h; cases h
 | n + 1, l, i, j, r, h => by
  rw [zau] at h
  split at h
  obtain ⟨k1, h⟩ := zb0 h
  obtain ⟨k2, h⟩ := zb0 h
  obtain ⟨k3, h⟩ := zb0 h
  rw [zy1 n _ _ _ h]; simp
  rw [<- sj h]
theorem ya4v {l r : List TEntry} (h : zc3 l = some r) : r.length = l.length := zy1 _ _ _ _ h
theorem ya2v {a v : TTopic} (h : zco a = some v) : v.Entries.length * 48 <= 140737488355328 := by
 unfold zco at h
 obtain ⟨l, hl, h⟩ := za2 h
 rw [<- sj h]
 unfold zbh at hl
 obtain ⟨k, hl⟩ := zb0 hl
 rw [<- sj hl]; exact k
theorem zmm (a0 : TTopic) (a1 : Int) (r : TTopic × Int) (h : zfg a0 a1 = some r) : zb9 Tryz.prog 179 [.agg [.int .i64 a0.Base, .int .i64 a0.Next, .int .i64 a0.Mark, .imm 4 (a0.Entries.map TEntry.d) 4], .int .i64 a1] (.tuple [.agg [.int .i64 r.1.Base, .int .i64 r.1.Next, .int .i64 r.1.Mark, .imm 4 (r.1.Entries.map TEntry.d) 13], .int .i64 r.2]) := by
 refine zw8 Tryz.tmOk 20110 Tryz.func179 rfl (by decide) rfl rfl (lb rfl) ?_
 intro hwf
 unfold zfg at h
 refine OkB.seq ?_
 refine OkB.rg zS [0, 1] nc0 ?_
 refine .rn 3 ?_
 refine .nn ?_
 refine OkB.seq ?_
 refine OkB.seq ?_
 obtain ⟨v1, hv1, h⟩ := za2 h
 refine OkB.rg zS [1, 2, 4] nc0 ?_
 refine .rn 1 ?_
 refine .cl (zgo a0 v1 hv1) ?_
 refine .rn 1 ?_
 refine .nn ?_
 refine OkB.seq ?_
 refine OkB.rg zS [1, 2, 4, 6] nc0 ?_
 refine .rn 2 ?_
 refine .nn ?_
 refine OkB.cond rfl rfl (fun hc1 => ?_) (fun hc1 => ?_)
 replace h := zaf h hc1
 refine OkB.seq ?_
 refine OkB.rg zS [4, 6] nc0 ?_
 refine .rn 4 ?_
 refine .nn ?_
 obtain rfl := sj h
 refine OkB.goes (.boxs 1 _ [.int .i64 0, .int .i64 0, .int .i64 0, .imm 4 [] 13] rfl (.keep (.keep (.keep (.cons (.nil12 _ _ 0 (by decide)) (.refl _))))) .refl) ?_
 exact OkB.ret ⟨.inr rfl, rsi⟩
 replace h := zao h hc1
 refine OkB.skip ?_
 refine OkB.seq ?_
 refine OkB.seq ?_
 refine OkB.rg zS [1, 2, 4] nc0 ?_
 refine .rn 6 ?_
 refine .nn ?_
 refine OkB.cond rfl rfl (fun hc2 => ?_) (fun hc2 => ?_)
 replace h := zaf h hc2
 refine OkB.seq ?_
 refine OkB.rg zS [4] nc0 ?_
 refine .rn 3 ?_
 refine .nn ?_
 obtain rfl := sj h
 refine OkB.goes (.boxs 1 _ [.int .i64 0, .int .i64 0, .int .i64 0, .imm 4 [] 13] rfl (.keep (.keep (.keep (.cons (.nil12 _ _ 0 (by decide)) (.refl _))))) .refl) ?_
 exact OkB.ret ⟨.inr rfl, rsi⟩
 replace h := zao h hc2
 refine OkB.skip ?_
 obtain ⟨v2, hv2, h⟩ := za2 h
 obtain ⟨z, hz, h⟩ := za2 h
 refine OkB.seq ?_
 refine OkB.rg zS [1, 2, 4] nc0 ?_
 refine .rn 1 ?_
 refine .cl (zj2 a0 v2 hv2) ?_
 refine .rn 1 ?_
 refine .nn ?_
 refine OkB.seq ?_
 refine OkB.rg zS [1, 2, 4] nc0 ?_
 refine .rn 6 ?_
 refine .rn 3 ?_
 refine .nn ?_
 obtain ⟨mk, hmk⟩ : ∃ mk, mk = max v2.Mark (min a1 v2.Next) := ⟨_, rfl⟩
 rw [<- hmk] at hz h ⊢
 refine OkB.seq ?_
 refine OkB.rg zS [2, 4] nc0 ?_
 refine .rn 3 ?_
 refine .nn ?_
 refine OkB.seq ?_
 refine OkB.seq ?_
 refine OkB.rg zS [2, 4, 7] nc0 ?_
 refine .rn 4 ?_
 refine .nn ?_
 refine OkB.block ?_
 have hlen : (v2.Entries.length : Int) <= 9223372036854775807 := by
  have := ya2v hv2
  omega
 refine OkB.loopN 4 (fun (j : Nat × List (List UInt8 × Int)) => st47 v2 mk j.1 j.2) (fun j => j.1 <= v2.Entries.length /\ zpi mk (v2.Entries.drop j.1) j.2 = zpi mk v2.Entries []) (fun j => v2.Entries.length - j.1) (0, []) (lb rfl) ?_ ⟨Nat.zero_le _, rfl⟩ ?_
 exact .m [2, 4, 7, 38, 39, 40] [0, 1, 2, 3] []
 rintro ⟨i, w⟩ ⟨hi, hw⟩
 simp only at hi hw
 simp only [st47, Tryz.CmH]
 refine OkB.seq ?_
 refine OkB.rg zS [2, 4, 7, 38, 39, 40] nc0 ?_
 refine .rn 1 ?_
 refine .nn ?_
 refine OkB.seq ?_
 refine OkB.cond rfl rfl (fun hc3 => ?_) (fun hc3 => ?_)
 have h1 : i < v2.Entries.length := by simpa using hc3
 have hwi : wr .i64 ((i : Int) + 1) = ((i + 1 : Nat) : Int) := zdw h1 hlen
 have e1 := zdk TEntry.d v2.Entries i h1
 rw [za7 h1, zpi] at hw
 refine OkB.skip ?_
 refine OkB.seq ?_
 refine OkB.block ?_
 refine OkB.seq ?_
 refine OkB.rg zS [2, 4, 7, 38, 39, 40] nc0 ?_
 refine .rnx 4 (ai e1 hwi) ?_
 refine .nn ?_
 refine OkB.seq ?_
 refine OkB.rg zS [2, 4, 7, 9, 38, 39, 40] nc0 ?_
 refine .rn 5 ?_
 refine .nn ?_
 refine OkB.cond rfl rfl (fun hc4 => ?_) (fun hc4 => ?_)
 have hm : (v2.Entries[i]).Offset < mk := by simpa using hc4
 rw [if_pos hm] at hw
 have em1 : updD (.str (v2.Entries[i]).Key) (.int .i64 1) (mapD D.str (D.int .i64) w) = some (mapD D.str (D.int .i64) (mput (v2.Entries[i]).Key 1 w)) := zxt _ _ _ _ rfl _
 refine OkB.rg zS [2, 4, 7, 9, 38, 39, 40] nc0 ?_
 refine .rnx 4 em1 ?_
 refine .nn ?_
 refine OkB.rg zS [2, 4, 7, 38, 39, 40] nc0 ?_
 refine .rnx 2 hwi ?_
 refine .nn ?_
 refine ⟨(i + 1, _), ?_, ⟨by omega, hw⟩, by dsimp only; omega⟩
 exact .mp [2, 4, 7, 38, 39, 40] [0, 1, 2, 3] [] ⟨zea (fun _ => rfl) (fun _ => rfl) _, trivial⟩
 have hm : ¬ (v2.Entries[i]).Offset < mk := by simpa using hc4
 rw [if_neg hm] at hw
 refine OkB.skip ?_
 refine OkB.rg zS [2, 4, 7, 38, 39, 40] nc0 ?_
 refine .rnx 2 hwi ?_
 refine .nn ?_
 refine ⟨(i + 1, _), ?_, ⟨by omega, hw⟩, by dsimp only; omega⟩
 exact .mp [2, 4, 7, 38, 39, 40] [0, 1, 2, 3] [] ⟨zea (fun _ => rfl) (fun _ => rfl) _, trivial⟩
 have h2 : i = v2.Entries.length := by have := of_decide_eq_false hc3; omega
 rw [zab (by omega), zpi] at hw
 subst hw
 refine OkB.exit ?_
 refine OkB.seq ?_
 refine OkB.rg zS [2, 4, 7] nc0 ?_
 refine .rn 1 ?_
 refine .nn ?_
 refine OkB.seq ?_
 refine OkB.seq ?_
 refine OkB.rg zS [2, 4, 7, 10] nc0 ?_
 refine .rn 2 ?_
 refine .hcall (H := []) (eff := [(5, some (.box [.imm 4 (v2.Entries.map TEntry.d) 4]))]) (nw := (5, 8)) (r := .fn (.func 209) [.ptr 5 0]) rfl rfl rfl rfl rfl (zdt 5 (lb rfl) (zmp (.cons (.new4 _ _ rfl) (.refl _)) (zhv v2.Entries))) (fun id b h => zav [] _ id b h) (by simp) (.inr ⟨lb rfl, lb rfl⟩) ?_
 refine .rn 0 ?_
 refine .nn ?_
 refine OkB.goes (s := ⟨[(2, .ptr 0 0), (4, .ptr 1 0), (7, .ptr 3 0), (10, .ptr 4 0), (55, .fn (.func 209) [.ptr 5 0])], Tryz.CmH v2 mk (zpi mk v2.Entries []) ++ [(4, .box [.imm 0 [] 0]), (5, .box [.imm 4 (v2.Entries.map TEntry.d) 4])], 8⟩) (.mp [2, 4, 7, 10, 55] [0, 1, 2, 3, 4, 5] [] ⟨zea (fun _ => rfl) (fun _ => rfl) _, trivial⟩) ?_
 refine OkB.block ?_
 have hw0 : wr .i64 ((v2.Entries.length : Int) - 1) = (v2.Entries.length : Int) - 1 := zl8 _ _ (by show (-9223372036854775808 : Int) <= _; omega) (by show _ <= (9223372036854775807 : Int); omega)
 refine (OkG.rangeY Tryz.tmOk nc0 rfl rfl Tryz.func209 (by decide) rfl (by decide) (sti := ⟨[(1, .ptr 5 0)], Tryz.CmI v2 mk z.1 z.2, 9⟩) (p := none) (ds := []) rfl (fun l => ?_) (e0 := .normal) rfl).mono (fun e s _ hes => ?_)
 refine OkG.seq ?_
 simp only [Tryz.CmH, zal, zai]
 refine OkG.pYx zS hw0 ?_
 refine OkG.block ?_
 refine OkG.loopYG 8 87 (fun (j : Nat × List (List UInt8 × Int) × List TEntry) => Tryz.CmS v2 mk j.1 j.2.1 j.2.2) (fun j => j.1 <= v2.Entries.length /\ zur mk (v2.Entries.take j.1).reverse j.2.1 j.2.2 = some z) (fun j => j.1) (v2.Entries.length, zpi mk v2.Entries [], []) (lb rfl) (by decide) ?_ ⟨za4 _, by rw [List.take_length]; exact hz⟩ ?_
 show Goes _ _ _ _
 simp only [cmb, shf, zal, zai, Tryz.CmS, Tryz.CmI, Nat.reduceAdd]
 refine .new0 4 96 (lb rfl) ?_
 refine .boxs 4 _ [.ref 8 4 0 0 (some uC)] rfl (.cons (.own0 8 _ _ _ (by decide)) (.refl _)) ?_
 exact .mp [2, 4, 7, 10, 55, 88, 90] [0, 1, 2, 3, 4, 5, 8] [] ⟨zea (fun _ => rfl) (fun _ => rfl) _, trivial⟩
 rintro ⟨k, w, left⟩ ⟨hk, hb⟩
 simp only at hk hb
 simp only [Tryz.CmS, Tryz.CmI]
 refine OkG.seq ?_
 refine OkG.seq ?_
 refine OkG.pY zS ?_
 refine OkG.cond rfl rfl (fun hc5 => ?_) (fun hc5 => ?_)
 obtain ⟨j, rfl⟩ : ∃ j, k = j + 1 := ⟨k - 1, by have := of_decide_eq_true hc5; omega⟩
 have hj : (((j + 1 : Nat) : Int) - 1) = (j : Int) := by omega
 have h1 : j < v2.Entries.length := by omega
 have e1 := zdk TEntry.d v2.Entries j h1
 have hw1 : wr .i64 ((j : Int) - 1) = (j : Int) - 1 := zdx h1 hlen
 have hr : (v2.Entries.take (j + 1)).reverse = v2.Entries[j] :: (v2.Entries.take j).reverse := by rw [List.take_succ_eq_append_getElem h1, List.reverse_append]; rfl
 rw [hr, zur] at hb
 simp only [hj]
 refine OkG.skip ?_
 refine OkG.seq ?_
 refine OkG.block ?_
 refine OkG.seq ?_
 by_cases hs : (v2.Entries[j]).Offset < mk /\ (mget (v2.Entries[j]).Key w).getD 0 = 0
 rw [if_pos hs] at hb
 refine OkG.ryB (ds := [.int .i64 (j : Int), .agg [.int .i64 (v2.Entries[j]).Offset, .int .i64 (v2.Entries[j]).Id, .str (v2.Entries[j]).Key, .str (v2.Entries[j]).Body]]) (heap' := [(0, .box [.int .i64 v2.Base, .int .i64 v2.Next, .int .i64 mk, .imm 4 (v2.Entries.map TEntry.d) 13]), (1, .box [.int .i64 0, .int .i64 0, .int .i64 0, .imm 0 [] 0]), (2, .map (mapD D.str (D.int .i64) w)), (3, .box [.mref 2]), (4, .box [.ref 8 4 0 left.length (some uC)]), (5, .box [.imm 4 (v2.Entries.map TEntry.d) 4]), (8, .arr 96 4 true (left.map TEntry.d)), (9, .box [.int .i64 (v2.Entries[j]).Offset, .int .i64 (v2.Entries[j]).Id, .str (v2.Entries[j]).Key, .str (v2.Entries[j]).Body])]) (nx' := 10) (e := .normal) zS e1 5 1 ?_ ?_ (hv1 := by simp; omega)
 intro lim hlim
 refine ⟨rfl, by decide, ⟨[(2, .ptr 0 0), (4, .ptr 1 0), (7, .ptr 3 0), (10, .ptr 4 0), (57, .agg [.int .i64 (v2.Entries[j]).Offset, .int .i64 (v2.Entries[j]).Id, .str (v2.Entries[j]).Key, .str (v2.Entries[j]).Body]), (12, .ptr 9 0)], [(0, .box [.int .i64 v2.Base, .int .i64 v2.Next, .int .i64 mk, .imm 4 (v2.Entries.map TEntry.d) 13]), (1, .box [.int .i64 0, .int .i64 0, .int .i64 0, .imm 0 [] 0]), (2, .map (mapD D.str (D.int .i64) w)), (3, .box [.mref 2]), (4, .box [.ref 8 4 0 left.length (some uC)]), (5, .box [.imm 4 (v2.Entries.map TEntry.d) 4]), (8, .arr 96 4 true (left.map TEntry.d)), (9, .box [.int .i64 (v2.Entries[j]).Offset, .int .i64 (v2.Entries[j]).Id, .str (v2.Entries[j]).Key, .str (v2.Entries[j]).Body])], 10⟩, ⟨[], _, _⟩, rfl, rfl, fun l B hB => ?_, fun l B hB => OkB.drop ?_⟩
 refine OkB.rg zS [2, 4, 7, 10, 57] hB ?_
 refine .rn 2 ?_
 exact .nil ⟨nofun, rfl, rfl⟩
 refine OkB.block ?_
 refine OkB.seq ?_
 refine OkB.seq ?_
 refine OkB.rg zS [2, 4, 7, 10, 12] hB ?_
 refine .rn 6 ?_
 refine .rn 6 ?_
 refine .nn ?_
 refine OkB.cond rfl rfl (fun h6 => ?_) (fun h6 => ?_)
 exact OkB.exit ⟨rfl, rfl, rfl⟩
 exact absurd h6 (by simp [hs.1, hs.2])
 refine OkG.cond rfl rfl (fun h => by cases h) (fun _ => ?_)
 refine OkG.skip ?_
 refine OkG.pYx zS hw1 ?_
 refine ⟨rfl, (j, _, _), ?_, ⟨by dsimp only; omega, hb⟩, by dsimp only; omega⟩
 show Goes _ _ _ _
 simp only [cmb, shf, zal, zai, Tryz.CmS, Tryz.CmI, Nat.reduceAdd]
 exact .mp [2, 4, 7, 10, 55, 88, 90] [0, 1, 2, 3, 4, 5, 8] [] ⟨zea (fun _ => rfl) (fun _ => rfl) _, trivial⟩
 rw [if_neg hs] at hb
 obtain ⟨kB, hb⟩ := zb0 hb
 replace kB : left.length + [v2.Entries[j]].length < 1000000 := kB
 by_cases hm : (v2.Entries[j]).Offset < mk
 rw [if_pos hm] at hb
 have hne : (mget (v2.Entries[j]).Key w).getD 0 ≠ 0 := fun h => hs ⟨hm, h⟩
 have ed1 := ya3v (D.int .i64) (v2.Entries[j]).Key w
 refine OkG.ryB (ds := [.int .i64 (j : Int), .agg [.int .i64 (v2.Entries[j]).Offset, .int .i64 (v2.Entries[j]).Id, .str (v2.Entries[j]).Key, .str (v2.Entries[j]).Body]]) (heap' := [(0, .box [.int .i64 v2.Base, .int .i64 v2.Next, .int .i64 mk, .imm 4 (v2.Entries.map TEntry.d) 13]), (1, .box [.int .i64 0, .int .i64 0, .int .i64 0, .imm 0 [] 0]), (2, .map (mapD D.str (D.int .i64) (mdel (v2.Entries[j]).Key w))), (3, .box [.mref 2]), (4, .box [.ref 11 4 0 (left.length + 1) (some uC)]), (5, .box [.imm 4 (v2.Entries.map TEntry.d) 4]), (9, .box [.int .i64 (v2.Entries[j]).Offset, .int .i64 (v2.Entries[j]).Id, .str (v2.Entries[j]).Key, .str (v2.Entries[j]).Body]), (10, .arr 96 4 true [.agg [.int .i64 (v2.Entries[j]).Offset, .int .i64 (v2.Entries[j]).Id, .str (v2.Entries[j]).Key, .str (v2.Entries[j]).Body]]), (11, .arr 96 4 true (left.map TEntry.d ++ [.agg [.int .i64 (v2.Entries[j]).Offset, .int .i64 (v2.Entries[j]).Id, .str (v2.Entries[j]).Key, .str (v2.Entries[j]).Body]]))]) (nx' := 12) (e := .normal) zS e1 5 1 ?_ ?_ (hv1 := by simp; omega)
 intro lim hlim
 refine ⟨rfl, by decide, ⟨[(2, .ptr 0 0), (4, .ptr 1 0), (7, .ptr 3 0), (10, .ptr 4 0), (57, .agg [.int .i64 (v2.Entries[j]).Offset, .int .i64 (v2.Entries[j]).Id, .str (v2.Entries[j]).Key, .str (v2.Entries[j]).Body]), (12, .ptr 9 0)], [(0, .box [.int .i64 v2.Base, .int .i64 v2.Next, .int .i64 mk, .imm 4 (v2.Entries.map TEntry.d) 13]), (1, .box [.int .i64 0, .int .i64 0, .int .i64 0, .imm 0 [] 0]), (2, .map (mapD D.str (D.int .i64) w)), (3, .box [.mref 2]), (4, .box [.ref 8 4 0 left.length (some uC)]), (5, .box [.imm 4 (v2.Entries.map TEntry.d) 4]), (8, .arr 96 4 true (left.map TEntry.d)), (9, .box [.int .i64 (v2.Entries[j]).Offset, .int .i64 (v2.Entries[j]).Id, .str (v2.Entries[j]).Key, .str (v2.Entries[j]).Body])], 10⟩, ⟨[], _, _⟩, rfl, rfl, fun l B hB => ?_, fun l B hB => OkB.drop ?_⟩
 refine OkB.rg zS [2, 4, 7, 10, 57] hB ?_
 refine .rn 2 ?_
 exact .nil ⟨nofun, rfl, rfl⟩
 refine OkB.block ?_
 refine OkB.seq ?_
 refine OkB.seq ?_
 refine OkB.rg zS [2, 4, 7, 10, 12] hB ?_
 refine .rn 6 ?_
 refine .rn 6 ?_
 refine .nn ?_
 refine OkB.cond rfl rfl (fun h6 => ?_) (fun h6 => ?_)
 exact absurd h6 (by simp [hm, hne])
 refine OkB.skip ?_
 refine OkB.seq ?_
 refine OkB.seq ?_
 refine OkB.rg zS [2, 4, 7, 10, 12] hB ?_
 refine .rn 5 ?_
 refine .nn ?_
 refine OkB.cond rfl rfl (fun h7 => ?_) (fun h7 => ?_)
 refine OkB.rg zS [7, 10, 12] hB ?_
 refine .rnx 4 ed1 ?_
 refine .nn ?_
 refine OkB.rg zS [10, 12] hB ?_
 refine .rn 5 ?_
 refine .rn 0 ?_
 exact .nil ⟨nofun, rfl, rfl, rfl⟩
 exact absurd h7 (by simp [hm])
 refine OkG.cond rfl rfl (fun h => by cases h) (fun _ => ?_)
 refine OkG.skip ?_
 refine OkG.pYx zS hw1 ?_
 refine ⟨rfl, (j, _, _), ?_, ⟨by dsimp only; omega, hb⟩, by dsimp only; omega⟩
 show Goes _ _ _ _
 simp only [cmb, shf, zal, zai, Tryz.CmS, Tryz.CmI, Nat.reduceAdd]
 exact .mp [2, 4, 7, 10, 55, 88, 90] [0, 1, 2, 3, 4, 5, 11] [(11, 8)] ⟨zea (fun _ => rfl) (fun _ => rfl) _, trivial⟩
 rw [if_neg hm] at hb
 refine OkG.ryB (ds := [.int .i64 (j : Int), .agg [.int .i64 (v2.Entries[j]).Offset, .int .i64 (v2.Entries[j]).Id, .str (v2.Entries[j]).Key, .str (v2.Entries[j]).Body]]) (heap' := [(0, .box [.int .i64 v2.Base, .int .i64 v2.Next, .int .i64 mk, .imm 4 (v2.Entries.map TEntry.d) 13]), (1, .box [.int .i64 0, .int .i64 0, .int .i64 0, .imm 0 [] 0]), (2, .map (mapD D.str (D.int .i64) w)), (3, .box [.mref 2]), (4, .box [.ref 11 4 0 (left.length + 1) (some uC)]), (5, .box [.imm 4 (v2.Entries.map TEntry.d) 4]), (9, .box [.int .i64 (v2.Entries[j]).Offset, .int .i64 (v2.Entries[j]).Id, .str (v2.Entries[j]).Key, .str (v2.Entries[j]).Body]), (10, .arr 96 4 true [.agg [.int .i64 (v2.Entries[j]).Offset, .int .i64 (v2.Entries[j]).Id, .str (v2.Entries[j]).Key, .str (v2.Entries[j]).Body]]), (11, .arr 96 4 true (left.map TEntry.d ++ [.agg [.int .i64 (v2.Entries[j]).Offset, .int .i64 (v2.Entries[j]).Id, .str (v2.Entries[j]).Key, .str (v2.Entries[j]).Body]]))]) (nx' := 12) (e := .normal) zS e1 5 1 ?_ ?_ (hv1 := by simp; omega)
 intro lim hlim
 refine ⟨rfl, by decide, ⟨[(2, .ptr 0 0), (4, .ptr 1 0), (7, .ptr 3 0), (10, .ptr 4 0), (57, .agg [.int .i64 (v2.Entries[j]).Offset, .int .i64 (v2.Entries[j]).Id, .str (v2.Entries[j]).Key, .str (v2.Entries[j]).Body]), (12, .ptr 9 0)], [(0, .box [.int .i64 v2.Base, .int .i64 v2.Next, .int .i64 mk, .imm 4 (v2.Entries.map TEntry.d) 13]), (1, .box [.int .i64 0, .int .i64 0, .int .i64 0, .imm 0 [] 0]), (2, .map (mapD D.str (D.int .i64) w)), (3, .box [.mref 2]), (4, .box [.ref 8 4 0 left.length (some uC)]), (5, .box [.imm 4 (v2.Entries.map TEntry.d) 4]), (8, .arr 96 4 true (left.map TEntry.d)), (9, .box [.int .i64 (v2.Entries[j]).Offset, .int .i64 (v2.Entries[j]).Id, .str (v2.Entries[j]).Key, .str (v2.Entries[j]).Body])], 10⟩, ⟨[], _, _⟩, rfl, rfl, fun l B hB => ?_, fun l B hB => OkB.drop ?_⟩
 refine OkB.rg zS [2, 4, 7, 10, 57] hB ?_
 refine .rn 2 ?_
 exact .nil ⟨nofun, rfl, rfl⟩
 refine OkB.block ?_
 refine OkB.seq ?_
 refine OkB.seq ?_
 refine OkB.rg zS [2, 4, 7, 10, 12] hB ?_
 refine .rn 6 ?_
 refine .rn 6 ?_
 refine .nn ?_
 refine OkB.cond rfl rfl (fun h6 => ?_) (fun h6 => ?_)
 exact absurd h6 (by simp [hm])
 refine OkB.skip ?_
 refine OkB.seq ?_
 refine OkB.seq ?_
 refine OkB.rg zS [2, 4, 7, 10, 12] hB ?_
 refine .rn 5 ?_
 refine .nn ?_
 refine OkB.cond rfl rfl (fun h7 => ?_) (fun h7 => ?_)
 exact absurd h7 (by simp [hm])
 refine OkB.skip ?_
 refine OkB.rg zS [10, 12] hB ?_
 refine .rn 5 ?_
 refine .rn 0 ?_
 exact .nil ⟨nofun, rfl, rfl, rfl⟩
 refine OkG.cond rfl rfl (fun h => by cases h) (fun _ => ?_)
 refine OkG.skip ?_
 refine OkG.pYx zS hw1 ?_
 refine ⟨rfl, (j, _, _), ?_, ⟨by dsimp only; omega, hb⟩, by dsimp only; omega⟩
 show Goes _ _ _ _
 simp only [cmb, shf, zal, zai, Tryz.CmS, Tryz.CmI, Nat.reduceAdd]
 exact .mp [2, 4, 7, 10, 55, 88, 90] [0, 1, 2, 3, 4, 5, 11] [(11, 8)] ⟨zea (fun _ => rfl) (fun _ => rfl) _, trivial⟩
 obtain rfl : k = 0 := by have := of_decide_eq_false hc5; omega
 simp only [List.take_zero, List.reverse_nil, zur, za3] at hb
 subst hb
 refine OkG.varsY [1] ?_
 exact OkG.exit ⟨by simp, rfl, rfl⟩
 obtain ⟨rfl, rfl⟩ := hes
 obtain ⟨v3, hv3, h⟩ := za2 h
 have hl3 : v3.length = z.2.length := ya4v hv3
 simp only [Tryz.CmI]
 refine OkB.seq ?_
 refine OkB.rg zS [2, 4, 10] nc0 ?_
 refine .rn 1 ?_
 refine .hcall (H := [(8, .arr 96 4 true (z.2.map TEntry.d))]) (eff := [(8, some (.arr 96 4 true (v3.map TEntry.d)))]) (nw := (9, 11)) (r := .tuple []) rfl rfl rfl rfl rfl (zfm 9 (zbm 20000 8 (zi0 z.2 v3 hv3))) (fun id b h => zav [8] _ id b h) (by simp) (.inr ⟨lb rfl, lb rfl⟩) ?_
 refine .rn 0 ?_
 refine .nn ?_
 simp only [<- hl3]
 refine OkB.seq ?_
 refine OkB.rg zS [2, 4, 10] nc0 ?_
 refine .rn 3 ?_
 refine .nn ?_
 refine OkB.seq ?_
 refine OkB.rg zS [2, 4] nc0 ?_
 refine .rn 3 ?_
 refine .nn ?_
 obtain rfl := sj h
 refine OkB.goes (.giveb 1 [.int .i64 v2.Base, .int .i64 v2.Next, .int .i64 mk, .ref 8 4 0 v3.length (some uC)] [.int .i64 v2.Base, .int .i64 v2.Next, .int .i64 mk, .imm 4 (v3.map TEntry.d) 13] [1] rfl rfl (zaa rfl (zaa rfl (zaa rfl (zaa (zcm zi5 rfl rfl) zcd)))) (by simp only [go_sem, D.ids, D.idsL, zag, zai, zal, List.mem_cons, List.not_mem_nil, or_false, forall_eq_or_imp, forall_eq, Nat.reduceBEq] <;> simp) .refl) ?_
 exact OkB.ret ⟨.inr rfl, rsi⟩
end Go.Proofs
namespace Go.Proofs
open Go.RowKit Go.Extern.Stop Go.Stop Go.Extern
theorem Tryz.valueOfP (t : Addr) (w : World) : (ReflectliteValue.unpack (.iface 127 (.pointer (some t)))).run Tryz.prog w = .ok (.agg #[.pointer (some ⟨1, 127, none⟩), .pointer (some ⟨w.heap.size, 0, none⟩), .int .u64 150]) (w.alloc (.cells #[.pointer (some t)] 127)) := by kernel_rfl
theorem Tryz.typeP (a : Addr) (w : World) : (ReflectliteValue.methodAny (ReflectliteValue.valueError "reflectlite.Value.Type" 0) (fun t _ _ _ => ReflectliteType.toType t) #[.agg #[.pointer (some ⟨1, 127, none⟩), .pointer (some a), .int .u64 150]]).run Tryz.prog w = .ok (.iface 227 (.agg #[.pointer (some ⟨1, 127, none⟩)])) w := by kernel_rfl
theorem Tryz.mKind (h : Value) (w : World) : (Go.method 429 227 (.agg #[h]) "Kind").run Tryz.prog w = .ok (231, h) w := by kernel_rfl
theorem Tryz.kindP (w : World) : ((ReflectliteType.abiMethod fun t => (fun a : Nat => Value.int IntKind.u8 (a : Int)) <$> Rtype.kind t) #[.pointer (some ⟨1, 127, none⟩)]).run Tryz.prog w = .ok (.int .u8 22) w := by kernel_rfl
theorem Tryz.kindW (w : World) : ((ReflectliteType.abiMethod fun t => (fun a : Nat => Value.int IntKind.u8 (a : Int)) <$> Rtype.kind t) #[.pointer (some ⟨1, 106, none⟩)]).run Tryz.prog w = .ok (.int .u8 25) w := by kernel_rfl
theorem rlm (z : Sem Value) (f : TypeId -> Addr -> Nat -> Nat -> Sem Value) (v : Value) :
  ReflectliteValue.method z f #[v] = (do match <- ReflectliteValue.parts v with | none => z | some (t, a, fl) => f t a fl (fl % 32)) := rfl
theorem Tryz.partsP (a : Addr) (w : World) : (ReflectliteValue.parts (.agg #[.pointer (some ⟨1, 127, none⟩), .pointer (some a), .int .u64 150])).run Tryz.prog w = .ok (some (127, a, 150)) w := by kernel_rfl
theorem Tryz.isNilP (a p : Addr) (W : World) (ha : W.cell? a = some (.pointer (some p))) :
  (ReflectliteValue.method (ReflectliteValue.valueError "reflectlite.Value.IsNil" 0) ReflectliteValue.isNil #[.agg #[.pointer (some ⟨1, 127, none⟩), .pointer (some a), .int .u64 150]]).run Tryz.prog W = .ok (.bool false) W := by
 rw [rlm]
 simp only [Sem.run_bind, Tryz.partsP, Result.andThen]
 simp [ReflectliteValue.isNil, loadVar, isAgg, underlying, Tryz.underlying127, ha, Result.andThen]
theorem Tryz.mElem (h : Value) (w : World) : (Go.method 429 227 (.agg #[h]) "Elem").run Tryz.prog w = .ok (243, .agg #[h]) w := by kernel_rfl
theorem Tryz.mImpl (h : Value) (w : World) : (Go.method 429 227 (.agg #[h]) "Implements").run Tryz.prog w = .ok (244, .agg #[h]) w := by kernel_rfl
theorem Tryz.mAssg (h : Value) (w : World) : (Go.method 429 227 (.agg #[h]) "AssignableTo").run Tryz.prog w = .ok (241, .agg #[h]) w := by kernel_rfl
theorem Tryz.elemP (w : World) : (ReflectliteType.method ReflectliteType.elem #[.agg #[.pointer (some ⟨1, 127, none⟩)]]).run Tryz.prog w = .ok (.iface 227 (.agg #[.pointer (some ⟨1, 106, none⟩)])) w := by kernel_rfl
theorem Tryz.implW (w : World) : (ReflectliteType.relation "Implements" ReflectliteType.implements_ #[.agg #[.pointer (some ⟨1, 106, none⟩)], .iface 227 (.agg #[.pointer (some ⟨1, 76, none⟩)])]).run Tryz.prog w = .ok (.bool true) w := by kernel_rfl
theorem Tryz.typeOfF (v : Value) (w : World) : (ReflectliteType.typeOf #[.iface 179 v]).run Tryz.prog w = .ok (.iface 227 (.agg #[.pointer (some ⟨1, 179, none⟩)])) w := by kernel_rfl
theorem Tryz.typeOfW (v : Value) (w : World) : (ReflectliteType.typeOf #[.iface 106 v]).run Tryz.prog w = .ok (.iface 227 (.agg #[.pointer (some ⟨1, 106, none⟩)])) w := by kernel_rfl
theorem Tryz.assgF (w : World) : (ReflectliteType.relation "AssignableTo" ReflectliteType.assignableTo #[.agg #[.pointer (some ⟨1, 179, none⟩)], .iface 227 (.agg #[.pointer (some ⟨1, 106, none⟩)])]).run Tryz.prog w = .ok (.bool false) w := by kernel_rfl
theorem Tryz.assgW (w : World) : (ReflectliteType.relation "AssignableTo" ReflectliteType.assignableTo #[.agg #[.pointer (some ⟨1, 106, none⟩)], .iface 227 (.agg #[.pointer (some ⟨1, 106, none⟩)])]).run Tryz.prog w = .ok (.bool true) w := by kernel_rfl
theorem Tryz.valueOfW (e : Int) (w : World) : (ReflectliteValue.unpack (.iface 106 (.agg #[.int .i64 e]))).run Tryz.prog w = .ok (.agg #[.pointer (some ⟨1, 106, none⟩), .pointer (some ⟨w.heap.size, 0, none⟩), .int .u64 153]) (w.alloc (.cells #[.int .i64 e] 106)) := by kernel_rfl
theorem Tryz.elemOfP (w : World) : (Rtype.elem? 127).run Tryz.prog w = .ok (some 106) w := by kernel_rfl
theorem Tryz.mkW (p : Addr) (w : World) : (ReflectliteValue.mk 106 p ReflectliteValue.flagAddr).run Tryz.prog w = .ok (.agg #[.pointer (some ⟨1, 106, none⟩), .pointer (some p), .int .u64 409]) w := by kernel_rfl
theorem Tryz.elemVP (a p : Addr) (W : World) (ha : W.cell? a = some (.pointer (some p))) :
  (ReflectliteValue.method (ReflectliteValue.valueError "reflectlite.Value.Elem" 0) ReflectliteValue.elem #[.agg #[.pointer (some ⟨1, 127, none⟩), .pointer (some a), .int .u64 150]]).run Tryz.prog W = .ok (.agg #[.pointer (some ⟨1, 106, none⟩), .pointer (some p), .int .u64 409]) W := by
 rw [rlm]
 simp only [Sem.run_bind, Tryz.partsP, Result.andThen]
 simp [ReflectliteValue.elem, loadVar, isAgg, underlying, Tryz.underlying127, ha, Result.andThen, Tryz.elemOfP, Tryz.mkW]
theorem Tryz.noAsF (v : Value) (xT : TypeId) (w : World) : (Instr.typeAssert (.iface 179 v) xT 245 true).run Tryz.prog w = .ok (.tuple #[.nilIface, .bool false]) w := run_typeAssert_lacksB Tryz.underlying245 (by kernel_rfl) (by kernel_rfl) v xT w
theorem Tryz.hasUnF (v : Value) (xT : TypeId) (w : World) : (Instr.typeAssert (.iface 179 v) xT 232 true).run Tryz.prog w = .ok (.tuple #[.iface 179 v, .bool true]) w := run_typeAssert_hasB Tryz.underlying232 (by kernel_rfl) v xT w
theorem Tryz.mUnw (v : Value) (w : World) : (Go.method 429 179 v "Unwrap").run Tryz.prog w = .ok (236, v) w := by kernel_rfl
theorem Tryz.rls (v x : Value) : ReflectliteValue.set #[v, x] = (do
  let (some (dst, a, fl), some (src, b, _)) := (<- ReflectliteValue.parts v, <- ReflectliteValue.parts x)
   | unsupported (.noEntry "extern/(internal/reflectlite.Value).Set.zeroValue")
  if fl / ReflectliteValue.flagAddr % 2 == 0 then unsupported (.noEntry "extern/(internal/reflectlite.Value).Set.unaddressable")
  let val <- loadVar src b
  if <- Rtype.directlyAssignable dst src then storeVar dst a val
  else if <- Rtype.implements dst src then
   if (<- Rtype.kind src) == 20 then
    match val with
    | .nilIface => unsupported (.noEntry "extern/reflectlite: a nil value of one interface type handed on as a value of another")
    | _ => storeVar dst a val
   else storeVar dst a (.iface src val)
  else panicString ("reflectlite.Set: value of type " ++ (<- Rtype.spelt src) ++ " is not assignable to type " ++ (<- Rtype.spelt dst))
  pure (.tuple #[])) := rfl
theorem Tryz.partsWa (a : Addr) (w : World) : (ReflectliteValue.parts (.agg #[.pointer (some ⟨1, 106, none⟩), .pointer (some a), .int .u64 409])).run Tryz.prog w = .ok (some (106, a, 409)) w := by kernel_rfl
theorem Tryz.partsW (a : Addr) (w : World) : (ReflectliteValue.parts (.agg #[.pointer (some ⟨1, 106, none⟩), .pointer (some a), .int .u64 153])).run Tryz.prog w = .ok (some (106, a, 153)) w := by kernel_rfl
theorem Tryz.directW (w : World) : (Rtype.directlyAssignable 106 106).run Tryz.prog w = .ok true w := by kernel_rfl
theorem Tryz.setW (ta b : Addr) (e : Int) (old : Value) (W : World) (hb : W.cell? b = some (.int .i64 e)) (ht : W.cell? ta = some old) (hf : W.frozen? ta = false) :
  (ReflectliteValue.set #[.agg #[.pointer (some ⟨1, 106, none⟩), .pointer (some ta), .int .u64 409], .agg #[.pointer (some ⟨1, 106, none⟩), .pointer (some b), .int .u64 153]]).run Tryz.prog W
   = .ok (.tuple #[]) (W.setCell ta (.int .i64 e)) := by
 rw [Tryz.rls]
 simp only [Sem.run_bind, Tryz.partsWa, Tryz.partsW, Result.andThen]
 simp [ReflectliteValue.flagAddr, loadVar, isAgg, underlying, Tryz.underlying106, loadCells, loadCellsFrom, hb, Result.andThen, Tryz.directW, storeVar, Value.cells, storeCells, Addr.add]
 rw [run_store Tryz.prog W ta _ _ (by rfl)]
 simp [ht, hf]
set_option maxRecDepth 100000 in
set_option maxHeartbeats 4000000 in
theorem Tryz.number_hit (s : ByteArray) (e : Int) (w : World) (hg : w.cell? ⟨0, 0, none⟩ = some (.iface 227 (.agg #[.pointer (some ⟨1, 76, none⟩)]))) :
  Calls Tryz.prog 34 #[.iface 179 (.agg #[.string s, .iface 106 (.agg #[.int .i64 e])])] w fun ev w' => ev = .returned (.int .i64 e) /\ Go.RowKit.Below w.heap.size w w' := by
 have h6 := @run_callFunc_extern Tryz.prog 122 _ (fun args => ReflectliteValue.unpack (args.getD 0 (.tuple #[]))) Tryz.func122 (by kernel_rfl) (by kernel_rfl) (by kernel_rfl) (by kernel_rfl)
 have h7 := @run_callFunc_extern Tryz.prog 123 _ (ReflectliteValue.methodAny (ReflectliteValue.valueError "reflectlite.Value.Type" 0) (fun t _ _ _ => ReflectliteType.toType t)) Tryz.func123 (by kernel_rfl) (by kernel_rfl) (by kernel_rfl) (by kernel_rfl)
 have h8 := @run_callFunc_extern Tryz.prog 124 _ (ReflectliteValue.method (ReflectliteValue.valueError "reflectlite.Value.IsNil" 0) ReflectliteValue.isNil) Tryz.func124 (by kernel_rfl) (by kernel_rfl) (by kernel_rfl) (by kernel_rfl)
 have h27 := @run_callFunc_extern Tryz.prog 231 _ (ReflectliteType.abiMethod fun t => do pure (.int .u8 (<- Rtype.kind t))) Tryz.func231 (by kernel_rfl) (by kernel_rfl) (by kernel_rfl) (by kernel_rfl)
 have h37 := @run_callFunc_extern Tryz.prog 243 _ (ReflectliteType.method ReflectliteType.elem) Tryz.func243 (by kernel_rfl) (by kernel_rfl) (by kernel_rfl) (by kernel_rfl)
 have h38 := @run_callFunc_extern Tryz.prog 244 _ (ReflectliteType.relation "Implements" ReflectliteType.implements_) Tryz.func244 (by kernel_rfl) (by kernel_rfl) (by kernel_rfl) (by kernel_rfl)
 have h10 := @run_callFunc_extern Tryz.prog 115 _ ReflectliteType.typeOf Tryz.func115 (by kernel_rfl) (by kernel_rfl) (by kernel_rfl) (by kernel_rfl)
 have h35 := @run_callFunc_extern Tryz.prog 241 _ (ReflectliteType.relation "AssignableTo" ReflectliteType.assignableTo) Tryz.func241 (by kernel_rfl) (by kernel_rfl) (by kernel_rfl) (by kernel_rfl)
 have h11 := @run_callFunc_extern Tryz.prog 166 _ (ReflectliteValue.method (ReflectliteValue.valueError "reflectlite.Value.Elem" 0) ReflectliteValue.elem) Tryz.func166 (by kernel_rfl) (by kernel_rfl) (by kernel_rfl) (by kernel_rfl)
 have h12 := @run_callFunc_extern Tryz.prog 167 _ ReflectliteValue.set Tryz.func167 (by kernel_rfl) (by kernel_rfl) (by kernel_rfl) (by kernel_rfl)
 have t1 := Tryz.typeOfF
 have t2 := Tryz.typeOfW
 have m1 := Tryz.mAssg
 have a1 := Tryz.assgF
 have a2 := Tryz.assgW
 have v1 := Tryz.valueOfW
 have f6 := Tryz.valueOfP
 have f7 := Tryz.typeP
 have mK := Tryz.mKind
 have mE := Tryz.mElem
 have mI := Tryz.mImpl
 have k1 := Tryz.kindP
 have k2 := Tryz.kindW
 have e1 := Tryz.elemP
 have i1 := Tryz.implW
 have n1 := Tryz.noAsF
 have u1 := Tryz.hasUnF
 have mU := Tryz.mUnw
 have hlt : 0 < w.heap.size := by
  rcases Nat.eq_zero_or_pos w.heap.size with h0 | h
  ·simp [World.cell?, h0] at hg
  ·exact h
 have n8 := Tryz.isNilP ⟨w.heap.size + 1, 0, none⟩ ⟨w.heap.size, 0, none⟩ ((((w.alloc (.cells #[.int .i64 0] 106)).alloc (.cells #[.pointer (some ⟨w.heap.size, 0, none⟩)] 127))).alloc (.cells #[.pointer (some ⟨1, 127, none⟩), .pointer (some ⟨w.heap.size + 1, 0, none⟩), .int .u64 150] 185)) (by
  rw [World.cell?_alloc_lt _ _ ⟨w.heap.size + 1, 0, none⟩ (by simp), World.cell?_alloc_at _ _ _ _ (by simp)]; rfl)
 have hg2 : ((((w.alloc (.cells #[.int .i64 0] 106)).alloc (.cells #[.pointer (some ⟨w.heap.size, 0, none⟩)] 127))).alloc (.cells #[.pointer (some ⟨1, 127, none⟩), .pointer (some ⟨w.heap.size + 1, 0, none⟩), .int .u64 150] 185)).cell? ⟨0, 0, none⟩ = some (.iface 227 (.agg #[.pointer (some ⟨1, 76, none⟩)])) := by
  rw [World.cell?_alloc_lt _ _ ⟨0, 0, none⟩ (by simp), World.cell?_alloc_lt _ _ ⟨0, 0, none⟩ (by simp), World.cell?_alloc_lt _ _ ⟨0, 0, none⟩ hlt]; exact hg
 have el := Tryz.elemVP ⟨w.heap.size + 1, 0, none⟩ ⟨w.heap.size, 0, none⟩ (((((w.alloc (.cells #[.int .i64 0] 106)).alloc (.cells #[.pointer (some ⟨w.heap.size, 0, none⟩)] 127)).alloc (.cells #[.pointer (some ⟨1, 127, none⟩), .pointer (some ⟨w.heap.size + 1, 0, none⟩), .int .u64 150] 185)).alloc (.cells #[.pointer (some ⟨1, 127, none⟩), .pointer (some ⟨w.heap.size + 1, 0, none⟩), .int .u64 150] 185)).alloc (.cells #[.string s, .iface 106 (.agg #[.int .i64 e])] 179)) (by
  rw [World.cell?_alloc_lt _ _ ⟨w.heap.size + 1, 0, none⟩ (by simp <;> omega), World.cell?_alloc_lt _ _ ⟨w.heap.size + 1, 0, none⟩ (by simp <;> omega), World.cell?_alloc_lt _ _ ⟨w.heap.size + 1, 0, none⟩ (by simp), World.cell?_alloc_at _ _ _ _ (by simp)]; rfl)
 have st := Tryz.setW ⟨w.heap.size, 0, none⟩ ⟨w.heap.size + 1 + 1 + 1 + 1 + 1, 0, none⟩ e (.int .i64 0) ((((((w.alloc (.cells #[.int .i64 0] 106)).alloc (.cells #[.pointer (some ⟨w.heap.size, 0, none⟩)] 127)).alloc (.cells #[.pointer (some ⟨1, 127, none⟩), .pointer (some ⟨w.heap.size + 1, 0, none⟩), .int .u64 150] 185)).alloc (.cells #[.pointer (some ⟨1, 127, none⟩), .pointer (some ⟨w.heap.size + 1, 0, none⟩), .int .u64 150] 185)).alloc (.cells #[.string s, .iface 106 (.agg #[.int .i64 e])] 179)).alloc (.cells #[.int .i64 e] 106))
  (by rw [World.cell?_alloc_at _ _ _ _ (by simp)]; rfl)
  (by rw [World.cell?_alloc_lt _ _ ⟨w.heap.size, 0, none⟩ (by simp <;> omega), World.cell?_alloc_lt _ _ ⟨w.heap.size, 0, none⟩ (by simp <;> omega), World.cell?_alloc_lt _ _ ⟨w.heap.size, 0, none⟩ (by simp <;> omega), World.cell?_alloc_lt _ _ ⟨w.heap.size, 0, none⟩ (by simp <;> omega), World.cell?_alloc_lt _ _ ⟨w.heap.size, 0, none⟩ (by simp), World.cell?_alloc_at _ _ _ _ (by simp)]; rfl)
  (by rw [World.frozen?_alloc_old _ _ ⟨w.heap.size, 0, none⟩ (by simp <;> omega), World.frozen?_alloc_old _ _ ⟨w.heap.size, 0, none⟩ (by simp <;> omega), World.frozen?_alloc_old _ _ ⟨w.heap.size, 0, none⟩ (by simp <;> omega), World.frozen?_alloc_old _ _ ⟨w.heap.size, 0, none⟩ (by simp <;> omega), World.frozen?_alloc_old _ _ ⟨w.heap.size, 0, none⟩ (by simp)]; simp)
 go_enter Tryz.func34, Tryz.ntmps34
 go_wp2
 refine wp_loop_rounds 2 ?_
 rw [rounds_succ]
 go_wp2
 rw [rounds_succ]
 go_wp2
 go_ret
 exact ⟨rfl, (((((((Below.refl _ w).alloc (za4 _) _).alloc (by simp <;> omega) _).alloc (by simp <;> omega) _).alloc (by simp <;> omega) _).alloc (by simp <;> omega) _).alloc (by simp <;> omega) _)⟩
theorem Tryz.number_nil (w : World) : Calls Tryz.prog 34 #[.nilIface] w fun ev w' => ev = .returned (.int .i64 0) /\ Go.RowKit.Below w.heap.size w w' := by
 go_enter Tryz.func34, Tryz.ntmps34
 go_wp2
 go_ret
 exact ⟨rfl, (Below.refl _ w).alloc (za4 _) _⟩
theorem Tryz.is_nil (b : TypeId) (x : Value) (w : World) : Calls Tryz.prog 56 #[.nilIface, .iface b x] w fun ev w' => ev = .returned (.bool false) /\ w' = w := by
 have hn := run_eql_iface_nil_left (P := Tryz.prog) w b x Tryz.underlying76
 go_enter Tryz.func56, Tryz.ntmps56
 go_wp2
 go_ret
 exact ⟨rfl, rfl⟩
end Go.Proofs
namespace Go.Tm
open Go.RowKit Go.WideShapes
section
variable {P : Program} {tab : Nat -> TI} (hT : zgy P tab) (hm : P.follows .mixedOrders = true) {ft : Nat -> Option Func} {pt : Nat -> Nat -> List (Nat × Nat)} (hft : FtOk P ft pt) {LF : Nat} {l : List Ent}
end
theorem Mem.ext {fr : Nat} {w w' : World} {g : Gh} {hp : Nat -> Option Blk} {nu : Nat -> Bool} (h : Mem fr w g hp nu) (hK : Keep (fun _ => False) w w') : Mem fr w' g hp nu :=
 h.change (g' := g) (ch := fun _ => False) (hK.mono fun _ _ h => h.elim) rfl rfl (fun _ _ => rfl) (fun _ h => .inr h) (fun _ _ h => .inl ⟨fun h => h, h⟩) h.inj h.nw
theorem zn3 {P : Program} {K : FuncId} {args : List D} {r : D} {v0 : Value} (n : Nat) (he : zlx P K)
  (h : ∀ w C vs, Gw w.heap.size w -> reps C args vs -> (∀ C, rep C r v0) /\ Calls P K vs.toArray w fun e w' => e = .returned v0 /\ Below w.heap.size w w') : zby P K args [] r [] (n, n) := by
 refine ⟨he, fun fr w g hp nu vs hM _ _ hvs => ?_⟩
 obtain ⟨hr, hc⟩ := h w _ vs hM.fl.gw hvs
 refine hc.mono ?_
 rintro e w' ⟨rfl, hB⟩
 have hK : Keep (fun _ => False) w w' := Keep.of_below hB
 have hN : effN nu (n, n) = nu := by
  funext id
  unfold effN
  have : (decide (n <= id) && decide (id < n)) = false := by simp
  rw [this]; simp
 refine ⟨v0, g, rfl, ⟨⟨rfl, rfl⟩, fun _ _ => rfl, hK.mono fun _ _ h => h.elim, ?_, fun b hb => .inr ?_, hr _⟩⟩
 rw [zqq, hN]; exact hM.ext hK
 rw [zqq] at hb; exact hb
structure IsNil (P : Program) (K : Nat) : Prop where
 en : zlx P K
 nl : ∀ (t : Nat) (x : Value) w, Calls P K #[.nilIface, .iface t x] w fun e w' => e = .returned (.bool false) /\ w' = w
end Go.Tm
namespace Go.Proofs
open Go.Tm Go.RowKit
theorem Tryz.numEn : zlx Tryz.prog 34 := ⟨Tryz.f34, Tryz.func34, by decide, by kernel_rfl⟩
theorem zhu (a0 : Option (List UInt8 × Int)) (r : Int) (h : zih a0 = some r) : zb9 Tryz.prog 34 [erD a0] (.int .i64 r) := by
 cases a0 with
 | none =>
  obtain rfl := sj h
  refine zfa rfl rfl (zn3 (v0 := .int .i64 0) 0 Tryz.numEn ?_)
  intro w C vs hg hvs
  simp only [erD, reps, rep] at hvs
  obtain ⟨v, vs', rfl, rfl, rfl⟩ := hvs
  exact ⟨fun C => ya13.2 ⟨rfl, by decide, by decide⟩, Tryz.number_nil w⟩
 | some x =>
  obtain rfl := sj h
  refine zfa rfl rfl (zn3 (v0 := .int .i64 x.2) 0 Tryz.numEn ?_)
  intro w' C vs hg hvs
  simp only [erD, reps, rep] at hvs
  obtain ⟨v, vs', rfl, ⟨x1, rfl, cs, rfl, v1, vs1, rfl, ⟨rfl, -⟩, v2, vs2, rfl, ⟨y, rfl, cs2, rfl, v3, vs3, rfl, ⟨rfl, h1, h2⟩, rfl⟩, rfl⟩, rfl⟩ := hvs
  exact ⟨fun C => ya13.2 ⟨rfl, h1, h2⟩, Tryz.number_hit _ x.2 w' (hg _ rfl).2⟩
end Go.Proofs
section

end
namespace Go.Proofs
open Go.Tm
set_option linter.unusedVariables false
def zem (a0 : TStream) (a1 : TCommand) : Option (TStream × Int) :=
 if (((a1.Who < 0) \/ (a1.Who >= 8)) \/ (a1.N < 0)) \/ (a1.N > 1073741824) then
 some ((⟨[], []⟩ : TStream), 2)
 else
 if (0 <= a1.Topic /\ a1.Topic < (a0.Topics.length : Int)) then
 if a1.N > (a0.Topics.getD a1.Topic.toNat default).Next then
 some ((⟨[], []⟩ : TStream), 170)
 else
 Option.bind (zez a0) fun v1 =>
 Option.bind (zhp v1.Commits a1.Topic a1.Who a1.N) fun v2 =>
 some ((⟨v1.Topics, v2.1⟩ : TStream), 0)
 else none
def zh8 (a0 : TStream) (a1 : TCommand) : Option (TStream × Int) :=
 Option.bind (zf7 a0 a1.Topic) fun v1 =>
 if ¬ (v1 = 0) then
 some ((⟨[], []⟩ : TStream), v1)
 else
 if a1.Kind = 4 then
 Option.bind (zem a0 a1) fun v2 =>
 some (v2.1, v2.2)
 else
 if a1.Kind = 5 then
 if (0 <= a1.Topic /\ a1.Topic < (a0.Topics.length : Int)) then
 Option.bind (zi8 (a0.Topics.getD a1.Topic.toNat default) a1.N) fun v3 =>
 if ¬ (v3.2 = 0) then
 some ((⟨[], []⟩ : TStream), v3.2)
 else
 Option.bind (zfs a0 a1.Topic v3.1) fun v4 =>
 some (v4, 0)
 else none
 else
 if a1.Kind = 6 then
 if (0 <= a1.Topic /\ a1.Topic < (a0.Topics.length : Int)) then
 Option.bind (zfg (a0.Topics.getD a1.Topic.toNat default) a1.N) fun v5 =>
 if ¬ (v5.2 = 0) then
 some ((⟨[], []⟩ : TStream), v5.2)
 else
 Option.bind (zfs a0 a1.Topic v5.1) fun v6 =>
 some (v6, 0)
 else none
 else
 some ((⟨[], []⟩ : TStream), 2)
def zgg (a0 : Int) : Option Bool :=
 some ((decide (a0 < 0)) || (decide (a0 > 1048576)))
def zgn (a0 : THome) : Option Int :=
 Option.bind (zft a0.Skeen) fun v1 =>
 Option.bind (if ¬ (¬ (v1 = 0)) then zg5 a0.Stream else some default) fun v2 =>
 Option.bind (if ¬ (((¬ (v1 = 0)) \/ (¬ (v2 = 0))) \/ (¬ ((a0.Last.length : Int) = 6))) then zc0 a0.Last zgg else some default) fun v3 =>
 if (((¬ (v1 = 0)) \/ (¬ (v2 = 0))) \/ (¬ ((a0.Last.length : Int) = 6))) \/ (v3 = true) then
 some 8
 else
 some 0
def zge (a0 : THome) : Option THome :=
 Option.bind (zdu a0.Skeen) fun v1 =>
 Option.bind (zez a0.Stream) fun v2 =>
 Option.bind (zc8 a0.Last) fun v3 =>
 some (⟨v1, v2, v3⟩ : THome)
def zka (a0 : THome) (a1 : THome) : Option Bool :=
 Option.bind (zmb a0.Skeen a1.Skeen) fun v1 =>
 Option.bind (if v1 = true then zle a0.Stream a1.Stream else some default) fun v2 =>
 Option.bind (if (v1 = true) /\ (v2 = true) then zc7 a0.Last a1.Last else some default) fun v3 =>
 some ((v1 && v2) && v3)
def zf3 (a0 : List UInt8) (a1 : Int) : Option ((Option (List UInt8 × Int))) :=
 if a1 = 0 then
 some none
 else
 some (some (a0, a1))
def zhn (a0 : Int) : Option ((Option (List UInt8 × Int))) :=
 if (a0 < 0) \/ (a0 >= 4) then
 Option.bind (zf3 [103, 114, 111, 117, 112] 2) fun v1 =>
 (match v1 with
 | none =>
 some none
 | some er1 =>
 some (some er1))
 else
 some none
def zc9 (a0 : Tgroup_home) (a1 : TCommand) : Option Tgroup_home :=
 Option.bind (zks a1.Id) fun v1 =>
 if (0 <= v1.1 /\ v1.1 < (a0.Home.Last.length : Int)) then
 if (a0.Home.Last.getD v1.1.toNat default) > v1.2.1 then
 some a0
 else
 if (0 <= v1.1 /\ v1.1 < (a0.Home.Last.length : Int)) then
 Option.bind (zh8 a0.Home.Stream a1) fun v2 =>
 if v2.2 = 0 then
 some (⟨(⟨a0.Home.Skeen, v2.1, (a0.Home.Last.set v1.1.toNat (wr .i64 (v1.2.1 + 1)))⟩ : THome)⟩ : Tgroup_home)
 else
 some (⟨(⟨a0.Home.Skeen, a0.Home.Stream, (a0.Home.Last.set v1.1.toNat (wr .i64 (v1.2.1 + 1)))⟩ : THome)⟩ : Tgroup_home)
 else none
 else none
def zbi : List TMessage -> (List TTopic) -> (List (List Int)) -> (List TTook) -> Option ((List TTopic) × (List (List Int)) × (List TTook))
 | [], l4, l5, l6 =>
  some (l4, l5, l6)
 | y1 :: rest1, l4, l5, l6 =>
  Option.bind (α := (List TTopic) × (List (List Int)) × (List TTook)) (Option.bind (zf0 (⟨l4, l5⟩ : TStream) (y1)) fun v1 =>
  if ¬ (v1.2.2 = 0) then
  some (l4, l5, l6)
  else
  if l6.length + [(⟨y1.Id, y1.Topic, v1.2.1⟩ : TTook)].length < 1000000 then
  some (v1.1.Topics, v1.1.Commits, (l6 ++ [(⟨y1.Id, y1.Topic, v1.2.1⟩ : TTook)]))
  else none) fun (l7, l8, l9) =>
  zbi rest1 l7 l8 l9
theorem zj7 (l4 : List TTopic) (l5 : List (List Int)) (l6 : List TTook) : zbi [] l4 l5 l6 =
  (some (l4, l5, l6) : Option ((List TTopic) × (List (List Int)) × (List TTook))) := rfl
theorem zej (y1 : TMessage) (rest1 : List TMessage) (l4 : List TTopic) (l5 : List (List Int)) (l6 : List TTook) : zbi (y1 :: rest1) l4 l5 l6 =
  (Option.bind (α := (List TTopic) × (List (List Int)) × (List TTook)) (Option.bind (zf0 (⟨l4, l5⟩ : TStream) (y1)) fun v1 =>
  if ¬ (v1.2.2 = 0) then
  some (l4, l5, l6)
  else
  if l6.length + [(⟨y1.Id, y1.Topic, v1.2.1⟩ : TTook)].length < 1000000 then
  some (v1.1.Topics, v1.1.Commits, (l6 ++ [(⟨y1.Id, y1.Topic, v1.2.1⟩ : TTook)]))
  else none) fun (l7, l8, l9) =>
  zbi rest1 l7 l8 l9 : Option ((List TTopic) × (List (List Int)) × (List TTook))) := rfl
def zef (a0 : Tgroup_home) (a1 : List TMessage) : Option ((List TTook) × Tgroup_home) :=
 Option.bind (α := (List TTopic) × (List (List Int)) × (List TTook)) (zbi a1 a0.Home.Stream.Topics a0.Home.Stream.Commits []) fun (l1, l2, l3) =>
 some (l3, (⟨(⟨a0.Home.Skeen, (⟨l1, l2⟩ : TStream), a0.Home.Last⟩ : THome)⟩ : Tgroup_home))
def zbs (a0 : Tgroup_home) (a1 : Int) (a2 : TCommand) : Option ((List TTook) × (Option (List UInt8 × Int)) × Tgroup_home) :=
 if a2.Kind >= 4 then
 Option.bind (zc9 a0 a2) fun v1 =>
 some ([], none, v1)
 else
 Option.bind (zcc a0.Home.Skeen a1 a2) fun v2 =>
 if ¬ (v2.2.2 = 0) then
 Option.bind (zf3 [97, 112, 112, 108, 121] v2.2.2) fun v3 =>
 (match v3 with
 | none =>
 some ([], none, a0)
 | some er1 =>
 some ([], (some er1), a0))
 else
 Option.bind (zef (⟨(⟨v2.1, a0.Home.Stream, a0.Home.Last⟩ : THome)⟩ : Tgroup_home) v2.2.1) fun v4 =>
 some (v4.1, none, v4.2)
def zlf (a0 : THome) (a1 : Int) (a2 : TCommand) : Option (THome × (List TTook) × (Option (List UInt8 × Int))) :=
 Option.bind (zgn a0) fun v1 =>
 Option.bind (zf3 [99, 104, 101, 99, 107] v1) fun v2 =>
 (match v2 with
 | none =>
 Option.bind (zhn a1) fun v3 =>
 (match v3 with
 | none =>
 Option.bind (zb6 a2) fun v4 =>
 Option.bind (zf3 [99, 111, 109, 109, 97, 110, 100] v4) fun v5 =>
 (match v5 with
 | none =>
 Option.bind (zge a0) fun v6 =>
 Option.bind (zbs (⟨v6⟩ : Tgroup_home) a1 a2) fun v7 =>
 (match v7.2.1 with
 | none =>
 some (v7.2.2.Home, v7.1, none)
 | some er4 =>
 some ((⟨(⟨0, [], []⟩ : TSkeen), (⟨[], []⟩ : TStream), []⟩ : THome), [], (some er4)))
 | some er3 =>
 some ((⟨(⟨0, [], []⟩ : TSkeen), (⟨[], []⟩ : TStream), []⟩ : THome), [], (some er3)))
 | some er2 =>
 some ((⟨(⟨0, [], []⟩ : TSkeen), (⟨[], []⟩ : TStream), []⟩ : THome), [], (some er2)))
 | some er1 =>
 some ((⟨(⟨0, [], []⟩ : TSkeen), (⟨[], []⟩ : TStream), []⟩ : THome), [], (some er1)))
def zho (a0 : THome) (a1 : Int) (a2 : TCommand) : Option (THome × (List TTook) × Int) :=
 Option.bind (zlf a0 a1 a2) fun v1 =>
 (match v1.2.2 with
 | none =>
 Option.bind (zih none) fun v2 =>
 some (v1.1, v1.2.1, v2)
 | some er1 =>
 Option.bind (zih (some er1)) fun v3 =>
 some (v1.1, v1.2.1, v3))
end Go.Proofs
namespace Go.Proofs
open Go.Tm Go.RowKit Go.WideShapes
set_option maxRecDepth 100000
set_option maxHeartbeats 4000000
set_option linter.unusedSimpArgs false
set_option linter.unusedVariables false
@[go_sem] def st39 (r : TStream × Int) : St := ⟨[(4, .ptr 1 0), (5, .int .i64 r.2)], [(0, .arr 94 4 true (r.1.Topics.map TTopic.n)), (1, .box [.ref 0 4 0 r.1.Topics.length (some uC), .imm 1 (r.1.Commits.map dL_inti64) 13])], 2⟩
theorem znu (a0 : TStream) (a1 : TCommand) (r : TStream × Int) (h : zem a0 a1 = some r) : zby Tryz.prog 177 [.agg [.imm 4 (a0.Topics.map TTopic.d) 4, .imm 1 (a0.Commits.map dL_inti64) 4], .agg [.int .u8 a1.Kind, .int .i64 a1.Message.Id, .imm 1 (a1.Message.Groups.map (D.int .i64)) 4, .int .i64 a1.Message.Topic, .str a1.Message.Key, .str a1.Message.Body, .int .i64 a1.Id, .int .i64 a1.Time, .imm 1 (a1.Members.map (D.int .i64)) 4, .int .i64 a1.Topic, .int .i64 a1.Who, .int .i64 a1.N]] [] (.tuple [.agg [.ref 0 4 0 r.1.Topics.length (some uC), .imm 1 (r.1.Commits.map dL_inti64) 13], .int .i64 r.2]) [(0, some (.arr 94 4 true (r.1.Topics.map TTopic.n)))] (0, 40) := by
 refine zcu Tryz.func177 ?_
 intro hwf
 unfold zem at h
 refine .ends 0 (za4 _) ?_
 refine .sp [0, 1] ?_
 refine .seq (.seq (.rg zS [2, 3, 4] ?_))
 refine .rn 6 ?_
 refine .rn 6 ?_
 refine .rn 6 ?_
 refine .nn ?_
 refine .cd ?_ ?_ <;> intro hc1
 replace h := zaf h hc1
 refine .sp [4] ?_
 obtain rfl := sj h
 refine .ret ⟨st39 ((⟨[], []⟩ : TStream), 2), ?_, .inr rfl, retH [0] ?_ ?_⟩
 refine .n0 4 94 ?_
 refine .boxs 2 _ [.ref 3 4 0 0 (some uC), .imm 1 [] 13] rfl (.cons (.own0 3 _ _ _ (by decide)) (.cons (.nil12 _ _ 0 (by decide)) (.refl _))) ?_
 exact .m [4, 5] [3, 2] [(3, 0), (2, 1)]
 exact rsi0
 rfl
 replace h := zao h hc1
 refine .skip (.seq (.seq ?_))
 obtain ⟨k1, h⟩ := zb0 h
 have e1 := zbx TTopic.d a0.Topics a1.Topic
 replace e1 := e1 k1
 refine .rg zS [2, 3, 4] ?_
 refine .rdx 6 e1 ?_
 refine .rdx 4 e1 ?_
 refine .nd ?_
 refine .cd ?_ ?_ <;> intro hc2
 replace h := zaf h hc2
 refine .sp [4] ?_
 obtain rfl := sj h
 refine .ret ⟨st39 ((⟨[], []⟩ : TStream), 170), ?_, .inr rfl, retH [0] ?_ ?_⟩
 refine .n0 4 94 ?_
 refine .boxs 2 _ [.ref 3 4 0 0 (some uC), .imm 1 [] 13] rfl (.cons (.own0 3 _ _ _ (by decide)) (.cons (.nil12 _ _ 0 (by decide)) (.refl _))) ?_
 exact .m [4, 5] [3, 2] [(3, 0), (2, 1)]
 exact rsi0
 rfl
 replace h := zao h hc2
 refine .skip ?_
 obtain ⟨v1, hv1, h⟩ := za2 h
 refine .sr [2, 3, 4] ?_
 refine .rn 1 ?_
 refine .ncall (r := .agg [.ref 19 4 0 v1.Topics.length (some uC), .ref 20 1 0 v1.Commits.length (some uC)]) (eff := [(19, some (.arr 94 4 true (v1.Topics.map TTopic.n))), (20, some (.arr 30 1 true (v1.Commits.map zbw)))]) (nw := (19, 38)) [] rfl rfl rfl rfl rfl (za9 rfl zap) rfl (zdt 19 (lb rfl) (zid a0 v1 hv1)) (zc4 rfl rfl (zjw zgk _ _ _) (zc4 rfl rfl (zjw zcv _ _ _) ze8)) (by intro i hi; simp [D.ids, D.idsL] at hi <;> omega) rfl ⟨lb rfl, lb rfl⟩ ?_
 refine .rn 1 ?_
 refine .nn ?_
 obtain ⟨v2, hv2, h⟩ := za2 h
 refine .sr [2, 3, 4] ?_
 refine .rn 8 ?_
 refine .lcall (r := .tuple [.imm 1 (v2.1.map dL_inti64) 13, .int .i64 v2.2]) [] rfl rfl rfl rfl rfl (za9 (zhr (zmc zcv (by first | rfl | (simp only [go_sem, Nat.reduceBEq]; rfl)) (by first | rfl | (simp; done) | (simp <;> omega))) trivial) (za9 rfl (za9 rfl (za9 rfl zap)))) rfl (zpq v1.Commits a1.Topic a1.Who a1.N v2 hv2) ?_
 refine .rn 5 ?_
 refine .nn ?_
 refine .sp [2, 4] ?_
 obtain rfl := sj h
 refine .ret ⟨st39 ((⟨v1.Topics, v2.1⟩ : TStream), 0), ?_, .inr rfl, retH [0] ?_ ?_⟩
 exact .m [4, 5] [19, 2] [(19, 0), (2, 1)]
 exact rsi0
 rfl
theorem zsm (a0 : TStream) (a1 : TCommand) (r : TStream × Int) (h : zh8 a0 a1 = some r) : zb9 Tryz.prog 156 [.agg [.imm 4 (a0.Topics.map TTopic.d) 4, .imm 1 (a0.Commits.map dL_inti64) 4], .agg [.int .u8 a1.Kind, .int .i64 a1.Message.Id, .imm 1 (a1.Message.Groups.map (D.int .i64)) 4, .int .i64 a1.Message.Topic, .str a1.Message.Key, .str a1.Message.Body, .int .i64 a1.Id, .int .i64 a1.Time, .imm 1 (a1.Members.map (D.int .i64)) 4, .int .i64 a1.Topic, .int .i64 a1.Who, .int .i64 a1.N]] (.tuple [.agg [.imm 4 (r.1.Topics.map TTopic.d) 13, .imm 1 (r.1.Commits.map dL_inti64) 13], .int .i64 r.2]) := by
 refine zbt 82 Tryz.func156 ?_
 intro hwf
 unfold zh8 at h
 refine .sp [0, 1] ?_
 refine .seq ?_
 obtain ⟨v1, hv1, h⟩ := za2 h
 refine .sr [2, 3, 4] ?_
 refine .rn 3 ?_
 refine .cl (zht a0 a1.Topic v1 hv1) ?_
 refine .rn 1 ?_
 refine .nn ?_
 refine .sp [2, 3, 4, 6] ?_
 refine .cd ?_ ?_ <;> intro hc1
 replace h := zaf h hc1
 refine .sp [4, 6] ?_
 refine .goes (.boxs 2 _ [.imm 4 [] 13, .imm 1 [] 13] rfl (.cons (.nil12 _ _ 0 (by decide)) (.cons (.nil12 _ _ 0 (by decide)) (.refl _))) .refl) ?_
 obtain rfl := sj h
 exact .rr
 replace h := zao h hc1
 refine .skip (.seq (.pl zS [2, 3, 4] ?_))
 refine .seq (.seq (.pl zS [2, 3, 4] ?_))
 refine .block (.seq (.pl zS [2, 3, 4, 19] ?_))
 refine .cd ?_ ?_ <;> intro hc2
 replace h := zaf h hc2
 obtain ⟨v2, hv2, h⟩ := za2 h
 refine .sr [2, 3, 4] ?_
 refine .rn 2 ?_
 refine .ncall (r := .tuple [.agg [.ref 40 4 0 v2.1.Topics.length (some uC), .imm 1 (v2.1.Commits.map dL_inti64) 13], .int .i64 v2.2]) (eff := [(40, some (.arr 94 4 true (v2.1.Topics.map TTopic.n)))]) (nw := (40, 80)) [] rfl rfl rfl rfl rfl (za9 rfl (za9 rfl zap)) rfl (zdt 40 (lb rfl) (znu a0 a1 v2 hv2)) (zc4 rfl rfl (zjw zgk _ _ _) ze8) (by intro i hi; simp [D.ids, D.idsL] at hi <;> omega) rfl ⟨lb rfl, lb rfl⟩ ?_
 refine .rn 4 ?_
 refine .nn ?_
 refine .goes (.giveb 2 [.ref 40 4 0 v2.1.Topics.length (some uC), .imm 1 (v2.1.Commits.map dL_inti64) 13] [.imm 4 (v2.1.Topics.map TTopic.d) 13, .imm 1 (v2.1.Commits.map dL_inti64) 13] [2] rfl rfl (zaa (zeb zgk rfl rfl) (zaa rfl zcd)) (by simp only [go_sem, D.ids, D.idsL, zag, zai, zal, List.mem_cons, List.not_mem_nil, or_false, forall_eq_or_imp, forall_eq, Nat.reduceBEq] <;> simp) .refl) ?_
 obtain rfl := sj h
 exact .rr
 replace h := zao h hc2
 refine .sp [2, 3, 4, 19] ?_
 refine .cd ?_ ?_ <;> intro hc3
 replace h := zaf h hc3
 refine .pl zS [2, 3, 4] ?_
 refine .seq ?_
 obtain ⟨k1, h⟩ := zb0 h
 obtain ⟨v3, hv3, h⟩ := za2 h
 have e1 := zbx TTopic.d a0.Topics a1.Topic
 replace e1 := e1 k1
 refine .rg zS [2, 3, 4, 7] ?_
 refine .rdx 6 e1 ?_
 refine .rdx 3 e1 ?_
 refine .cl (zsn (a0.Topics.getD a1.Topic.toNat default) a1.N v3 hv3) ?_
 refine .rdx 6 e1 ?_
 refine .nd ?_
 refine .seq (.seq (.pl zS [2, 3, 4, 8, 9] ?_))
 refine .cd ?_ ?_ <;> intro hc4
 replace h := zaf h hc4
 refine .sp [4, 9] ?_
 refine .goes (.boxs 2 _ [.imm 4 [] 13, .imm 1 [] 13] rfl (.cons (.nil12 _ _ 0 (by decide)) (.cons (.nil12 _ _ 0 (by decide)) (.refl _))) .refl) ?_
 obtain rfl := sj h
 exact .rr
 replace h := zao h hc4
 refine .skip ?_
 obtain ⟨v4, hv4, h⟩ := za2 h
 refine .sr [2, 3, 4, 8] ?_
 refine .rn 4 ?_
 refine .hcall (H := []) (eff := [(4, some (.arr 94 4 true (v4.Topics.map TTopic.n))), (5, some (.arr 30 1 true (v4.Commits.map zbw)))]) (nw := (4, 28)) (r := .agg [.ref 4 4 0 v4.Topics.length (some uC), .ref 5 1 0 v4.Commits.length (some uC)]) rfl rfl rfl rfl rfl (zfm 4 (zic a0 a1.Topic v3.1 v4 hv4)) (fun id b h => zav [] _ id b h) (by simp) (.inr ⟨lb rfl, lb rfl⟩) ?_
 refine .rn 2 ?_
 refine .nn ?_
 refine .goes (.giveb 2 [.ref 4 4 0 v4.Topics.length (some uC), .ref 5 1 0 v4.Commits.length (some uC)] [.imm 4 (v4.Topics.map TTopic.d) 13, .imm 1 (v4.Commits.map dL_inti64) 13] [2] rfl rfl (zaa (zeb zgk rfl rfl) (zaa (zeb zcv rfl rfl) zcd)) (by simp only [go_sem, D.ids, D.idsL, zag, zai, zal, List.mem_cons, List.not_mem_nil, or_false, forall_eq_or_imp, forall_eq, Nat.reduceBEq] <;> simp) .refl) ?_
 obtain rfl := sj h
 exact .rr
 replace h := zao h hc3
 refine .sp [2, 3, 4, 19] ?_
 refine .cd ?_ ?_ <;> intro hc5
 replace h := zaf h hc5
 refine .pl zS [2, 3, 4] ?_
 refine .seq ?_
 obtain ⟨k2, h⟩ := zb0 h
 obtain ⟨v5, hv5, h⟩ := za2 h
 have e2 := zbx TTopic.d a0.Topics a1.Topic
 replace e2 := e2 k2
 refine .rg zS [2, 3, 4, 7] ?_
 refine .rdx 6 e2 ?_
 refine .rdx 3 e2 ?_
 refine .cl (zmm (a0.Topics.getD a1.Topic.toNat default) a1.N v5 hv5) ?_
 refine .rdx 6 e2 ?_
 refine .nd ?_
 refine .seq (.seq (.pl zS [2, 3, 4, 8, 9] ?_))
 refine .cd ?_ ?_ <;> intro hc6
 replace h := zaf h hc6
 refine .sp [4, 9] ?_
 refine .goes (.boxs 2 _ [.imm 4 [] 13, .imm 1 [] 13] rfl (.cons (.nil12 _ _ 0 (by decide)) (.cons (.nil12 _ _ 0 (by decide)) (.refl _))) .refl) ?_
 obtain rfl := sj h
 exact .rr
 replace h := zao h hc6
 refine .skip ?_
 obtain ⟨v6, hv6, h⟩ := za2 h
 refine .sr [2, 3, 4, 8] ?_
 refine .rn 4 ?_
 refine .hcall (H := []) (eff := [(4, some (.arr 94 4 true (v6.Topics.map TTopic.n))), (5, some (.arr 30 1 true (v6.Commits.map zbw)))]) (nw := (4, 28)) (r := .agg [.ref 4 4 0 v6.Topics.length (some uC), .ref 5 1 0 v6.Commits.length (some uC)]) rfl rfl rfl rfl rfl (zfm 4 (zic a0 a1.Topic v5.1 v6 hv6)) (fun id b h => zav [] _ id b h) (by simp) (.inr ⟨lb rfl, lb rfl⟩) ?_
 refine .rn 2 ?_
 refine .nn ?_
 refine .goes (.giveb 2 [.ref 4 4 0 v6.Topics.length (some uC), .ref 5 1 0 v6.Commits.length (some uC)] [.imm 4 (v6.Topics.map TTopic.d) 13, .imm 1 (v6.Commits.map dL_inti64) 13] [2] rfl rfl (zaa (zeb zgk rfl rfl) (zaa (zeb zcv rfl rfl) zcd)) (by simp only [go_sem, D.ids, D.idsL, zag, zai, zal, List.mem_cons, List.not_mem_nil, or_false, forall_eq_or_imp, forall_eq, Nat.reduceBEq] <;> simp) .refl) ?_
 obtain rfl := sj h
 exact .rr
 replace h := zao h hc5
 refine .sp [4] ?_
 refine .goes (.boxs 2 _ [.imm 4 [] 13, .imm 1 [] 13] rfl (.cons (.nil12 _ _ 0 (by decide)) (.cons (.nil12 _ _ 0 (by decide)) (.refl _))) .refl) ?_
 obtain rfl := sj h
 exact .rr
theorem zns (a0 : Int) (r : Bool) (h : zgg a0 = some r) : zb9 Tryz.prog 43 [.int .i64 a0] (.bool r) := by
 refine zbt 2 Tryz.func43 ?_
 intro hwf
 unfold zgg at h
 refine .sp [0] ?_
 refine .sp [0] ?_
 obtain rfl := sj h
 exact .rr
theorem zl3 (a0 : THome) (r : Int) (h : zgn a0 = some r) : zb9 Tryz.prog 16 [.agg [.int .i64 a0.Skeen.Clock, .imm 7 (a0.Skeen.Waits.map TWait.d) 4, .imm 2 (a0.Skeen.Done.map TStamp.d) 4, .imm 4 (a0.Stream.Topics.map TTopic.d) 4, .imm 1 (a0.Stream.Commits.map dL_inti64) 4, .imm 1 (a0.Last.map (D.int .i64)) 4]] (.int .i64 r) := by
 refine zbt 3 Tryz.func16 ?_
 intro hwf
 unfold zgn at h
 refine .sp [0] ?_
 refine .sp [1] ?_
 refine .seq ?_
 obtain ⟨v1, hv1, h⟩ := za2 h
 obtain ⟨v2, hv2, h⟩ := za2 h
 obtain ⟨v3, hv3, h⟩ := za2 h
 refine .sr [1, 3] ?_
 refine .rn 2 ?_
 refine .cl (zl1 a0.Skeen v1 hv1) ?_
 refine .rn 4 ?_
 refine .gcall rfl rfl rfl rfl rfl (fun hg => ⟨[], [.agg [.imm 4 (a0.Stream.Topics.map TTopic.d) 4, .imm 1 (a0.Stream.Commits.map dL_inti64) 4]], _, rfl, gd hg, rfl, (zkd a0.Stream v2 (zaf hv2 hg))⟩) ?_
 refine .rn 6 ?_
 refine .rn 6 ?_
 refine .glcall (r := .bool v3) [] rfl rfl rfl rfl rfl (fun hg => ⟨[], [.imm 1 (a0.Last.map (D.int .i64)) 4, .fn (.func 43) []], _, rfl, gd hg, (za9 rfl (za9 (zfw zap) zap)), rfl, (zf4 a0.Last 43 [] (fun _ => rfl) (fun _ => rfl) (fun _ => rfl) zgg (fun x0 y hy => zns x0 y hy) v3 (zaf hv3 hg))⟩) ?_
 refine .rn 1 ?_
 refine .nn ?_
 refine .cd ?_ ?_ <;> intro hc1
 replace h := zaf h hc1
 refine .sp [] ?_
 obtain rfl := sj h
 exact .rr
 replace h := zao h hc1
 refine .skip (.seq (.pl zS [] ?_))
 obtain rfl := sj h
 exact .rr
@[go_sem] def st12 (r : THome) : St := ⟨[(2, .ptr 1 0)], [(0, .arr 3 1 true (r.Last.map (D.int .i64))), (1, .box [.int .i64 r.Skeen.Clock, .imm 7 (r.Skeen.Waits.map TWait.d) 13, .imm 2 (r.Skeen.Done.map TStamp.d) 13, .imm 4 (r.Stream.Topics.map TTopic.d) 13, .imm 1 (r.Stream.Commits.map dL_inti64) 13, .ref 0 1 0 r.Last.length (some uC)])], 2⟩
theorem zlv (a0 : THome) (r : THome) (h : zge a0 = some r) : zby Tryz.prog 13 [.agg [.int .i64 a0.Skeen.Clock, .imm 7 (a0.Skeen.Waits.map TWait.d) 4, .imm 2 (a0.Skeen.Done.map TStamp.d) 4, .imm 4 (a0.Stream.Topics.map TTopic.d) 4, .imm 1 (a0.Stream.Commits.map dL_inti64) 4, .imm 1 (a0.Last.map (D.int .i64)) 4]] [] (.agg [.int .i64 r.Skeen.Clock, .imm 7 (r.Skeen.Waits.map TWait.d) 13, .imm 2 (r.Skeen.Done.map TStamp.d) 13, .imm 4 (r.Stream.Topics.map TTopic.d) 13, .imm 1 (r.Stream.Commits.map dL_inti64) 13, .ref 0 1 0 r.Last.length (some uC)]) [(0, some (.arr 3 1 true (r.Last.map (D.int .i64))))] (0, 8) := by
 refine zcu Tryz.func13 ?_
 intro hwf
 unfold zge at h
 refine .ends 0 (za4 _) ?_
 refine .sp [0] ?_
 obtain ⟨v1, hv1, h⟩ := za2 h
 obtain ⟨v2, hv2, h⟩ := za2 h
 obtain ⟨v3, hv3, h⟩ := za2 h
 refine .sr [1, 2] ?_
 refine .rd 2 ?_
 refine .cl (zlr a0.Skeen v1 hv1) ?_
 refine .rd 2 ?_
 refine .cl (zpl a0.Stream v2 hv2) ?_
 refine .rd 2 ?_
 refine .ncall (r := .ref 3 1 0 v3.length (some uC)) (eff := [(3, some (.arr 3 1 true (v3.map (D.int .i64))))]) (nw := (3, 6)) [] rfl rfl rfl rfl rfl (za9 rfl zap) rfl (zdt 3 (lb rfl) (zgt a0.Last v3 hv3)) (zc4 rfl rfl (ze4 zd1 _ _ _) ze8) (by intro i hi; simp [D.ids, D.idsL] at hi <;> omega) rfl ⟨lb rfl, lb rfl⟩ ?_
 refine .rd 2 ?_
 refine .nd ?_
 obtain rfl := sj h
 refine .ret ⟨st12 (⟨v1, v2, v3⟩ : THome), ?_, .inr rfl, retH [0] ?_ ?_⟩
 exact .m [2] [3, 1] [(3, 0)]
 exact rsi0
 rfl
theorem zls (a0 : THome) (a1 : THome) (r : Bool) (h : zka a0 a1 = some r) : zb9 Tryz.prog 18 [.agg [.int .i64 a0.Skeen.Clock, .imm 7 (a0.Skeen.Waits.map TWait.d) 4, .imm 2 (a0.Skeen.Done.map TStamp.d) 4, .imm 4 (a0.Stream.Topics.map TTopic.d) 4, .imm 1 (a0.Stream.Commits.map dL_inti64) 4, .imm 1 (a0.Last.map (D.int .i64)) 4], .agg [.int .i64 a1.Skeen.Clock, .imm 7 (a1.Skeen.Waits.map TWait.d) 4, .imm 2 (a1.Skeen.Done.map TStamp.d) 4, .imm 4 (a1.Stream.Topics.map TTopic.d) 4, .imm 1 (a1.Stream.Commits.map dL_inti64) 4, .imm 1 (a1.Last.map (D.int .i64)) 4]] (.bool r) := by
 refine zbt 4 Tryz.func18 ?_
 intro hwf
 unfold zka at h
 refine .sp [0, 1] ?_
 obtain ⟨v1, hv1, h⟩ := za2 h
 obtain ⟨v2, hv2, h⟩ := za2 h
 obtain ⟨v3, hv3, h⟩ := za2 h
 refine .sr [2, 3] ?_
 refine .rn 4 ?_
 refine .cl (zqb a0.Skeen a1.Skeen v1 hv1) ?_
 refine .rn 5 ?_
 refine .gcall rfl rfl rfl rfl rfl (fun hg => ⟨[], [.agg [.imm 4 (a0.Stream.Topics.map TTopic.d) 4, .imm 1 (a0.Stream.Commits.map dL_inti64) 4], .agg [.imm 4 (a1.Stream.Topics.map TTopic.d) 4, .imm 1 (a1.Stream.Commits.map dL_inti64) 4]], _, rfl, gd hg, rfl, (zpm a0.Stream a1.Stream v2 (zaf hv2 hg))⟩) ?_
 refine .rn 6 ?_
 refine .gcall rfl rfl rfl rfl rfl (fun hg => ⟨[], [.imm 1 (a0.Last.map (D.int .i64)) 4, .imm 1 (a1.Last.map (D.int .i64)) 4], _, rfl, gd hg, rfl, (ze1 a0.Last a1.Last v3 (zaf hv3 hg))⟩) ?_
 refine .rn 2 ?_
 refine .nn ?_
 obtain rfl := sj h
 exact .rr
theorem zdv (a0 : List UInt8) (a1 : Int) (r : (Option (List UInt8 × Int))) (h : zf3 a0 a1 = some r) : zb9 Tryz.prog 68 [.str a0, .int .i64 a1] (erD r) := by
 refine znr Tryz.tmOk 2 Tryz.func68 rfl (by decide) (by cases r <;> rfl) (by cases r <;> rfl) (lb rfl) ?_
 intro hwf
 unfold zf3 at h
 refine .sp [0, 1] ?_
 refine .seq (.seq (.pl zS [0, 1] ?_))
 refine .cd ?_ ?_ <;> intro hc1
 replace h := zaf h hc1
 refine .sp [] ?_
 obtain rfl := sj h
 exact .rr
 replace h := zao h hc1
 refine .skip (.seq (.pl zS [0, 1] ?_))
 obtain rfl := sj h
 exact .rr
theorem zgq (a0 : Int) (r : (Option (List UInt8 × Int))) (h : zhn a0 = some r) : zb9 Tryz.prog 54 [.int .i64 a0] (erD r) := by
 refine znr Tryz.tmOk 2 Tryz.func54 rfl (by decide) (by cases r <;> rfl) (by cases r <;> rfl) (lb rfl) ?_
 intro hwf
 unfold zhn at h
 refine .sp [0] ?_
 refine .seq (.seq (.pl zS [0] ?_))
 refine .cd ?_ ?_ <;> intro hc1
 replace h := zaf h hc1
 obtain ⟨v1, hv1, h⟩ := za2 h
 rcases zhi v1 with hEer1 | ⟨er1, hEer1⟩
 rw [hEer1] at h
 dsimp only at h
 refine .sr [] ?_
 refine .call rfl rfl rfl rfl rfl rfl (zh7 (r' := .nilIface) (by rw [hEer1]; rfl) (zdv [103, 114, 111, 117, 112] 2 v1 hv1)) ?_
 refine .rn 1 ?_
 refine .nn ?_
 obtain rfl := sj h
 exact .rr
 rw [hEer1] at h
 dsimp only at h
 refine .sr [] ?_
 refine .call rfl rfl rfl rfl rfl rfl (zh7 (r' := .iface 179 (.agg [.str er1.1, .iface 106 (.agg [.int .i64 er1.2])])) (by rw [hEer1]; rfl) (zdv [103, 114, 111, 117, 112] 2 v1 hv1)) ?_
 refine .rn 1 ?_
 refine .nn ?_
 obtain rfl := sj h
 exact .rr
 replace h := zao h hc1
 refine .skip (.seq (.pl zS [] ?_))
 obtain rfl := sj h
 exact .rr
@[go_sem] def st16 (r : Tgroup_home) : St := ⟨[(0, .ptr 20000 0)], [(20000, .box [.int .i64 r.Home.Skeen.Clock, .imm 7 (r.Home.Skeen.Waits.map TWait.d) 13, .imm 2 (r.Home.Skeen.Done.map TStamp.d) 13, .imm 4 (r.Home.Stream.Topics.map TTopic.d) 13, .imm 1 (r.Home.Stream.Commits.map dL_inti64) 13, .ref 20100 1 0 r.Home.Last.length (some uC)]), (20100, .arr 3 1 true (r.Home.Last.map (D.int .i64)))], 20101⟩
theorem zl5 (a0 : Tgroup_home) (a1 : TCommand) (r : Tgroup_home) (h : zc9 a0 a1 = some r) : zby Tryz.prog 112 [.ptr 20000 0, .agg [.int .u8 a1.Kind, .int .i64 a1.Message.Id, .imm 1 (a1.Message.Groups.map (D.int .i64)) 4, .int .i64 a1.Message.Topic, .str a1.Message.Key, .str a1.Message.Body, .int .i64 a1.Id, .int .i64 a1.Time, .imm 1 (a1.Members.map (D.int .i64)) 4, .int .i64 a1.Topic, .int .i64 a1.Who, .int .i64 a1.N]] [(20000, .box [.int .i64 a0.Home.Skeen.Clock, .imm 7 (a0.Home.Skeen.Waits.map TWait.d) 13, .imm 2 (a0.Home.Skeen.Done.map TStamp.d) 13, .imm 4 (a0.Home.Stream.Topics.map TTopic.d) 13, .imm 1 (a0.Home.Stream.Commits.map dL_inti64) 13, .ref 20001 1 0 a0.Home.Last.length (some uC)]), (20001, .arr 3 1 true (a0.Home.Last.map (D.int .i64)))] (.tuple []) [(20000, some (.box [.int .i64 r.Home.Skeen.Clock, .imm 7 (r.Home.Skeen.Waits.map TWait.d) 13, .imm 2 (r.Home.Skeen.Done.map TStamp.d) 13, .imm 4 (r.Home.Stream.Topics.map TTopic.d) 13, .imm 1 (r.Home.Stream.Commits.map dL_inti64) 13, .ref 20100 1 0 r.Home.Last.length (some uC)])), (20001, none), (20100, some (.arr 3 1 true (r.Home.Last.map (D.int .i64))))] (20100, 20104) := by
 refine zcu Tryz.func112 ?_
 intro hwf
 unfold zc9 at h
 refine .ends 20100 (za4 _) ?_
 refine .sp [0, 1] ?_
 obtain ⟨v1, hv1, h⟩ := za2 h
 refine .sr [0, 3] ?_
 refine .rn 2 ?_
 refine .cl (zt4 a1.Id v1 hv1) ?_
 refine .rn 7 ?_
 refine .nn ?_
 refine .seq (.seq ?_)
 obtain ⟨k1, h⟩ := zb0 h
 have e1 := zbx (D.int .i64) a0.Home.Last v1.1
 replace e1 := e1 k1
 refine .rg zS [0, 3, 4, 5] ?_
 refine .rnx 6 e1 ?_
 refine .rnx 4 e1 ?_
 refine .nn ?_
 refine .cd ?_ ?_ <;> intro hc1
 replace h := zaf h hc1
 obtain rfl := sj h
 refine .ret ⟨st16 a0, ?_, .inr rfl, retH [20000, 20100] ?_ ?_⟩
 exact .m [0] [20000, 20001] [(20001, 20100)]
 exact rsi0
 rfl
 replace h := zao h hc1
 refine .skip (.seq ?_)
 obtain ⟨k2, h⟩ := zb0 h
 have e2 := zbx (D.int .i64) a0.Home.Last v1.1
 have es1 := zif (D.int .i64) a0.Home.Last v1.1.toNat (wr .i64 (v1.2.1 + 1))
 replace e2 := e2 k2
 replace es1 : setN (a0.Home.Last.map (D.int .i64)) v1.1.toNat (.int .i64 (wr .i64 (v1.2.1 + 1))) = (a0.Home.Last.set v1.1.toNat (wr .i64 (v1.2.1 + 1))).map (D.int .i64) := es1
 refine .rg zS [0, 3, 4, 5] ?_
 refine .rnx 6 (ai e2 es1) ?_
 refine .rnx 4 (ai e2 es1) ?_
 refine .nn ?_
 obtain ⟨v2, hv2, h⟩ := za2 h
 refine .sr [0, 3] ?_
 refine .rd 6 ?_
 refine .call rfl rfl rfl rfl rfl rfl (zii (WkL.cons (Wk.agg (WkL.cons Wk.iz (WkL.cons Wk.iz (WkL.refl _)))) (WkL.cons (Wk.refl _) (WkL.refl _))) (zsm a0.Home.Stream a1 v2 hv2)) ?_
 refine .rd 6 ?_
 refine .nd ?_
 refine .sp [0, 7, 8] ?_
 refine .cd ?_ ?_ <;> intro hc2
 replace h := zaf h hc2
 refine .pl zS [0, 7] ?_
 obtain rfl := sj h
 refine ⟨st16 (⟨(⟨a0.Home.Skeen, v2.1, (a0.Home.Last.set v1.1.toNat (wr .i64 (v1.2.1 + 1)))⟩ : THome)⟩ : Tgroup_home), ?_, .inl rfl, retH [20000, 20100] ?_ ?_⟩
 exact .m [0] [20000, 20001] [(20001, 20100)]
 exact rsi0
 rfl
 replace h := zao h hc2
 refine .skip ?_
 obtain rfl := sj h
 refine ⟨st16 (⟨(⟨a0.Home.Skeen, a0.Home.Stream, (a0.Home.Last.set v1.1.toNat (wr .i64 (v1.2.1 + 1)))⟩ : THome)⟩ : Tgroup_home), ?_, .inl rfl, retH [20000, 20100] ?_ ?_⟩
 exact .m [0] [20000, 20001] [(20001, 20100)]
 exact rsi0
 rfl
@[go_sem] def st64 (a0 : Tgroup_home) (l1 : List TTopic) (l2 : List (List Int)) (l3 : List TTook) : St := ⟨[(0, .ptr 20000 0), (5, .ref 20100 3 0 l3.length (some uC))], [(20000, .box [.int .i64 a0.Home.Skeen.Clock, .imm 7 (a0.Home.Skeen.Waits.map TWait.d) 13, .imm 2 (a0.Home.Skeen.Done.map TStamp.d) 13, .imm 4 (l1.map TTopic.d) 13, .imm 1 (l2.map dL_inti64) 13, .ref 20001 1 0 a0.Home.Last.length (some uC)]), (20001, .arr 3 1 true (a0.Home.Last.map (D.int .i64))), (20100, .arr 68 3 true (l3.map TTook.d))], 20101⟩
@[go_sem] def st65 (a0 : Tgroup_home) (a1 : List TMessage) (n1 : Nat) (l4 : List TTopic) (l5 : List (List Int)) (l6 : List TTook) : St := ⟨[(0, .ptr 20000 0), (5, .ref 20100 3 0 l6.length (some uC)), (11, .imm 5 (a1.map TMessage.d) 4), (12, .int .i64 (a1.length : Int)), (13, .int .i64 (n1 : Int))], [(20000, .box [.int .i64 a0.Home.Skeen.Clock, .imm 7 (a0.Home.Skeen.Waits.map TWait.d) 13, .imm 2 (a0.Home.Skeen.Done.map TStamp.d) 13, .imm 4 (l4.map TTopic.d) 13, .imm 1 (l5.map dL_inti64) 13, .ref 20001 1 0 a0.Home.Last.length (some uC)]), (20001, .arr 3 1 true (a0.Home.Last.map (D.int .i64))), (20100, .arr 68 3 true (l6.map TTook.d))], 20101⟩
@[go_sem] def st66 (a0 : Tgroup_home) (a1 : List TMessage) (n1 : Nat) (l7 : List TTopic) (l8 : List (List Int)) (l9 : List TTook) : St := ⟨[(0, .ptr 20000 0), (5, .ref 20101 3 0 l9.length (some uC)), (11, .imm 5 (a1.map TMessage.d) 4), (12, .int .i64 (a1.length : Int)), (13, .int .i64 (n1 : Int))], [(20000, .box [.int .i64 a0.Home.Skeen.Clock, .imm 7 (a0.Home.Skeen.Waits.map TWait.d) 13, .imm 2 (a0.Home.Skeen.Done.map TStamp.d) 13, .imm 4 (l7.map TTopic.d) 13, .imm 1 (l8.map dL_inti64) 13, .ref 20001 1 0 a0.Home.Last.length (some uC)]), (20001, .arr 3 1 true (a0.Home.Last.map (D.int .i64))), (20101, .arr 68 3 true (l9.map TTook.d))], 20102⟩
@[go_sem] def st14 (r : (List TTook) × Tgroup_home) : St := ⟨[(0, .ptr 20000 0), (4, .ref 20100 3 0 r.1.length (some uC))], [(20000, .box [.int .i64 r.2.Home.Skeen.Clock, .imm 7 (r.2.Home.Skeen.Waits.map TWait.d) 13, .imm 2 (r.2.Home.Skeen.Done.map TStamp.d) 13, .imm 4 (r.2.Home.Stream.Topics.map TTopic.d) 13, .imm 1 (r.2.Home.Stream.Commits.map dL_inti64) 13, .ref 20101 1 0 r.2.Home.Last.length (some uC)]), (20100, .arr 68 3 true (r.1.map TTook.d)), (20101, .arr 3 1 true (r.2.Home.Last.map (D.int .i64)))], 20102⟩
theorem zl6 (a0 : Tgroup_home) (a1 : List TMessage) (r : (List TTook) × Tgroup_home) (h : zef a0 a1 = some r) : zby Tryz.prog 114 [.ptr 20000 0, .imm 5 (a1.map TMessage.d) 4] [(20000, .box [.int .i64 a0.Home.Skeen.Clock, .imm 7 (a0.Home.Skeen.Waits.map TWait.d) 13, .imm 2 (a0.Home.Skeen.Done.map TStamp.d) 13, .imm 4 (a0.Home.Stream.Topics.map TTopic.d) 13, .imm 1 (a0.Home.Stream.Commits.map dL_inti64) 13, .ref 20001 1 0 a0.Home.Last.length (some uC)]), (20001, .arr 3 1 true (a0.Home.Last.map (D.int .i64)))] (.ref 20100 3 0 r.1.length (some uC)) [(20000, some (.box [.int .i64 r.2.Home.Skeen.Clock, .imm 7 (r.2.Home.Skeen.Waits.map TWait.d) 13, .imm 2 (r.2.Home.Skeen.Done.map TStamp.d) 13, .imm 4 (r.2.Home.Stream.Topics.map TTopic.d) 13, .imm 1 (r.2.Home.Stream.Commits.map dL_inti64) 13, .ref 20101 1 0 r.2.Home.Last.length (some uC)])), (20001, none), (20100, some (.arr 68 3 true (r.1.map TTook.d))), (20101, some (.arr 3 1 true (r.2.Home.Last.map (D.int .i64))))] (20100, 20107) := by
 refine zcu Tryz.func114 ?_
 intro hwf
 unfold zef at h
 refine .ends 20100 (za4 _) ?_
 refine .sp [0, 1] ?_
 refine .sp [0, 1] ?_
 obtain ⟨x1, hx1, h⟩ := za2 h
 refine .seqM 20100 (fun (j : (List TTopic) × (List (List Int)) × (List TTook)) => st64 a0 j.1 j.2.1 j.2.2) (fun j => x1 = j) (lb rfl) ?_ ?_
 refine .sp [0, 1, 5] ?_
 refine .block ?_
 refine .loopG 20100 (fun (j : Nat × (List TTopic) × (List (List Int)) × (List TTook)) => st65 a0 a1 j.1 j.2.1 j.2.2.1 j.2.2.2) (fun j => j.1 <= a1.length /\ zbi (a1.drop j.1) j.2.1 j.2.2.1 j.2.2.2 = some x1) (fun j => a1.length - j.1) (0, a0.Home.Stream.Topics, a0.Home.Stream.Commits, []) (lb rfl) ?_ ⟨Nat.zero_le _, hx1⟩ ?_
 refine .n0 3 68 ?_
 refine .w0 5 20100 3 ?_
 exact .m [0, 5, 11, 12, 13] [20000, 20001, 20100] []
 rintro ⟨n1, l4, l5, l6⟩ ⟨hi1, hx1⟩
 simp only [st65]
 simp only at hi1 hx1
 refine .wf 12 (.int .i64 (a1.length : Int)) rfl ?_
 intro hln1
 replace hln1 := wfn hln1
 refine .sp [0, 5, 11, 12, 13] ?_
 refine .seq (.cd (fun hc1 => ?_) (fun hc1 => ?_))
 have h1 : n1 < a1.length := by simpa using hc1
 have hwn1 := zdw h1 hln1
 have hpn1 := zdx h1 hln1
 rw [za7 h1, zej] at hx1
 refine .skip ?_
 obtain ⟨x2, hx2, hx1⟩ := za2 hx1
 refine .seqM 20101 (fun (j : (List TTopic) × (List (List Int)) × (List TTook)) => st66 a0 a1 n1 j.1 j.2.1 j.2.2) (fun j => x2 = j) (lb rfl) ?_ ?_
 refine .block (.seq ?_)
 have e1 := zdk TMessage.d a1 n1 h1
 refine .plx zS (ai e1 hwn1) [0, 5, 11, 12, 13] ?_
 refine .seq ?_
 obtain ⟨v1, hv1, hx2⟩ := za2 hx2
 refine .rg zS [0, 5, 7, 11, 12, 13] ?_
 refine .rdx 6 hwn1 ?_
 refine .call rfl rfl rfl rfl rfl rfl (zii (WkL.cons (Wk.agg (WkL.cons Wk.iz (WkL.cons Wk.iz (WkL.refl _)))) (WkL.cons (Wk.refl _) (WkL.refl _))) (zq8 (⟨l4, l5⟩ : TStream) (a1[n1]) v1 hv1)) ?_
 refine .rdx 8 hwn1 ?_
 refine .nd ?_
 refine .seq (.seq (.plx zS hwn1 [0, 5, 7, 8, 9, 10, 11, 12, 13] ?_))
 refine .cd ?_ ?_ <;> intro hc2
 replace hx2 := zaf hx2 hc2
 refine .exit ?_
 refine ⟨_, ?_, (sj hx2).symm⟩
 exact .m [0, 5, 11, 12, 13] [20000, 20001, 20100] [(20100, 20101)]
 replace hx2 := zao hx2 hc2
 refine .skip (.seq (.plx zS hwn1 [0, 5, 7, 8, 9, 11, 12, 13] ?_))
 obtain ⟨k1, hx2⟩ := zb0 hx2
 refine .rg zS [0, 5, 7, 9, 11, 12, 13] ?_
 refine .rnx 6 hwn1 ?_
 refine .rnx 4 hwn1 ?_
 refine .nn ?_
 refine ⟨_, ?_, (sj hx2).symm⟩
 exact .m [0, 5, 11, 12, 13] [20000, 20001, 20104] [(20104, 20101)]
 rintro ⟨l7, l8, l9⟩ hj1
 subst x2
 try dsimp only at hx1
 simp only [st66]
 refine .plx zS hwn1 [0, 5, 11, 12, 13] ?_
 refine ⟨(n1 + 1, _, _, _), ?_, ⟨by omega, hx1⟩, by dsimp only; omega⟩
 exact .m [0, 5, 11, 12, 13] [20000, 20001, 20101] [(20101, 20100)]
 have h2 : n1 = a1.length := by have h2b := of_decide_eq_false hc1; omega
 rw [zab (by omega), zj7] at hx1
 refine .exit ?_
 refine ⟨_, ?_, (sj hx1).symm⟩
 exact .m [0, 5] [20000, 20001, 20100] []
 rintro ⟨l1, l2, l3⟩ hj2
 subst x1
 try dsimp only at h
 simp only [st64]
 refine .sp [0, 5] ?_
 obtain rfl := sj h
 refine .ret ⟨st14 (l3, (⟨(⟨a0.Home.Skeen, (⟨l1, l2⟩ : TStream), a0.Home.Last⟩ : THome)⟩ : Tgroup_home)), ?_, .inr rfl, retH [20000, 20101, 20100] ?_ ?_⟩
 exact .m [0, 4] [20000, 20100, 20001] [(20001, 20101)]
 exact rsi0
 rfl
@[go_sem] def st15 (r : (List TTook) × (Option (List UInt8 × Int)) × Tgroup_home) : St := ⟨[(0, .ptr 20000 0), (6, .ref 20100 3 0 r.1.length (some uC)), (7, erD r.2.1)], [(20000, .box [.int .i64 r.2.2.Home.Skeen.Clock, .imm 7 (r.2.2.Home.Skeen.Waits.map TWait.d) 13, .imm 2 (r.2.2.Home.Skeen.Done.map TStamp.d) 13, .imm 4 (r.2.2.Home.Stream.Topics.map TTopic.d) 13, .imm 1 (r.2.2.Home.Stream.Commits.map dL_inti64) 13, .ref 20101 1 0 r.2.2.Home.Last.length (some uC)]), (20100, .arr 68 3 true (r.1.map TTook.d)), (20101, .arr 3 1 true (r.2.2.Home.Last.map (D.int .i64)))], 20102⟩
theorem zg0 (a0 : Tgroup_home) (a1 : Int) (a2 : TCommand) (r : (List TTook) × (Option (List UInt8 × Int)) × Tgroup_home) (h : zbs a0 a1 a2 = some r) : zby Tryz.prog 55 [.ptr 20000 0, .int .i64 a1, .agg [.int .u8 a2.Kind, .int .i64 a2.Message.Id, .imm 1 (a2.Message.Groups.map (D.int .i64)) 4, .int .i64 a2.Message.Topic, .str a2.Message.Key, .str a2.Message.Body, .int .i64 a2.Id, .int .i64 a2.Time, .imm 1 (a2.Members.map (D.int .i64)) 4, .int .i64 a2.Topic, .int .i64 a2.Who, .int .i64 a2.N]] [(20000, .box [.int .i64 a0.Home.Skeen.Clock, .imm 7 (a0.Home.Skeen.Waits.map TWait.d) 13, .imm 2 (a0.Home.Skeen.Done.map TStamp.d) 13, .imm 4 (a0.Home.Stream.Topics.map TTopic.d) 13, .imm 1 (a0.Home.Stream.Commits.map dL_inti64) 13, .ref 20001 1 0 a0.Home.Last.length (some uC)]), (20001, .arr 3 1 true (a0.Home.Last.map (D.int .i64)))] (.tuple [.ref 20100 3 0 r.1.length (some uC), erD r.2.1]) [(20000, some (.box [.int .i64 r.2.2.Home.Skeen.Clock, .imm 7 (r.2.2.Home.Skeen.Waits.map TWait.d) 13, .imm 2 (r.2.2.Home.Skeen.Done.map TStamp.d) 13, .imm 4 (r.2.2.Home.Stream.Topics.map TTopic.d) 13, .imm 1 (r.2.2.Home.Stream.Commits.map dL_inti64) 13, .ref 20101 1 0 r.2.2.Home.Last.length (some uC)])), (20001, none), (20100, some (.arr 68 3 true (r.1.map TTook.d))), (20101, some (.arr 3 1 true (r.2.2.Home.Last.map (D.int .i64))))] (20100, 20116) := by
 refine zcu Tryz.func55 ?_
 intro hwf
 unfold zbs at h
 refine .ends 20100 (za4 _) ?_
 refine .sp [0, 1, 2] ?_
 refine .seq (.seq (.pl zS [0, 1, 5] ?_))
 refine .cd ?_ ?_ <;> intro hc1
 replace h := zaf h hc1
 obtain ⟨v1, hv1, h⟩ := za2 h
 refine .sr [0, 5] ?_
 refine .rn 2 ?_
 refine .hcall (H := [(20000, .box [.int .i64 a0.Home.Skeen.Clock, .imm 7 (a0.Home.Skeen.Waits.map TWait.d) 13, .imm 2 (a0.Home.Skeen.Done.map TStamp.d) 13, .imm 4 (a0.Home.Stream.Topics.map TTopic.d) 13, .imm 1 (a0.Home.Stream.Commits.map dL_inti64) 13, .ref 20001 1 0 a0.Home.Last.length (some uC)]), (20001, .arr 3 1 true (a0.Home.Last.map (D.int .i64)))]) (eff := [(20000, some (.box [.int .i64 v1.Home.Skeen.Clock, .imm 7 (v1.Home.Skeen.Waits.map TWait.d) 13, .imm 2 (v1.Home.Skeen.Done.map TStamp.d) 13, .imm 4 (v1.Home.Stream.Topics.map TTopic.d) 13, .imm 1 (v1.Home.Stream.Commits.map dL_inti64) 13, .ref 20104 1 0 v1.Home.Last.length (some uC)])), (20001, none), (20104, some (.arr 3 1 true (v1.Home.Last.map (D.int .i64))))]) (nw := (20104, 20108)) (r := .tuple []) rfl rfl rfl rfl rfl (zbm 20001 20001 (zbm 20000 20000 (zcn 20104 (zl5 a0 a2 v1 hv1)))) (fun id b h => zav [20000, 20001] _ id b h) (by simp) (.inr ⟨lb rfl, lb rfl⟩) ?_
 refine .nn ?_
 refine .sp [0] ?_
 obtain rfl := sj h
 refine .ret ⟨st15 ([], none, v1), ?_, .inr rfl, retH [20000, 20101, 20100] ?_ ?_⟩
 refine .n0 3 68 ?_
 refine .w0 6 20108 3 ?_
 exact .m [0, 6, 7] [20000, 20108, 20104] [(20108, 20100), (20104, 20101)]
 exact rsi0
 rfl
 replace h := zao h hc1
 refine .skip ?_
 obtain ⟨v2, hv2, h⟩ := za2 h
 refine .sr [0, 1, 5] ?_
 refine .rd 7 ?_
 refine .call rfl rfl rfl rfl rfl rfl (zii (WkL.cons (Wk.agg (WkL.cons (Wk.refl _) (WkL.cons Wk.iz (WkL.cons Wk.iz (WkL.refl _))))) (WkL.cons (Wk.refl _) (WkL.cons (Wk.refl _) (WkL.refl _)))) (zl2 a0.Home.Skeen a1 a2 v2 hv2)) ?_
 refine .rd 8 ?_
 refine .nd ?_
 refine .seq (.seq (.pl zS [0, 8, 9, 10] ?_))
 refine .cd ?_ ?_ <;> intro hc2
 replace h := zaf h hc2
 obtain ⟨v3, hv3, h⟩ := za2 h
 rcases zhi v3 with hEer1 | ⟨er1, hEer1⟩
 rw [hEer1] at h
 dsimp only at h
 refine .sr [0, 10] ?_
 refine .rn 1 ?_
 refine .call rfl rfl rfl rfl rfl rfl (zh7 (r' := .nilIface) (by rw [hEer1]; rfl) (zdv [97, 112, 112, 108, 121] v2.2.2 v3 hv3)) ?_
 refine .rn 2 ?_
 refine .nn ?_
 obtain rfl := sj h
 refine .ret ⟨st15 ([], none, a0), ?_, .inr rfl, retH [20000, 20101, 20100] ?_ ?_⟩
 refine .n0 3 68 ?_
 refine .w0 6 20102 3 ?_
 exact .m [0, 6, 7] [20000, 20102, 20001] [(20102, 20100), (20001, 20101)]
 exact rsi0
 rfl
 rw [hEer1] at h
 dsimp only at h
 refine .sr [0, 10] ?_
 refine .rn 1 ?_
 refine .call rfl rfl rfl rfl rfl rfl (zh7 (r' := .iface 179 (.agg [.str er1.1, .iface 106 (.agg [.int .i64 er1.2])])) (by rw [hEer1]; rfl) (zdv [97, 112, 112, 108, 121] v2.2.2 v3 hv3)) ?_
 refine .rn 2 ?_
 refine .nn ?_
 obtain rfl := sj h
 refine .ret ⟨st15 ([], (some er1), a0), ?_, .inr rfl, retH [20000, 20101, 20100] ?_ ?_⟩
 refine .n0 3 68 ?_
 refine .w0 6 20102 3 ?_
 exact .m [0, 6, 7] [20000, 20102, 20001] [(20102, 20100), (20001, 20101)]
 exact rsi0
 rfl
 replace h := zao h hc2
 refine .skip (.seq (.pl zS [0, 8, 9] ?_))
 obtain ⟨v4, hv4, h⟩ := za2 h
 refine .sr [0, 9] ?_
 refine .rn 2 ?_
 refine .hcall (H := [(20000, .box [.int .i64 v2.1.Clock, .imm 7 (v2.1.Waits.map TWait.d) 13, .imm 2 (v2.1.Done.map TStamp.d) 13, .imm 4 (a0.Home.Stream.Topics.map TTopic.d) 13, .imm 1 (a0.Home.Stream.Commits.map dL_inti64) 13, .ref 20001 1 0 a0.Home.Last.length (some uC)]), (20001, .arr 3 1 true (a0.Home.Last.map (D.int .i64)))]) (eff := [(20000, some (.box [.int .i64 v4.2.Home.Skeen.Clock, .imm 7 (v4.2.Home.Skeen.Waits.map TWait.d) 13, .imm 2 (v4.2.Home.Skeen.Done.map TStamp.d) 13, .imm 4 (v4.2.Home.Stream.Topics.map TTopic.d) 13, .imm 1 (v4.2.Home.Stream.Commits.map dL_inti64) 13, .ref 20108 1 0 v4.2.Home.Last.length (some uC)])), (20001, none), (20107, some (.arr 68 3 true (v4.1.map TTook.d))), (20108, some (.arr 3 1 true (v4.2.Home.Last.map (D.int .i64))))]) (nw := (20107, 20114)) (r := .ref 20107 3 0 v4.1.length (some uC)) rfl rfl rfl rfl rfl (zbm 20001 20001 (zbm 20000 20000 (zcn 20107 (zmp (.keep (.cons (.new4 _ _ rfl) (.refl _))) (zl6 (⟨(⟨v2.1, a0.Home.Stream, a0.Home.Last⟩ : THome)⟩ : Tgroup_home) v2.2.1 v4 hv4))))) (fun id b h => zav [20000, 20001] _ id b h) (by simp) (.inr ⟨lb rfl, lb rfl⟩) ?_
 refine .rn 2 ?_
 refine .nn ?_
 obtain rfl := sj h
 refine .ret ⟨st15 (v4.1, none, v4.2), ?_, .inr rfl, retH [20000, 20101, 20100] ?_ ?_⟩
 exact .m [0, 6, 7] [20000, 20107, 20108] [(20107, 20100), (20108, 20101)]
 exact rsi0
 rfl
@[go_sem] def st13 (r : THome × (List TTook) × (Option (List UInt8 × Int))) : St := ⟨[(6, .ptr 2 0), (7, .ref 1 3 0 r.2.1.length (some uC)), (8, erD r.2.2)], [(0, .arr 3 1 true (r.1.Last.map (D.int .i64))), (1, .arr 68 3 true (r.2.1.map TTook.d)), (2, .box [.int .i64 r.1.Skeen.Clock, .imm 7 (r.1.Skeen.Waits.map TWait.d) 13, .imm 2 (r.1.Skeen.Done.map TStamp.d) 13, .imm 4 (r.1.Stream.Topics.map TTopic.d) 13, .imm 1 (r.1.Stream.Commits.map dL_inti64) 13, .ref 0 1 0 r.1.Last.length (some uC)])], 3⟩
theorem zl7 (a0 : THome) (a1 : Int) (a2 : TCommand) (r : THome × (List TTook) × (Option (List UInt8 × Int))) (h : zlf a0 a1 a2 = some r) : zby Tryz.prog 33 [.agg [.int .i64 a0.Skeen.Clock, .imm 7 (a0.Skeen.Waits.map TWait.d) 4, .imm 2 (a0.Skeen.Done.map TStamp.d) 4, .imm 4 (a0.Stream.Topics.map TTopic.d) 4, .imm 1 (a0.Stream.Commits.map dL_inti64) 4, .imm 1 (a0.Last.map (D.int .i64)) 4], .int .i64 a1, .agg [.int .u8 a2.Kind, .int .i64 a2.Message.Id, .imm 1 (a2.Message.Groups.map (D.int .i64)) 4, .int .i64 a2.Message.Topic, .str a2.Message.Key, .str a2.Message.Body, .int .i64 a2.Id, .int .i64 a2.Time, .imm 1 (a2.Members.map (D.int .i64)) 4, .int .i64 a2.Topic, .int .i64 a2.Who, .int .i64 a2.N]] [] (.tuple [.agg [.int .i64 r.1.Skeen.Clock, .imm 7 (r.1.Skeen.Waits.map TWait.d) 13, .imm 2 (r.1.Skeen.Done.map TStamp.d) 13, .imm 4 (r.1.Stream.Topics.map TTopic.d) 13, .imm 1 (r.1.Stream.Commits.map dL_inti64) 13, .ref 0 1 0 r.1.Last.length (some uC)], .ref 1 3 0 r.2.1.length (some uC), erD r.2.2]) [(0, some (.arr 3 1 true (r.1.Last.map (D.int .i64)))), (1, some (.arr 68 3 true (r.2.1.map TTook.d)))] (0, 37) := by
 refine zcu Tryz.func33 ?_
 intro hwf
 unfold zlf at h
 refine .ends 0 (za4 _) ?_
 refine .sp [0, 1, 2] ?_
 refine .seq ?_
 obtain ⟨v1, hv1, h⟩ := za2 h
 obtain ⟨v2, hv2, h⟩ := za2 h
 rcases zhi v2 with hEer1 | ⟨er1, hEer1⟩
 rw [hEer1] at h
 dsimp only at h
 refine .sr [1, 3, 5, 6] ?_
 refine .rn 1 ?_
 refine .cl (zl3 a0 v1 hv1) ?_
 refine .rn 0 ?_
 refine .call rfl rfl rfl rfl rfl rfl (zh7 (r' := .nilIface) (by rw [hEer1]; rfl) (zdv [99, 104, 101, 99, 107] v1 v2 hv2)) ?_
 refine .rn 1 ?_
 refine .nn ?_
 refine .sp [1, 3, 5, 6, 9] ?_
 refine .cond rfl rfl (fun hc => by cases hc) (fun hc => ?_)
 refine .skip (.seq ?_)
 obtain ⟨v3, hv3, h⟩ := za2 h
 rcases zhi v3 with hEer2 | ⟨er2, hEer2⟩
 rw [hEer2] at h
 dsimp only at h
 refine .sr [1, 3, 5, 6] ?_
 refine .rn 1 ?_
 refine .call rfl rfl rfl rfl rfl rfl (zh7 (r' := .nilIface) (by rw [hEer2]; rfl) (zgq a1 v3 hv3)) ?_
 refine .rn 1 ?_
 refine .nn ?_
 refine .sp [1, 3, 5, 6, 10] ?_
 refine .cond rfl rfl (fun hc => by cases hc) (fun hc => ?_)
 refine .skip (.seq ?_)
 obtain ⟨v4, hv4, h⟩ := za2 h
 obtain ⟨v5, hv5, h⟩ := za2 h
 rcases zhi v5 with hEer3 | ⟨er3, hEer3⟩
 rw [hEer3] at h
 dsimp only at h
 refine .sr [1, 3, 5, 6] ?_
 refine .rn 1 ?_
 refine .cl (zfz a2 v4 hv4) ?_
 refine .rn 0 ?_
 refine .call rfl rfl rfl rfl rfl rfl (zh7 (r' := .nilIface) (by rw [hEer3]; rfl) (zdv [99, 111, 109, 109, 97, 110, 100] v4 v5 hv5)) ?_
 refine .rn 1 ?_
 refine .nn ?_
 refine .sp [1, 3, 5, 6, 11] ?_
 refine .cond rfl rfl (fun hc => by cases hc) (fun hc => ?_)
 refine .skip ?_
 obtain ⟨v6, hv6, h⟩ := za2 h
 refine .sr [1, 3, 5, 6] ?_
 refine .rn 1 ?_
 refine .ncall (r := .agg [.int .i64 v6.Skeen.Clock, .imm 7 (v6.Skeen.Waits.map TWait.d) 13, .imm 2 (v6.Skeen.Done.map TStamp.d) 13, .imm 4 (v6.Stream.Topics.map TTopic.d) 13, .imm 1 (v6.Stream.Commits.map dL_inti64) 13, .ref 8 1 0 v6.Last.length (some uC)]) (eff := [(8, some (.arr 3 1 true (v6.Last.map (D.int .i64))))]) (nw := (8, 16)) [] rfl rfl rfl rfl rfl (za9 rfl zap) rfl (zdt 8 (lb rfl) (zlv a0 v6 hv6)) (zc4 rfl rfl (ze4 zd1 _ _ _) ze8) (by intro i hi; simp [D.ids, D.idsL] at hi <;> omega) rfl ⟨lb rfl, lb rfl⟩ ?_
 refine .rn 3 ?_
 refine .nn ?_
 obtain ⟨v7, hv7, h⟩ := za2 h
 rcases zhi v7.2.1 with hEer4 | ⟨er4, hEer4⟩
 rw [hEer4] at h
 dsimp only at h
 refine .sr [1, 5, 6, 12] ?_
 refine .rn 3 ?_
 refine .hcall (H := [(16, .box [.int .i64 v6.Skeen.Clock, .imm 7 (v6.Skeen.Waits.map TWait.d) 13, .imm 2 (v6.Skeen.Done.map TStamp.d) 13, .imm 4 (v6.Stream.Topics.map TTopic.d) 13, .imm 1 (v6.Stream.Commits.map dL_inti64) 13, .ref 8 1 0 v6.Last.length (some uC)]), (8, .arr 3 1 true (v6.Last.map (D.int .i64)))]) (eff := [(16, some (.box [.int .i64 v7.2.2.Home.Skeen.Clock, .imm 7 (v7.2.2.Home.Skeen.Waits.map TWait.d) 13, .imm 2 (v7.2.2.Home.Skeen.Done.map TStamp.d) 13, .imm 4 (v7.2.2.Home.Stream.Topics.map TTopic.d) 13, .imm 1 (v7.2.2.Home.Stream.Commits.map dL_inti64) 13, .ref 18 1 0 v7.2.2.Home.Last.length (some uC)])), (8, none), (17, some (.arr 68 3 true (v7.1.map TTook.d))), (18, some (.arr 3 1 true (v7.2.2.Home.Last.map (D.int .i64))))]) (nw := (17, 33)) (r := .tuple [.ref 17 3 0 v7.1.length (some uC), .nilIface]) rfl rfl rfl rfl rfl (zfm 17 (zbm 20001 8 (zbm 20000 16 (zn4 (r' := .tuple [.ref 20100 3 0 v7.1.length (some uC), .nilIface]) (by rw [hEer4]; rfl) (zg0 (⟨v6⟩ : Tgroup_home) a1 a2 v7 hv7))))) (fun id b h => zav [16, 8] _ id b h) (by simp) (.inr ⟨lb rfl, lb rfl⟩) ?_
 refine .rn 5 ?_
 refine .nn ?_
 refine .seq (.seq (.pl zS [6, 12, 13, 14] ?_))
 refine .cond rfl rfl (fun hc => by cases hc) (fun hc => ?_)
 refine .skip (.seq (.pl zS [6, 12, 13] ?_))
 obtain rfl := sj h
 refine .ret ⟨st13 (v7.2.2.Home, v7.1, none), ?_, .inr rfl, retH [1, 0] ?_ ?_⟩
 exact .m [6, 7, 8] [18, 17, 2] [(18, 0), (17, 1)]
 exact rsi0
 rfl
 rw [hEer4] at h
 dsimp only at h
 refine .sr [1, 5, 6, 12] ?_
 refine .rn 3 ?_
 refine .hcall (H := [(16, .box [.int .i64 v6.Skeen.Clock, .imm 7 (v6.Skeen.Waits.map TWait.d) 13, .imm 2 (v6.Skeen.Done.map TStamp.d) 13, .imm 4 (v6.Stream.Topics.map TTopic.d) 13, .imm 1 (v6.Stream.Commits.map dL_inti64) 13, .ref 8 1 0 v6.Last.length (some uC)]), (8, .arr 3 1 true (v6.Last.map (D.int .i64)))]) (eff := [(16, some (.box [.int .i64 v7.2.2.Home.Skeen.Clock, .imm 7 (v7.2.2.Home.Skeen.Waits.map TWait.d) 13, .imm 2 (v7.2.2.Home.Skeen.Done.map TStamp.d) 13, .imm 4 (v7.2.2.Home.Stream.Topics.map TTopic.d) 13, .imm 1 (v7.2.2.Home.Stream.Commits.map dL_inti64) 13, .ref 18 1 0 v7.2.2.Home.Last.length (some uC)])), (8, none), (17, some (.arr 68 3 true (v7.1.map TTook.d))), (18, some (.arr 3 1 true (v7.2.2.Home.Last.map (D.int .i64))))]) (nw := (17, 33)) (r := .tuple [.ref 17 3 0 v7.1.length (some uC), .iface 179 (.agg [.str er4.1, .iface 106 (.agg [.int .i64 er4.2])])]) rfl rfl rfl rfl rfl (zfm 17 (zbm 20001 8 (zbm 20000 16 (zn4 (r' := .tuple [.ref 20100 3 0 v7.1.length (some uC), .iface 179 (.agg [.str er4.1, .iface 106 (.agg [.int .i64 er4.2])])]) (by rw [hEer4]; rfl) (zg0 (⟨v6⟩ : Tgroup_home) a1 a2 v7 hv7))))) (fun id b h => zav [16, 8] _ id b h) (by simp) (.inr ⟨lb rfl, lb rfl⟩) ?_
 refine .rn 5 ?_
 refine .nn ?_
 refine .seq (.seq (.pl zS [6, 12, 13, 14] ?_))
 refine .cond rfl rfl (fun hc => ?_) (fun hc => by cases hc)
 refine .sp [6, 14] ?_
 obtain rfl := sj h
 refine .ret ⟨st13 ((⟨(⟨0, [], []⟩ : TSkeen), (⟨[], []⟩ : TStream), []⟩ : THome), [], (some er4)), ?_, .inr rfl, retH [1, 0] ?_ ?_⟩
 refine .n0 1 3 ?_
 refine .n0 3 68 ?_
 refine .boxs 2 _ [.int .i64 0, .imm 7 [] 13, .imm 2 [] 13, .imm 4 [] 13, .imm 1 [] 13, .ref 33 1 0 0 (some uC)] rfl (.keep (.cons (.nil12 _ _ 0 (by decide)) (.cons (.nil12 _ _ 0 (by decide)) (.cons (.nil12 _ _ 0 (by decide)) (.cons (.nil12 _ _ 0 (by decide)) (.cons (.own0 33 _ _ _ (by decide)) (.refl _))))))) ?_
 refine .w0 7 34 3 ?_
 exact .m [6, 7, 8] [33, 34, 2] [(33, 0), (34, 1)]
 exact rsi0
 rfl
 rw [hEer3] at h
 dsimp only at h
 refine .sr [1, 3, 5, 6] ?_
 refine .rn 1 ?_
 refine .cl (zfz a2 v4 hv4) ?_
 refine .rn 0 ?_
 refine .call rfl rfl rfl rfl rfl rfl (zh7 (r' := .iface 179 (.agg [.str er3.1, .iface 106 (.agg [.int .i64 er3.2])])) (by rw [hEer3]; rfl) (zdv [99, 111, 109, 109, 97, 110, 100] v4 v5 hv5)) ?_
 refine .rn 1 ?_
 refine .nn ?_
 refine .sp [1, 3, 5, 6, 11] ?_
 refine .cond rfl rfl (fun hc => ?_) (fun hc => by cases hc)
 refine .sp [6, 11] ?_
 obtain rfl := sj h
 refine .ret ⟨st13 ((⟨(⟨0, [], []⟩ : TSkeen), (⟨[], []⟩ : TStream), []⟩ : THome), [], (some er3)), ?_, .inr rfl, retH [1, 0] ?_ ?_⟩
 refine .n0 1 3 ?_
 refine .n0 3 68 ?_
 refine .boxs 2 _ [.int .i64 0, .imm 7 [] 13, .imm 2 [] 13, .imm 4 [] 13, .imm 1 [] 13, .ref 3 1 0 0 (some uC)] rfl (.keep (.cons (.nil12 _ _ 0 (by decide)) (.cons (.nil12 _ _ 0 (by decide)) (.cons (.nil12 _ _ 0 (by decide)) (.cons (.nil12 _ _ 0 (by decide)) (.cons (.own0 3 _ _ _ (by decide)) (.refl _))))))) ?_
 refine .w0 7 4 3 ?_
 exact .m [6, 7, 8] [3, 4, 2] [(3, 0), (4, 1)]
 exact rsi0
 rfl
 rw [hEer2] at h
 dsimp only at h
 refine .sr [1, 3, 5, 6] ?_
 refine .rn 1 ?_
 refine .call rfl rfl rfl rfl rfl rfl (zh7 (r' := .iface 179 (.agg [.str er2.1, .iface 106 (.agg [.int .i64 er2.2])])) (by rw [hEer2]; rfl) (zgq a1 v3 hv3)) ?_
 refine .rn 1 ?_
 refine .nn ?_
 refine .sp [1, 3, 5, 6, 10] ?_
 refine .cond rfl rfl (fun hc => ?_) (fun hc => by cases hc)
 refine .sp [6, 10] ?_
 obtain rfl := sj h
 refine .ret ⟨st13 ((⟨(⟨0, [], []⟩ : TSkeen), (⟨[], []⟩ : TStream), []⟩ : THome), [], (some er2)), ?_, .inr rfl, retH [1, 0] ?_ ?_⟩
 refine .n0 1 3 ?_
 refine .n0 3 68 ?_
 refine .boxs 2 _ [.int .i64 0, .imm 7 [] 13, .imm 2 [] 13, .imm 4 [] 13, .imm 1 [] 13, .ref 3 1 0 0 (some uC)] rfl (.keep (.cons (.nil12 _ _ 0 (by decide)) (.cons (.nil12 _ _ 0 (by decide)) (.cons (.nil12 _ _ 0 (by decide)) (.cons (.nil12 _ _ 0 (by decide)) (.cons (.own0 3 _ _ _ (by decide)) (.refl _))))))) ?_
 refine .w0 7 4 3 ?_
 exact .m [6, 7, 8] [3, 4, 2] [(3, 0), (4, 1)]
 exact rsi0
 rfl
 rw [hEer1] at h
 dsimp only at h
 refine .sr [1, 3, 5, 6] ?_
 refine .rn 1 ?_
 refine .cl (zl3 a0 v1 hv1) ?_
 refine .rn 0 ?_
 refine .call rfl rfl rfl rfl rfl rfl (zh7 (r' := .iface 179 (.agg [.str er1.1, .iface 106 (.agg [.int .i64 er1.2])])) (by rw [hEer1]; rfl) (zdv [99, 104, 101, 99, 107] v1 v2 hv2)) ?_
 refine .rn 1 ?_
 refine .nn ?_
 refine .sp [1, 3, 5, 6, 9] ?_
 refine .cond rfl rfl (fun hc => ?_) (fun hc => by cases hc)
 refine .sp [6, 9] ?_
 obtain rfl := sj h
 refine .ret ⟨st13 ((⟨(⟨0, [], []⟩ : TSkeen), (⟨[], []⟩ : TStream), []⟩ : THome), [], (some er1)), ?_, .inr rfl, retH [1, 0] ?_ ?_⟩
 refine .n0 1 3 ?_
 refine .n0 3 68 ?_
 refine .boxs 2 _ [.int .i64 0, .imm 7 [] 13, .imm 2 [] 13, .imm 4 [] 13, .imm 1 [] 13, .ref 3 1 0 0 (some uC)] rfl (.keep (.cons (.nil12 _ _ 0 (by decide)) (.cons (.nil12 _ _ 0 (by decide)) (.cons (.nil12 _ _ 0 (by decide)) (.cons (.nil12 _ _ 0 (by decide)) (.cons (.own0 3 _ _ _ (by decide)) (.refl _))))))) ?_
 refine .w0 7 4 3 ?_
 exact .m [6, 7, 8] [3, 4, 2] [(3, 0), (4, 1)]
 exact rsi0
 rfl
@[go_sem] def st9 (r : THome × (List TTook) × Int) : St := ⟨[(6, .ptr 2 0), (7, .ref 1 3 0 r.2.1.length (some uC)), (8, .int .i64 r.2.2)], [(0, .arr 3 1 true (r.1.Last.map (D.int .i64))), (1, .arr 68 3 true (r.2.1.map TTook.d)), (2, .box [.int .i64 r.1.Skeen.Clock, .imm 7 (r.1.Skeen.Waits.map TWait.d) 13, .imm 2 (r.1.Skeen.Done.map TStamp.d) 13, .imm 4 (r.1.Stream.Topics.map TTopic.d) 13, .imm 1 (r.1.Stream.Commits.map dL_inti64) 13, .ref 0 1 0 r.1.Last.length (some uC)])], 3⟩
theorem zie (a0 : THome) (a1 : Int) (a2 : TCommand) (r : THome × (List TTook) × Int) (h : zho a0 a1 a2 = some r) : zby Tryz.prog 11 [.agg [.int .i64 a0.Skeen.Clock, .imm 7 (a0.Skeen.Waits.map TWait.d) 4, .imm 2 (a0.Skeen.Done.map TStamp.d) 4, .imm 4 (a0.Stream.Topics.map TTopic.d) 4, .imm 1 (a0.Stream.Commits.map dL_inti64) 4, .imm 1 (a0.Last.map (D.int .i64)) 4], .int .i64 a1, .agg [.int .u8 a2.Kind, .int .i64 a2.Message.Id, .imm 1 (a2.Message.Groups.map (D.int .i64)) 4, .int .i64 a2.Message.Topic, .str a2.Message.Key, .str a2.Message.Body, .int .i64 a2.Id, .int .i64 a2.Time, .imm 1 (a2.Members.map (D.int .i64)) 4, .int .i64 a2.Topic, .int .i64 a2.Who, .int .i64 a2.N]] [] (.tuple [.agg [.int .i64 r.1.Skeen.Clock, .imm 7 (r.1.Skeen.Waits.map TWait.d) 13, .imm 2 (r.1.Skeen.Done.map TStamp.d) 13, .imm 4 (r.1.Stream.Topics.map TTopic.d) 13, .imm 1 (r.1.Stream.Commits.map dL_inti64) 13, .ref 0 1 0 r.1.Last.length (some uC)], .ref 1 3 0 r.2.1.length (some uC), .int .i64 r.2.2]) [(0, some (.arr 3 1 true (r.1.Last.map (D.int .i64)))), (1, some (.arr 68 3 true (r.2.1.map TTook.d)))] (0, 77) := by
 refine zcu Tryz.func11 ?_
 intro hwf
 unfold zho at h
 refine .ends 0 (za4 _) ?_
 refine .sp [0, 1, 2] ?_
 obtain ⟨v1, hv1, h⟩ := za2 h
 rcases zhi v1.2.2 with hEer1 | ⟨er1, hEer1⟩
 rw [hEer1] at h
 dsimp only at h
 refine .sr [1, 3, 5, 6] ?_
 refine .rn 3 ?_
 refine .ncall (r := .tuple [.agg [.int .i64 v1.1.Skeen.Clock, .imm 7 (v1.1.Skeen.Waits.map TWait.d) 13, .imm 2 (v1.1.Skeen.Done.map TStamp.d) 13, .imm 4 (v1.1.Stream.Topics.map TTopic.d) 13, .imm 1 (v1.1.Stream.Commits.map dL_inti64) 13, .ref 37 1 0 v1.1.Last.length (some uC)], .ref 38 3 0 v1.2.1.length (some uC), .nilIface]) (eff := [(37, some (.arr 3 1 true (v1.1.Last.map (D.int .i64)))), (38, some (.arr 68 3 true (v1.2.1.map TTook.d)))]) (nw := (37, 74)) [] rfl rfl rfl rfl rfl (za9 rfl (za9 rfl (za9 rfl zap))) rfl (zdt 37 (lb rfl) (zn4 (r' := .tuple [.agg [.int .i64 v1.1.Skeen.Clock, .imm 7 (v1.1.Skeen.Waits.map TWait.d) 13, .imm 2 (v1.1.Skeen.Done.map TStamp.d) 13, .imm 4 (v1.1.Stream.Topics.map TTopic.d) 13, .imm 1 (v1.1.Stream.Commits.map dL_inti64) 13, .ref 0 1 0 v1.1.Last.length (some uC)], .ref 1 3 0 v1.2.1.length (some uC), .nilIface]) (by rw [hEer1]; rfl) (zl7 a0 a1 a2 v1 hv1))) (zc4 rfl rfl (ze4 zd1 _ _ _) (zc4 rfl rfl (ze4 zkp _ _ _) ze8)) (by intro i hi; simp [D.ids, D.idsL] at hi <;> omega) rfl ⟨lb rfl, lb rfl⟩ ?_
 refine .rn 8 ?_
 refine .nn ?_
 obtain ⟨v2, hv2, h⟩ := za2 h
 refine .sr [6, 9, 10, 11] ?_
 refine .rd 3 ?_
 refine .cl (zhu none v2 hv2) ?_
 refine .rd 3 ?_
 refine .nd ?_
 obtain rfl := sj h
 refine .ret ⟨st9 (v1.1, v1.2.1, v2), ?_, .inr rfl, retH [1, 0] ?_ ?_⟩
 exact .m [6, 7, 8] [37, 38, 2] [(37, 0), (38, 1)]
 exact rsi0
 rfl
 rw [hEer1] at h
 dsimp only at h
 refine .sr [1, 3, 5, 6] ?_
 refine .rn 3 ?_
 refine .ncall (r := .tuple [.agg [.int .i64 v1.1.Skeen.Clock, .imm 7 (v1.1.Skeen.Waits.map TWait.d) 13, .imm 2 (v1.1.Skeen.Done.map TStamp.d) 13, .imm 4 (v1.1.Stream.Topics.map TTopic.d) 13, .imm 1 (v1.1.Stream.Commits.map dL_inti64) 13, .ref 37 1 0 v1.1.Last.length (some uC)], .ref 38 3 0 v1.2.1.length (some uC), .iface 179 (.agg [.str er1.1, .iface 106 (.agg [.int .i64 er1.2])])]) (eff := [(37, some (.arr 3 1 true (v1.1.Last.map (D.int .i64)))), (38, some (.arr 68 3 true (v1.2.1.map TTook.d)))]) (nw := (37, 74)) [] rfl rfl rfl rfl rfl (za9 rfl (za9 rfl (za9 rfl zap))) rfl (zdt 37 (lb rfl) (zn4 (r' := .tuple [.agg [.int .i64 v1.1.Skeen.Clock, .imm 7 (v1.1.Skeen.Waits.map TWait.d) 13, .imm 2 (v1.1.Skeen.Done.map TStamp.d) 13, .imm 4 (v1.1.Stream.Topics.map TTopic.d) 13, .imm 1 (v1.1.Stream.Commits.map dL_inti64) 13, .ref 0 1 0 v1.1.Last.length (some uC)], .ref 1 3 0 v1.2.1.length (some uC), .iface 179 (.agg [.str er1.1, .iface 106 (.agg [.int .i64 er1.2])])]) (by rw [hEer1]; rfl) (zl7 a0 a1 a2 v1 hv1))) (zc4 rfl rfl (ze4 zd1 _ _ _) (zc4 rfl rfl (ze4 zkp _ _ _) ze8)) (by intro i hi; simp [D.ids, D.idsL] at hi <;> omega) rfl ⟨lb rfl, lb rfl⟩ ?_
 refine .rn 8 ?_
 refine .nn ?_
 obtain ⟨v3, hv3, h⟩ := za2 h
 refine .sr [6, 9, 10, 11] ?_
 refine .rd 3 ?_
 refine .cl (zhu (some er1) v3 hv3) ?_
 refine .rd 3 ?_
 refine .nd ?_
 obtain rfl := sj h
 refine .ret ⟨st9 (v1.1, v1.2.1, v3), ?_, .inr rfl, retH [1, 0] ?_ ?_⟩
 exact .m [6, 7, 8] [37, 38, 2] [(37, 0), (38, 1)]
 exact rsi0
 rfl
end Go.Proofs
namespace Go.Proofs
open Go.Tm
set_option linter.unusedVariables false
def zen : Nat -> (List (List Int)) -> Int -> Option ((List (List Int)))
 | 0, _, _ => none
 | fu1 + 1, l2, n1 =>
  if n1 < 4 then
  if l2.length + [((List.replicate 8 0).take 8)].length < 1000000 then
  zen fu1 (l2 ++ [((List.replicate 8 0).take 8)]) (wr .i64 (n1 + 1))
  else none
  else
  some l2
def zj8 : Option ((List (List Int))) :=
 Option.bind (α := (List (List Int))) (zen (5) [] 0) fun l1 =>
 some l1
def zf1 : Nat -> (List TTopic) -> Int -> Option ((List TTopic))
 | 0, _, _ => none
 | fu1 + 1, l2, n1 =>
  if n1 < 4 then
  Option.bind (zld ) fun v2 =>
  if l2.length + [v2].length < 1000000 then
  zf1 fu1 (l2 ++ [v2]) (wr .i64 (n1 + 1))
  else none
  else
  some l2
def zk9 : Option TStream :=
 Option.bind (zj8 ) fun v1 =>
 Option.bind (α := (List TTopic)) (zf1 (5) [] 0) fun l1 =>
 some (⟨l1, v1⟩ : TStream)
def zfu : Option THome :=
 Option.bind (zi7 ) fun v1 =>
 Option.bind (zk9 ) fun v2 =>
 some (⟨v1, v2, ((List.replicate 6 0).take 6)⟩ : THome)
def zcx (a0 : Int) : Option TCommand :=
 some (⟨4, (⟨0, [], 0, [], []⟩ : TMessage), a0, 0, [], 0, 0, 0⟩ : TCommand)
def zep : Option Bool :=
 Option.bind (zfu ) fun v1 =>
 Option.bind (zcx 5) fun v2 =>
 Option.bind (zho v1 0 v2) fun v3 =>
 Option.bind (zcx 5) fun v4 =>
 Option.bind (zho v3.1 0 v4) fun v5 =>
 Option.bind (zcx 4) fun v6 =>
 Option.bind (zho v3.1 0 v6) fun v7 =>
 if ((((v3.2.2 = 0) /\ (v5.2.2 = 0)) /\ (v7.2.2 = 0)) /\ ((v3.1.Last.length : Int) = 6)) -> 0 < v3.1.Last.length then
 if (((((v3.2.2 = 0) /\ (v5.2.2 = 0)) /\ (v7.2.2 = 0)) /\ ((v3.1.Last.length : Int) = 6)) /\ ((v3.1.Last.getD 0 default) = 6)) -> 1 < v3.1.Last.length then
 Option.bind (if (((((v3.2.2 = 0) /\ (v5.2.2 = 0)) /\ (v7.2.2 = 0)) /\ ((v3.1.Last.length : Int) = 6)) /\ ((v3.1.Last.getD 0 default) = 6)) /\ ((v3.1.Last.getD 1 default) = 0) then zka v3.1 v5.1 else some default) fun v8 =>
 Option.bind (if ((((((v3.2.2 = 0) /\ (v5.2.2 = 0)) /\ (v7.2.2 = 0)) /\ ((v3.1.Last.length : Int) = 6)) /\ ((v3.1.Last.getD 0 default) = 6)) /\ ((v3.1.Last.getD 1 default) = 0)) /\ (v8 = true) then zka v3.1 v7.1 else some default) fun v9 =>
 some ((((((((v3.2.2 == 0) && (v5.2.2 == 0)) && (v7.2.2 == 0)) && ((v3.1.Last.length : Int) == 6)) && ((v3.1.Last.getD 0 default) == 6)) && ((v3.1.Last.getD 1 default) == 0)) && v8) && v9)
 else none
 else none
end Go.Proofs
