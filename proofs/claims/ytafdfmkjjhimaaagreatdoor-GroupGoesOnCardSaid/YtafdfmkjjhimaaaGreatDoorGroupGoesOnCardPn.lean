/- Texts of the proof. -/
import Derived.Test.YtafdfmkjjhimaaaGreatDoorGroupGoesOnCardPg
import Derived.Test.YtafdfmkjjhimaaaGreatDoorGroupGoesOnCardPi
import Derived.Test.YtafdfmkjjhimaaaGreatDoorGroupGoesOnCardPj
import Derived.Test.YtafdfmkjjhimaaaGreatDoorGroupGoesOnCardPl
import Derived.Test.YtafdfmkjjhimaaaGreatDoorGroupGoesOnCardPm
import Derived.Test.YtafdfmkjjhimaaaGreatDoorGroupGoesOnCardPf
import Derived.Test.YtafdfmkjjhimaaaGreatDoorGroupGoesOnCardPh
section
namespace Go.Proofs
open Go.Tm Go.RowKit Go.WideShapes
set_option maxRecDepth 100000
set_option maxHeartbeats 4000000
set_option linter.unusedSimpArgs false
set_option linter.unusedVariables false
@[go_sem] def ya56 (v3 : THome × (List TTook) × Int) (n1 : Int) (l1 : List TWait) (l2 : List TStamp) (l3 : List TTopic) (l4 : List (List Int)) (l5 : List Int) (l6 : List TTook) : St := ⟨[(6, .ptr 0 0), (7, .imm 3 (v3.2.1.map TTook.d) 13), (11, .ptr 1 0), (12, .ref 2 3 0 l6.length (some uC))], [(0, .box [.int .i64 v3.1.Skeen.Clock, .imm 7 (v3.1.Skeen.Waits.map TWait.d) 13, .imm 2 (v3.1.Skeen.Done.map TStamp.d) 13, .imm 4 (v3.1.Stream.Topics.map TTopic.d) 13, .imm 1 (v3.1.Stream.Commits.map dL_inti64) 13, .imm 1 (v3.1.Last.map (D.int .i64)) 13]), (1, .box [.int .i64 n1, .imm 7 (l1.map TWait.d) 13, .imm 2 (l2.map TStamp.d) 13, .imm 4 (l3.map TTopic.d) 13, .imm 1 (l4.map dL_inti64) 13, .imm 1 (l5.map (D.int .i64)) 13]), (2, .arr 68 3 true (l6.map TTook.d))], 3⟩
@[go_sem] def ya55 (a0 : Int) (v3 : THome × (List TTook) × Int) (v4 : (List TCommand) × Int) (n2 : Int) (l7 : List TWait) (l8 : List TStamp) (l9 : List TTopic) (l10 : List (List Int)) (l11 : List Int) (l12 : List TTook) (n3 : Int) : St := ⟨[(0, .int .i64 a0), (6, .ptr 0 0), (7, .imm 3 (v3.2.1.map TTook.d) 13), (9, .imm 12 (v4.1.map TCommand.d) 13), (11, .ptr 1 0), (12, .ref 2 3 0 l12.length (some uC)), (13, .int .i64 n3)], [(0, .box [.int .i64 v3.1.Skeen.Clock, .imm 7 (v3.1.Skeen.Waits.map TWait.d) 13, .imm 2 (v3.1.Skeen.Done.map TStamp.d) 13, .imm 4 (v3.1.Stream.Topics.map TTopic.d) 13, .imm 1 (v3.1.Stream.Commits.map dL_inti64) 13, .imm 1 (v3.1.Last.map (D.int .i64)) 13]), (1, .box [.int .i64 n2, .imm 7 (l7.map TWait.d) 13, .imm 2 (l8.map TStamp.d) 13, .imm 4 (l9.map TTopic.d) 13, .imm 1 (l10.map dL_inti64) 13, .imm 1 (l11.map (D.int .i64)) 13]), (2, .arr 68 3 true (l12.map TTook.d))], 3⟩
@[go_sem] def ya54 (a0 : Int) (v3 : THome × (List TTook) × Int) (v4 : (List TCommand) × Int) (n3 : Int) (n4 : Int) (l13 : List TWait) (l14 : List TStamp) (l15 : List TTopic) (l16 : List (List Int)) (l17 : List Int) (l18 : List TTook) : St := ⟨[(0, .int .i64 a0), (6, .ptr 0 0), (7, .imm 3 (v3.2.1.map TTook.d) 13), (9, .imm 12 (v4.1.map TCommand.d) 13), (11, .ptr 1 0), (12, .ref 3 3 0 l18.length (some uC)), (13, .int .i64 n3)], [(0, .box [.int .i64 v3.1.Skeen.Clock, .imm 7 (v3.1.Skeen.Waits.map TWait.d) 13, .imm 2 (v3.1.Skeen.Done.map TStamp.d) 13, .imm 4 (v3.1.Stream.Topics.map TTopic.d) 13, .imm 1 (v3.1.Stream.Commits.map dL_inti64) 13, .imm 1 (v3.1.Last.map (D.int .i64)) 13]), (1, .box [.int .i64 n4, .imm 7 (l13.map TWait.d) 13, .imm 2 (l14.map TStamp.d) 13, .imm 4 (l15.map TTopic.d) 13, .imm 1 (l16.map dL_inti64) 13, .imm 1 (l17.map (D.int .i64)) 13]), (3, .arr 68 3 true (l18.map TTook.d))], 4⟩
theorem zhg (a0 : Int) (a1 : List (List UInt8)) (r : Bool) (h : zcx a0 a1 = some r) : zap Tryz.prog 6 [.int .i64 a0, .imm 1 (a1.map D.str) 4] (.bool r) := by
 refine za3 Tryz.tmOk 7 Tryz.func6 rfl (by decide) rfl rfl (lb rfl) ?_
 intro hwf
 unfold zcx at h
 refine .seq (.pl zS [0, 1] ?_)
 obtain ⟨v1, hv1, h⟩ := bind_some h
 obtain ⟨k1, h⟩ := zat h
 refine .seq (.rg zS [0, 1] ?_)
 refine .cl (zjk  v1 hv1 k1) ?_
 refine .rn 1 ?_
 refine .nn ?_
 refine .seq ?_
 obtain ⟨v2, hv2, h⟩ := bind_some h
 refine .seq (.rg zS [0, 1, 5] ?_)
 refine .rn 1 ?_
 refine .cl (zjx a1 v2 hv2) ?_
 refine .rn 4 ?_
 refine .nn ?_
 refine .cd (fun hc1 => ?_) (fun hc1 => ?_)
 replace h := za4 h hc1
 refine .seq (.pl zS [5] ?_)
 obtain rfl := sj h
 exact .rr
 replace h := za7 h hc1
 refine .skip ?_
 obtain ⟨v3, hv3, h⟩ := bind_some h
 refine .seq (.rg zS [0, 1] ?_)
 refine .rn 2 ?_
 refine .cl (zph a0 a1 v3 hv3) ?_
 refine .rn 8 ?_
 refine .nn ?_
 obtain ⟨v4, hv4, h⟩ := bind_some h
 refine .seq (.rg zS [0, 1, 6, 7, 8] ?_)
 refine .rn 1 ?_
 refine .cl (zjt a1 v4 hv4) ?_
 refine .rn 5 ?_
 refine .nn ?_
 refine .seq (.seq (.pl zS [0, 6, 7, 8, 9, 10] ?_))
 refine .cd (fun hc2 => ?_) (fun hc2 => ?_)
 replace h := za4 h hc2
 refine .seq (.pl zS [7, 8] ?_)
 obtain rfl := sj h
 exact .rr
 replace h := za7 h hc2
 refine .skip ?_
 obtain ⟨v5, hv5, h⟩ := bind_some h
 refine .seq (.rg zS [0, 6, 7, 9] ?_)
 refine .cl (zrw  v5 hv5) ?_
 refine .rn 2 ?_
 refine .nn ?_
 refine .seq (.pl zS [0, 6, 7, 9, 11] ?_)
 obtain ⟨x1, hx1, h⟩ := bind_some h
 refine .seqM 2 (fun (j : Int × (List TWait) × (List TStamp) × (List TTopic) × (List (List Int)) × (List Int) × (List TTook)) => ya56 v3 j.1 j.2.1 j.2.2.1 j.2.2.2.1 j.2.2.2.2.1 j.2.2.2.2.2.1 j.2.2.2.2.2.2) (fun j => x1 = j) (lb rfl) ?_ ?_
 refine .seq (.pl zS [0, 6, 7, 9, 11, 12] ?_)
 refine .block ?_
 refine .loopG 2 (fun (j : Nat × Int × (List TWait) × (List TStamp) × (List TTopic) × (List (List Int)) × (List Int) × (List TTook) × Int) => ya55 a0 v3 v4 j.2.1 j.2.2.1 j.2.2.2.1 j.2.2.2.2.1 j.2.2.2.2.2.1 j.2.2.2.2.2.2.1 j.2.2.2.2.2.2.2.1 j.2.2.2.2.2.2.2.2) (fun j => zaj a0 v4 j.1 j.2.1 j.2.2.1 j.2.2.2.1 j.2.2.2.2.1 j.2.2.2.2.2.1 j.2.2.2.2.2.2.1 j.2.2.2.2.2.2.2.1 j.2.2.2.2.2.2.2.2 = some x1) (fun j => j.1) (201, v5.Skeen.Clock, v5.Skeen.Waits, v5.Skeen.Done, v5.Stream.Topics, v5.Stream.Commits, v5.Last, [], 0) (lb rfl) ?_ hx1 ?_
 refine Goes.new0 3 68 (lb rfl) ?_
 refine Goes.wk 12 _ (.ref 2 3 0 0 (some uC)) rfl (.own0 2 _ _ _ (by decide)) ?_
 exact .m [0, 6, 7, 9, 11, 12, 13] [0, 1, 2] []
 rintro ⟨fu1, n2, l7, l8, l9, l10, l11, l12, n3⟩ hx1
 simp only [ya55]
 try simp only at hx1
 obtain ⟨fu1, rfl⟩ : ∃ k, fu1 = k + 1 := by cases fu1 with | zero => (rw [zaj] at hx1; cases hx1) | succ k => exact ⟨k, rfl⟩
 rw [zaj] at hx1
 refine .seq (.seq (.pl zS [0, 6, 7, 9, 11, 12, 13] ?_))
 refine .cd (fun hc3 => ?_) (fun hc3 => ?_)
 replace hx1 := za4 hx1 hc3
 refine .skip ?_
 obtain ⟨x2, hx2, hx1⟩ := bind_some hx1
 refine .seqM 3 (fun (j : Int × (List TWait) × (List TStamp) × (List TTopic) × (List (List Int)) × (List Int) × (List TTook)) => ya54 a0 v3 v4 n3 j.1 j.2.1 j.2.2.1 j.2.2.2.1 j.2.2.2.2.1 j.2.2.2.2.2.1 j.2.2.2.2.2.2) (fun j => x2 = j) (lb rfl) ?_ ?_
 refine .block (.seq ?_)
 obtain ⟨k2, hx2⟩ := zat hx2
 obtain ⟨v6, hv6, hx2⟩ := bind_some hx2
 have e1 := zbq TCommand.d v4.1 n3
 replace e1 := e1 k2
 refine .rg zS [0, 6, 7, 9, 11, 12, 13] ?_
 refine .rdx 6 e1 ?_
 refine .call rfl rfl rfl rfl rfl rfl (zha (WkL.cons (Wk.agg (WkL.cons (Wk.refl _) (WkL.cons Wk.iz (WkL.cons Wk.iz (WkL.cons Wk.iz (WkL.cons Wk.iz (WkL.cons Wk.iz (WkL.refl _)))))))) (WkL.cons (Wk.refl _) (WkL.cons (Wk.refl _) (WkL.refl _)))) (zov (⟨(⟨n2, l7, l8⟩ : TSkeen), (⟨l9, l10⟩ : TStream), l11⟩ : THome) a0 (v4.1.getD n3.toNat default) v6 hv6)) ?_
 refine .rdx 8 e1 ?_
 refine .nd ?_
 refine .seq (.pl zS [0, 6, 7, 9, 11, 12, 13, 14, 15, 16] ?_)
 refine .cd (fun hc4 => ?_) (fun hc4 => ?_)
 replace hx2 := za4 hx2 hc4
 refine .seq (.pl zS [0, 6, 7, 9, 11, 12, 13, 14, 15] ?_)
 obtain ⟨k3, hx2⟩ := zat hx2
 refine .pl zS [0, 6, 7, 9, 11, 12, 13, 15] ?_
 refine ⟨_, ?_, (sj hx2).symm⟩
 exact .m [0, 6, 7, 9, 11, 12, 13] [0, 1, 4] [(4, 3)]
 replace hx2 := za7 hx2 hc4
 refine .skip ?_
 refine ⟨_, ?_, (sj hx2).symm⟩
 exact .m [0, 6, 7, 9, 11, 12, 13] [0, 1, 2] [(2, 3)]
 rintro ⟨n4, l13, l14, l15, l16, l17, l18⟩ hj1
 subst x2
 try dsimp only at hx1
 simp only [ya54]
 refine .pl zS [0, 6, 7, 9, 11, 12, 13] ?_
 refine ⟨(fu1, _, _, _, _, _, _, _, _), ?_, hx1, by dsimp only; omega⟩
 exact .m [0, 6, 7, 9, 11, 12, 13] [0, 1, 3] [(3, 2)]
 replace hx1 := za7 hx1 hc3
 refine .exit ?_
 refine ⟨_, ?_, (sj hx1).symm⟩
 exact .m [6, 7, 11, 12] [0, 1, 2] []
 rintro ⟨n1, l1, l2, l3, l4, l5, l6⟩ hj2
 subst x1
 try dsimp only at h
 simp only [ya56]
 obtain ⟨v7, hv7, h⟩ := bind_some h
 obtain ⟨v8, hv8, h⟩ := bind_some h
 obtain ⟨v9, hv9, h⟩ := bind_some h
 refine .seq (.rg zS [6, 7, 11, 12] ?_)
 refine .rn 2 ?_
 refine .call rfl rfl rfl rfl rfl rfl (zha (WkL.cons (Wk.agg (WkL.cons (Wk.refl _) (WkL.cons Wk.iz (WkL.cons Wk.iz (WkL.cons Wk.iz (WkL.cons Wk.iz (WkL.cons Wk.iz (WkL.refl _)))))))) (WkL.cons (Wk.agg (WkL.cons (Wk.refl _) (WkL.cons Wk.iz (WkL.cons Wk.iz (WkL.cons Wk.iz (WkL.cons Wk.iz (WkL.cons Wk.iz (WkL.refl _)))))))) (WkL.refl _))) (zig (⟨(⟨n1, l1, l2⟩ : TSkeen), (⟨l3, l4⟩ : TStream), l5⟩ : THome) v3.1 v7 hv7)) ?_
 refine .rn 3 ?_
 refine .glcall (r := .bool v8) [] rfl rfl rfl rfl rfl (fun hg => ⟨[], [.ref 2 3 0 l6.length (some uC), .imm 3 (v3.2.1.map TTook.d) 13], _, rfl, gd hg, (za2 (zgp (zeq zxb (by first | rfl | (simp only [go_sem, Nat.reduceBEq]; rfl)) (by first | rfl | (simp; done) | (simp <;> omega))) trivial) (za2 rfl za8)), rfl, (zha (WkL.cons (Wk.refl _) (WkL.cons Wk.iz (WkL.refl _))) (zid l6 v3.2.1 v8 (za4 hv8 hg)))⟩) ?_
 refine .rn 3 ?_
 refine .gcall rfl rfl rfl rfl rfl (fun hg => ⟨[], [.agg [.int .i64 v3.1.Skeen.Clock, .imm 7 (v3.1.Skeen.Waits.map TWait.d) 13, .imm 2 (v3.1.Skeen.Done.map TStamp.d) 13, .imm 4 (v3.1.Stream.Topics.map TTopic.d) 13, .imm 1 (v3.1.Stream.Commits.map dL_inti64) 13, .imm 1 (v3.1.Last.map (D.int .i64)) 13]], _, rfl, gd hg, rfl, (zha (WkL.cons (Wk.agg (WkL.cons (Wk.refl _) (WkL.cons Wk.iz (WkL.cons Wk.iz (WkL.cons Wk.iz (WkL.cons Wk.iz (WkL.cons Wk.iz (WkL.refl _)))))))) (WkL.refl _)) (zht v3.1 v9 (za4 hv9 hg)))⟩) ?_
 refine .rn 3 ?_
 refine .nn ?_
 obtain rfl := sj h
 exact .rr
end Go.Proofs
end
section
namespace Go.Proofs
open Go.Tm
set_option linter.unusedVariables false
open Classical
theorem wrk (x : Int) (h : -9000000000000000000 <= x /\ x <= 9000000000000000000) : wr .i64 x = x := zkk _ _ (by show (-9223372036854775808 : Int) <= _; omega) (by show _ <= (9223372036854775807 : Int); omega)
def EnOk (x : TEntry) : Prop := (((x.Id >= 0) /\ (x.Id < 6291456)) /\ ((x.Key.length : Int) <= 16)) /\ ((x.Body.length : Int) <= 64)
theorem zy2 (x : TEntry) : zg5 x = some (decide (EnOk x)) := by
 unfold zg5 EnOk
 simp only [Bool.decide_and]
def EsP (mark next : Int) : List TEntry -> List (List UInt8) -> Int -> Prop
 | [], _, _ => True
 | y :: r, seen, last => EnOk y /\ last < y.Offset /\ y.Offset < next /\ y.Offset <= max (last + 1) mark /\ (y.Offset < mark -> y.Key ∉ seen) /\ EsP mark next r (if y.Offset < mark then y.Key :: seen else seen) y.Offset
def zhf : Int -> List TEntry -> Int
 | last, [] => last
 | _, y :: r => zhf y.Offset r
structure TOk (t : TTopic) : Prop where
 n0 : 0 <= t.Next
 n1 : t.Next <= 1073741824
 b0 : 0 <= t.Base
 b1 : t.Base <= t.Next
 m0 : 0 <= t.Mark
 m1 : t.Mark <= t.Next
 len : (t.Entries.length : Int) <= 200
 es : EsP t.Mark t.Next t.Entries [] (t.Base - 1)
 en : max (zhf (t.Base - 1) t.Entries + 1) t.Mark = t.Next
theorem zoh {α : Type} [DecidableEq α] (k j : α) : ∀ m : List (α × Int), mget j (mput k 1 m) = if j = k then some 1 else mget j m
 | [] => by simp only [mput, mget]
 | x :: l => by
  simp only [mput]
  by_cases h : k = x.1
  rw [if_pos h]
  simp only [mget]
  by_cases e : j = k
  rw [if_pos e, if_pos e]
  rw [if_neg e, if_neg e, if_neg (by rw [<- h]; exact e)]
  rw [if_neg h]
  simp only [mget, zoh k j l]
  by_cases e : j = x.1
  rw [if_pos e, if_pos e, if_neg (by rw [e]; exact Ne.symm h)]
  rw [if_neg e, if_neg e]
theorem ya3i (t : TTopic) (hn : t.Next <= 1073741824) : ∀ (l : List TEntry) (m : List (List UInt8 × Int)) (seen : List (List UInt8)) (last : Int), -1 <= last -> last <= 1073741824 -> (∀ k, (mget k m).getD 0 > 0 ↔ k ∈ seen) ->
  zc3 t l m last = some (if EsP t.Mark t.Next l seen last then .inr (zhf last l) else .inl 8)
 | [], m, seen, last, _, _, _ => by simp [zc3, EsP, zhf]
 | y :: r, m, seen, last, h1, h2, hs => by
  simp only [zc3, zy2, Option.bind_some, wrk (last + 1) (by omega), decide_eq_true_eq, hs]
  by_cases hc : (((¬ EnOk y \/ y.Offset <= last) \/ y.Offset >= t.Next) \/ y.Offset > max (last + 1) t.Mark) \/ y.Offset < t.Mark /\ y.Key ∈ seen
  rw [if_pos hc, if_neg]
  simp only [EsP]
  rintro ⟨k1, k2, k3, k4, k5, _⟩
  rcases hc with (((h | h) | h) | h) | ⟨h, h'⟩
  exact h k1
  omega
  omega
  omega
  exact k5 h h'
  rw [if_neg hc]
  have k1 : EnOk y := Classical.byContradiction fun h => hc (.inl (.inl (.inl (.inl h))))
  have k2 : last < y.Offset := Int.not_le.1 fun h => hc (.inl (.inl (.inl (.inr h))))
  have k3 : y.Offset < t.Next := Int.not_le.1 fun h => hc (.inl (.inl (.inr h)))
  have k4 : y.Offset <= max (last + 1) t.Mark := Int.not_lt.1 fun h => hc (.inl (.inr h))
  have k5 : y.Offset < t.Mark -> y.Key ∉ seen := fun h h' => hc (.inr ⟨h, h'⟩)
  have e : EsP t.Mark t.Next (y :: r) seen last ↔ EsP t.Mark t.Next r (if y.Offset < t.Mark then y.Key :: seen else seen) y.Offset := by
   simp only [EsP]
   exact ⟨fun h => h.2.2.2.2.2, fun h => ⟨k1, k2, k3, k4, k5, h⟩⟩
  simp only [e, zhf]
  by_cases hm : y.Offset < t.Mark
  simp only [if_pos hm, Option.bind_some]
  refine ya3i t hn r _ _ _ (by omega) (by omega) fun k => ?_
  rw [zoh]
  by_cases ek : k = y.Key
  rw [if_pos ek]; simp [ek]
  rw [if_neg ek, hs]; simp [ek]
  simp only [if_neg hm, Option.bind_some]
  exact ya3i t hn r _ _ _ (by omega) (by omega) hs
theorem zx0 (t : TTopic) : zeb t = some (if TOk t then 0 else 8) := by
 unfold zeb
 by_cases hc : ((((((t.Next < 0) \/ (t.Next > 1073741824)) \/ (t.Base < 0)) \/ (t.Base > t.Next)) \/ (t.Mark < 0)) \/ (t.Mark > t.Next)) \/ ((t.Entries.length : Int) > 200)
 rw [if_pos hc, if_neg]
 intro h
 have := h.n0; have := h.n1; have := h.b0; have := h.b1; have := h.m0; have := h.m1; have := h.len
 omega
 rw [if_neg hc, wrk _ (by omega), ya3i t (by omega) t.Entries [] [] _ (by omega) (by omega) (fun k => by simp [mget])]
 simp only [Option.bind_some]
 by_cases he : EsP t.Mark t.Next t.Entries [] (t.Base - 1)
 rw [if_pos he]
 have hl : ∀ (l : List TEntry) (s : List (List UInt8)) (x : Int), EsP t.Mark t.Next l s x -> -1 <= x -> x <= 1073741824 -> -1 <= zhf x l /\ zhf x l <= 1073741824 := by
  intro l
  induction l with
  | nil => intro s x _ a b; exact ⟨a, b⟩
  | cons y r ih =>
   intro s x h a b
   simp only [EsP] at h
   exact ih _ _ h.2.2.2.2.2 (by omega) (by omega)
 have hl := hl _ _ _ he (by omega) (by omega)
 simp only [wrk _ (show -9000000000000000000 <= zhf (t.Base - 1) t.Entries + 1 /\ zhf (t.Base - 1) t.Entries + 1 <= 9000000000000000000 by omega)]
 by_cases h9 : max (zhf (t.Base - 1) t.Entries + 1) t.Mark = t.Next
 rw [if_neg (fun h => h h9), if_pos ⟨by omega, by omega, by omega, by omega, by omega, by omega, by omega, he, h9⟩]
 rw [if_pos h9, if_neg fun h => h9 h.en]
 rw [if_neg he, if_neg fun h => he h.es]
theorem EsP.mono {mark next next' : Int} (hn : next <= next') : ∀ {l : List TEntry} {s : List (List UInt8)} {x : Int}, EsP mark next l s x -> EsP mark next' l s x
 | [], _, _, h => h
 | y :: r, s, x, h => by
  simp only [EsP] at h ⊢
  exact ⟨h.1, h.2.1, by omega, h.2.2.2.1, h.2.2.2.2.1, EsP.mono hn h.2.2.2.2.2⟩
theorem EsP.less {mark next : Int} : ∀ {l : List TEntry} {s s' : List (List UInt8)} {x x' : Int}, EsP mark next l s x -> (∀ k ∈ s', k ∈ s) -> x <= x' -> (∀ y r, l = y :: r -> x' < y.Offset) -> EsP mark next l s' x'
 | [], _, _, _, _, _, _, _, _ => trivial
 | y :: r, s, s', x, x', h, hs, hx, hy => by
  simp only [EsP] at h ⊢
  obtain ⟨h1, h2, h3, h4, h5, h6⟩ := h
  refine ⟨h1, hy y r rfl, h3, by omega, fun hm hk => h5 hm (hs _ hk), ?_⟩
  refine EsP.less h6 ?_ (Int.le_refl _) ?_
  intro k hk
  split at hk
  rename_i hm
  rw [if_pos hm]
  rcases List.mem_cons.1 hk with rfl | hk
  exact List.mem_cons_self ..
  exact List.mem_cons_of_mem _ (hs _ hk)
  rename_i hm
  rw [if_neg hm]; exact hs _ hk
  rintro z q rfl
  simp only [EsP] at h6
  exact h6.2.1
theorem EsP.app {mark next : Int} (z : TEntry) (hz : EnOk z) (h1 : mark <= z.Offset) (h2 : z.Offset < next) : ∀ {l : List TEntry} {s : List (List UInt8)} {x : Int}, EsP mark next l s x -> zhf x l < z.Offset -> z.Offset <= max (zhf x l + 1) mark -> EsP mark next (l ++ [z]) s x
 | [], s, x, _, a, b => by
  simp only [List.nil_append, EsP, zhf] at a b ⊢
  exact ⟨hz, a, h2, b, fun h => absurd h (by omega), trivial⟩
 | y :: r, s, x, h, a, b => by
  simp only [List.cons_append, EsP, zhf] at h a b ⊢
  exact ⟨h.1, h.2.1, h.2.2.1, h.2.2.2.1, h.2.2.2.2.1, EsP.app z hz h1 h2 h.2.2.2.2.2 a b⟩
theorem zuv (z : TEntry) : ∀ (l : List TEntry) (x : Int), zhf x (l ++ [z]) = z.Offset
 | [], _ => rfl
 | y :: r, x => by simp only [List.cons_append, zhf]; exact zuv z r _
def addT (t : TTopic) (id : Int) (key body : List UInt8) : TTopic := ⟨t.Base, t.Next + 1, t.Mark, t.Entries ++ [⟨t.Next, id, key, body⟩]⟩
theorem TOk.add {t : TTopic} (h : TOk t) {id : Int} {key body : List UInt8} (hx : EnOk ⟨t.Next, id, key, body⟩) (h1 : t.Next ≠ 1073741824) (h2 : (t.Entries.length : Int) ≠ 200) : TOk (addT t id key body) := by
 have n0 := h.n0; have n1 := h.n1; have b0 := h.b0; have b1 := h.b1; have m0 := h.m0; have m1 := h.m1; have ln := h.len; have en := h.en
 refine ⟨by show 0 <= t.Next + 1; omega, by show t.Next + 1 <= _; omega, b0, by show t.Base <= t.Next + 1; omega, m0, by show t.Mark <= t.Next + 1; omega, ?_, ?_, ?_⟩
 simp only [addT, List.length_append, List.length_cons, List.length_nil]; omega
 refine EsP.app _ hx (by show t.Mark <= t.Next; omega) (by show t.Next < t.Next + 1; omega) (h.es.mono (by show t.Next <= t.Next + 1; omega)) ?_ ?_
 show zhf (t.Base - 1) t.Entries < t.Next; omega
 show t.Next <= max (zhf (t.Base - 1) t.Entries + 1) t.Mark; omega
 simp only [addT, zuv]; omega
theorem ya71 (t : TTopic) (id : Int) (key body : List UInt8) : ∃ r, zho t id key body = some r /\ (r.2.2 = 0 -> TOk t /\ EnOk ⟨t.Next, id, key, body⟩ /\ t.Next ≠ 1073741824 /\ (t.Entries.length : Int) ≠ 200 /\ r = (addT t id key body, t.Next, 0)) /\
  (r.2.2 ≠ 0 -> r.1 = ⟨0, 0, 0, []⟩ /\ r.2.1 = 0) /\ (TOk t -> EnOk ⟨t.Next, id, key, body⟩ -> t.Next ≠ 1073741824 -> (t.Entries.length : Int) ≠ 200 -> r.2.2 = 0) := by
 unfold zho
 rw [zx0]
 simp only [Option.bind_some]
 by_cases h : TOk t
 rw [if_pos h, if_neg (by simp)]
 have n0 := h.n0; have n1 := h.n1; have ln := h.len
 have hid : (Option.bind (α := Bool) (if id < 0 then some (decide (id < 0)) else some (decide (id >= 6291456))) fun b1 => some b1) = some (decide (id < 0 \/ id >= 6291456)) := by
  by_cases h0 : id < 0
  simp [h0]
  simp [h0]
 have hb1 : (if id < 0 then some (decide (id < 0)) else some (decide (id >= 6291456))) = some (decide (id < 0 \/ id >= 6291456)) := by
  by_cases h0 : id < 0
  simp [h0]
  simp [h0]
 have hb2 : (if t.Next = 1073741824 then some (t.Next == 1073741824) else some ((t.Entries.length : Int) == 200)) = some (decide (t.Next = 1073741824 \/ (t.Entries.length : Int) = 200)) := by
  by_cases h0 : t.Next = 1073741824
  simp [h0]
  simp [h0]
  rfl
 simp only [hb1, hb2, Option.bind_some, zy2, decide_eq_true_eq]
 by_cases k1 : id < 0 \/ id >= 6291456
 rw [if_pos k1]
 refine ⟨_, rfl, fun h => absurd h (by decide), fun _ => ⟨rfl, rfl⟩, fun _ he => ?_⟩
 simp only [EnOk] at he; omega
 rw [if_neg k1]
 by_cases k2 : EnOk ⟨t.Next, id, key, body⟩
 rw [if_neg (fun h => h k2)]
 by_cases k3 : t.Next = 1073741824 \/ (t.Entries.length : Int) = 200
 rw [if_pos k3]
 exact ⟨_, rfl, fun h => absurd h (by decide), fun _ => ⟨rfl, rfl⟩, fun _ _ a b => absurd k3 (by omega)⟩
 rw [if_neg k3]
 have hl : t.Entries.length * 48 <= 140737488355328 := by omega
 simp only [zc2, zb0, if_pos hl, Option.bind_some]
 rw [if_pos (by simp only [List.length_cons, List.length_nil]; omega), wrk _ (by omega)]
 exact ⟨_, rfl, fun _ => ⟨h, k2, by omega, by omega, rfl⟩, fun h => absurd rfl h, fun _ _ _ _ => rfl⟩
 rw [if_pos k2]
 exact ⟨_, rfl, fun h => absurd h (by decide), fun _ => ⟨rfl, rfl⟩, fun _ he => absurd he k2⟩
 rw [if_neg h, if_pos (by decide)]
 exact ⟨_, rfl, fun h => absurd h (by decide), fun _ => ⟨rfl, rfl⟩, fun h' => absurd h' h⟩
theorem ya6q (p : TEntry -> Bool) : ∀ (l : List TEntry) (i : Nat), ∃ z, zao (fun x => some (p x)) l i = some z /\
  ((z = .inr () /\ ∀ x ∈ l, p x = false) \/ ∃ k : Nat, z = .inl ((i + k : Nat) : Int) /\ k < l.length /\ l.dropWhile (fun x => !p x) = l.drop k)
 | [], i => ⟨_, rfl, .inl ⟨rfl, fun _ h => by cases h⟩⟩
 | y :: r, i => by
  simp only [zao, Option.bind_some]
  cases h : p y
  obtain ⟨z, h1, h2⟩ := ya6q p r (i + 1)
  refine ⟨z, by simpa using h1, ?_⟩
  rcases h2 with ⟨e, h2⟩ | ⟨k, e, h3, h4⟩
  refine .inl ⟨e, fun x hx => ?_⟩
  rcases List.mem_cons.1 hx with rfl | hx
  exact h
  exact h2 x hx
  exact .inr ⟨k + 1, by rw [e]; congr 2; omega, by simp only [List.length_cons]; omega, by simp [h, h4]⟩
  exact ⟨_, by simp, .inr ⟨0, rfl, by simp, by simp [h]⟩⟩
theorem znr {α : Type} (p : α -> Bool) : ∀ l : List α, (∀ x ∈ l, p x = true) -> l.dropWhile p = []
 | [], _ => rfl
 | y :: r, h => by rw [List.dropWhile_cons, h y (List.mem_cons_self ..), if_pos rfl]; exact znr p r fun x hx => h x (List.mem_cons_of_mem _ hx)
def ya1p (t : TTopic) (to : Int) : TTopic := ⟨max t.Base (min to t.Next), t.Next, t.Mark, t.Entries.dropWhile fun x => !decide (x.Offset >= max t.Base (min to t.Next))⟩
theorem EsP.drop {mark next b : Int} : ∀ {l : List TEntry} {s : List (List UInt8)} {x : Int}, EsP mark next l s x -> x <= b - 1 -> b <= next -> max (zhf x l + 1) mark = next ->
  EsP mark next (l.dropWhile fun y => !decide (y.Offset >= b)) [] (b - 1) /\ max (zhf (b - 1) (l.dropWhile fun y => !decide (y.Offset >= b)) + 1) mark = next
 | [], s, x, h, hx, hb, he => by
  simp only [List.dropWhile_nil, EsP, zhf, true_and] at he ⊢
  omega
 | y :: r, s, x, h, hx, hb, he => by
  rw [List.dropWhile_cons]
  by_cases hy : y.Offset >= b
  simp only [hy, decide_true, Bool.not_true, Bool.false_eq_true, if_false]
  refine ⟨h.less (fun _ hk => by cases hk) (by omega) ?_, ?_⟩
  rintro z q e
  obtain ⟨rfl, -⟩ := List.cons.inj e
  omega
  simpa only [zhf] using he
  simp only [hy, decide_false, Bool.not_false, if_true]
  simp only [EsP, zhf] at h he
  exact EsP.drop h.2.2.2.2.2 (by omega) hb he
theorem TOk.trim {t : TTopic} (h : TOk t) {to : Int} (h0 : 0 <= to) : TOk (ya1p t to) := by
 have n0 := h.n0; have n1 := h.n1; have b0 := h.b0; have b1 := h.b1; have m0 := h.m0; have m1 := h.m1; have ln := h.len; have en := h.en
 obtain ⟨k1, k2⟩ := h.es.drop (b := max t.Base (min to t.Next)) (by omega) (by omega) en
 refine ⟨n0, n1, by show 0 <= max t.Base (min to t.Next); omega, by show max t.Base (min to t.Next) <= t.Next; omega, m0, m1, ?_, k1, k2⟩
 have : (t.Entries.dropWhile fun x => !decide (x.Offset >= max t.Base (min to t.Next))).length <= t.Entries.length := (List.dropWhile_sublist _).length_le
 show ((t.Entries.dropWhile fun x => !decide (x.Offset >= max t.Base (min to t.Next))).length : Int) <= 200
 omega
theorem ya3f (t : TTopic) (to : Int) : ∃ r, zhp t to = some r /\ (r.2 = 0 -> TOk t /\ 0 <= to /\ to <= 1073741824 /\ r = (ya1p t to, 0)) /\ (r.2 ≠ 0 -> r.1 = ⟨0, 0, 0, []⟩) /\ (TOk t -> 0 <= to -> to <= 1073741824 -> r.2 = 0) := by
 unfold zhp
 rw [zx0]
 simp only [Option.bind_some]
 by_cases h : TOk t
 rw [if_pos h, if_neg (by simp)]
 have ln := h.len
 by_cases hc : to < 0 \/ to > 1073741824
 rw [if_pos hc]
 exact ⟨_, rfl, fun h => absurd h (by decide), fun _ => rfl, fun _ a b => absurd hc (by omega)⟩
 rw [if_neg hc]
 have hl : t.Entries.length * 48 <= 140737488355328 := by omega
 simp only [zc2, zb0, if_pos hl, Option.bind_some, zcj, zh7]
 obtain ⟨z, h1, h2⟩ := ya6q (fun x => decide (x.Offset >= max t.Base (min to t.Next))) t.Entries 0
 rw [h1]
 simp only [Option.bind_some]
 rcases h2 with ⟨rfl, h2⟩ | ⟨k, rfl, h3, h4⟩
 simp only [Option.bind_some]
 rw [if_pos (by decide)]
 simp only [Option.bind_some]
 rw [if_pos (by omega)]
 have e1 : t.Entries.drop ((t.Entries.length : Int)).toNat = [] := by simp
 rw [e1, if_pos (by simp)]
 refine ⟨_, rfl, fun _ => ⟨h, by omega, by omega, ?_⟩, fun h => absurd rfl h, fun _ _ _ => rfl⟩
 have e2 : (t.Entries.dropWhile fun x => !decide (x.Offset >= max t.Base (min to t.Next))) = [] := znr _ _ fun x hx => by rw [h2 x hx]; rfl
 simp only [ya1p, e2]
 simp only [Option.bind_some, Nat.zero_add]
 rw [if_neg (by omega)]
 simp only [Option.bind_some]
 rw [if_pos (by omega)]
 have hd : (t.Entries.drop ((k : Int)).toNat).length * 48 <= 140737488355328 := by
  have : (t.Entries.drop ((k : Int)).toNat).length <= t.Entries.length := by simp
  omega
 rw [if_pos hd]
 refine ⟨_, rfl, fun _ => ⟨h, by omega, by omega, ?_⟩, fun h => absurd rfl h, fun _ _ _ => rfl⟩
 simp only [ya1p, h4, Int.toNat_natCast]
 rw [if_neg h, if_pos (by decide)]
 exact ⟨_, rfl, fun h => absurd h (by decide), fun _ => rfl, fun h' => absurd h' h⟩
theorem zzt {α : Type} (x : α) (A : List α) (a : α) (B : List α) : (A ++ a :: B).set A.length x = A ++ x :: B := by
 induction A with
 | nil => rfl
 | cons y r ih => simp only [List.cons_append, List.length_cons, List.set_cons_succ, ih]
theorem zxs {α : Type} (d : α) (A : List α) (a : α) (B : List α) : (A ++ a :: B).getD A.length d = a := by
 induction A with
 | nil => rfl
 | cons y r ih => simpa only [List.cons_append, List.length_cons, List.getD_cons_succ] using ih
theorem revL : ∀ (n fu : Nat) (A M B : List TEntry), M.length <= n -> M.length < fu -> (A ++ M ++ B).length <= 1000000 ->
  zac fu (A ++ M ++ B) (A.length : Int) ((A.length : Int) + M.length - 1) = some (A ++ M.reverse ++ B)
 | n, 0, A, M, B, _, h, _ => by omega
 | n, fu + 1, A, M, B, hn, hf, hl => by
  simp only [zac]
  by_cases hc : (A.length : Int) < (A.length : Int) + M.length - 1
  rw [if_pos hc]
  match M, n, hn with
  | [], _, _ => simp only [List.length_nil] at hc; omega
  | a :: M1, n + 1, hn =>
   have hne : M1 ≠ [] := by rintro rfl; simp only [List.length_cons, List.length_nil] at hc; omega
   obtain ⟨M', b, rfl⟩ : ∃ M' b, M1 = M' ++ [b] := ⟨M1.dropLast, M1.getLast hne, (List.dropLast_concat_getLast hne).symm⟩
   simp only [List.length_append, List.length_cons, List.length_nil] at hc hn hf hl
   have e0 : A ++ a :: (M' ++ [b]) ++ B = A ++ a :: (M' ++ b :: B) := by simp
   have j0 : ((A.length : Int) + ((a :: (M' ++ [b])).length : Nat) - 1).toNat = (A ++ a :: M').length := by
    simp only [List.length_append, List.length_cons, List.length_nil]; omega
   have e1 : A ++ a :: (M' ++ b :: B) = (A ++ a :: M') ++ b :: B := by simp
   have e2 : A ++ b :: (M' ++ b :: B) = (A ++ b :: M') ++ b :: B := by simp
   have j1 : (A ++ a :: M').length = (A ++ b :: M').length := by simp
   have g2 : (A ++ a :: (M' ++ [b]) ++ B).getD ((A.length : Int) + ((a :: (M' ++ [b])).length : Nat) - 1).toNat default = b := by
    rw [j0, e0, e1, zxs]
   have g1 : (A ++ a :: (M' ++ [b]) ++ B).getD ((A.length : Int)).toNat default = a := by
    rw [Int.toNat_natCast, e0, zxs]
   have s1 : (A ++ a :: (M' ++ [b]) ++ B).set ((A.length : Int)).toNat b = A ++ b :: (M' ++ b :: B) := by
    rw [Int.toNat_natCast, e0, zzt]
   have s2 : (A ++ b :: (M' ++ b :: B)).set ((A.length : Int) + ((a :: (M' ++ [b])).length : Nat) - 1).toNat a = (A ++ [b]) ++ M' ++ (a :: B) := by
    rw [j0, j1, e2, zzt]; simp
   rw [g2, g1, s1, s2, if_pos (by simp only [List.length_append, List.length_cons, List.length_nil]; omega), if_pos (by simp only [List.length_append, List.length_cons, List.length_nil]; omega), if_pos (by simp only [List.length_append, List.length_cons, List.length_nil]; omega)]
   have w1 : wr .i64 ((A.length : Int) + 1) = (((A ++ [b]).length : Nat) : Int) := by
    rw [wrk _ (by omega)]; simp
   have w2 : wr .i64 ((A.length : Int) + ((a :: (M' ++ [b])).length : Nat) - 1 - 1) = (((A ++ [b]).length : Nat) : Int) + M'.length - 1 := by
    rw [wrk _ (by simp only [List.length_append, List.length_cons, List.length_nil]; omega)]
    simp only [List.length_append, List.length_cons, List.length_nil]; omega
   rw [w1, w2, revL n fu (A ++ [b]) M' (a :: B) (by omega) (by omega) (by simp only [List.length_append, List.length_cons, List.length_nil]; omega)]
   simp
  rw [if_neg hc]
  have : M.reverse = M := by
   match M with
   | [] => rfl
   | [a] => rfl
   | a :: b :: r => simp only [List.length_cons] at hc; omega
  rw [this]
theorem ya61 (l : List TEntry) (h : l.length <= 1000000) : zbj l = some l.reverse := by
 unfold zbj
 have := revL l.length (l.length + 1) [] l [] (Nat.le_refl _) (by omega) (by simpa using h)
 simp only [List.nil_append, List.append_nil, List.length_nil] at this
 rw [wrk _ (by omega)]
 have e : ((l.length : Int) - 1) = ((0 : Nat) : Int) + (l.length : Int) - 1 := by omega
 rw [e]
 exact this
theorem zur {α : Type} [DecidableEq α] (k j : α) : ∀ m : List (α × Int), (m.map Prod.fst).Nodup -> mget j (mdel k m) = if j = k then none else mget j m
 | [], _ => by simp only [mdel, mget, ite_self]
 | x :: l, hn => by
  have hn' := List.nodup_cons.1 (by simpa using hn : (x.1 :: l.map Prod.fst).Nodup)
  simp only [mdel]
  by_cases h : k = x.1
  rw [if_pos h]
  by_cases e : j = k
  rw [if_pos e]
  have : ∀ m : List (α × Int), j ∉ m.map Prod.fst -> mget j m = none := by
   intro m
   induction m with
   | nil => intro _; rfl
   | cons y r ih => intro hh; simp only [List.map_cons, List.mem_cons, not_or] at hh; simp only [mget, if_neg hh.1]; exact ih hh.2
  exact this l (by rw [e, h]; exact hn'.1)
  rw [if_neg e]
  simp only [mget]
  rw [if_neg (by rw [<- h]; exact e)]
  rw [if_neg h]
  simp only [mget, zur k j l hn'.2]
  by_cases e : j = x.1
  rw [if_pos e, if_pos e, if_neg (by rw [e]; exact Ne.symm h)]
  rw [if_neg e, if_neg e]
theorem zuq {α : Type} [DecidableEq α] (k : α) : ∀ m : List (α × Int), (m.map Prod.fst).Nodup -> ((mput k 1 m).map Prod.fst).Nodup /\ ∀ j, j ∈ (mput k 1 m).map Prod.fst ↔ j = k \/ j ∈ m.map Prod.fst
 | [], _ => by simp [mput]
 | x :: l, hn => by
  have hn' := List.nodup_cons.1 (by simpa using hn : (x.1 :: l.map Prod.fst).Nodup)
  simp only [mput]
  by_cases h : k = x.1
  rw [if_pos h]
  subst h
  refine ⟨by simpa using hn', fun j => by simp⟩
  rw [if_neg h]
  obtain ⟨i1, i2⟩ := zuq k l hn'.2
  refine ⟨?_, fun j => ?_⟩
  simp only [List.map_cons, List.nodup_cons]
  refine ⟨fun hh => ?_, i1⟩
  rcases (i2 _).1 hh with e | e
  exact h e.symm
  exact hn'.1 e
  simp only [List.map_cons, List.mem_cons, i2]
  constructor
  rintro (a | a | a)
  exact .inr (.inl a)
  exact .inl a
  exact .inr (.inr a)
  rintro (a | a | a)
  exact .inr (.inl a)
  exact .inl a
  exact .inr (.inr a)
theorem zus {α : Type} [DecidableEq α] (k : α) : ∀ m : List (α × Int), (m.map Prod.fst).Nodup -> ((mdel k m).map Prod.fst).Nodup /\ ∀ j, j ∈ (mdel k m).map Prod.fst -> j ∈ m.map Prod.fst
 | [], _ => by simp [mdel]
 | x :: l, hn => by
  have hn' := List.nodup_cons.1 (by simpa using hn : (x.1 :: l.map Prod.fst).Nodup)
  simp only [mdel]
  by_cases h : k = x.1
  rw [if_pos h]
  exact ⟨hn'.2, fun j hj => by simp only [List.map_cons, List.mem_cons]; exact .inr hj⟩
  rw [if_neg h]
  obtain ⟨i1, i2⟩ := zus k l hn'.2
  refine ⟨?_, fun j => ?_⟩
  simp only [List.map_cons, List.nodup_cons]
  exact ⟨fun hh => hn'.1 (i2 _ hh), i1⟩
  simp only [List.map_cons, List.mem_cons]
  rintro (a | a)
  exact .inl a
  exact .inr (i2 _ a)
theorem zy8 (mark : Int) : ∀ (l : List TEntry) (w : List (List UInt8 × Int)), (w.map Prod.fst).Nodup -> ((zol mark l w).map Prod.fst).Nodup /\ ∀ k, (mget k (zol mark l w)).getD 0 = 0 ↔ (mget k w).getD 0 = 0 /\ ∀ y ∈ l, y.Offset < mark -> y.Key ≠ k
 | [], w, hn => ⟨hn, fun k => by simp [zol]⟩
 | y :: r, w, hn => by
  simp only [zol]
  have hn2 : ((if y.Offset < mark then mput y.Key 1 w else w).map Prod.fst).Nodup := by
   split
   exact (zuq _ w hn).1
   exact hn
  obtain ⟨i1, i2⟩ := zy8 mark r _ hn2
  refine ⟨i1, fun k => ?_⟩
  rw [i2]
  by_cases hm : y.Offset < mark
  simp only [if_pos hm, zoh]
  by_cases e : k = y.Key
  subst e
  simp only [if_pos, Option.getD_some]
  constructor
  rintro ⟨a, _⟩; exact absurd a (by decide)
  rintro ⟨_, a⟩; exact absurd rfl (a y (List.mem_cons_self ..) hm)
  rw [if_neg e]
  constructor
  rintro ⟨a, b⟩
  refine ⟨a, fun z hz hz' => ?_⟩
  rcases List.mem_cons.1 hz with rfl | hz
  exact Ne.symm e
  exact b z hz hz'
  rintro ⟨a, b⟩
  exact ⟨a, fun z hz => b z (List.mem_cons_of_mem _ hz)⟩
  simp only [if_neg hm]
  constructor
  rintro ⟨a, b⟩
  refine ⟨a, fun z hz hz' => ?_⟩
  rcases List.mem_cons.1 hz with rfl | hz
  exact absurd hz' hm
  exact b z hz hz'
  rintro ⟨a, b⟩
  exact ⟨a, fun z hz => b z (List.mem_cons_of_mem _ hz)⟩
def zpb (mark : Int) : List TEntry -> List (List UInt8) -> List TEntry
 | [], _ => []
 | y :: q, seen => if y.Offset < mark /\ y.Key ∈ seen then zpb mark q seen else y :: zpb mark q (if y.Offset < mark then y.Key :: seen else seen)
theorem zpv (mark : Int) : ∀ (q : List TEntry) (w : List (List UInt8 × Int)) (seen : List (List UInt8)) (l : List TEntry), (w.map Prod.fst).Nodup -> l.length + q.length < 1000000 ->
  (∀ y ∈ q, y.Offset < mark -> ((mget y.Key w).getD 0 = 0 ↔ y.Key ∈ seen)) -> ∃ w', ztx mark q w l = some (w', l ++ zpb mark q seen)
 | [], w, seen, l, _, _, _ => ⟨w, by simp [ztx, zpb]⟩
 | y :: q, w, seen, l, hn, hl, hw => by
  simp only [ztx, zpb]
  simp only [List.length_cons] at hl
  have hy := hw y (List.mem_cons_self ..)
  by_cases hc : y.Offset < mark /\ y.Key ∈ seen
  rw [if_pos hc, if_pos ⟨hc.1, (hy hc.1).2 hc.2⟩]
  exact zpv mark q w seen l hn (by omega) fun z hz => hw z (List.mem_cons_of_mem _ hz)
  have hc' : ¬ (y.Offset < mark /\ (mget y.Key w).getD 0 = 0) := fun h => hc ⟨h.1, (hy h.1).1 h.2⟩
  rw [if_neg hc, if_neg hc', if_pos (by omega)]
  by_cases hm : y.Offset < mark
  rw [if_pos hm, if_pos hm]
  obtain ⟨w', h⟩ := zpv mark q (mdel y.Key w) (y.Key :: seen) (l ++ [y]) (zus _ w hn).1 (by simp only [List.length_append, List.length_cons, List.length_nil]; omega) (fun z hz hzm => by
   rw [zur _ _ w hn]
   by_cases e : z.Key = y.Key
   rw [if_pos e]; simp [e]
   rw [if_neg e, hw z (List.mem_cons_of_mem _ hz) hzm]; simp [e])
  exact ⟨w', by rw [h]; simp⟩
  rw [if_neg hm, if_neg hm]
  obtain ⟨w', h⟩ := zpv mark q w seen (l ++ [y]) hn (by simp only [List.length_append, List.length_cons, List.length_nil]; omega) fun z hz => hw z (List.mem_cons_of_mem _ hz)
  exact ⟨w', by rw [h]; simp⟩
inductive Sel (mark : Int) : List TEntry -> List TEntry -> Prop
 | nil : Sel mark [] []
 | keep (y : TEntry) {l l' : List TEntry} : Sel mark l l' -> Sel mark (y :: l) (y :: l')
 | drop (y : TEntry) {l l' : List TEntry} : y.Offset < mark -> Sel mark l l' -> Sel mark (y :: l) l'
theorem Sel.app {mark : Int} {a a' b b' : List TEntry} (h : Sel mark a a') (h2 : Sel mark b b') : Sel mark (a ++ b) (a' ++ b') := by
 induction h with
 | nil => exact h2
 | keep y _ ih => exact .keep y ih
 | drop y hy _ ih => exact .drop y hy ih
theorem Sel.len {mark : Int} {a a' : List TEntry} (h : Sel mark a a') : a'.length <= a.length := by
 induction h with
 | nil => exact Nat.le_refl _
 | keep y _ ih => simp only [List.length_cons]; omega
 | drop y _ _ ih => simp only [List.length_cons]; omega
theorem znk (mark : Int) : ∀ (q : List TEntry) (seen : List (List UInt8)), Sel mark q.reverse (zpb mark q seen).reverse
 | [], _ => .nil
 | y :: q, seen => by
  simp only [zpb, List.reverse_cons]
  by_cases hc : y.Offset < mark /\ y.Key ∈ seen
  rw [if_pos hc]
  have := (znk mark q seen).app (.drop y hc.1 .nil)
  simpa using this
  rw [if_neg hc, List.reverse_cons]
  exact (znk mark q _).app (.keep y .nil)
def Dis (mark : Int) (a b : TEntry) : Prop := a.Offset < mark -> b.Offset < mark -> a.Key ≠ b.Key
theorem zqx (mark : Int) : ∀ (q : List TEntry) (seen : List (List UInt8)), (zpb mark q seen).Pairwise (Dis mark) /\ ∀ y ∈ zpb mark q seen, y.Offset < mark -> y.Key ∉ seen
 | [], _ => ⟨List.Pairwise.nil, fun _ h => by cases h⟩
 | y :: q, seen => by
  simp only [zpb]
  by_cases hc : y.Offset < mark /\ y.Key ∈ seen
  rw [if_pos hc]
  exact zqx mark q seen
  rw [if_neg hc]
  obtain ⟨i1, i2⟩ := zqx mark q (if y.Offset < mark then y.Key :: seen else seen)
  refine ⟨List.pairwise_cons.2 ⟨fun z hz hy hz' e => ?_, i1⟩, fun z hz hz' hk => ?_⟩
  have := i2 z hz hz'
  rw [if_pos hy] at this
  exact this (by rw [e]; exact List.mem_cons_self ..)
  rcases List.mem_cons.1 hz with rfl | hz
  exact hc ⟨hz', hk⟩
  refine i2 z hz hz' ?_
  split
  exact List.mem_cons_of_mem _ hk
  exact hk
theorem EsP.sel {mark mark' next : Int} (hm : mark <= mark') (hm' : mark' <= next) {l l' : List TEntry} (h : Sel mark' l l') : ∀ {s s' : List (List UInt8)} {x x' : Int}, EsP mark next l s x -> x' <= x -> x + 1 <= max (x' + 1) mark' ->
  l'.Pairwise (Dis mark') -> (∀ y ∈ l', y.Offset < mark' -> y.Key ∉ s') -> max (zhf x l + 1) mark = next -> EsP mark' next l' s' x' /\ max (zhf x' l' + 1) mark' = next := by
 induction h with
 | nil =>
  intro s s' x x' _ h1 h2 _ _ he
  simp only [zhf, EsP, true_and] at he ⊢
  omega
 | @keep y l l' _ ih =>
  intro s s' x x' h h1 h2 hp hs he
  simp only [zhf, EsP] at h he ⊢
  obtain ⟨k1, k2⟩ := List.pairwise_cons.1 hp
  obtain ⟨i1, i2⟩ := ih (s' := if y.Offset < mark' then y.Key :: s' else s') (x' := y.Offset) h.2.2.2.2.2 (Int.le_refl _) (by omega) k2 (fun z hz hz' => by
   split
   rename_i hy
   intro hk
   rcases List.mem_cons.1 hk with e | hk
   exact k1 z hz hy hz' e.symm
   exact hs z (List.mem_cons_of_mem _ hz) hz' hk
   exact hs z (List.mem_cons_of_mem _ hz) hz') he
  exact ⟨⟨h.1, by omega, h.2.2.1, by omega, hs y (List.mem_cons_self ..), i1⟩, i2⟩
 | @drop y l l' hy _ ih =>
  intro s s' x x' h h1 h2 hp hs he
  simp only [zhf, EsP] at h he
  exact ih h.2.2.2.2.2 (by omega) (by omega) hp hs he
def ya6w (t : TTopic) (to : Int) : TTopic := ⟨t.Base, t.Next, max t.Mark (min to t.Next), (zpb (max t.Mark (min to t.Next)) t.Entries.reverse []).reverse⟩
theorem TOk.comp {t : TTopic} (h : TOk t) {to : Int} (h0 : 0 <= to) : TOk (ya6w t to) := by
 have n0 := h.n0; have n1 := h.n1; have b0 := h.b0; have b1 := h.b1; have m0 := h.m0; have m1 := h.m1; have ln := h.len; have en := h.en
 have hs := znk (max t.Mark (min to t.Next)) t.Entries.reverse []
 rw [List.reverse_reverse] at hs
 have hd := zqx (max t.Mark (min to t.Next)) t.Entries.reverse []
 obtain ⟨k1, k2⟩ := EsP.sel (s' := []) (x' := t.Base - 1) (by omega : t.Mark <= max t.Mark (min to t.Next)) (by omega) hs h.es (by omega) (by omega) (by
  rw [List.pairwise_reverse]
  exact hd.1.imp fun {a b} hab h1 h2 e => hab h2 h1 e.symm) (fun _ _ _ => by simp) en
 have hl := hs.len
 exact ⟨n0, n1, b0, b1, by show 0 <= max t.Mark (min to t.Next); omega, by show max t.Mark (min to t.Next) <= t.Next; omega, by show (((zpb (max t.Mark (min to t.Next)) t.Entries.reverse []).reverse.length : Nat) : Int) <= 200; omega, k1, k2⟩
theorem ya4o (t : TTopic) (to : Int) : ∃ r, zet t to = some r /\ (r.2 = 0 -> TOk t /\ 0 <= to /\ to <= 1073741824 /\ r = (ya6w t to, 0)) /\ (r.2 ≠ 0 -> r.1 = ⟨0, 0, 0, []⟩) /\ (TOk t -> 0 <= to -> to <= 1073741824 -> r.2 = 0) := by
 unfold zet
 rw [zx0]
 simp only [Option.bind_some]
 by_cases h : TOk t
 rw [if_pos h, if_neg (by simp)]
 have ln := h.len
 by_cases hc : to < 0 \/ to > 1073741824
 rw [if_pos hc]
 exact ⟨_, rfl, fun h => absurd h (by decide), fun _ => rfl, fun _ a b => absurd hc (by omega)⟩
 rw [if_neg hc]
 have hl : t.Entries.length * 48 <= 140737488355328 := by omega
 simp only [zc2, zb0, if_pos hl, Option.bind_some]
 obtain ⟨c1, c2⟩ := zy8 (max t.Mark (min to t.Next)) t.Entries [] List.nodup_nil
 obtain ⟨w', e⟩ := zpv (max t.Mark (min to t.Next)) t.Entries.reverse (zol (max t.Mark (min to t.Next)) t.Entries []) [] [] c1 (by simp only [List.length_nil, List.length_reverse]; omega) (fun y hy hy' => by
  rw [c2]
  simp only [List.not_mem_nil, iff_false]
  rintro ⟨_, a⟩
  exact a y (List.mem_reverse.1 hy) hy' rfl)
 rw [e]
 simp only [Option.bind_some, List.nil_append]
 have hs := (znk (max t.Mark (min to t.Next)) t.Entries.reverse []).len
 simp only [List.reverse_reverse, List.length_reverse] at hs
 rw [ya61 _ (by omega)]
 exact ⟨_, rfl, fun _ => ⟨h, by omega, by omega, rfl⟩, fun h => absurd rfl h, fun _ _ _ => rfl⟩
 rw [if_neg h, if_pos (by decide)]
 exact ⟨_, rfl, fun h => absurd h (by decide), fun _ => rfl, fun h' => absurd h' h⟩
end Go.Proofs
end
section
namespace Go.Proofs
open Go.Tm
def zl9 : Int -> List Int -> Bool
 | _, [] => true
 | last, n :: r => decide (last < n) && decide (n < 6) && zl9 n r
end Go.Proofs
end
section
namespace Go.Proofs
open Go.Tm
set_option linter.unusedSimpArgs false
set_option linter.unusedVariables false
theorem zss (v : Int) (l : List Int) : ∀ n : Nat, (v ∈ l -> ∃ k : Nat, zb1 v l n = some (.inl (k : Int))) /\ (v ∉ l -> zb1 v l n = some (.inr ())) := by
 induction l with
 | nil => intro n; exact ⟨(fun h => by cases h), fun _ => rfl⟩
 | cons y l ih =>
  intro n
  rw [zb1]
  by_cases h : v = y
  rw [if_pos h]
  exact ⟨fun _ => ⟨n, rfl⟩, fun hn => absurd (h ▸ List.mem_cons_self) hn⟩
  rw [if_neg h]
  refine ⟨fun hv => (ih (n + 1)).1 ?_, fun hv => (ih (n + 1)).2 fun hh => hv (List.mem_cons_of_mem _ hh)⟩
  rcases List.mem_cons.1 hv with hv | hv
  exact absurd hv h
  exact hv
theorem zwj (l : List Int) (v : Int) : zco l v = some (decide (v ∈ l)) := by
 rw [zco, ze4]
 by_cases h : v ∈ l
 obtain ⟨k, hk⟩ := (zss v l 0).1 h
 rw [hk]
 simp [h]
 rw [(zss v l 0).2 h]
 simp [h]
theorem ya1x : ∀ (l : List Int) (k : Int), zl9 k l = true -> ∀ x ∈ l, k < x /\ x < 6 := by
 intro l
 induction l with
 | nil => intro _ _ x hx; cases hx
 | cons y l ih =>
  intro k h x hx
  simp only [zl9, Bool.and_eq_true, decide_eq_true_eq] at h
  rcases List.mem_cons.1 hx with rfl | hx
  exact h.1
  have := ih y h.2 x hx
  omega
theorem zvv (l : List Int) : ∀ n, zbw l n = some (if zl9 n l = true then .inr (l.getLastD n) else .inl 60) := by
 induction l with
 | nil => intro n; simp [zbw, zl9]
 | cons y l ih =>
  intro n
  rw [zbw]
  by_cases h : (y <= n) \/ (y >= 6)
  rw [if_pos h, if_neg (by simp only [zl9, Bool.and_eq_true, decide_eq_true_eq]; omega)]
  rw [if_neg h, ih]
  have : zl9 n (y :: l) = zl9 y l := by
   simp only [zl9]
   have h1 : decide (n < y) = true := by simp; omega
   have h2 : decide (y < 6) = true := by simp; omega
   simp [h1, h2]
  rw [this, List.getLastD_cons]
def qerr (l : List Int) : Int := if l.length > 6 then 4 else if zl9 (-1) l = true /\ l ≠ [] then 0 else 60
theorem ya05 (l : List Int) : zgj l = some (qerr l) := by
 rw [zgj]
 unfold qerr
 by_cases h : (l.length : Int) > 6
 rw [if_pos h, if_pos (by omega)]
 rw [if_neg h, if_neg (by omega), zvv]
 by_cases hr : zl9 (-1) l = true
 rw [if_pos hr]
 cases l with
 | nil => simp
 | cons y l =>
  have hl := (ya1x (y :: l) (-1) hr ((y :: l).getLastD (-1)) (by rw [List.getLastD_eq_getLast?, List.getLast?_eq_some_getLast (by simp)]; exact List.getLast_mem (by simp))).1
  simp only [Option.bind_some, ne_eq, reduceCtorEq, not_false_eq_true, and_true, if_pos hr]
  rw [if_neg (by omega)]
 rw [if_neg hr]
 simp [hr]
theorem zz0 (b : List Int) : ∀ (l : List Int) (n : Nat), n + l.length = b.length -> zb2 b l n = some (if l = b.drop n then .inr () else .inl false) := by
 intro l
 induction l with
 | nil => intro n h; simp [zb2]; simp at h; omega
 | cons y l ih =>
  intro n h
  simp only [List.length_cons] at h
  have hn : n < b.length := by omega
  have hg : b.getD n default = b[n] := by simp [List.getD, List.getElem?_eq_getElem hn]
  have hd := List.drop_eq_getElem_cons hn
  rw [zb2, if_pos hn, hg]
  generalize b[n] = z at hd
  rw [hd]
  by_cases hy : y = z
  rw [if_neg (by simpa using hy), ih (n + 1) (by omega)]
  simp only [hy, List.cons.injEq, true_and]
  rw [if_pos hy]
  simp only [hy, List.cons.injEq, false_and, if_false]
theorem zpt (a b : List Int) : zbm a b = some (decide (a = b)) := by
 rw [zbm]
 by_cases h : (a.length : Int) = (b.length : Int)
 rw [if_neg (by simpa using h), zz0 b a 0 (by omega), List.drop_zero]
 by_cases hab : a = b <;> simp [hab]
 rw [if_pos h]
 have : a ≠ b := fun hh => h (by rw [hh])
 simp [this]
theorem ya49 (i j : Nat) (h : i + j < 4000000) : wr .i64 (shw false .u64 (wr .u64 (wr .i64 ((i : Int) + (j : Int)))) 1) = (((i + j) / 2 : Nat) : Int) := by
 have e1 : wr .i64 ((i : Int) + (j : Int)) = (i : Int) + (j : Int) := zkk _ _ (by show (-9223372036854775808 : Int) <= _; omega) (by show _ <= (9223372036854775807 : Int); omega)
 have e2 : wr .u64 ((i : Int) + (j : Int)) = (i : Int) + (j : Int) := zkk _ _ (by show (0 : Int) <= _; omega) (by show _ <= (18446744073709551615 : Int); omega)
 have e3 : shw false .u64 ((i : Int) + (j : Int)) 1 = (((i + j) / 2 : Nat) : Int) := by
  unfold shw
  show Int.fdiv ((i : Int) + (j : Int)) 2 = _
  rw [Int.fdiv_eq_ediv_of_nonneg _ (by omega)]
  omega
 rw [e1, e2, e3]
 exact zkk _ _ (by show (-9223372036854775808 : Int) <= _; omega) (by show _ <= (9223372036854775807 : Int); omega)
end Go.Proofs
end
section
namespace Go.Proofs
open Go.Tm
set_option linter.unusedSimpArgs false
def stW (w : TWait) : TStamp := ⟨w.Time, w.Message.Id⟩
def ltS (a b : TStamp) : Prop := a.Time < b.Time \/ (a.Time = b.Time /\ a.Id < b.Id)
instance (a b : TStamp) : Decidable (ltS a b) := by unfold ltS; infer_instance
theorem zqs {a b c : TStamp} (h : ltS a b) (k : ltS b c) : ltS a c := by unfold ltS at *; omega
theorem zyu (a : TStamp) : ¬ ltS a a := by unfold ltS; omega
theorem ya0m {a b : TStamp} (h : a.Id ≠ b.Id) (k : ¬ ltS b a) : ltS a b := by unfold ltS at *; omega
theorem or2 (x y : Int) : zi3 [x, y] = some (if x = 0 then y else x) := by
 rw [zi3, zcm]
 by_cases hx : x = 0
 rw [if_neg (by simpa using hx), zcm, if_pos hx]
 by_cases hy : y = 0
 rw [if_neg (by simpa using hy), zcm]; simp [hy]
 rw [if_pos hy]; rfl
 rw [if_pos hx, if_neg hx]; rfl
theorem ya37 (x y : Int) : ze0 x y = some (if x < y then -1 else if x > y then 1 else 0) := by
 have e : ∀ z : Int, zex z = some false := fun z => by rw [zex]; simp
 rw [ze0, e, e]
 simp only [Option.bind_some, Bool.false_eq_true, if_false]
 split
 rfl
 split <;> rfl
theorem zw5 (a b : TStamp) : zez a b = some (decide (ltS a b)) := by
 rw [zez, ya37, ya37]
 simp only [Option.bind_some, or2, Option.some.injEq, decide_eq_decide, ltS]
 by_cases h1 : a.Time < b.Time
 simp [h1]
 by_cases h2 : a.Time > b.Time
 simp [h1, h2]; omega
 have : a.Time = b.Time := by omega
 by_cases h3 : a.Id < b.Id
 simp [this, h3]
 by_cases h4 : a.Id > b.Id <;> simp [this, h3, h4]
theorem ya22 (a b : TWait) : zd4 a b = some (if ltS (stW a) (stW b) then -1 else if ltS (stW b) (stW a) then 1 else 0) := by
 simp only [zd4, zes, Option.bind_some, zw5, decide_eq_true_eq]
 show (if ltS (stW a) (stW b) then _ else if ltS (stW b) (stW a) then _ else _) = _
 split
 rfl
 split <;> rfl
def minW : TWait -> List TWait -> TWait
 | m, [] => m
 | m, x :: l => minW (if ltS (stW x) (stW m) then x else m) l
theorem ya29 : ∀ (l : List TWait) (m : TWait), minW m l = m \/ minW m l ∈ l := by
 intro l
 induction l with
 | nil => intro m; exact .inl rfl
 | cons x l ih =>
  intro m
  rw [minW]
  rcases ih (if ltS (stW x) (stW m) then x else m) with h | h
  rw [h]; split
  exact .inr (by simp)
  exact .inl rfl
  exact .inr (List.mem_cons_of_mem _ h)
theorem ya0k : ∀ (l : List TWait) (m : TWait), ¬ ltS (stW m) (stW (minW m l)) /\ ∀ x ∈ l, ¬ ltS (stW x) (stW (minW m l)) := by
 intro l
 induction l with
 | nil => intro m; exact ⟨zyu _, by simp⟩
 | cons x l ih =>
  intro m
  rw [minW]
  obtain ⟨h1, h2⟩ := ih (if ltS (stW x) (stW m) then x else m)
  have key : ¬ ltS (stW m) (stW (minW (if ltS (stW x) (stW m) then x else m) l)) /\ ¬ ltS (stW x) (stW (minW (if ltS (stW x) (stW m) then x else m) l)) := by
   by_cases h : ltS (stW x) (stW m)
   rw [if_pos h] at h1 ⊢
   exact ⟨fun k => h1 (zqs h k), h1⟩
   rw [if_neg h] at h1 ⊢
   refine ⟨h1, fun k => ?_⟩
   have := @zqs
   unfold ltS at *; omega
  refine ⟨key.1, fun y hy => ?_⟩
  rcases List.mem_cons.1 hy with rfl | hy
  exact key.2
  exact h2 y hy
theorem ya28 (l : List TWait) (hl : l.length < 1000000) : ∀ (fu k : Nat) (m : TWait), l.length - k < fu -> k <= l.length ->
  zag l zd4 fu m.Message.Id m.Message.Groups m.Message.Topic m.Message.Key m.Message.Body m.Time m.Final (k : Int)
   = some (let r := minW m (l.drop k); (r.Message.Id, r.Message.Groups, r.Message.Topic, r.Message.Key, r.Message.Body, r.Time, r.Final)) := by
 intro fu
 induction fu with
 | zero => intro k m h; omega
 | succ fu ih =>
  intro k m h hk
  rw [zag]
  by_cases hlt : k < l.length
  have hd := List.drop_eq_getElem_cons hlt
  have hg : l.getD (k : Int).toNat default = l[k] := by simp [List.getD, List.getElem?_eq_getElem hlt]
  have hw : wr .i64 ((k : Int) + 1) = ((k + 1 : Nat) : Int) := zkk _ _ (by show (-9223372036854775808 : Int) <= _; omega) (by show _ <= (9223372036854775807 : Int); omega)
  rw [if_pos (by omega), if_pos (by omega), hg, ya22, hd, minW]
  show Option.bind (Option.bind (some (if ltS (stW l[k]) (stW m) then (-1 : Int) else if ltS (stW m) (stW l[k]) then 1 else 0)) _) _ = _
  simp only [Option.bind_some]
  by_cases hc : ltS (stW l[k]) (stW m)
  simp only [hc, if_true]
  rw [if_pos (by decide), if_pos (by omega)]
  simp only [Option.bind_some]
  rw [hw, ih (k + 1) l[k] (by omega) (by omega)]
  simp only [hc, if_false]
  rw [if_neg (by split <;> decide)]
  simp only [Option.bind_some]
  rw [hw, ih (k + 1) m (by omega) (by omega)]
  rw [if_neg (by omega), List.drop_of_length_le (by omega), minW]
theorem ya36 (y : TWait) (l : List TWait) (hl : l.length < 900000) : zbd (y :: l) zd4 = some (minW y l) := by
 rw [zbd, if_neg (by simp; omega), if_pos (by simp)]
 have := ya28 (y :: l) (by simp; omega) ((y :: l).length + 1) 1 y (by simp; omega) (by simp)
 rw [show ((1 : Nat) : Int) = 1 from rfl] at this
 have e : (y :: l).getD 0 default = y := rfl
 rw [e, this]
 rfl
theorem ya0j (l : List TWait) (f : TWait -> TWait -> Option Int) : ∀ (fu : Nat) (a : Int) (b : List Int) (c : Int) (d e : List UInt8) (g : Int) (h : Bool) (i : Int), zau l f fu a b c d e g h i = zag l f fu a b c d e g h i := by
 intro fu
 induction fu with
 | zero => intros; rfl
 | succ fu ih =>
  intros
  rw [zau, zag]
  simp only [ih]
theorem ya45 (y : TWait) (l : List TWait) (hl : l.length < 900000) : zbz (y :: l) zd4 = some (minW y l) := by
 rw [<- ya36 y l hl, zbz, zbd]
 simp only [ya0j]
def IdOk (n : Int) : Prop := 0 <= n /\ n <= 6291455
def zs9 (l : List TWait) : Prop := l.Pairwise fun a b => a.Message.Id < b.Message.Id
theorem ya6r (w : TWait) (id : Int) (h1 : IdOk w.Message.Id) (h2 : IdOk id) : zce w id = some (w.Message.Id - id) := by
 rw [zce]
 unfold IdOk at *
 rw [zkk _ _ (by show (-9223372036854775808 : Int) <= _; omega) (by show _ <= (9223372036854775807 : Int); omega)]
def plc (id : Int) : List TWait -> Nat
 | [] => 0
 | w :: l => if w.Message.Id < id then plc id l + 1 else 0
theorem zx9 (id : Int) : ∀ l, plc id l <= l.length := by
 intro l
 induction l with
 | nil => simp [plc]
 | cons w l ih => rw [plc]; split <;> simp <;> omega
theorem zx8 (id : Int) : ∀ (l : List TWait), zs9 l -> ∀ (x : Nat) (h : x < l.length), (l[x].Message.Id < id ↔ x < plc id l) := by
 intro l
 induction l with
 | nil => intro _ x h; simp at h
 | cons w l ih =>
  intro hu x h
  have hu' := List.pairwise_cons.1 hu
  rw [plc]
  cases x with
  | zero => simp only [List.getElem_cons_zero]; split <;> simp [*]
  | succ x =>
   simp only [List.getElem_cons_succ]
   have hx : x < l.length := by simpa using h
   have := ih hu'.2 x hx
   split
   rw [this]; omega
   rename_i hw
   have := hu'.1 l[x] (List.getElem_mem hx)
   constructor
   intro _; omega
   intro h; omega
theorem ya4r (l : List TWait) (id : Int) (hl : l.length < 1000000) (hu : zs9 l) (hi : ∀ w ∈ l, IdOk w.Message.Id) (h2 : IdOk id) : ∀ (fu i j : Nat), j - i < fu -> i <= plc id l -> plc id l <= j -> j <= l.length ->
  za9 l id zce fu (i : Int) (j : Int) = some ((plc id l : Nat) : Int) := by
 intro fu
 induction fu with
 | zero => intro i j h; omega
 | succ fu ih =>
  intro i j h h1 h3 h4
  rw [za9]
  by_cases hij : i < j
  have hm : (i + j) / 2 < l.length := by omega
  have hg : l.getD (((i + j) / 2 : Nat) : Int).toNat default = l[(i + j) / 2] := by rw [Int.toNat_natCast]; simp [List.getD, List.getElem?_eq_getElem hm]
  have e : wr .i64 ((((i + j) / 2 : Nat) : Int) + 1) = (((i + j) / 2 + 1 : Nat) : Int) := zkk _ _ (by show (-9223372036854775808 : Int) <= _; omega) (by show _ <= (9223372036854775807 : Int); omega)
  rw [if_pos (by omega), ya49 i j (by omega), if_pos ⟨by omega, by omega⟩, hg, ya6r _ _ (hi _ (List.getElem_mem hm)) h2, e]
  simp only [Option.bind_some]
  have hp := zx8 id l hu _ hm
  by_cases hc : l[(i + j) / 2].Message.Id < id
  rw [if_pos (by omega)]
  exact ih _ _ (by omega) (by have := hp.1 hc; omega) h3 h4
  rw [if_neg (by omega)]
  exact ih _ _ (by omega) h1 (by have : ¬ _ := fun k => hc (hp.2 k); omega) (by omega)
  rw [if_neg (by omega)]
  have : i = plc id l := by omega
  rw [this]
theorem ya09 (id : Int) (l : List TWait) (hu : zs9 l) : (∃ w ∈ l, w.Message.Id = id) ↔ ∃ h : plc id l < l.length, l[plc id l].Message.Id = id := by
 constructor
 rintro ⟨w, hw, rfl⟩
 obtain ⟨x, hx, rfl⟩ := List.getElem_of_mem hw
 have h1 : ¬ x < plc l[x].Message.Id l := fun k => by have := (zx8 _ l hu x hx).2 k; omega
 have h2 : plc l[x].Message.Id l <= x := by omega
 have h3 : plc l[x].Message.Id l < l.length := by omega
 refine ⟨h3, ?_⟩
 have h4 : ¬ l[plc l[x].Message.Id l].Message.Id < l[x].Message.Id := fun k => by have := (zx8 _ l hu _ h3).1 k; omega
 rcases Nat.lt_or_eq_of_le h2 with h5 | h5
 have := List.pairwise_iff_getElem.1 hu _ _ h3 hx h5
 omega
 simp only [h5]
 rintro ⟨h, e⟩
 exact ⟨_, List.getElem_mem h, e⟩
theorem zwc (c : Tskeen_clock) (id : Int) (hl : c.Skeen.Waits.length < 1000000) (hu : zs9 c.Skeen.Waits) (hi : ∀ w ∈ c.Skeen.Waits, IdOk w.Message.Id) (h2 : IdOk id) :
  zd5 c id = some (((plc id c.Skeen.Waits : Nat) : Int), decide (∃ w ∈ c.Skeen.Waits, w.Message.Id = id)) := by
 obtain ⟨⟨ck, l, dn⟩⟩ := c
 simp only at hl hu hi ⊢
 have hb := ya4r l id hl hu hi h2 (l.length + 1) 0 l.length (by omega) (by omega) (zx9 id l) (by omega)
 rw [zd5, zbh]
 simp only
 have e0 : ((0 : Nat) : Int) = 0 := rfl
 rw [e0] at hb
 rw [hb]
 simp only [Option.bind_some]
 rw [if_pos (by intro h; omega)]
 have hp := ya09 id l hu
 by_cases hc : plc id l < l.length
 have hg : l.getD ((plc id l : Nat) : Int).toNat default = l[plc id l] := by rw [Int.toNat_natCast]; simp [List.getD, List.getElem?_eq_getElem hc]
 rw [if_pos (by omega), hg, ya6r _ _ (hi _ (List.getElem_mem hc)) h2]
 simp only [Option.bind_some, Option.some.injEq, Prod.mk.injEq, true_and]
 rw [decide_eq_true (by omega : ((plc id l : Nat) : Int) < (l.length : Int)), Bool.true_and]
 by_cases hx : ∃ w ∈ l, w.Message.Id = id
 obtain ⟨h3, h4⟩ := hp.1 hx
 simp only [hx, decide_true]
 simp; omega
 simp only [hx, decide_false]
 have : ¬ l[plc id l].Message.Id = id := fun k => hx (hp.2 ⟨hc, k⟩)
 simp; omega
 rw [if_neg (by omega)]
 have : ¬ ∃ w ∈ l, w.Message.Id = id := fun k => hc (hp.1 k).1
 simp only [Option.bind_some, this, decide_false]
 rw [decide_eq_false (by omega), Bool.false_and]
theorem zxk (f : TStamp -> Option Bool) (g : TStamp -> Bool) (hf : ∀ x, f x = some (g x)) (l : List TStamp) : ∀ n : Nat, (l.any g = true -> ∃ k : Nat, zae f l n = some (.inl (k : Int))) /\ (l.any g = false -> zae f l n = some (.inr ())) := by
 induction l with
 | nil => intro n; exact ⟨(fun h => by cases h), fun _ => rfl⟩
 | cons y l ih =>
  intro n
  rw [zae, hf, List.any_cons]
  cases hg : g y with
  | true => exact ⟨fun _ => ⟨n, by simp⟩, fun h => by cases h⟩
  | false => simpa using ih (n + 1)
theorem ya4j (c : Tskeen_clock) (id : Int) : zee c id = some (c.Skeen.Done.any fun x => x.Id == id) := by
 rw [zee, zc0, zci]
 have hf : ∀ x : TStamp, (fun x0 => zdt x0 id) x = some (x.Id == id) := fun x => rfl
 cases h : c.Skeen.Done.any fun x => x.Id == id with
 | true => obtain ⟨k, hk⟩ := (zxk _ _ hf c.Skeen.Done 0).1 h; rw [hk]; simp
 | false => rw [(zxk _ _ hf c.Skeen.Done 0).2 h]; simp
theorem zux (a b c : Int) : zcl a b c = some (decide (b <= a /\ a <= c)) := by
 rw [zcl]; by_cases h : b <= a <;> by_cases k : a <= c <;> simp [h, k]
instance (n : Int) : Decidable (IdOk n) := by unfold IdOk; infer_instance
theorem zy9 (a : Int) : zg2 a = some (decide (IdOk a)) := by
 rw [zg2, zux, Option.bind_some]; rfl
def zo8 (m : TMessage) : Prop := zb5 m = some 0
theorem ya23 (m : TMessage) : ∀ (l : List Int) (n : Nat) (b : Bool), ∃ r, zas m l n b = some r := by
 intro l
 induction l with
 | nil => intro n b; exact ⟨b, rfl⟩
 | cons y l ih =>
  intro n b
  rw [zas, zux]
  cases b with
  | true => simp only [if_true, Option.bind_some]; exact ih _ _
  | false => simp only [Bool.false_eq_true, if_false, Option.bind_some]; exact ih _ _
theorem zw3 (m : TMessage) : (∃ e, zb5 m = some e) /\ (zb5 m = some 0 -> IdOk m.Id) := by
 obtain ⟨b, hb⟩ := ya23 m m.Groups 0 ((decide ((m.Groups.length : Int) >= 1)) && (decide ((m.Groups.length : Int) <= 4)))
 have key : zb5 m = some (if ((((¬ (b = true)) \/ (¬ (decide (IdOk m.Id) = true))) \/ (¬ (decide (0 <= m.Topic /\ m.Topic <= 3) = true))) \/ ((m.Key.length : Int) > 16)) \/ ((m.Body.length : Int) > 64) then 120 else 0) := by
  rw [zb5, hb]
  simp only [Option.bind_some, zy9, zux]
  cases b with
  | true =>
   simp only [not_true_eq_false, not_false_eq_true, if_true, Option.bind_some, false_or]
   by_cases hi : IdOk m.Id
   simp only [hi, decide_true, not_true_eq_false, not_false_eq_true, if_true, Option.bind_some, false_or]
   split <;> rfl
   simp only [hi, decide_false, Bool.false_eq_true, not_false_eq_true, not_true_eq_false, if_false, Option.bind_some, true_or, if_true]
  | false => simp
 refine ⟨⟨_, key⟩, fun h => ?_⟩
 rw [key] at h
 by_cases hi : IdOk m.Id
 exact hi
 simp [hi] at h
theorem zo8.id {m : TMessage} (h : zo8 m) : IdOk m.Id := (zw3 m).2 h
def zii (x : TStamp) : Prop := 0 <= x.Time /\ x.Time <= 1073741824 /\ 0 <= x.Id /\ x.Id < 6291456
instance (x : TStamp) : Decidable (zii x) := by unfold zii; infer_instance
theorem ya4z (x : TStamp) : zh4 x = some (if zii x then 0 else 8) := by
 rw [zh4]
 by_cases h : zii x
 rw [if_pos h, if_neg (by unfold zii at h; omega)]
 rw [if_neg h, if_pos (by unfold zii at h; omega)]
theorem ya0l (k i v : Int) : ∀ m : List (Int × Int), mget k (mput i v m) = if k = i then some v else mget k m := by
 intro m
 induction m with
 | nil => simp [mput, mget]
 | cons x m ih =>
  rw [mput]
  by_cases h : i = x.1
  rw [if_pos h]; simp only [mget]
  by_cases hk : k = i
  simp [hk]
  simp [hk, show k ≠ x.1 from fun e => hk (e.trans h.symm)]
  rw [if_neg h]; simp only [mget]
  by_cases hx : k = x.1
  simp [hx, show ¬ x.1 = i from fun e => h e.symm]
  rw [if_neg hx, ih, if_neg hx]
def DOk (c : Int) (D : List TStamp) : Prop := (∀ x ∈ D, zii x /\ 1 <= x.Time /\ x.Time <= c) /\ D.Pairwise ltS /\ (D.map TStamp.Id).Nodup
theorem DOk.pre {c : Int} {D E : List TStamp} (h : DOk c (D ++ E)) : DOk c D :=
 ⟨fun x hx => h.1 x (List.mem_append_left _ hx), (List.pairwise_append.1 h.2.1).1, by have := h.2.2; rw [List.map_append] at this; exact (List.nodup_append.1 this).1⟩
theorem ya2b {D : List TStamp} (h : D.Pairwise ltS) {p : TStamp} (hp : D.getLast? = some p) : ∀ x ∈ D, x = p \/ ltS x p := by
 obtain ⟨E, rfl⟩ := List.getLast?_eq_some_iff.1 hp
 intro x hx
 rcases List.mem_append.1 hx with hx | hx
 exact .inr ((List.pairwise_append.1 h).2.2 x hx p (by simp))
 simp at hx; exact .inl hx
theorem DOk.snoc {c : Int} {D : List TStamp} (h : DOk c D) (y : TStamp) : DOk c (D ++ [y]) ↔ (zii y /\ 1 <= y.Time /\ y.Time <= c) /\ (∀ p, D.getLast? = some p -> ltS p y) /\ y.Id ∉ D.map TStamp.Id := by
 constructor
 intro k
 refine ⟨k.1 y (by simp), fun p hp => ?_, fun hm => ?_⟩
 exact (List.pairwise_append.1 k.2.1).2.2 p (List.mem_of_getLast? hp) y (by simp)
 have := k.2.2; rw [List.map_append] at this
 exact (List.nodup_append.1 this).2.2 _ hm _ (by simp) rfl
 rintro ⟨h1, h2, h3⟩
 refine ⟨fun x hx => ?_, ?_, ?_⟩
 rcases List.mem_append.1 hx with hx | hx
 exact h.1 x hx
 simp at hx; subst hx; exact h1
 rw [List.pairwise_append]
 refine ⟨h.2.1, by simp, fun x hx z hz => ?_⟩
 simp at hz; subst hz
 cases hl : D.getLast? with
 | none => rw [List.getLast?_eq_none_iff] at hl; subst hl; simp at hx
 | some p =>
  rcases ya2b h.2.1 hl x hx with rfl | hh
  exact h2 _ hl
  exact zqs hh (h2 _ hl)
 rw [List.map_append, List.nodup_append]
 refine ⟨h.2.2, by simp, fun a ha b hb e => ?_⟩
 simp at hb; subst hb; subst e; exact h3 ha
def Mp (D : List TStamp) (m : List (Int × Int)) : Prop := ∀ k, ((mget k m).getD 0 > 0 ↔ k ∈ D.map TStamp.Id)
theorem Mp.snoc {D : List TStamp} {m : List (Int × Int)} (h : Mp D m) (y : TStamp) : Mp (D ++ [y]) (mput y.Id 1 m) := by
 intro k
 rw [ya0l]
 by_cases e : k = y.Id
 simp [e]
 rw [if_neg e, h k]; simp [e]
theorem ck1 (s : TSkeen) : ∀ (l pre : List TStamp) (m : List (Int × Int)) (n3 n4 : Int), DOk s.Clock pre -> Mp pre m -> (∀ x, pre.getLast? = some x -> x = ⟨n3, n4⟩) ->
  (DOk s.Clock (pre ++ l) -> ∃ m' a b, zb7 s l pre.length m n3 n4 = some (.inr (m', a, b)) /\ Mp (pre ++ l) m' /\ ∀ x, (pre ++ l).getLast? = some x -> x = ⟨a, b⟩) /\
  (¬ DOk s.Clock (pre ++ l) -> zb7 s l pre.length m n3 n4 = some (.inl 8)) := by
 intro l
 induction l with
 | nil =>
  intro pre m n3 n4 h1 h2 h3
  rw [List.append_nil]
  exact ⟨fun _ => ⟨m, n3, n4, rfl, h2, h3⟩, fun h => absurd h1 h⟩
 | cons y l ih =>
  intro pre m n3 n4 h1 h2 h3
  have ea : pre ++ y :: l = (pre ++ [y]) ++ l := by simp
  have hs := h1.snoc y
  have el : (pre ++ [y]).length = pre.length + 1 := by simp
  have hlast : ∀ x, (pre ++ [y]).getLast? = some x -> x = ⟨y.Time, y.Id⟩ := by
   intro x hx; simp at hx; exact hx.symm
  -- the round's test
  have key : ∀ k : Option (Int ⊕ (List (Int × Int) × Int × Int)), (DOk s.Clock (pre ++ [y]) -> k = zb7 s l (pre.length + 1) (mput y.Id 1 m) y.Time y.Id) -> (¬ DOk s.Clock (pre ++ [y]) -> k = some (.inl 8)) -> zb7 s (y :: l) pre.length m n3 n4 = k := by
   intro k k1 k2
   rw [zb7, ya4z]
   simp only [Option.bind_some, zw5]
   by_cases c1 : zii y /\ 1 <= y.Time /\ y.Time <= s.Clock
   have e1 : ¬ ((¬ (if zii y then (0 : Int) else 8) = 0 \/ y.Time < 1) \/ y.Time > s.Clock) := by
    rw [if_pos c1.1]; omega
   by_cases c2 : pre.length = 0
   have hp : pre = [] := List.length_eq_zero_iff.1 c2
   have hl : ∀ p, pre.getLast? = some p -> ltS p y := by subst hp; simp
   rw [if_neg (by rw [c2]; simp)]
   simp only [Option.bind_some]
   by_cases c3 : y.Id ∈ pre.map TStamp.Id
   rw [if_pos (.inr ((h2 _).2 c3)), k2 (fun h => (hs.1 h).2.2 c3)]
   rw [if_neg, k1 (hs.2 ⟨c1, hl, c3⟩)]
   rintro ((hh | hh) | hh)
   exact e1 hh
   omega
   exact c3 ((h2 _).1 hh)
   obtain ⟨p, hp⟩ : ∃ p, pre.getLast? = some p := by
    cases hq : pre.getLast? with
    | none => rw [List.getLast?_eq_none_iff] at hq; subst hq; simp at c2
    | some p => exact ⟨p, rfl⟩
   have ep := h3 p hp
   rw [if_pos ⟨e1, by omega⟩]
   simp only [Option.bind_some, decide_eq_true_eq]
   by_cases c4 : ltS ⟨n3, n4⟩ y
   by_cases c3 : y.Id ∈ pre.map TStamp.Id
   rw [if_pos (.inr ((h2 _).2 c3)), k2 (fun h => (hs.1 h).2.2 c3)]
   rw [if_neg, k1 (hs.2 ⟨c1, fun q hq => by rw [hp] at hq; cases hq; rw [ep]; exact c4, c3⟩)]
   rintro ((hh | hh) | hh)
   exact e1 hh
   exact hh.2 c4
   exact c3 ((h2 _).1 hh)
   rw [if_pos (.inl (.inr ⟨by omega, c4⟩)), k2 (fun h => c4 (by have := (hs.1 h).2.1 p hp; rwa [ep] at this))]
   have e1 : ((¬ (if zii y then (0 : Int) else 8) = 0 \/ y.Time < 1) \/ y.Time > s.Clock) := by
    by_cases c0 : zii y
    rw [if_pos c0]; have := c1; simp only [c0, true_and] at this; omega
    rw [if_neg c0]; exact .inl (.inl (by decide))
   rw [if_neg (by rintro ⟨hh, _⟩; exact hh e1)]
   simp only [Option.bind_some]
   rw [if_pos (.inl (.inl e1)), k2 (fun h => c1 (hs.1 h).1)]
  rw [ea]
  by_cases hd : DOk s.Clock (pre ++ [y])
  have := ih (pre ++ [y]) (mput y.Id 1 m) y.Time y.Id hd (h2.snoc y) hlast
  rw [el] at this
  rw [key _ (fun _ => rfl) (fun h => absurd hd h)]
  exact this
  refine ⟨fun h => absurd h.pre hd, fun _ => key _ (fun h => absurd h hd) (fun _ => rfl)⟩
def W1 (c : Int) (D : List TStamp) (w : TWait) : Prop := zo8 w.Message /\ 1 <= w.Time /\ w.Time <= c /\ (∀ x ∈ D, x.Id ≠ w.Message.Id) /\ ∀ x, D.getLast? = some x -> ltS x (stW w)
def WOk (c : Int) (D : List TStamp) (W : List TWait) : Prop := (∀ w ∈ W, W1 c D w) /\ zs9 W
theorem WOk.pre {c : Int} {D : List TStamp} {V W : List TWait} (h : WOk c D (V ++ W)) : WOk c D V := ⟨fun w hw => h.1 w (List.mem_append_left _ hw), (List.pairwise_append.1 h.2).1⟩
theorem ya2e {W : List TWait} (h : zs9 W) {p : TWait} (hp : W.getLast? = some p) : ∀ x ∈ W, x = p \/ x.Message.Id < p.Message.Id := by
 obtain ⟨E, rfl⟩ := List.getLast?_eq_some_iff.1 hp
 intro x hx
 rcases List.mem_append.1 hx with hx | hx
 exact .inr ((List.pairwise_append.1 h).2.2 x hx p (by simp))
 simp at hx; exact .inl hx
theorem WOk.snoc {c : Int} {D : List TStamp} {W : List TWait} (h : WOk c D W) (y : TWait) : WOk c D (W ++ [y]) ↔ W1 c D y /\ ∀ p, W.getLast? = some p -> p.Message.Id < y.Message.Id := by
 constructor
 intro k
 exact ⟨k.1 y (by simp), fun p hp => (List.pairwise_append.1 k.2).2.2 p (List.mem_of_getLast? hp) y (by simp)⟩
 rintro ⟨h1, h2⟩
 refine ⟨fun x hx => ?_, ?_⟩
 rcases List.mem_append.1 hx with hx | hx
 exact h.1 x hx
 simp at hx; subst hx; exact h1
 unfold zs9
 rw [List.pairwise_append]
 refine ⟨h.2, by simp, fun x hx z hz => ?_⟩
 simp at hz; subst hz
 cases hl : W.getLast? with
 | none => rw [List.getLast?_eq_none_iff] at hl; subst hl; simp at hx
 | some p =>
  rcases ya2e h.2 hl x hx with rfl | hh
  exact h2 _ hl
  have := h2 _ hl; omega
theorem ck2 (s : TSkeen) (m : List (Int × Int)) (a b : Int) (hm : Mp s.Done m) (hab : ∀ x, s.Done.getLast? = some x -> x = ⟨a, b⟩) : ∀ (l pre : List TWait), s.Waits = pre ++ l -> WOk s.Clock s.Done pre ->
  (WOk s.Clock s.Done (pre ++ l) -> zb6 s m a b l pre.length = some (.inr ())) /\ (¬ WOk s.Clock s.Done (pre ++ l) -> zb6 s m a b l pre.length = some (.inl 8)) := by
 intro l
 induction l with
 | nil =>
  intro pre _ h1
  rw [List.append_nil]
  exact ⟨fun _ => rfl, fun h => absurd h1 h⟩
 | cons y l ih =>
  intro pre hw h1
  have ea : pre ++ y :: l = (pre ++ [y]) ++ l := by simp
  have hs := h1.snoc y
  have el : (pre ++ [y]).length = pre.length + 1 := by simp
  have hprev : ∀ p, pre.getLast? = some p -> s.Waits.getD (pre.length - 1) default = p := by
   intro p hp
   obtain ⟨E, rfl⟩ := List.getLast?_eq_some_iff.1 hp
   rw [hw]; simp [List.getD]
  obtain ⟨⟨e, he⟩, _⟩ := zw3 y.Message
  have hmo : zo8 y.Message ↔ e = 0 := by unfold zo8; rw [he]; simp
  have key : ∀ k : Option (Int ⊕ Unit), (WOk s.Clock s.Done (pre ++ [y]) -> k = zb6 s m a b l (pre.length + 1)) -> (¬ WOk s.Clock s.Done (pre ++ [y]) -> k = some (.inl 8)) -> zb6 s m a b (y :: l) pre.length = k := by
   intro k k1 k2
   rw [zb6, he]
   simp only [Option.bind_some, zes, zw5]
   let T1 : Prop := ((((¬ (e = 0) \/ y.Time < 1) \/ y.Time > s.Clock) \/ (((pre.length : Int) > 0) /\ y.Message.Id <= (s.Waits.getD (pre.length - 1) default).Message.Id)) \/ ((mget y.Message.Id m).getD 0 > 0))
   have t1 : ¬ T1 ↔ (zo8 y.Message /\ 1 <= y.Time /\ y.Time <= s.Clock /\ (∀ x ∈ s.Done, x.Id ≠ y.Message.Id)) /\ (∀ p, pre.getLast? = some p -> p.Message.Id < y.Message.Id) := by
    have h3 : ((mget y.Message.Id m).getD 0 > 0) ↔ ¬ ∀ x ∈ s.Done, x.Id ≠ y.Message.Id := by
     rw [hm]; simp
    have h4 : (((pre.length : Int) > 0) /\ y.Message.Id <= (s.Waits.getD (pre.length - 1) default).Message.Id) ↔ ¬ ∀ p, pre.getLast? = some p -> p.Message.Id < y.Message.Id := by
     cases hq : pre.getLast? with
     | none => rw [List.getLast?_eq_none_iff] at hq; subst hq; simp
     | some p =>
      rw [hprev p hq]
      have : pre.length > 0 := by
       rcases Nat.eq_zero_or_pos pre.length with h0 | h0
       rw [List.length_eq_zero_iff.1 h0] at hq; simp at hq
       exact h0
      constructor
      rintro ⟨_, h5⟩ h6; have := h6 p rfl; omega
      intro h5
      refine ⟨by omega, ?_⟩
      apply Decidable.byContradiction
      intro h6
      exact h5 fun q hq' => by cases hq'; omega
    show ¬ ((((¬ (e = 0) \/ y.Time < 1) \/ y.Time > s.Clock) \/ _) \/ _) ↔ _
    rw [h3, h4, hmo]
    constructor
    intro h
    refine ⟨⟨?_, ?_, ?_, ?_⟩, ?_⟩
    apply Decidable.byContradiction; intro q; exact h (.inl (.inl (.inl (.inl q))))
    apply Decidable.byContradiction; intro q; exact h (.inl (.inl (.inl (.inr (by omega)))))
    apply Decidable.byContradiction; intro q; exact h (.inl (.inl (.inr (by omega))))
    apply Classical.byContradiction; intro q; exact h (.inr q)
    apply Classical.byContradiction; intro q; exact h (.inl (.inr q))
    rintro ⟨⟨q1, q2, q3, q4⟩, q5⟩ ((((q | q) | q) | q) | q)
    exact q q1
    omega
    omega
    exact q q5
    exact q q4
   by_cases c1 : T1
   have c1' : ¬ (¬ T1 /\ (s.Done.length : Int) > 0) := fun h => h.1 c1
   show Option.bind (if ¬ T1 /\ (s.Done.length : Int) > 0 then _ else _) _ = k
   rw [if_neg c1']
   simp only [Option.bind_some]
   show Option.bind (if ¬ T1 /\ (s.Done.length : Int) > 0 then _ else _) _ = k
   rw [if_neg c1']
   simp only [Option.bind_some]
   rw [if_pos (.inl c1), k2]
   intro h
   have := hs.1 h
   exact t1.2 ⟨⟨this.1.1, this.1.2.1, this.1.2.2.1, this.1.2.2.2.1⟩, this.2⟩ c1
   have q := t1.1 c1
   by_cases c2 : s.Done = []
   have c1' : ¬ (¬ T1 /\ (s.Done.length : Int) > 0) := by rw [c2]; simp
   show Option.bind (if ¬ T1 /\ (s.Done.length : Int) > 0 then _ else _) _ = k
   rw [if_neg c1']
   simp only [Option.bind_some]
   show Option.bind (if ¬ T1 /\ (s.Done.length : Int) > 0 then _ else _) _ = k
   rw [if_neg c1']
   simp only [Option.bind_some]
   rw [if_neg, k1 (hs.2 ⟨⟨q.1.1, q.1.2.1, q.1.2.2.1, q.1.2.2.2, by rw [c2]; simp⟩, q.2⟩)]
   rintro (h | h)
   exact c1 h
   rw [c2] at h; simp at h
   obtain ⟨p, hp⟩ : ∃ p, s.Done.getLast? = some p := by
    cases hq : s.Done.getLast? with
    | none => rw [List.getLast?_eq_none_iff] at hq; exact absurd hq c2
    | some p => exact ⟨p, rfl⟩
   have hpos : (s.Done.length : Int) > 0 := by
    have := List.length_pos_iff.2 c2; omega
   have ep := hab p hp
   show Option.bind (if ¬ T1 /\ (s.Done.length : Int) > 0 then _ else _) _ = k
   rw [if_pos ⟨c1, hpos⟩]
   simp only [Option.bind_some]
   show Option.bind (if ¬ T1 /\ (s.Done.length : Int) > 0 then _ else _) _ = k
   rw [if_pos ⟨c1, hpos⟩]
   simp only [Option.bind_some, decide_eq_true_eq]
   show (if T1 \/ ((s.Done.length : Int) > 0 /\ ¬ ltS ⟨a, b⟩ (stW y)) then _ else _) = k
   by_cases c3 : ltS ⟨a, b⟩ (stW y)
   rw [if_neg, k1 (hs.2 ⟨⟨q.1.1, q.1.2.1, q.1.2.2.1, q.1.2.2.2, fun x hx => by rw [hab x hx]; exact c3⟩, q.2⟩)]
   rintro (h | h)
   exact c1 h
   exact h.2 c3
   rw [if_pos (.inr ⟨hpos, c3⟩), k2]
   intro h
   exact c3 (by have := (hs.1 h).1.2.2.2.2 p hp; rwa [ep] at this)
  rw [ea]
  by_cases hd : WOk s.Clock s.Done (pre ++ [y])
  have := ih (pre ++ [y]) (by rw [hw, ea]) hd
  rw [el] at this
  rw [key _ (fun _ => rfl) (fun h => absurd hd h)]
  exact this
  exact ⟨fun h => absurd h.pre hd, fun _ => key _ (fun h => absurd h hd) (fun _ => rfl)⟩
structure V (s : TSkeen) : Prop where
 c0 : 0 <= s.Clock
 c1 : s.Clock <= 1073741824
 lw : s.Waits.length <= 200
 ld : s.Done.length <= 200
 d : DOk s.Clock s.Done
 w : WOk s.Clock s.Done s.Waits
 m : ∀ y l, s.Waits = y :: l -> (minW y l).Final = false
theorem zx1 (s : TSkeen) : ∃ e, zf5 s = some e /\ (e = 0 ↔ V s) := by
 rw [zf5]
 by_cases h0 : ((s.Clock < 0 \/ s.Clock > 1073741824) \/ (s.Waits.length : Int) > 200) \/ (s.Done.length : Int) > 200
 rw [if_pos h0]
 refine ⟨8, rfl, (by intro h; cases h), fun h => ?_⟩
 have := h.c0; have := h.c1; have := h.lw; have := h.ld; omega
 rw [if_neg h0]
 have d0 : DOk s.Clock [] := ⟨by simp, by simp, by simp⟩
 have hc := ck1 s s.Done [] [] 0 0 d0 (by intro k; simp [mget]) (by simp)
 rw [List.nil_append] at hc
 by_cases hd : DOk s.Clock s.Done
 obtain ⟨m, a, b, h1, h2, h3⟩ := hc.1 hd
 have h1 : zb7 s s.Done 0 [] 0 0 = _ := h1
 rw [h1]
 simp only [Option.bind_some]
 have w0 : WOk s.Clock s.Done [] := ⟨by simp, by simp [zs9]⟩
 have hc2 := ck2 s m a b h2 h3 s.Waits [] rfl w0
 rw [List.nil_append] at hc2
 by_cases hw : WOk s.Clock s.Done s.Waits
 have h4 : zb6 s m a b s.Waits 0 = _ := hc2.1 hw
 rw [h4]
 simp only [Option.bind_some]
 cases hl : s.Waits with
 | nil =>
  refine ⟨0, by simp, fun _ => ⟨by omega, by omega, by omega, by omega, hd, hw, by rw [hl]; simp⟩, fun _ => rfl⟩
 | cons y l =>
  rw [if_pos (by simp only [List.length_cons]; omega), ya36 y l (by rw [hl] at h0; simp at h0; omega)]
  simp only [Option.bind_some]
  by_cases hf : (minW y l).Final = true
  rw [if_pos ⟨by simp only [List.length_cons]; omega, hf⟩]
  refine ⟨8, rfl, (by intro h; cases h), fun h => ?_⟩
  have := h.m y l hl
  rw [hf] at this; cases this
  rw [if_neg (fun h => hf h.2)]
  refine ⟨0, rfl, fun _ => ⟨by omega, by omega, by omega, by omega, hd, hw, fun y' l' h => ?_⟩, fun _ => rfl⟩
  rw [hl] at h; cases h
  simpa using hf
 have h4 : zb6 s m a b s.Waits 0 = _ := hc2.2 hw
 rw [h4]
 simp only [Option.bind_some]
 exact ⟨8, rfl, (by intro h; cases h), fun h => absurd h.w hw⟩
 have h1 : zb7 s s.Done 0 [] 0 0 = _ := hc.2 hd
 rw [h1]
 simp only [Option.bind_some]
 exact ⟨8, rfl, (by intro h; cases h), fun h => absurd h.d hd⟩
theorem ya0g (m : TMessage) : ∀ (l : List Int) (n : Nat), zas m l n false = some false := by
 intro l
 induction l with
 | nil => intro n; rfl
 | cons y l ih => intro n; rw [zas]; simpa using ih (n + 1)
theorem zo8.groups {m : TMessage} (h : zo8 m) : m.Groups.length <= 4 := by
 apply Decidable.byContradiction
 intro hc
 unfold zo8 at h
 have e : ((decide ((m.Groups.length : Int) >= 1)) && (decide ((m.Groups.length : Int) <= 4))) = false := by
  rw [Bool.and_eq_false_iff]; right; simp; omega
 rw [zb5, e, ya0g] at h
 simp [zy9, zux] at h
theorem ya5z (a b : TMessage) : zcv a b = some (decide (a = b)) := by
 rw [zcv, zpt]
 obtain ⟨a1, a2, a3, a4, a5⟩ := a
 obtain ⟨b1, b2, b3, b4, b5⟩ := b
 by_cases h : a1 = b1
 by_cases h2 : a2 = b2 <;> by_cases h3 : a3 = b3 <;> by_cases h4 : a4 = b4 <;> by_cases h5 : a5 = b5 <;> simp [h, h2, h3, h4, h5]
 simp [h]
theorem ya7i (a b : TCommand) : zgl a b = some (decide (a = b)) := by
 rw [zgl, ya5z, zpt]
 obtain ⟨a1, a2, a3, a4, a5, a6, a7, a8⟩ := a
 obtain ⟨b1, b2, b3, b4, b5, b6, b7, b8⟩ := b
 by_cases h : a1 = b1
 by_cases h2 : a2 = b2
 by_cases h3 : a3 = b3
 by_cases h4 : a4 = b4
 by_cases h5 : a5 = b5 <;> by_cases h6 : a6 = b6 <;> by_cases h7 : a7 = b7 <;> by_cases h8 : a8 = b8 <;> simp [h, h2, h3, h4, h5, h6, h7, h8]
 simp [h, h2, h3, h4]
 simp [h, h2, h3]
 simp [h, h2]
 simp [h]
theorem ya0a (c : TCommand) : ∃ p ok, zew c = some (p, ok) /\ (c.Kind = 1 -> ok = true -> zo8 c.Message) /\ (c.Kind = 2 -> ok = true -> IdOk c.Id /\ 1 <= c.Time /\ c.Time <= 1073741824) := by
 rw [zew, zy9]
 simp only [Option.bind_some]
 obtain ⟨v2, h2⟩ : ∃ v2, (if decide (IdOk c.Id) = true then zcl c.Topic 0 3 else some default) = some v2 := by split <;> exact ⟨_, by first | exact zux _ _ _ | rfl⟩
 rw [h2]
 simp only [Option.bind_some]
 obtain ⟨v3, h3⟩ : ∃ v3, (if decide (IdOk c.Id) = true /\ v2 = true then zcl c.N 0 1073741824 else some default) = some v3 := by split <;> exact ⟨_, by first | exact zux _ _ _ | rfl⟩
 rw [h3]
 simp only [Option.bind_some]
 by_cases k0 : c.Kind = 0
 rw [if_pos k0]; exact ⟨_, _, rfl, by intro h; omega, by intro h; omega⟩
 rw [if_neg k0]
 by_cases k1 : c.Kind = 1
 rw [if_pos k1]
 obtain ⟨e, he⟩ := (zw3 c.Message).1
 rw [he]
 exact ⟨_, _, rfl, fun _ h => by rw [zo8, he]; simp at h; rw [h], by intro h; omega⟩
 rw [if_neg k1]
 by_cases k2 : c.Kind = 2
 rw [if_pos k2]
 by_cases hi : IdOk c.Id
 simp only [hi, decide_true, if_true, Option.bind_some, zux]
 exact ⟨_, _, rfl, by intro h; omega, fun _ h => ⟨trivial, by simpa using h⟩⟩
 simp only [hi, decide_false, Bool.false_eq_true, if_false, Option.bind_some]
 exact ⟨_, _, rfl, by intro h; omega, fun _ h => by simp at h⟩
 rw [if_neg k2]
 by_cases k3 : c.Kind = 3
 rw [if_pos k3, ya05]
 exact ⟨_, _, rfl, by intro h; omega, by intro h; omega⟩
 rw [if_neg k3]
 by_cases k4 : c.Kind = 4
 rw [if_pos k4]
 obtain ⟨v8, h8⟩ : ∃ v8, (if (decide (IdOk c.Id) = true /\ v2 = true) /\ v3 = true then zcl c.Who 0 7 else some default) = some v8 := by split <;> exact ⟨_, by first | exact zux _ _ _ | rfl⟩
 rw [h8]
 exact ⟨_, _, rfl, by intro h; omega, by intro h; omega⟩
 rw [if_neg k4]
 by_cases k5 : c.Kind = 5
 rw [if_pos k5]
 simp only [Option.bind_some, k5]
 exact ⟨_, _, rfl, by intro h; omega, by intro h; omega⟩
 rw [if_neg k5]
 simp only [Option.bind_some]
 by_cases k6 : (c.Kind == 6) = true
 rw [if_pos k6]; exact ⟨_, _, rfl, by intro h; omega, by intro h; omega⟩
 rw [if_neg k6]; exact ⟨_, _, rfl, by intro h; omega, by intro h; omega⟩
theorem ya17 (c : TCommand) : ∃ e, zar c = some e /\ (e = 0 -> (c.Kind = 1 -> zo8 c.Message) /\ (c.Kind = 2 -> IdOk c.Id /\ 1 <= c.Time /\ c.Time <= 1073741824)) := by
 obtain ⟨p, ok, h, h1, h2⟩ := ya0a c
 rw [zar, h]
 simp only [Option.bind_some, ya7i]
 cases ok with
 | false => exact ⟨120, by simp, by intro h; cases h⟩
 | true =>
  simp only [not_true_eq_false, not_false_eq_true, if_true, Option.bind_some, false_or]
  split
  exact ⟨120, rfl, by intro h; cases h⟩
  exact ⟨0, rfl, fun _ => ⟨fun k => h1 k rfl, fun k => h2 k rfl⟩⟩
theorem zro (l : List Int) (h : l.length * 8 <= 140737488355328) : zbn l = some l := by rw [zbn, if_pos h]
theorem zyh (v : List TWait) (hv : v.length < 1000000) : ∀ (fu k : Nat) (l : List TWait), l.length = v.length -> v.length - k < fu -> k <= v.length -> (∀ w ∈ l, w.Message.Groups.length * 8 <= 140737488355328) -> zck v fu l (k : Int) = some l := by
 intro fu
 induction fu with
 | zero => intro k l _ h; omega
 | succ fu ih =>
  intro k l hl h hk hg
  rw [zck]
  by_cases hlt : k < v.length
  have hk' : k < l.length := by omega
  have hgd : l.getD (k : Int).toNat default = l[k] := by simp [List.getD, List.getElem?_eq_getElem hk']
  have hw : wr .i64 ((k : Int) + 1) = ((k + 1 : Nat) : Int) := zkk _ _ (by show (-9223372036854775808 : Int) <= _; omega) (by show _ <= (9223372036854775807 : Int); omega)
  rw [if_pos (by omega), if_pos (by omega), hgd, zro _ (hg _ (List.getElem_mem hk'))]
  simp only [Option.bind_some]
  have e : l.set (k : Int).toNat l[k] = l := by rw [Int.toNat_natCast]; simp
  rw [if_pos (by omega)]
  show zck v fu (l.set (k : Int).toNat l[k]) (wr .i64 ((k : Int) + 1)) = _
  rw [e, hw]
  exact ih (k + 1) l hl (by omega) (by omega) hg
  rw [if_neg (by omega), if_pos (by omega)]
theorem zzn (s : TSkeen) (h1 : s.Waits.length <= 1000) (h2 : s.Done.length <= 1000) (h3 : ∀ w ∈ s.Waits, w.Message.Groups.length * 8 <= 140737488355328) : zef s = some s := by
 rw [zef, zdp, if_pos (by omega), zdd, if_pos (by omega)]
 simp only [Option.bind_some]
 have := zyh s.Waits (by omega) (s.Waits.length + 1) 0 s.Waits rfl (by omega) (by omega) h3
 rw [show ((0 : Nat) : Int) = 0 from rfl] at this
 rw [this]
 rfl
structure J (c : Int) (W : List TWait) (D : List TStamp) : Prop where
 c1 : c <= 1073741824
 d : DOk c D
 w : WOk c D W
theorem V.j {s : TSkeen} (h : V s) : J s.Clock s.Waits s.Done := ⟨h.c1, h.d, h.w⟩
theorem J.ids {c : Int} {W : List TWait} {D : List TStamp} (h : J c W D) : ∀ w ∈ W, IdOk w.Message.Id := fun w hw => (h.w.1 w hw).1.id
theorem J.mono {c c' : Int} {W : List TWait} {D : List TStamp} (h : J c W D) (h1 : c <= c') (h2 : c' <= 1073741824) : J c' W D :=
 ⟨h2, ⟨fun x hx => by have := h.d.1 x hx; exact ⟨this.1, this.2.1, by omega⟩, h.d.2⟩, ⟨fun w hw => by have := h.w.1 w hw; exact ⟨this.1, this.2.1, by have := this.2.2.1; omega, this.2.2.2⟩, h.w.2⟩⟩
theorem ya2v {W : List TWait} (hu : zs9 W) {a b : TWait} (ha : a ∈ W) (hb : b ∈ W) (h : a.Message.Id = b.Message.Id) : a = b := by
 obtain ⟨i, hi, rfl⟩ := List.getElem_of_mem ha
 obtain ⟨j, hj, rfl⟩ := List.getElem_of_mem hb
 rcases Nat.lt_trichotomy i j with hh | hh | hh
 have := List.pairwise_iff_getElem.1 hu i j hi hj hh; omega
 subst hh; rfl
 have := List.pairwise_iff_getElem.1 hu j i hj hi hh; omega
theorem ya2l (s : TSkeen) (id t : Int) (hl : s.Waits.length < 1000000) (hj : J s.Clock s.Waits s.Done) (hi : IdOk id) :
  (zc4 ⟨s⟩ id t = some ⟨s⟩ /\ ∀ w ∈ s.Waits, w.Message.Id = id -> w.Final = true \/ t < w.Time) \/
  ∃ (k : Nat) (hk : k < s.Waits.length), s.Waits[k].Message.Id = id /\ s.Waits[k].Final = false /\ s.Waits[k].Time <= t /\ zc4 ⟨s⟩ id t = some ⟨⟨max s.Clock t, s.Waits.set k ⟨s.Waits[k].Message, t, true⟩, s.Done⟩⟩ := by
 rw [zc4, zwc ⟨s⟩ id hl hj.w.2 hj.ids hi]
 simp only [Option.bind_some]
 have hp := ya09 id s.Waits hj.w.2
 by_cases hx : ∃ w ∈ s.Waits, w.Message.Id = id
 obtain ⟨hk, he⟩ := hp.1 hx
 have hgd : s.Waits.getD ((plc id s.Waits : Nat) : Int).toNat default = s.Waits[plc id s.Waits] := by rw [Int.toNat_natCast]; simp [List.getD, List.getElem?_eq_getElem hk]
 have hgd2 : ∀ x : TWait, (s.Waits.set ((plc id s.Waits : Nat) : Int).toNat x).getD ((plc id s.Waits : Nat) : Int).toNat default = x := by
  intro x; rw [Int.toNat_natCast]; simp [List.getD, hk]
 simp only [hx, decide_true, not_true_eq_false, not_false_eq_true, false_or, hgd, hgd2]
 rw [if_pos (by intro _; omega), if_pos (by intro _; omega)]
 by_cases hf : s.Waits[plc id s.Waits].Final = true \/ t < s.Waits[plc id s.Waits].Time
 left
 rw [if_pos hf]
 refine ⟨rfl, fun w hw hid => ?_⟩
 have := ya2v hj.w.2 hw (List.getElem_mem hk) (hid.trans he.symm)
 rw [this]; exact hf
 right
 rw [if_neg hf, if_pos (by omega), if_pos (by simp only [List.length_set]; omega)]
 refine ⟨plc id s.Waits, hk, he, ?_, by omega, ?_⟩
 cases hq : s.Waits[plc id s.Waits].Final with
 | false => rfl
 | true => exact absurd (.inl hq) hf
 rw [Int.toNat_natCast, List.set_set]
 left
 have hx' : ∀ w ∈ s.Waits, w.Message.Id ≠ id := fun w hw he => hx ⟨w, hw, he⟩
 simp only [hx, decide_false, Bool.false_eq_true, not_false_eq_true, not_true_eq_false, false_implies, if_true, true_or]
 exact ⟨trivial, fun w hw he => absurd he (hx' w hw)⟩
theorem J.set {c t : Int} {W : List TWait} {D : List TStamp} (h : J c W D) (k : Nat) (hk : k < W.length) (h1 : W[k].Time <= t) (h2 : t <= 1073741824) : J (max c t) (W.set k ⟨W[k].Message, t, true⟩) D := by
 have h' := h.mono (c' := max c t) (Int.le_max_left _ _) (by have := h.c1; omega)
 refine ⟨h'.c1, h'.d, fun w hw => ?_, ?_⟩
 rcases List.mem_or_eq_of_mem_set hw with hw | rfl
 exact h'.w.1 w hw
 have hm := h'.w.1 _ (List.getElem_mem hk)
 refine ⟨hm.1, by have := hm.2.1; show 1 <= t; omega, Int.le_max_right _ _, hm.2.2.2.1, fun x hx => ?_⟩
 have hl := hm.2.2.2.2 x hx
 show ltS x ⟨t, W[k].Message.Id⟩
 unfold ltS stW at *
 simp only at hl ⊢
 omega
 have hu := h.w.2
 unfold zs9 at hu ⊢
 rw [<- List.pairwise_map (f := fun w : TWait => w.Message.Id) (R := fun a b => a < b)] at hu ⊢
 rw [List.map_set]
 have : (W.map fun w : TWait => w.Message.Id).set k W[k].Message.Id = W.map fun w : TWait => w.Message.Id := by
  apply List.ext_getElem
  simp
  intro i h1 h2
  rw [List.getElem_set]
  split
  rename_i e; subst e; simp
  rfl
 rw [this]
 exact hu
theorem ya1a (s : TSkeen) (g : Int) (m : TMessage) (hl : s.Waits.length <= 200) (hc0 : 0 <= s.Clock) (hj : J s.Clock s.Waits s.Done) (hm : zo8 m) :
  (∃ e, zbv ⟨s⟩ g m = some (e, ⟨s⟩)) \/
  (g ∈ m.Groups /\ s.Clock < 1073741824 /\ s.Waits.length < 200 /\ (∀ x ∈ s.Done, x.Id ≠ m.Id) /\ (∀ w ∈ s.Waits, w.Message.Id ≠ m.Id) /\
   zbv ⟨s⟩ g m = some (0, ⟨⟨s.Clock + 1, s.Waits.take (plc m.Id s.Waits) ++ ⟨m, s.Clock + 1, false⟩ :: s.Waits.drop (plc m.Id s.Waits), s.Done⟩⟩)) := by
 rw [zbv, zwc ⟨s⟩ m.Id (by show s.Waits.length < 1000000; omega) hj.w.2 hj.ids hm.id, ya4j]
 simp only [Option.bind_some]
 by_cases hx : ∃ w ∈ s.Waits, w.Message.Id = m.Id
 left
 simp only [hx, decide_true, not_true_eq_false, if_false, true_or, Option.bind_some, if_true]
 exact ⟨0, rfl⟩
 have hx' : ∀ w ∈ s.Waits, w.Message.Id ≠ m.Id := fun w hw he => hx ⟨w, hw, he⟩
 simp only [hx, decide_false, Bool.false_eq_true, not_false_eq_true, if_true, false_or, Option.bind_some]
 cases hd : s.Done.any fun x => x.Id == m.Id with
 | true =>
  left
  simp only [not_true_eq_false, if_false, Option.bind_some, true_or, if_true]
  exact ⟨0, rfl⟩
 | false =>
  have hd' : ∀ x ∈ s.Done, x.Id ≠ m.Id := by
   intro x hxd he
   have := List.any_eq_false.1 hd x hxd
   simp [he] at this
  have hg := zwj m.Groups g
  simp only [Bool.false_eq_true, not_false_eq_true, if_true, false_or, Option.bind_some, hg]
  by_cases hgm : g ∈ m.Groups
  simp only [hgm, decide_true, not_true_eq_false, if_false]
  by_cases hfull : s.Clock = 1073741824 \/ (s.Waits.length : Int) = 200
  left; rw [if_pos hfull]; exact ⟨9, rfl⟩
  right
  have hc1 := hj.c1
  rw [if_neg hfull, zro _ (by have := hm.groups; omega)]
  simp only [Option.bind_some]
  have hple := zx9 m.Id s.Waits
  rw [if_pos (by omega), if_pos (by omega), zkk _ _ (by show (-9223372036854775808 : Int) <= _; omega) (by show _ <= (9223372036854775807 : Int); omega), Int.toNat_natCast]
  exact ⟨trivial, by omega, by omega, hd', hx', rfl⟩
  left
  simp only [hgm, decide_false, Bool.false_eq_true, not_false_eq_true, if_true]
  exact ⟨0, rfl⟩
theorem J.ins {c : Int} {W : List TWait} {D : List TStamp} (h : J c W D) (m : TMessage) (hm : zo8 m) (h0 : 0 <= c) (h1 : c < 1073741824) (hD : ∀ x ∈ D, x.Id ≠ m.Id) (hW : ∀ w ∈ W, w.Message.Id ≠ m.Id) :
  J (c + 1) (W.take (plc m.Id W) ++ ⟨m, c + 1, false⟩ :: W.drop (plc m.Id W)) D := by
 have h' := h.mono (c' := c + 1) (by omega) (by omega)
 refine ⟨h'.c1, h'.d, fun w hw => ?_, ?_⟩
 have : w = ⟨m, c + 1, false⟩ \/ w ∈ W := by
  rcases List.mem_append.1 hw with hw | hw
  exact .inr (List.mem_of_mem_take hw)
  rcases List.mem_cons.1 hw with hw | hw
  exact .inl hw
  exact .inr (List.mem_of_mem_drop hw)
 rcases this with rfl | hw
 refine ⟨hm, by show 1 <= c + 1; omega, Int.le_refl _, hD, fun x hx => ?_⟩
 have := (h.d.1 x (List.mem_of_getLast? hx)).2.2
 exact .inl (by show x.Time < c + 1; omega)
 exact h'.w.1 w hw
 have hu := h.w.2
 have hlt := zx8 m.Id W hu
 have hple := zx9 m.Id W
 have t1 : ∀ w ∈ W.take (plc m.Id W), w.Message.Id < m.Id := by
  intro w hw
  obtain ⟨i, hi, rfl⟩ := List.getElem_of_mem hw
  rw [List.getElem_take]
  have : i < plc m.Id W := by simp at hi; omega
  exact (hlt i (by omega)).2 this
 have t2 : ∀ w ∈ W.drop (plc m.Id W), m.Id < w.Message.Id := by
  intro w hw
  have hwW := List.mem_of_mem_drop hw
  obtain ⟨i, hi, rfl⟩ := List.getElem_of_mem hw
  have hne := hW _ hwW
  rw [List.getElem_drop] at hne ⊢
  have hi' : plc m.Id W + i < W.length := by simp at hi; omega
  have : ¬ W[plc m.Id W + i].Message.Id < m.Id := fun k => by have := (hlt _ hi').1 k; omega
  omega
 unfold zs9
 rw [List.pairwise_append]
 refine ⟨hu.sublist (List.take_sublist _ _), List.pairwise_cons.2 ⟨t2, hu.sublist (List.drop_sublist _ _)⟩, fun a ha b hb => ?_⟩
 have ha' := t1 a ha
 rcases List.mem_cons.1 hb with rfl | hb
 exact ha'
 have := t2 b hb; omega
theorem ya2o (c0 : Tskeen_clock) (c : Int) : ∀ (fu : Nat) (W : List TWait) (D : List TStamp) (M : List TMessage), W.length < fu -> J c W D -> W.length + D.length <= 1000 -> M.length + W.length <= 1000 ->
  ∃ (ws W' : List TWait), zbc c0 fu W D M = some (W', D ++ ws.map stW, M ++ ws.map TWait.Message) /\ J c W' (D ++ ws.map stW) /\ (∀ y l, W' = y :: l -> (minW y l).Final = false) /\
   (∀ w ∈ ws, w ∈ W /\ w.Final = true) /\ (∀ w ∈ W', w ∈ W) /\ (∀ w ∈ W, w ∈ W' \/ w ∈ ws) /\ W'.length + ws.length = W.length := by
 intro fu
 induction fu with
 | zero => intro W D M h; omega
 | succ fu ih =>
  intro W D M h hj h1 h2
  rw [zbc]
  cases hW : W with
  | nil =>
   refine ⟨[], [], by simp, by subst hW; simpa using hj, by simp, by simp, by simp, by simp, rfl⟩
  | cons y l =>
   rw [if_pos (by simp only [List.length_cons]; omega), ya45 y l (by rw [hW] at h1; simp at h1; omega)]
   simp only [Option.bind_some]
   have hmem : minW y l ∈ W := by
    rw [hW]
    rcases ya29 l y with hh | hh
    rw [hh]; simp
    exact List.mem_cons_of_mem _ hh
   by_cases hf : (minW y l).Final = true
   rw [if_neg (by simp [hf])]
   have hfd := zwc ⟨⟨c0.Skeen.Clock, W, D⟩⟩ (minW y l).Message.Id (by show W.length < 1000000; omega) hj.w.2 hj.ids (hj.ids _ hmem)
   rw [<- hW, hfd]
   simp only [Option.bind_some]
   obtain ⟨hk, he⟩ := (ya09 (minW y l).Message.Id W hj.w.2).1 ⟨_, hmem, rfl⟩
   generalize hK : plc (minW y l).Message.Id W = K at hk he
   have hat : W[K] = minW y l := ya2v hj.w.2 (List.getElem_mem hk) hmem he
   rw [if_pos (by omega), if_pos (by omega)]
   have e1 : zes (minW y l) = some (stW (minW y l)) := rfl
   rw [e1]
   simp only [Option.bind_some, List.length_cons, List.length_nil, Int.toNat_natCast]
   have hWl : W.length = l.length + 1 := by rw [hW]; simp
   rw [if_pos (by omega), if_pos (by omega)]
   have hv := hj.w.1 _ hmem
   have hsub : ∀ w ∈ W.eraseIdx K, w ∈ W := fun w hw => List.mem_of_mem_eraseIdx hw
   have hne : ∀ w ∈ W.eraseIdx K, w.Message.Id ≠ (minW y l).Message.Id := by
    intro w hw hid
    obtain ⟨i, hi, hik, rfl⟩ := List.mem_eraseIdx_iff_getElem.1 hw
    have e2 := ya2v hj.w.2 (List.getElem_mem hi) hmem hid
    rw [<- hat] at hid
    rcases Nat.lt_or_gt_of_ne hik with hh | hh
    have := List.pairwise_iff_getElem.1 hj.w.2 i K hi hk hh; omega
    have := List.pairwise_iff_getElem.1 hj.w.2 K i hk hi hh; omega
   have hle : ∀ w ∈ W, ¬ ltS (stW w) (stW (minW y l)) := by
    intro w hw
    rw [hW] at hw
    rcases List.mem_cons.1 hw with rfl | hw
    exact (ya0k l _).1
    exact (ya0k l y).2 w hw
   have hid := hv.1.id
   have hJ : J c (W.eraseIdx K) (D ++ [stW (minW y l)]) := by
    refine ⟨hj.c1, (hj.d.snoc _).2 ⟨⟨⟨?_, ?_, hid.1, ?_⟩, hv.2.1, hv.2.2.1⟩, hv.2.2.2.2, fun hm => ?_⟩, fun w hw => ?_, hj.w.2.sublist (List.eraseIdx_sublist _ _)⟩
    have := hv.2.1; show 0 <= (minW y l).Time; omega
    have := hv.2.2.1; have := hj.c1; show (minW y l).Time <= 1073741824; omega
    have := hid.2; show (minW y l).Message.Id < 6291456; omega
    obtain ⟨x, hx, he2⟩ := List.mem_map.1 hm
    exact hv.2.2.2.1 x hx he2
    have hw1 := hj.w.1 w (hsub w hw)
    refine ⟨hw1.1, hw1.2.1, hw1.2.2.1, fun x hx => ?_, fun x hx => ?_⟩
    rcases List.mem_append.1 hx with hx | hx
    exact hw1.2.2.2.1 x hx
    simp at hx; subst hx; exact fun e => hne w hw e.symm
    simp at hx; subst hx
    exact ya0m (fun e => hne w hw e.symm) (hle w (hsub w hw))
   have hlen : (W.eraseIdx K).length = W.length - 1 := List.length_eraseIdx_of_lt hk
   obtain ⟨ws, W', g1, g2, g3, g4, g5, g6, g7⟩ := ih (W.eraseIdx K) (D ++ [stW (minW y l)]) (M ++ [(minW y l).Message]) (by omega) hJ (by simp; omega) (by simp; omega)
   refine ⟨minW y l :: ws, W', ?_, ?_, g3, ?_, ?_, ?_, ?_⟩
   rw [g1]; simp
   simpa using g2
   intro w hw
   rcases List.mem_cons.1 hw with rfl | hw
   exact ⟨hmem, hf⟩
   exact ⟨hsub w (g4 w hw).1, (g4 w hw).2⟩
   intro w hw; exact hsub w (g5 w hw)
   intro w hw
   by_cases hwv : w = minW y l
   right; simp [hwv]
   have : w ∈ W.eraseIdx K := by
    obtain ⟨i, hi, rfl⟩ := List.getElem_of_mem hw
    exact List.mem_eraseIdx_iff_getElem.2 ⟨i, hi, fun e => hwv (by subst e; exact hat), rfl⟩
   rcases g6 w this with hh | hh
   exact .inl hh
   exact .inr (List.mem_cons_of_mem _ hh)
   simp only [List.length_cons]; omega
   rw [if_pos (by simpa using hf)]
   refine ⟨[], W, by simp [hW], by simpa using hj, fun y' l' hh => ?_, by simp, by intro w hw; rw [<- hW]; exact hw, by intro w hw; left; rw [hW]; exact hw, by simp [hW]⟩
   rw [hW] at hh; cases hh; simpa using hf
def Step (s : TSkeen) (g : Int) (c : TCommand) (W : List TWait) (ck : Int) : Prop :=
 (W = s.Waits /\ ck = s.Clock) \/
 (c.Kind = 1 /\ g ∈ c.Message.Groups /\ ck = s.Clock + 1 /\ W = s.Waits.take (plc c.Message.Id s.Waits) ++ ⟨c.Message, s.Clock + 1, false⟩ :: s.Waits.drop (plc c.Message.Id s.Waits)) \/
 (c.Kind = 2 /\ ck = max s.Clock c.Time /\ ∃ (k : Nat) (hk : k < s.Waits.length), s.Waits[k].Message.Id = c.Id /\ s.Waits[k].Final = false /\ s.Waits[k].Time <= c.Time /\ W = s.Waits.set k ⟨s.Waits[k].Message, c.Time, true⟩)
def zSk : TSkeen := ⟨0, [], []⟩
theorem ya2t {s : TSkeen} (h : V s) : zf5 s = some 0 := by
 obtain ⟨e, he, hi⟩ := zx1 s
 rw [he, hi.2 h]
theorem ya2w (s : TSkeen) (g : Int) (c : TCommand) (h : V s) :
  (∃ e, e ≠ 0 /\ zf6 s g c = some (zSk, [], e) /\ (0 <= g /\ g < 4 -> zar c = some 0 -> c.Kind = 2 -> s.Waits.length + s.Done.length > 200)) \/
  ∃ (W : List TWait) (ck : Int) (ws W' : List TWait), Step s g c W ck /\ zf6 s g c = some (⟨ck, W', s.Done ++ ws.map stW⟩, ws.map TWait.Message, 0) /\ V ⟨ck, W', s.Done ++ ws.map stW⟩ /\ s.Clock <= ck /\ 
   (∀ w ∈ ws, w ∈ W /\ w.Final = true) /\ (∀ w ∈ W', w ∈ W) /\ (∀ w ∈ W, w ∈ W' \/ w ∈ ws) /\ W'.length + ws.length = W.length /\ 
   (c.Kind = 2 -> ∀ w ∈ s.Waits, w.Message.Id = c.Id -> w.Final = false -> w.Time <= c.Time -> ∃ (k : Nat) (hk : k < s.Waits.length), s.Waits[k] = w /\ W = s.Waits.set k ⟨w.Message, c.Time, true⟩) := by
 have hj := h.j
 have hlw := h.lw
 have hld := h.ld
 rw [zf6, ya2t h]
 simp only [Option.bind_some, not_true_eq_false, if_false]
 by_cases hg : g < 0 \/ g >= 4
 rw [if_pos hg]
 exact .inl ⟨2, by omega, rfl, by intro h; omega⟩
 rw [if_neg hg]
 obtain ⟨e, he, hc⟩ := ya17 c
 rw [he]
 simp only [Option.bind_some]
 by_cases he0 : e = 0
 case neg => rw [if_pos he0]; exact .inl ⟨e, he0, rfl, by intro _ h; exact absurd (sj h) he0⟩
 obtain ⟨hc1, hc2⟩ := hc he0
 have htw : zef s = some s := zzn s (by omega) (by omega) (fun w hw => by have := (hj.w.1 w hw).1.groups; omega)
 rw [if_neg (by omega), htw]
 simp only [Option.bind_some]
 -- the end: what is delivered
 have fin : ∀ (W : List TWait) (ck : Int), J ck W s.Done -> 0 <= ck -> W.length <= 200 -> ∃ (ws W' : List TWait), zdm ⟨⟨ck, W, s.Done⟩⟩ = some (ws.map TWait.Message, ⟨⟨ck, W', s.Done ++ ws.map stW⟩⟩) /\
   ((s.Done ++ ws.map stW).length <= 200 -> V ⟨ck, W', s.Done ++ ws.map stW⟩) /\ (∀ w ∈ ws, w ∈ W /\ w.Final = true) /\ (∀ w ∈ W', w ∈ W) /\ (∀ w ∈ W, w ∈ W' \/ w ∈ ws) /\ W'.length + ws.length = W.length := by
  intro W ck hJ h0 hl
  obtain ⟨ws, W', g1, g2, g3, g4, g5, g6, g7⟩ := ya2o ⟨⟨ck, W, s.Done⟩⟩ ck (W.length + 1) W s.Done [] (by omega) hJ (by omega) (by simp; omega)
  refine ⟨ws, W', ?_, fun hd => ⟨h0, g2.c1, by show W'.length <= 200; omega, hd, g2.d, g2.w, g3⟩, g4, g5, g6, g7⟩
  rw [zdm, g1]
  simp
 by_cases k1 : c.Kind = 1
 rw [if_pos k1]
 rcases ya1a s g c.Message hlw h.c0 hj (hc1 k1) with ⟨e2, ha⟩ | ⟨a1, a2, a3, a4, a5, ha⟩
 have ha' : zbv ⟨s⟩ g c.Message = _ := ha
 rw [ha']
 simp only [Option.bind_some]
 by_cases he2 : e2 = 0
 rw [if_neg (by omega)]
 simp only [Option.bind_some]
 obtain ⟨ws, W', d1, d2, d3, d4, d5, d6⟩ := fin s.Waits s.Clock hj h.c0 hlw
 rw [d1]
 simp only [Option.bind_some]
 by_cases hfull : ((s.Done ++ ws.map stW).length : Int) > 200
 rw [if_pos hfull]; exact .inl ⟨9, by omega, rfl, by intro _ _ h; omega⟩
 rw [if_neg hfull]
 exact .inr ⟨s.Waits, s.Clock, ws, W', .inl ⟨rfl, rfl⟩, rfl, d2 (by omega), Int.le_refl _, d3, d4, d5, d6, by intro h; omega⟩
 rw [if_pos he2]
 exact .inl ⟨e2, he2, rfl, by intro _ _ h; omega⟩
 have ha' : zbv ⟨s⟩ g c.Message = _ := ha
 rw [ha']
 simp only [Option.bind_some, not_true_eq_false, if_false]
 have hpl := zx9 c.Message.Id s.Waits
 obtain ⟨ws, W', d1, d2, d3, d4, d5, d6⟩ := fin _ _ (hj.ins c.Message (hc1 k1) h.c0 a2 a4 a5) (by have := h.c0; omega) (by simp; omega)
 rw [d1]
 simp only [Option.bind_some]
 by_cases hfull : ((s.Done ++ ws.map stW).length : Int) > 200
 rw [if_pos hfull]; exact .inl ⟨9, by omega, rfl, by intro _ _ h; omega⟩
 rw [if_neg hfull]
 exact .inr ⟨_, s.Clock + 1, ws, W', .inr (.inl ⟨k1, a1, rfl, rfl⟩), rfl, d2 (by omega), by omega, d3, d4, d5, d6, by intro h; omega⟩
 rw [if_neg k1]
 by_cases k2 : c.Kind = 2
 rw [if_pos k2]
 obtain ⟨i1, i2, i3⟩ := hc2 k2
 rcases ya2l s c.Id c.Time (by omega) hj i1 with ⟨hf, hno⟩ | ⟨k, hk, b1, b2, b3, hf⟩
 have hf' : zc4 ⟨s⟩ c.Id c.Time = _ := hf
 rw [hf']
 simp only [Option.bind_some]
 obtain ⟨ws, W', d1, d2, d3, d4, d5, d6⟩ := fin s.Waits s.Clock hj h.c0 hlw
 rw [d1]
 simp only [Option.bind_some]
 by_cases hfull : ((s.Done ++ ws.map stW).length : Int) > 200
 rw [if_pos hfull]
 refine .inl ⟨9, by omega, rfl, fun _ _ _ => ?_⟩
 simp at hfull; omega
 rw [if_neg hfull]
 refine .inr ⟨s.Waits, s.Clock, ws, W', .inl ⟨rfl, rfl⟩, rfl, d2 (by omega), Int.le_refl _, d3, d4, d5, d6, fun _ w hw hid hfn ht => ?_⟩
 rcases hno w hw hid with hh | hh
 rw [hfn] at hh; cases hh
 omega
 have hf' : zc4 ⟨s⟩ c.Id c.Time = _ := hf
 rw [hf']
 simp only [Option.bind_some]
 obtain ⟨ws, W', d1, d2, d3, d4, d5, d6⟩ := fin _ _ (hj.set k hk b3 i3) (by have := h.c0; have := Int.le_max_left s.Clock c.Time; omega) (by simpa using hlw)
 rw [d1]
 simp only [Option.bind_some]
 by_cases hfull : ((s.Done ++ ws.map stW).length : Int) > 200
 rw [if_pos hfull]
 refine .inl ⟨9, by omega, rfl, fun _ _ _ => ?_⟩
 simp at hfull d6; omega
 rw [if_neg hfull]
 refine .inr ⟨_, max s.Clock c.Time, ws, W', .inr (.inr ⟨k2, rfl, k, hk, b1, b2, b3, rfl⟩), rfl, d2 (by omega), Int.le_max_left _ _, d3, d4, d5, d6, fun _ w hw hid hfn ht => ?_⟩
 have := ya2v hj.w.2 hw (List.getElem_mem hk) (hid.trans b1.symm)
 exact ⟨k, hk, this.symm, by rw [this]⟩
 rw [if_neg k2]
 simp only [Option.bind_some]
 obtain ⟨ws, W', d1, d2, d3, d4, d5, d6⟩ := fin s.Waits s.Clock hj h.c0 hlw
 rw [d1]
 simp only [Option.bind_some]
 by_cases hfull : ((s.Done ++ ws.map stW).length : Int) > 200
 rw [if_pos hfull]; exact .inl ⟨9, by omega, rfl, by intro _ _ h; omega⟩
 rw [if_neg hfull]
 exact .inr ⟨s.Waits, s.Clock, ws, W', .inl ⟨rfl, rfl⟩, rfl, d2 (by omega), Int.le_refl _, d3, d4, d5, d6, by intro h; omega⟩
end Go.Proofs
end
