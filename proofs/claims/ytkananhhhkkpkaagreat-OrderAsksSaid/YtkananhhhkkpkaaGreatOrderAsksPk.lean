/- Texts of the proof. -/
import Derived.Test.YtkananhhhkkpkaaGreatOrderAsksPg
import Derived.Test.YtkananhhhkkpkaaGreatOrderAsksPi
import Derived.Test.YtkananhhhkkpkaaGreatOrderAsksPf
import Derived.Test.YtkananhhhkkpkaaGreatOrderAsksPh
import Derived.Test.YtkananhhhkkpkaaGreatOrderAsksPj
section
namespace Go.Proofs
open Go.Tm
set_option linter.unusedVariables false
def za6 (f : Torder_given -> Option Bool) : List Torder_given -> Nat -> Option (Int ⊕ Unit)
 | [], n1 =>
  some (.inr ())
 | y1 :: rest1, n1 =>
  Option.bind (f (y1)) fun v1 =>
  if v1 = true then
  some (.inl (n1 : Int))
  else
  za6 f rest1 (n1 + 1) 
def zba (s : List Torder_given) (f : Torder_given -> Option Bool) : Option Int :=
 Option.bind (α := Int ⊕ Unit) (za6 f s 0 ) fun z => match z with
 | (.inl r) => some r
 | (.inr _) =>
 some (-1)
def zb4 (f : TWait -> Option Bool) : List TWait -> Nat -> Option (Int ⊕ Unit)
 | [], n1 =>
  some (.inr ())
 | y1 :: rest1, n1 =>
  Option.bind (f (y1)) fun v1 =>
  if v1 = true then
  some (.inl (n1 : Int))
  else
  zb4 f rest1 (n1 + 1) 
def zea (s : List TWait) (f : TWait -> Option Bool) : Option Int :=
 Option.bind (α := Int ⊕ Unit) (zb4 f s 0 ) fun z => match z with
 | (.inl r) => some r
 | (.inr _) =>
 some (-1)
def ze2 : List (List (List UInt8)) -> Nat -> (List (List Torder_given)) -> Option (((List (List Torder_given)) × Int) ⊕ ((List (List Torder_given))))
 | [], n1, l2 =>
  some (.inr l2)
 | y1 :: rest1, n1, l2 =>
  Option.bind (zfy (n1 : Int) (y1)) fun v1 =>
  if ¬ (v1.2 = 0) then
  some (.inl ([], v1.2))
  else
  if l2.length + [v1.1].length < 1000000 then
  ze2 rest1 (n1 + 1) (l2 ++ [v1.1])
  else none
theorem zko (n1 : Nat) (l2 : List (List Torder_given)) : ze2 [] n1 l2 =
  (some (.inr l2) : Option (((List (List Torder_given)) × Int) ⊕ ((List (List Torder_given))))) := rfl
theorem zic (y1 : (List (List UInt8))) (rest1 : List (List (List UInt8))) (n1 : Nat) (l2 : List (List Torder_given)) : ze2 (y1 :: rest1) n1 l2 =
  (Option.bind (zfy (n1 : Int) (y1)) fun v1 =>
  if ¬ (v1.2 = 0) then
  some (.inl ([], v1.2))
  else
  if l2.length + [v1.1].length < 1000000 then
  ze2 rest1 (n1 + 1) (l2 ++ [v1.1])
  else none : Option (((List (List Torder_given)) × Int) ⊕ ((List (List Torder_given))))) := rfl
def zf3 (a0 : List (List (List UInt8))) : Option ((List (List Torder_given)) × Int) :=
 if (a0.length : Int) > 4 then
 some ([], 4)
 else
 Option.bind (α := ((List (List Torder_given)) × Int) ⊕ ((List (List Torder_given)))) (ze2 a0 0 []) fun z => match z with
 | (.inl r) => some r
 | (.inr l1) =>
 some (l1, 0)
def zcw (a0 : Torder_given) (c0 : TMessage) : Option Bool :=
 Option.bind (zcz a0.fM c0) fun v1 =>
 some v1
def zb6 (a0 : List (List Torder_given)) (a1 : TMessage) : List Int -> Int -> Option ((Int × Bool) ⊕ Int)
 | [], n2 =>
  some (.inr n2)
 | y1 :: rest1, n2 =>
  if y1 >= (a0.length : Int) then
  some (.inl (0, false))
  else
  if (0 <= y1 /\ y1 < (a0.length : Int)) then
  Option.bind (zba (a0.getD (y1).toNat default) (fun x0 => zcw x0 a1)) fun v1 =>
  if v1 < 0 then
  some (.inl (0, false))
  else
  if (0 <= y1 /\ y1 < (a0.length : Int)) then
  if (0 <= v1 /\ v1 < ((a0.getD (y1).toNat default).length : Int)) then
  zb6 a0 a1 rest1 (max n2 (((a0.getD (y1).toNat default).getD v1.toNat default).fTime))
  else none
  else none
  else none
def zdj (a0 : List (List Torder_given)) (a1 : TMessage) : Option (Int × Bool) :=
 Option.bind (α := (Int × Bool) ⊕ Int) (zb6 a0 a1 a1.Groups 0) fun z => match z with
 | (.inl r) => some r
 | (.inr n1) =>
 some (n1, true)
def zac : List (List Torder_given) -> Int -> Option (Int)
 | [], n2 =>
  some n2
 | y1 :: rest1, n2 =>
  if (wr .i64 (n2 + ((y1).length : Int))) < 0 then
  none
  else
  zac rest1 (wr .i64 (n2 + ((y1).length : Int)))
def zab : List (List Torder_given) -> (List Torder_given) -> Option ((List Torder_given))
 | [], l2 =>
  some l2
 | y2 :: rest2, l2 =>
  if l2.length + (y2).length < 1000000 then
  zab rest2 (l2 ++ y2)
  else none
theorem ze0 (l2 : List Torder_given) : zab [] l2 =
  (some l2 : Option ((List Torder_given))) := rfl
theorem ze1 (y2 : (List Torder_given)) (rest2 : List (List Torder_given)) (l2 : List Torder_given) : zab (y2 :: rest2) l2 =
  (if l2.length + (y2).length < 1000000 then
  zab rest2 (l2 ++ y2)
  else none : Option ((List Torder_given))) := rfl
def zbt (a0 : List (List Torder_given)) : Option ((List Torder_given)) :=
 Option.bind (α := Int) (zac a0 0) fun n1 =>
 if 0 <= n1 /\ (n1).toNat * 80 <= 140737488355328 then
 Option.bind (α := (List Torder_given)) (zab a0 []) fun l1 =>
 some l1
 else none
def zbo (v1 : (List Torder_given)) : Nat -> (List (Int × TMessage)) -> Int -> Option (Bool ⊕ Unit)
 | 0, _, _ => none
 | fu1 + 1, m1, n1 =>
  if n1 < (v1.length : Int) then
  if (0 <= n1 /\ n1 < (v1.length : Int)) then
  Option.bind (if (mget ((v1.getD n1.toNat default).fM.Id) m1).isSome = true then zcz ((mget ((v1.getD n1.toNat default).fM.Id) m1).getD (⟨0, [], 0, [], []⟩ : TMessage)) ((v1.getD n1.toNat default).fM) else some default) fun v2 =>
  if ((mget ((v1.getD n1.toNat default).fM.Id) m1).isSome = true) /\ (¬ (v2 = true)) then
  some (.inl false)
  else
  zbo v1 fu1 (mput ((v1.getD n1.toNat default).fM.Id) ((v1.getD n1.toNat default).fM) m1) (wr .i64 (n1 + 1))
  else none
  else
  some (.inr ())
def zgb (a0 : List (List Torder_given)) : Option Bool :=
 Option.bind (α := Bool ⊕ Unit) (Option.bind (zbt a0) fun v1 =>
 zbo v1 (v1.length + 1) [] 0) fun z => match z with
 | (.inl r) => some r
 | (.inr _) =>
 some true
def zid (a0 : List (List (List UInt8))) (a1 : TMessage) : Option (Int × Bool × Int) :=
 Option.bind (zf3 a0) fun v1 =>
 if ¬ (v1.2 = 0) then
 some (0, false, v1.2)
 else
 Option.bind (zat a1) fun v2 =>
 if ¬ (v2 = 0) then
 some (0, false, 8)
 else
 Option.bind (zdj v1.1 a1) fun v3 =>
 some (v3.1, v3.2, 0)
def zeg (a0 : TWait) (c0 : Torder_step) : Option Bool :=
 some (a0.Message.Id == c0.fC.Id)
def zfs (a0 : Torder_step) (c0 : List (List Torder_given)) (c1 : Bool) : Option ((List (List Torder_given)) × Bool) :=
 Option.bind (if ¬ (¬ (a0.fC.Kind = 2)) then ziz a0.fBefore a0.fAfter else some default) fun v1 =>
 if (¬ (a0.fC.Kind = 2)) \/ (v1 = true) then
 some (c0, c1)
 else
 Option.bind (zea a0.fBefore.Waits (fun x0 => zeg x0 a0)) fun v2 =>
 if (0 <= v2 /\ v2 < (a0.fBefore.Waits.length : Int)) then
 Option.bind (zdj c0 ((a0.fBefore.Waits.getD v2.toNat default).Message)) fun v3 =>
 some (c0, ((c1 && v3.2) && (v3.1 == a0.fC.Time)))
 else none
def zc8 (a0 : Int) : List TCommand -> (List (List Torder_given)) -> Bool -> Int -> (List TWait) -> (List TStamp) -> Option ((List (List Torder_given)) × Bool × Int × (List TWait) × (List TStamp))
 | [], l4, b2, n2, l5, l6 =>
  some (l4, b2, n2, l5, l6)
 | y1 :: rest1, l4, b2, n2, l5, l6 =>
  Option.bind (zd3 (⟨n2, l5, l6⟩ : TSkeen) a0 (y1)) fun v3 =>
  Option.bind (α := Int × (List TWait) × (List TStamp) × (List TMessage)) (if ¬ (v3.2.2 = 0) then
  some (n2, l5, l6, [])
  else
  some (v3.1.Clock, v3.1.Waits, v3.1.Done, v3.2.1)) fun (n4, l7, l8, l9) =>
  Option.bind (zfs (⟨y1, (⟨n2, l5, l6⟩ : TSkeen), (⟨n4, l7, l8⟩ : TSkeen), l9⟩ : Torder_step) l4 b2) fun v4 =>
  zc8 a0 rest1 v4.1 v4.2 n4 l7 l8
def zfm (a0 : Int) (a1 : List (List UInt8)) (a2_0 : List (List Torder_given)) (a2_1 : Bool) : Option (TSkeen × Int × (List (List Torder_given)) × Bool) :=
 if (a0 < 0) \/ (a0 >= 4) then
 some ((⟨0, [], []⟩ : TSkeen), 2, a2_0, a2_1)
 else
 Option.bind (zg3 a1) fun v1 =>
 if ¬ (v1.2 = 0) then
 some ((⟨0, [], []⟩ : TSkeen), v1.2, a2_0, a2_1)
 else
 Option.bind (zi1 ) fun v2 =>
 Option.bind (α := (List (List Torder_given)) × Bool × Int × (List TWait) × (List TStamp)) (zc8 a0 v1.1 a2_0 a2_1 v2.Clock v2.Waits v2.Done) fun (l1, b1, n1, l2, l3) =>
 Option.bind (ze8 (⟨n1, l2, l3⟩ : TSkeen)) fun v5 =>
 some (v5, 0, l1, b1)
def zdq : List (List (List UInt8)) -> Nat -> (List (List Torder_given)) -> Bool -> Option (Bool)
 | [], n1, l1, b2 =>
  some b2
 | y1 :: rest1, n1, l1, b2 =>
  Option.bind (zfm (n1 : Int) (y1) l1 b2) fun v3 =>
  zdq rest1 (n1 + 1) v3.2.2.1 v3.2.2.2
def zfh (a0 : List (List (List UInt8))) : Option (Bool × Int) :=
 Option.bind (zf3 a0) fun v1 =>
 if ¬ (v1.2 = 0) then
 some (false, v1.2)
 else
 Option.bind (zgb v1.1) fun v2 =>
 Option.bind (α := Bool) (zdq a0 0 v1.1 v2) fun b1 =>
 some (b1, 0)
def ze9 : List TStamp -> (List (Int × Int)) -> Option ((List (Int × Int)))
 | [], m2 =>
  some m2
 | y1 :: rest1, m2 =>
  ze9 rest1 (mput (y1.Id) 1 m2)
def zdk (m1 : List (Int × Int)) : List TStamp -> (List TStamp) -> Option ((List TStamp))
 | [], l2 =>
  some l2
 | y2 :: rest2, l2 =>
  Option.bind (α := (List TStamp)) (if ((mget (y2.Id) m1).getD 0) > 0 then
  if l2.length + [y2].length < 1000000 then
  some (l2 ++ [y2])
  else none
  else
  some l2) fun l3 =>
  zdk m1 rest2 l3
theorem zie (m1 : List (Int × Int)) (l2 : List TStamp) : zdk m1 [] l2 =
  (some l2 : Option ((List TStamp))) := rfl
theorem zif (m1 : List (Int × Int)) (y2 : TStamp) (rest2 : List TStamp) (l2 : List TStamp) : zdk m1 (y2 :: rest2) l2 =
  (Option.bind (α := (List TStamp)) (if ((mget (y2.Id) m1).getD 0) > 0 then
  if l2.length + [y2].length < 1000000 then
  some (l2 ++ [y2])
  else none
  else
  some l2) fun l3 =>
  zdk m1 rest2 l3 : Option ((List TStamp))) := rfl
def zfn (a0 : List TStamp) (a1 : List TStamp) : Option ((List TStamp)) :=
 Option.bind (α := (List (Int × Int))) (ze9 a1 []) fun m1 =>
 Option.bind (α := (List TStamp)) (zdk m1 a0 []) fun l1 =>
 some l1
def zig (a0 : List TStamp) (a1 : List TStamp) : Option Bool :=
 Option.bind (zfn a0 a1) fun v1 =>
 Option.bind (zfn a1 a0) fun v2 =>
 if (0 <= (min (v1.length : Int) (v2.length : Int)) /\ (min (v1.length : Int) (v2.length : Int)) <= (v1.length : Int)) then
 if (0 <= (min (v1.length : Int) (v2.length : Int)) /\ (min (v1.length : Int) (v2.length : Int)) <= (v2.length : Int)) then
 Option.bind (zd0 (v1.take (min (v1.length : Int) (v2.length : Int)).toNat) (v2.take (min (v1.length : Int) (v2.length : Int)).toNat)) fun v3 =>
 some v3
 else none
 else none
end Go.Proofs
end
section
namespace Go.Proofs
open Go.Tm Go.RowKit Go.WideShapes
set_option maxRecDepth 100000
set_option maxHeartbeats 4000000
set_option linter.unusedSimpArgs false
set_option linter.unusedVariables false
@[go_sem] def ya6p : St := ⟨[], [], 0⟩
@[go_sem] def ya6o (s : List Torder_given) (Kf : Nat) (cf : List D) (n1 : Nat) : St := ⟨[(0, .imm 6 (s.map Torder_given.d) 4), (1, .fn (.func Kf) cf), (7, .int .i64 (s.length : Int)), (8, .int .i64 (n1 : Int))], [], 0⟩
theorem zg7 (s : List Torder_given) (Kf : Nat) (cf : List D) (hcf : ∀ hp, zez hp cf = (cf, true)) (h2f : ∀ hp, zf0 hp cf = (cf, true)) (h3f : ∀ hp, zj2 hp cf = []) (f : Torder_given -> Option Bool) (hf : ∀ x0 y, f x0 = some y -> zbn Tryz.prog Kf (.agg [.int .i64 x0.fTime, .int .i64 x0.fM.Id, .imm 1 (x0.fM.Groups.map (D.int .i64)) 4, .int .i64 x0.fM.Topic, .str x0.fM.Key, .str x0.fM.Body] :: cf) (.bool y)) (r : Int) (h : zba s f = some r) : zbn Tryz.prog 52 [.imm 6 (s.map Torder_given.d) 4, .fn (.func Kf) cf] (.int .i64 r) := by
 refine za2 Tryz.tmOk 2 Tryz.func52 rfl (by decide) rfl rfl (lb rfl) ?_
 intro hwf
 unfold zba at h
 refine .seq (.pl zS [0, 1] ?_)
 obtain ⟨x1, hx1, h⟩ := bind_some h
 refine .seqM 0 (fun (j : Unit) => ya6p) (fun j => x1 = (.inr j)) (lb rfl) ?_ ?_
 ·refine .seq (.pl zS [0, 1] ?_)
  refine .block ?_
  refine .loopG 0 (fun (j : Nat) => ya6o s Kf cf j) (fun j => j <= s.length /\ za6 f (s.drop j) j  = some x1) (fun j => s.length - j) (0) (lb rfl) ?_ ⟨Nat.zero_le _, hx1⟩ ?_
  ·refine Goes.mv [0, 1, 7, 8] [] [] ?_ (lb rfl) (lb rfl) (by first | rfl | (simp only [idsV, idsH, zd1, getL, D.ids, Blk.ids, zf1, Nat.reduceBEq, cond_true, cond_false, List.append_nil, List.nil_append, List.cons_append, zc9 hcf] <;> rfl))
   first | rfl | (simp only [go_sem, Nat.reduceBEq, Nat.reduceAdd, za8 hcf]; done) | (simp only [go_sem, Nat.reduceBEq, Nat.reduceAdd, za8 hcf]; rfl)
  rintro n1 ⟨hi1, hx1⟩
  simp only [ya6o]
  refine .wf 7 (.int .i64 (s.length : Int)) rfl ?_
  intro hln1
  replace hln1 : (s.length : Int) <= 9223372036854775807 := by simp only [wf, wfL, IntKind.max, IntKind.min, IntKind.signed, IntKind.bits, List.length_map] at hln1; first | exact hln1.2 | exact hln1.1 | (simp at hln1; omega)
  refine .seq (.pl zS [0, 1, 7, 8] ?_)
  refine .seq ?_
  refine .cond rfl rfl (fun hc1 => ?_) (fun hc1 => ?_)
  ·have h1 : n1 < s.length := by simpa using hc1
   have hwn1 : wr .i64 ((n1 : Int) + 1) = ((n1 + 1 : Nat) : Int) := zch h1 hln1
   have hpn1 : wr .i64 ((n1 : Int) - 1) = (n1 : Int) - 1 := zci h1 hln1
   rw [List.drop_eq_getElem_cons h1, za6] at hx1
   refine .skip ?_
   refine .seq (.block (.seq ?_))
   refine .plx zS hwn1 [0, 1, 7, 8] ?_
   refine .seq ?_
   obtain ⟨v1, hv1, hx1⟩ := bind_some hx1
   have e1 := zay Torder_given.d s n1 h1
   refine .rg zS [0, 1, 5, 7, 8] ?_
   refine .rnx 5 (ai e1 hwn1) ?_
   refine .call (r := .bool v1) rfl rfl rfl rfl rfl (za1 rfl (hcf _)) (hf _ v1 hv1) ?_
   refine .nil ⟨nofun, ?_⟩
   refine .cond rfl rfl (fun hc2 => ?_) (fun hc2 => ?_)
   replace hx1 := za0 hx1 hc2
   refine .seq (.plx zS hwn1 [5] ?_)
   have hq := sj hx1
   subst x1
   try dsimp only at h
   have hq := sj h
   subst r
   exact .ret ⟨.inr rfl, rsi⟩
   ·replace hx1 := za3 hx1 hc2
    refine .skip ?_
    refine .plx zS hwn1 [0, 1, 7, 8] ?_
    refine ⟨n1 + 1, ?_, ⟨by omega, hx1⟩, by dsimp only; omega⟩
    refine Goes.mv [0, 1, 7, 8] [] [] ?_ (lb rfl) (lb rfl) (by first | rfl | (simp only [idsV, idsH, zd1, getL, D.ids, Blk.ids, zf1, Nat.reduceBEq, cond_true, cond_false, List.append_nil, List.nil_append, List.cons_append, zc9 hcf] <;> rfl))
    first | rfl | (simp only [go_sem, Nat.reduceBEq, Nat.reduceAdd, za8 hcf]; done) | (simp only [go_sem, Nat.reduceBEq, Nat.reduceAdd, za8 hcf]; rfl)
  ·have h2 : n1 = s.length := by have h2b := of_decide_eq_false hc1; omega
   rw [List.drop_of_length_le (by omega), za6] at hx1
   refine .exit ?_
   refine ⟨_, ?_, (sj hx1).symm⟩
   refine Goes.mv [] [] [] ?_ (lb rfl) (lb rfl) (by first | rfl | (simp only [idsV, idsH, zd1, getL, D.ids, Blk.ids, zf1, Nat.reduceBEq, cond_true, cond_false, List.append_nil, List.nil_append, List.cons_append, zc9 hcf] <;> rfl))
   first | rfl | (simp only [go_sem, Nat.reduceBEq, Nat.reduceAdd, za8 hcf]; done) | (simp only [go_sem, Nat.reduceBEq, Nat.reduceAdd, za8 hcf]; rfl)
 rintro ⟨⟩ hj1
 subst x1
 try dsimp only at h
 simp only [ya6p]
 refine .seq (.pl zS [] ?_)
 have hq := sj h
 subst r
 exact .ret ⟨.inr rfl, rsi⟩
@[go_sem] def ya6r : St := ⟨[], [], 0⟩
@[go_sem] def ya6q (s : List TWait) (Kf : Nat) (cf : List D) (n1 : Nat) : St := ⟨[(0, .imm 7 (s.map TWait.d) 4), (1, .fn (.func Kf) cf), (7, .int .i64 (s.length : Int)), (8, .int .i64 (n1 : Int))], [], 0⟩
theorem zij (s : List TWait) (Kf : Nat) (cf : List D) (hcf : ∀ hp, zez hp cf = (cf, true)) (h2f : ∀ hp, zf0 hp cf = (cf, true)) (h3f : ∀ hp, zj2 hp cf = []) (f : TWait -> Option Bool) (hf : ∀ x0 y, f x0 = some y -> zbn Tryz.prog Kf (.agg [.int .i64 x0.Message.Id, .imm 1 (x0.Message.Groups.map (D.int .i64)) 4, .int .i64 x0.Message.Topic, .str x0.Message.Key, .str x0.Message.Body, .int .i64 x0.Time, .bool x0.Final] :: cf) (.bool y)) (r : Int) (h : zea s f = some r) : zbn Tryz.prog 36 [.imm 7 (s.map TWait.d) 4, .fn (.func Kf) cf] (.int .i64 r) := by
 refine za2 Tryz.tmOk 2 Tryz.func36 rfl (by decide) rfl rfl (lb rfl) ?_
 intro hwf
 unfold zea at h
 refine .seq (.pl zS [0, 1] ?_)
 obtain ⟨x1, hx1, h⟩ := bind_some h
 refine .seqM 0 (fun (j : Unit) => ya6r) (fun j => x1 = (.inr j)) (lb rfl) ?_ ?_
 ·refine .seq (.pl zS [0, 1] ?_)
  refine .block ?_
  refine .loopG 0 (fun (j : Nat) => ya6q s Kf cf j) (fun j => j <= s.length /\ zb4 f (s.drop j) j  = some x1) (fun j => s.length - j) (0) (lb rfl) ?_ ⟨Nat.zero_le _, hx1⟩ ?_
  ·refine Goes.mv [0, 1, 7, 8] [] [] ?_ (lb rfl) (lb rfl) (by first | rfl | (simp only [idsV, idsH, zd1, getL, D.ids, Blk.ids, zf1, Nat.reduceBEq, cond_true, cond_false, List.append_nil, List.nil_append, List.cons_append, zc9 hcf] <;> rfl))
   first | rfl | (simp only [go_sem, Nat.reduceBEq, Nat.reduceAdd, za8 hcf]; done) | (simp only [go_sem, Nat.reduceBEq, Nat.reduceAdd, za8 hcf]; rfl)
  rintro n1 ⟨hi1, hx1⟩
  simp only [ya6q]
  refine .wf 7 (.int .i64 (s.length : Int)) rfl ?_
  intro hln1
  replace hln1 : (s.length : Int) <= 9223372036854775807 := by simp only [wf, wfL, IntKind.max, IntKind.min, IntKind.signed, IntKind.bits, List.length_map] at hln1; first | exact hln1.2 | exact hln1.1 | (simp at hln1; omega)
  refine .seq (.pl zS [0, 1, 7, 8] ?_)
  refine .seq ?_
  refine .cond rfl rfl (fun hc1 => ?_) (fun hc1 => ?_)
  ·have h1 : n1 < s.length := by simpa using hc1
   have hwn1 : wr .i64 ((n1 : Int) + 1) = ((n1 + 1 : Nat) : Int) := zch h1 hln1
   have hpn1 : wr .i64 ((n1 : Int) - 1) = (n1 : Int) - 1 := zci h1 hln1
   rw [List.drop_eq_getElem_cons h1, zb4] at hx1
   refine .skip ?_
   refine .seq (.block (.seq ?_))
   refine .plx zS hwn1 [0, 1, 7, 8] ?_
   refine .seq ?_
   obtain ⟨v1, hv1, hx1⟩ := bind_some hx1
   have e1 := zay TWait.d s n1 h1
   refine .rg zS [0, 1, 5, 7, 8] ?_
   refine .rnx 5 (ai e1 hwn1) ?_
   refine .call (r := .bool v1) rfl rfl rfl rfl rfl (za1 rfl (hcf _)) (hf _ v1 hv1) ?_
   refine .nil ⟨nofun, ?_⟩
   refine .cond rfl rfl (fun hc2 => ?_) (fun hc2 => ?_)
   replace hx1 := za0 hx1 hc2
   refine .seq (.plx zS hwn1 [5] ?_)
   have hq := sj hx1
   subst x1
   try dsimp only at h
   have hq := sj h
   subst r
   exact .ret ⟨.inr rfl, rsi⟩
   ·replace hx1 := za3 hx1 hc2
    refine .skip ?_
    refine .plx zS hwn1 [0, 1, 7, 8] ?_
    refine ⟨n1 + 1, ?_, ⟨by omega, hx1⟩, by dsimp only; omega⟩
    refine Goes.mv [0, 1, 7, 8] [] [] ?_ (lb rfl) (lb rfl) (by first | rfl | (simp only [idsV, idsH, zd1, getL, D.ids, Blk.ids, zf1, Nat.reduceBEq, cond_true, cond_false, List.append_nil, List.nil_append, List.cons_append, zc9 hcf] <;> rfl))
    first | rfl | (simp only [go_sem, Nat.reduceBEq, Nat.reduceAdd, za8 hcf]; done) | (simp only [go_sem, Nat.reduceBEq, Nat.reduceAdd, za8 hcf]; rfl)
  ·have h2 : n1 = s.length := by have h2b := of_decide_eq_false hc1; omega
   rw [List.drop_of_length_le (by omega), zb4] at hx1
   refine .exit ?_
   refine ⟨_, ?_, (sj hx1).symm⟩
   refine Goes.mv [] [] [] ?_ (lb rfl) (lb rfl) (by first | rfl | (simp only [idsV, idsH, zd1, getL, D.ids, Blk.ids, zf1, Nat.reduceBEq, cond_true, cond_false, List.append_nil, List.nil_append, List.cons_append, zc9 hcf] <;> rfl))
   first | rfl | (simp only [go_sem, Nat.reduceBEq, Nat.reduceAdd, za8 hcf]; done) | (simp only [go_sem, Nat.reduceBEq, Nat.reduceAdd, za8 hcf]; rfl)
 rintro ⟨⟩ hj1
 subst x1
 try dsimp only at h
 simp only [ya6r]
 refine .seq (.pl zS [] ?_)
 have hq := sj h
 subst r
 exact .ret ⟨.inr rfl, rsi⟩
@[go_sem] def st66 (l1 : List (List Torder_given)) : St := ⟨[(2, .ref 0 1 0 l1.length (some uC))], [(0, .arr 66 1 true (l1.map nL_Torder_givend))], 1⟩
@[go_sem] def st67 (a0 : List (List (List UInt8))) (n1 : Nat) (l2 : List (List Torder_given)) : St := ⟨[(2, .ref 0 1 0 l2.length (some uC)), (11, .imm 1 (a0.map zdn) 4), (12, .int .i64 (a0.length : Int)), (13, .int .i64 (n1 : Int))], [(0, .arr 66 1 true (l2.map nL_Torder_givend))], 1⟩
@[go_sem] def st11 (r : (List (List Torder_given)) × Int) : St := ⟨[(2, .ref 0 1 0 r.1.length (some uC)), (3, .int .i64 r.2)], [(0, .arr 66 1 true (r.1.map nL_Torder_givend))], 1⟩
theorem zsf (a0 : List (List (List UInt8))) (r : (List (List Torder_given)) × Int) (h : zf3 a0 = some r) : zcv Tryz.prog 27 [.imm 1 (a0.map zdn) 4] [] (.tuple [.ref 0 1 0 r.1.length (some uC), .int .i64 r.2]) [(0, some (.arr 66 1 true (r.1.map nL_Torder_givend)))] (0, 5) := by
 refine za5 Tryz.tmOk Tryz.func27 rfl (by decide) (lb rfl) (by simp) ?_
 intro hwf
 unfold zf3 at h
 refine .ends 0 (Nat.le_refl _) ?_
 refine .seq (.pl zS [0] ?_)
 refine .seq (.seq (.pl zS [0, 2] ?_))
 refine .cond rfl rfl (fun hc1 => ?_) (fun hc1 => ?_)
 replace h := za0 h hc1
 refine .seq (.pl zS [] ?_)
 have hq := sj h
 subst r
 refine .ret ⟨st11 ([], 4), ?_, .inr rfl, retH [0] ?_ ?_⟩
 refine Goes.new0 1 66 (lb rfl) ?_
 refine Goes.wk 2 _ (.ref 0 1 0 0 (some uC)) rfl (.own0 0 _ _ _ (by decide)) ?_
 exact .m [2, 3] [0] []
 exact rsi0
 rfl
 replace h := za3 h hc1
 refine .skip ?_
 obtain ⟨x1, hx1, h⟩ := bind_some h
 refine .seqM 0 (fun (j : (List (List Torder_given))) => st66 j) (fun j => x1 = (.inr j)) (lb rfl) ?_ ?_
 refine .seq (.pl zS [0, 2] ?_)
 refine .block ?_
 refine .loopG 0 (fun (j : Nat × (List (List Torder_given))) => st67 a0 j.1 j.2) (fun j => j.1 <= a0.length /\ ze2 (a0.drop j.1) j.1 j.2 = some x1) (fun j => a0.length - j.1) (0, []) (lb rfl) ?_ ⟨Nat.zero_le _, hx1⟩ ?_
 refine Goes.new0 1 66 (lb rfl) ?_
 refine Goes.wk 2 _ (.ref 0 1 0 0 (some uC)) rfl (.own0 0 _ _ _ (by decide)) ?_
 exact .m [2, 11, 12, 13] [0] []
 rintro ⟨n1, l2⟩ ⟨hi1, hx1⟩
 simp only [st67]
 simp only at hi1 hx1
 refine .wf 12 (.int .i64 (a0.length : Int)) rfl ?_
 intro hln1
 replace hln1 : (a0.length : Int) <= 9223372036854775807 := by simp only [wf, wfL, IntKind.max, IntKind.min, IntKind.signed, IntKind.bits, List.length_map] at hln1; first | exact hln1.2 | exact hln1.1 | (simp at hln1; omega)
 refine .seq (.pl zS [2, 11, 12, 13] ?_)
 refine .seq ?_
 refine .cond rfl rfl (fun hc2 => ?_) (fun hc2 => ?_)
 have h1 : n1 < a0.length := by simpa using hc2
 have hwn1 : wr .i64 ((n1 : Int) + 1) = ((n1 + 1 : Nat) : Int) := zch h1 hln1
 have hpn1 : wr .i64 ((n1 : Int) - 1) = (n1 : Int) - 1 := zci h1 hln1
 rw [List.drop_eq_getElem_cons h1, zic] at hx1
 refine .skip ?_
 refine .seq (.block (.seq ?_))
 have e1 := zay zdn a0 n1 h1
 refine .plx zS (ai e1 hwn1) [2, 11, 12, 13] ?_
 refine .seq ?_
 obtain ⟨v1, hv1, hx1⟩ := bind_some hx1
 refine .rg zS [2, 4, 5, 11, 12, 13] ?_
 refine .rnx 2 hwn1 ?_
 refine .call (r := .tuple [.imm 6 (v1.1.map Torder_given.d) 12, .int .i64 v1.2]) rfl rfl rfl rfl rfl rfl (zpf (n1 : Int) (a0[n1]) v1 hv1) ?_
 refine .rnx 5 hwn1 ?_
 refine .nil ⟨nofun, ?_⟩
 refine .seq (.seq (.plx zS hwn1 [2, 6, 7, 11, 12, 13] ?_))
 refine .cond rfl rfl (fun hc3 => ?_) (fun hc3 => ?_)
 replace hx1 := za0 hx1 hc3
 refine .seq (.plx zS hwn1 [7] ?_)
 have hq := sj hx1
 subst x1
 try dsimp only at h
 have hq := sj h
 subst r
 refine .ret ⟨st11 ([], v1.2), ?_, .inr rfl, retH [0] ?_ ?_⟩
 refine Goes.new0 1 66 (lb rfl) ?_
 refine Goes.wk 2 _ (.ref 1 1 0 0 (some uC)) rfl (.own0 1 _ _ _ (by decide)) ?_
 exact .m [2, 3] [1] [(1, 0)]
 exact rsi0
 rfl
 replace hx1 := za3 hx1 hc3
 refine .skip ?_
 obtain ⟨k1, hx1⟩ := zae hx1
 refine .plx zS hwn1 [2, 6, 11, 12, 13] ?_
 refine .plx zS hwn1 [2, 11, 12, 13] ?_
 refine ⟨(n1 + 1, _), ?_, ⟨by omega, hx1⟩, by dsimp only; omega⟩
 exact .m [2, 11, 12, 13] [2] [(2, 0)]
 have h2 : n1 = a0.length := by have h2b := of_decide_eq_false hc2; omega
 rw [List.drop_of_length_le (by omega), zko] at hx1
 refine .exit ?_
 refine ⟨_, ?_, (sj hx1).symm⟩
 exact .m [2] [0] []
 rintro l1 hj1
 subst x1
 try dsimp only at h
 simp only [st66]
 refine .seq (.pl zS [2] ?_)
 have hq := sj h
 subst r
 refine .ret ⟨st11 (l1, 0), ?_, .inr rfl, retH [0] ?_ ?_⟩
 exact .m [2, 3] [0] []
 exact rsi0
 rfl
theorem znh (a0 : List (List (List UInt8))) (r : (List (List Torder_given)) × Int) (h : zf3 a0 = some r) : zbn Tryz.prog 27 [.imm 1 (a0.map zdn) 4] (.tuple [.imm 1 (r.1.map dL_Torder_givend) 12, .int .i64 r.2]) :=
 zg0 (zpb (zak (ziu zn8 rfl rfl) (zak rfl zhx))) (zsf a0 r h)
theorem zl1 (a0 : Torder_given) (c0 : TMessage) (r : Bool) (h : zcw a0 c0 = some r) : zbn Tryz.prog 53 [.agg [.int .i64 a0.fTime, .int .i64 a0.fM.Id, .imm 1 (a0.fM.Groups.map (D.int .i64)) 4, .int .i64 a0.fM.Topic, .str a0.fM.Key, .str a0.fM.Body], .iptr 0 [.int .i64 c0.Id, .imm 1 (c0.Groups.map (D.int .i64)) 4, .int .i64 c0.Topic, .str c0.Key, .str c0.Body]] (.bool r) := by
 refine za2 Tryz.tmOk 3 Tryz.func53 rfl (by decide) rfl rfl (lb rfl) ?_
 intro hwf
 unfold zcw at h
 refine .seq (.pl zS [0, 1] ?_)
 refine .seq ?_
 obtain ⟨v1, hv1, h⟩ := bind_some h
 refine .rg zS [1, 2] ?_
 refine .rn 3 ?_
 refine .call (r := .bool v1) rfl rfl rfl rfl rfl rfl (zeu a0.fM c0 v1 hv1) ?_
 refine .rn 1 ?_
 refine .nil ⟨nofun, ?_⟩
 have hq := sj h
 subst r
 exact .ret ⟨.inr rfl, rsi⟩
@[go_sem] def st74 (n1 : Int) : St := ⟨[(4, .int .i64 n1)], [], 1⟩
@[go_sem] def st75 (a0 : List (List Torder_given)) (a1 : TMessage) (n3 : Nat) (n2 : Int) : St := ⟨[(0, .imm 1 (a0.map dL_Torder_givend) 4), (3, .ptr 0 0), (4, .int .i64 n2), (10, .imm 1 (a1.Groups.map (D.int .i64)) 4), (11, .int .i64 (a1.Groups.length : Int)), (12, .int .i64 (n3 : Int))], [(0, .box [.int .i64 a1.Id, .imm 1 (a1.Groups.map (D.int .i64)) 4, .int .i64 a1.Topic, .str a1.Key, .str a1.Body])], 1⟩
theorem zii (a0 : List (List Torder_given)) (a1 : TMessage) (r : Int × Bool) (h : zdj a0 a1 = some r) : zbn Tryz.prog 29 [.imm 1 (a0.map dL_Torder_givend) 4, .agg [.int .i64 a1.Id, .imm 1 (a1.Groups.map (D.int .i64)) 4, .int .i64 a1.Topic, .str a1.Key, .str a1.Body]] (.tuple [.int .i64 r.1, .bool r.2]) := by
 refine za2 Tryz.tmOk 3 Tryz.func29 rfl (by decide) rfl rfl (lb rfl) ?_
 intro hwf
 unfold zdj at h
 refine .seq (.pl zS [0, 1] ?_)
 obtain ⟨x1, hx1, h⟩ := bind_some h
 refine .seqM 1 (fun (j : Int) => st74 j) (fun j => x1 = (.inr j)) (lb rfl) ?_ ?_
 refine .seq (.pl zS [0, 3, 4] ?_)
 refine .block ?_
 refine .loopG 1 (fun (j : Nat × Int) => st75 a0 a1 j.1 j.2) (fun j => j.1 <= a1.Groups.length /\ zb6 a0 a1 (a1.Groups.drop j.1) j.2 = some x1) (fun j => a1.Groups.length - j.1) (0, 0) (lb rfl) ?_ ⟨Nat.zero_le _, hx1⟩ ?_
 exact .m [0, 3, 4, 10, 11, 12] [0] []
 rintro ⟨n3, n2⟩ ⟨hi1, hx1⟩
 simp only [st75]
 simp only at hi1 hx1
 refine .wf 11 (.int .i64 (a1.Groups.length : Int)) rfl ?_
 intro hln3
 replace hln3 : (a1.Groups.length : Int) <= 9223372036854775807 := by simp only [wf, wfL, IntKind.max, IntKind.min, IntKind.signed, IntKind.bits, List.length_map] at hln3; first | exact hln3.2 | exact hln3.1 | (simp at hln3; omega)
 refine .seq (.pl zS [0, 3, 4, 10, 11, 12] ?_)
 refine .seq ?_
 refine .cond rfl rfl (fun hc1 => ?_) (fun hc1 => ?_)
 have h1 : n3 < a1.Groups.length := by simpa using hc1
 have hwn3 : wr .i64 ((n3 : Int) + 1) = ((n3 + 1 : Nat) : Int) := zch h1 hln3
 have hpn3 : wr .i64 ((n3 : Int) - 1) = (n3 : Int) - 1 := zci h1 hln3
 rw [List.drop_eq_getElem_cons h1, zb6] at hx1
 refine .skip ?_
 refine .seq (.block (.seq ?_))
 have e1 := zay (D.int .i64) a1.Groups n3 h1
 refine .plx zS (ai e1 hwn3) [0, 3, 4, 10, 11, 12] ?_
 refine .seq (.seq (.plx zS hwn3 [0, 3, 4, 7, 10, 11, 12] ?_))
 refine .cond rfl rfl (fun hc2 => ?_) (fun hc2 => ?_)
 replace hx1 := za0 hx1 hc2
 refine .seq (.plx zS hwn3 [] ?_)
 have hq := sj hx1
 subst x1
 try dsimp only at h
 have hq := sj h
 subst r
 exact .ret ⟨.inr rfl, rsi⟩
 replace hx1 := za3 hx1 hc2
 refine .skip ?_
 refine .seq ?_
 obtain ⟨k1, hx1⟩ := zae hx1
 obtain ⟨v1, hv1, hx1⟩ := bind_some hx1
 have e2 := zb1 dL_Torder_givend a0 (a1.Groups[n3])
 replace e2 := e2 k1
 refine .rg zS [0, 3, 4, 7, 10, 11, 12] ?_
 refine .rnx 5 (ai e2 hwn3) ?_
 refine .lcall (r := .int .i64 v1) [] rfl rfl rfl rfl rfl (za7 rfl (za7 (zlz (za7 (zk2 rfl (za1 rfl (za1 rfl (za1 rfl (za1 rfl (za1 rfl zgv)))))) zb9)) zb9)) rfl (zg7 (a0.getD (a1.Groups[n3]).toNat default) 53 [.iptr 0 [.int .i64 a1.Id, .imm 1 (a1.Groups.map (D.int .i64)) 4, .int .i64 a1.Topic, .str a1.Key, .str a1.Body]] (fun _ => rfl) (fun _ => rfl) (fun _ => rfl) (fun x0 => zcw x0 a1) (fun x0 y hy => zl1 x0 a1 y hy) v1 hv1) ?_
 refine .rnx 1 (ai e2 hwn3) ?_
 refine .nil ⟨nofun, ?_⟩
 refine .seq (.seq (.plx zS hwn3 [0, 3, 4, 7, 8, 10, 11, 12] ?_))
 refine .cond rfl rfl (fun hc3 => ?_) (fun hc3 => ?_)
 replace hx1 := za0 hx1 hc3
 refine .seq (.plx zS hwn3 [] ?_)
 have hq := sj hx1
 subst x1
 try dsimp only at h
 have hq := sj h
 subst r
 exact .ret ⟨.inr rfl, rsi⟩
 replace hx1 := za3 hx1 hc3
 refine .skip ?_
 obtain ⟨k2, hx1⟩ := zae hx1
 obtain ⟨k3, hx1⟩ := zae hx1
 have e3 := zb1 dL_Torder_givend a0 (a1.Groups[n3])
 have e4 := zb1 Torder_given.d (a0.getD (a1.Groups[n3]).toNat default) v1
 replace e3 := e3 k2
 replace e4 := e4 k3
 refine .rg zS [0, 3, 4, 7, 8, 10, 11, 12] ?_
 refine .rnx 6 (ai e3 (ai e4 hwn3)) ?_
 refine .rnx 5 (ai e3 (ai e4 hwn3)) ?_
 refine .nil ⟨nofun, ?_⟩
 refine .plx zS hwn3 [0, 3, 4, 10, 11, 12] ?_
 refine ⟨(n3 + 1, _), ?_, ⟨by omega, hx1⟩, by dsimp only; omega⟩
 exact .m [0, 3, 4, 10, 11, 12] [0] []
 have h2 : n3 = a1.Groups.length := by have h2b := of_decide_eq_false hc1; omega
 rw [List.drop_of_length_le (by omega), zb6] at hx1
 refine .exit ?_
 refine ⟨_, ?_, (sj hx1).symm⟩
 exact .m [4] [] []
 rintro n1 hj1
 subst x1
 try dsimp only at h
 simp only [st74]
 refine .seq (.pl zS [4] ?_)
 have hq := sj h
 subst r
 exact .ret ⟨.inr rfl, rsi⟩
@[go_sem] def st91 (a0 : List (List Torder_given)) (n1 : Int) : St := ⟨[(0, .imm 1 (a0.map dL_Torder_givend) 4), (3, .int .i64 n1)], [], 0⟩
@[go_sem] def st92 (a0 : List (List Torder_given)) (n3 : Nat) (n2 : Int) : St := ⟨[(0, .imm 1 (a0.map dL_Torder_givend) 4), (3, .int .i64 n2), (9, .imm 1 (a0.map dL_Torder_givend) 4), (10, .int .i64 (a0.length : Int)), (11, .int .i64 (n3 : Int))], [], 0⟩
@[go_sem] def st93 (l1 : List Torder_given) : St := ⟨[(6, .ref 6 6 0 l1.length (some uC))], [(6, .arr 70 6 true (l1.map Torder_given.d))], 7⟩
@[go_sem] def st94 (a0 : List (List Torder_given)) (n4 : Nat) (l2 : List Torder_given) : St := ⟨[(6, .ref 6 6 0 l2.length (some uC)), (25, .imm 1 (a0.map dL_Torder_givend) 4), (26, .int .i64 (a0.length : Int)), (27, .int .i64 (n4 : Int))], [(6, .arr 70 6 true (l2.map Torder_given.d))], 7⟩
@[go_sem] def st25 (r : (List Torder_given)) : St := ⟨[(2, .ref 0 6 0 r.length (some uC))], [(0, .arr 70 6 true (r.map Torder_given.d))], 1⟩
theorem zgs (a0 : List (List Torder_given)) (r : (List Torder_given)) (h : zbt a0 = some r) : zcv Tryz.prog 57 [.imm 1 (a0.map dL_Torder_givend) 4] [] (.ref 0 6 0 r.length (some uC)) [(0, some (.arr 70 6 true (r.map Torder_given.d)))] (0, 10) := by
 refine za5 Tryz.tmOk Tryz.func57 rfl (by decide) (lb rfl) (by simp) ?_
 intro hwf
 unfold zbt at h
 refine .ends 0 (Nat.le_refl _) ?_
 refine .seq (.pl zS [0] ?_)
 refine .seq (.pl zS [0] ?_)
 obtain ⟨x1, hx1, h⟩ := bind_some h
 refine .seqM 0 (fun (j : Int) => st91 a0 j) (fun j => x1 = j) (lb rfl) ?_ ?_
 refine .seq (.pl zS [0, 3] ?_)
 refine .block ?_
 refine .loopG 0 (fun (j : Nat × Int) => st92 a0 j.1 j.2) (fun j => j.1 <= a0.length /\ zac (a0.drop j.1) j.2 = some x1) (fun j => a0.length - j.1) (0, 0) (lb rfl) ?_ ⟨Nat.zero_le _, hx1⟩ ?_
 exact .m [0, 3, 9, 10, 11] [] []
 rintro ⟨n3, n2⟩ ⟨hi1, hx1⟩
 simp only [st92]
 simp only at hi1 hx1
 refine .wf 10 (.int .i64 (a0.length : Int)) rfl ?_
 intro hln3
 replace hln3 : (a0.length : Int) <= 9223372036854775807 := by simp only [wf, wfL, IntKind.max, IntKind.min, IntKind.signed, IntKind.bits, List.length_map] at hln3; first | exact hln3.2 | exact hln3.1 | (simp at hln3; omega)
 refine .seq (.pl zS [0, 3, 9, 10, 11] ?_)
 refine .seq ?_
 refine .cond rfl rfl (fun hc1 => ?_) (fun hc1 => ?_)
 have h1 : n3 < a0.length := by simpa using hc1
 have hwn3 : wr .i64 ((n3 : Int) + 1) = ((n3 + 1 : Nat) : Int) := zch h1 hln3
 have hpn3 : wr .i64 ((n3 : Int) - 1) = (n3 : Int) - 1 := zci h1 hln3
 rw [List.drop_eq_getElem_cons h1, zac] at hx1
 refine .skip ?_
 refine .seq (.block (.seq ?_))
 have e1 := zay dL_Torder_givend a0 n3 h1
 refine .plx zS (ai e1 hwn3) [0, 3, 9, 10, 11] ?_
 refine .seq (.plx zS hwn3 [0, 3, 5, 9, 10, 11] ?_)
 refine .seq (.plx zS hwn3 [0, 3, 9, 10, 11] ?_)
 refine .cond rfl rfl (fun hc2 => ?_) (fun hc2 => ?_)
 replace hx1 := za0 hx1 hc2
 cases hx1
 replace hx1 := za3 hx1 hc2
 refine .skip ?_
 refine .plx zS hwn3 [0, 3, 9, 10, 11] ?_
 refine ⟨(n3 + 1, _), ?_, ⟨by omega, hx1⟩, by dsimp only; omega⟩
 exact .m [0, 3, 9, 10, 11] [] []
 have h2 : n3 = a0.length := by have h2b := of_decide_eq_false hc1; omega
 rw [List.drop_of_length_le (by omega), zac] at hx1
 refine .exit ?_
 refine ⟨_, ?_, (sj hx1).symm⟩
 exact .m [0, 3] [] []
 rintro n1 hj1
 subst x1
 try dsimp only at h
 simp only [st91]
 refine .seq ?_
 obtain ⟨k1, h⟩ := zae h
 refine .rg zS [0, 3] ?_
 refine .rn 1 ?_
 refine .ncall (r := .ref 3 6 0 0 (some uC)) (eff := [(3, some (.arr 70 6 true []))]) (nw := (3, 6)) [] rfl rfl rfl rfl rfl (za7 rfl (za7 rfl zb9)) rfl (zeh 3 (lb rfl) (ya3g n1 k1)) (zfu rfl rfl (zmp zm9 70 6 []) zjh) (by intro i hi; simp [D.ids, D.idsL] at hi <;> omega) rfl ⟨lb rfl, lb rfl⟩ ?_
 refine .rn 1 ?_
 refine .nil ⟨nofun, ?_⟩
 obtain ⟨x2, hx2, h⟩ := bind_some h
 refine .seqM 6 (fun (j : (List Torder_given)) => st93 j) (fun j => x2 = j) (lb rfl) ?_ ?_
 refine .seq (.pl zS [0, 6] ?_)
 refine .block ?_
 refine .loopG 6 (fun (j : Nat × (List Torder_given)) => st94 a0 j.1 j.2) (fun j => j.1 <= a0.length /\ zab (a0.drop j.1) j.2 = some x2) (fun j => a0.length - j.1) (0, []) (lb rfl) ?_ ⟨Nat.zero_le _, hx2⟩ ?_
 exact .m [6, 25, 26, 27] [3] [(3, 6)]
 rintro ⟨n4, l2⟩ ⟨hi2, hx2⟩
 simp only [st94]
 simp only at hi2 hx2
 refine .wf 26 (.int .i64 (a0.length : Int)) rfl ?_
 intro hln4
 replace hln4 : (a0.length : Int) <= 9223372036854775807 := by simp only [wf, wfL, IntKind.max, IntKind.min, IntKind.signed, IntKind.bits, List.length_map] at hln4; first | exact hln4.2 | exact hln4.1 | (simp at hln4; omega)
 refine .seq (.pl zS [6, 25, 26, 27] ?_)
 refine .seq ?_
 refine .cond rfl rfl (fun hc3 => ?_) (fun hc3 => ?_)
 have h3 : n4 < a0.length := by simpa using hc3
 have hwn4 : wr .i64 ((n4 : Int) + 1) = ((n4 + 1 : Nat) : Int) := zch h3 hln4
 have hpn4 : wr .i64 ((n4 : Int) - 1) = (n4 : Int) - 1 := zci h3 hln4
 rw [List.drop_eq_getElem_cons h3, ze1] at hx2
 refine .skip ?_
 refine .seq (.block (.seq ?_))
 have e2 := zay dL_Torder_givend a0 n4 h3
 refine .plx zS (ai e2 hwn4) [6, 25, 26, 27] ?_
 obtain ⟨k2, hx2⟩ := zae hx2
 refine .plx zS hwn4 [6, 8, 25, 26, 27] ?_
 refine .plx zS hwn4 [6, 25, 26, 27] ?_
 refine ⟨(n4 + 1, _), ?_, ⟨by omega, hx2⟩, by dsimp only; omega⟩
 exact .m [6, 25, 26, 27] [7] [(7, 6)]
 have h4 : n4 = a0.length := by have h4b := of_decide_eq_false hc3; omega
 rw [List.drop_of_length_le (by omega), ze0] at hx2
 refine .exit ?_
 refine ⟨_, ?_, (sj hx2).symm⟩
 exact .m [6] [6] []
 rintro l1 hj2
 subst x2
 try dsimp only at h
 simp only [st93]
 refine .seq (.pl zS [6] ?_)
 have hq := sj h
 subst r
 refine .ret ⟨st25 l1, ?_, .inr rfl, retH [0] ?_ ?_⟩
 exact .m [2] [6] [(6, 0)]
 exact rsi0
 rfl
@[go_sem] def st76 : St := ⟨[], [], 1⟩
@[go_sem] def st77 (v1 : (List Torder_given)) (m1 : List (Int × TMessage)) (n1 : Int) : St := ⟨[(3, .mref 0), (10, .ref 10 6 0 v1.length (some uC)), (11, .int .i64 (v1.length : Int)), (12, .int .i64 n1)], [(0, .map (mapD (D.int .i64) TMessage.d m1)), (10, .arr 70 6 true (v1.map Torder_given.d))], 20⟩
theorem zmu (a0 : List (List Torder_given)) (r : Bool) (h : zgb a0 = some r) : zbn Tryz.prog 33 [.imm 1 (a0.map dL_Torder_givend) 4] (.bool r) := by
 refine za2 Tryz.tmOk 24 Tryz.func33 rfl (by decide) rfl rfl (lb rfl) ?_
 intro hwf
 unfold zgb at h
 refine .seq (.pl zS [0] ?_)
 refine .seq (.pl zS [0] ?_)
 obtain ⟨x1, hx1, h⟩ := bind_some h
 refine .seqM 1 (fun (j : Unit) => st76) (fun j => x1 = (.inr j)) (lb rfl) ?_ ?_
 refine .seq ?_
 obtain ⟨v1, hv1, hx1⟩ := bind_some hx1
 refine .rg zS [0, 3] ?_
 refine .rn 1 ?_
 refine .hcall (H := []) (eff := [(10, some (.arr 70 6 true (v1.map Torder_given.d)))]) (nw := (10, 20)) (r := .ref 10 6 0 v1.length (some uC)) rfl rfl rfl rfl rfl (zeh 10 (lb rfl) (zgs a0 v1 hv1)) (fun id b h => zaj [] _ id b h) (by simp) (.inr ⟨lb rfl, lb rfl⟩) ?_
 refine .rn 2 ?_
 refine .nil ⟨nofun, ?_⟩
 refine .block ?_
 refine .loopG 20 (fun (j : Nat × (List (Int × TMessage)) × Int) => st77 v1 j.2.1 j.2.2) (fun j => zbo v1 j.1 j.2.1 j.2.2 = some x1) (fun j => j.1) (v1.length + 1, [], 0) (lb rfl) ?_ hx1 ?_
 exact .mp [3, 10, 11, 12] [0, 10] [] ⟨rfl, trivial⟩
 rintro ⟨fu1, m1, n1⟩ hx1
 simp only [st77]
 try simp only at hx1
 obtain ⟨fu1, rfl⟩ : ∃ k, fu1 = k + 1 := by cases fu1 with | zero => (rw [zbo] at hx1; cases hx1) | succ k => exact ⟨k, rfl⟩
 rw [zbo] at hx1
 refine .seq (.pl zS [3, 10, 11, 12] ?_)
 refine .seq ?_
 refine .cond rfl rfl (fun hc1 => ?_) (fun hc1 => ?_)
 replace hx1 := za0 hx1 hc1
 refine .skip ?_
 refine .seq (.block (.seq ?_))
 obtain ⟨k1, hx1⟩ := zae hx1
 have e1 := zb1 Torder_given.d v1 n1
 replace e1 := e1 k1
 refine .plx zS e1 [3, 10, 11, 12] ?_
 refine .seq ?_
 refine .seqM 21 (fun (_ : Unit) => (⟨[(3, .mref 0), (5, .ptr 20 0), (6, .ptr 21 0), (7, .bool ((mget ((v1.getD n1.toNat default).fM.Id) m1).isSome)), (10, .ref 10 6 0 v1.length (some uC)), (11, .int .i64 (v1.length : Int)), (12, .int .i64 n1)], [(0, .map (mapD (D.int .i64) TMessage.d m1)), (10, .arr 70 6 true (v1.map Torder_given.d)), (20, .box [.int .i64 ((v1.getD n1.toNat default).fTime), .int .i64 ((v1.getD n1.toNat default).fM.Id), .imm 1 (((v1.getD n1.toNat default).fM.Groups).map (D.int .i64)) 4, .int .i64 ((v1.getD n1.toNat default).fM.Topic), .str ((v1.getD n1.toNat default).fM.Key), .str ((v1.getD n1.toNat default).fM.Body)]), (21, .box [.int .i64 (((mget ((v1.getD n1.toNat default).fM.Id) m1).getD (⟨0, [], 0, [], []⟩ : TMessage)).Id), .imm 1 ((((mget ((v1.getD n1.toNat default).fM.Id) m1).getD (⟨0, [], 0, [], []⟩ : TMessage)).Groups).map (D.int .i64)) 4, .int .i64 (((mget ((v1.getD n1.toNat default).fM.Id) m1).getD (⟨0, [], 0, [], []⟩ : TMessage)).Topic), .str (((mget ((v1.getD n1.toNat default).fM.Id) m1).getD (⟨0, [], 0, [], []⟩ : TMessage)).Key), .str (((mget ((v1.getD n1.toNat default).fM.Id) m1).getD (⟨0, [], 0, [], []⟩ : TMessage)).Body)])], 22⟩ : St)) (fun _ => True) (lb rfl) ?_ (fun _ _ => ?_)
 cases hX : (mget ((v1.getD n1.toNat default).fM.Id) m1) with
 | none =>
  refine .plx zS hX [3, 5, 10, 11, 12] ?_
  refine ⟨(), ?_, trivial⟩
  refine Goes.boxs 21 _ [.int .i64 0, .imm 1 (([] : List Int).map (D.int .i64)) 4, .int .i64 0, .str [], .str []] rfl (.keep (.cons (.nil4 _ _ _ rfl) (.refl _))) ?_
  exact .mp [3, 5, 6, 7, 10, 11, 12] [0, 10, 20, 21] [] ⟨zfj (fun _ => rfl) (fun _ => rfl) _, trivial⟩
 | some x =>
  refine .plx zS hX [3, 5, 10, 11, 12] ?_
  refine ⟨(), ?_, trivial⟩
  exact .mp [3, 5, 6, 7, 10, 11, 12] [0, 10, 20, 21] [] ⟨zfj (fun _ => rfl) (fun _ => rfl) _, trivial⟩
 refine .seq ?_
 obtain ⟨v2, hv2, hx1⟩ := bind_some hx1
 refine .rg zS [3, 5, 6, 7, 10, 11, 12] ?_
 refine .rn 5 ?_
 refine .gcall (r := .bool v2) rfl rfl rfl rfl rfl (fun hg => ⟨[], [.agg [.int .i64 (((mget ((v1.getD n1.toNat default).fM.Id) m1).getD (⟨0, [], 0, [], []⟩ : TMessage)).Id), .imm 1 ((((mget ((v1.getD n1.toNat default).fM.Id) m1).getD (⟨0, [], 0, [], []⟩ : TMessage)).Groups).map (D.int .i64)) 4, .int .i64 (((mget ((v1.getD n1.toNat default).fM.Id) m1).getD (⟨0, [], 0, [], []⟩ : TMessage)).Topic), .str (((mget ((v1.getD n1.toNat default).fM.Id) m1).getD (⟨0, [], 0, [], []⟩ : TMessage)).Key), .str (((mget ((v1.getD n1.toNat default).fM.Id) m1).getD (⟨0, [], 0, [], []⟩ : TMessage)).Body)], .agg [.int .i64 ((v1.getD n1.toNat default).fM.Id), .imm 1 (((v1.getD n1.toNat default).fM.Groups).map (D.int .i64)) 4, .int .i64 ((v1.getD n1.toNat default).fM.Topic), .str ((v1.getD n1.toNat default).fM.Key), .str ((v1.getD n1.toNat default).fM.Body)]], _, rfl, gd hg, rfl, (zeu ((mget ((v1.getD n1.toNat default).fM.Id) m1).getD (⟨0, [], 0, [], []⟩ : TMessage)) ((v1.getD n1.toNat default).fM) v2 (za0 hv2 hg))⟩) ?_
 refine .rn 2 ?_
 refine .nil ⟨nofun, ?_⟩
 refine .cond rfl rfl (fun hc2 => ?_) (fun hc2 => ?_)
 replace hx1 := za0 hx1 hc2
 refine .seq (.pl zS [] ?_)
 have hq := sj hx1
 subst x1
 try dsimp only at h
 have hq := sj h
 subst r
 exact .ret ⟨.inr rfl, rsi⟩
 replace hx1 := za3 hx1 hc2
 refine .skip ?_
 have em2 : updD (.int .i64 ((v1.getD n1.toNat default).fM.Id)) (.agg [.int .i64 ((v1.getD n1.toNat default).fM.Id), .imm 1 (((v1.getD n1.toNat default).fM.Groups).map (D.int .i64)) 4, .int .i64 ((v1.getD n1.toNat default).fM.Topic), .str ((v1.getD n1.toNat default).fM.Key), .str ((v1.getD n1.toNat default).fM.Body)]) (mapD (D.int .i64) TMessage.d m1) = some (mapD (D.int .i64) TMessage.d (mput ((v1.getD n1.toNat default).fM.Id) ((v1.getD n1.toNat default).fM) m1)) := zt4 _ TMessage.d ((v1.getD n1.toNat default).fM.Id) ((v1.getD n1.toNat default).fM) _ rfl m1
 refine .plx zS em2 [3, 5, 10, 11, 12] ?_
 refine .pl zS [3, 10, 11, 12] ?_
 refine ⟨(fu1, _, _), ?_, hx1, by dsimp only; omega⟩
 exact .mp [3, 10, 11, 12] [0, 10] [] ⟨zfj (fun _ => rfl) (fun _ => rfl) _, trivial⟩
 replace hx1 := za3 hx1 hc1
 refine .exit ?_
 refine ⟨_, ?_, (sj hx1).symm⟩
 exact .m [] [] []
 rintro ⟨⟩ hj1
 subst x1
 try dsimp only at h
 simp only [st76]
 refine .seq (.pl zS [] ?_)
 have hq := sj h
 subst r
 exact .ret ⟨.inr rfl, rsi⟩
theorem zpg (a0 : List (List (List UInt8))) (a1 : TMessage) (r : Int × Bool × Int) (h : zid a0 a1 = some r) : zbn Tryz.prog 14 [.imm 1 (a0.map zdn) 4, .agg [.int .i64 a1.Id, .imm 1 (a1.Groups.map (D.int .i64)) 4, .int .i64 a1.Topic, .str a1.Key, .str a1.Body]] (.tuple [.int .i64 r.1, .bool r.2.1, .int .i64 r.2.2]) := by
 refine za2 Tryz.tmOk 3 Tryz.func14 rfl (by decide) rfl rfl (lb rfl) ?_
 intro hwf
 unfold zid at h
 refine .seq (.pl zS [0, 1] ?_)
 refine .seq ?_
 obtain ⟨v1, hv1, h⟩ := bind_some h
 refine .rg zS [0, 3] ?_
 refine .rn 1 ?_
 refine .call (r := .tuple [.imm 1 (v1.1.map dL_Torder_givend) 12, .int .i64 v1.2]) rfl rfl rfl rfl rfl rfl (znh a0 v1 hv1) ?_
 refine .rn 5 ?_
 refine .nil ⟨nofun, ?_⟩
 refine .seq (.seq (.pl zS [3, 7, 8] ?_))
 refine .cond rfl rfl (fun hc1 => ?_) (fun hc1 => ?_)
 replace h := za0 h hc1
 refine .seq (.pl zS [8] ?_)
 have hq := sj h
 subst r
 exact .ret ⟨.inr rfl, rsi⟩
 replace h := za3 h hc1
 refine .skip ?_
 refine .seq (.seq ?_)
 obtain ⟨v2, hv2, h⟩ := bind_some h
 refine .rg zS [3, 7] ?_
 refine .rn 1 ?_
 refine .call (r := .int .i64 v2) rfl rfl rfl rfl rfl rfl (zfq a1 v2 hv2) ?_
 refine .rn 1 ?_
 refine .nil ⟨nofun, ?_⟩
 refine .cond rfl rfl (fun hc2 => ?_) (fun hc2 => ?_)
 replace h := za0 h hc2
 refine .seq (.pl zS [] ?_)
 have hq := sj h
 subst r
 exact .ret ⟨.inr rfl, rsi⟩
 replace h := za3 h hc2
 refine .skip ?_
 refine .seq ?_
 obtain ⟨v3, hv3, h⟩ := bind_some h
 refine .rg zS [3, 7] ?_
 refine .rn 2 ?_
 refine .call (r := .tuple [.int .i64 v3.1, .bool v3.2]) rfl rfl rfl rfl rfl rfl (zii v1.1 a1 v3 hv3) ?_
 refine .rn 5 ?_
 refine .nil ⟨nofun, ?_⟩
 refine .seq (.pl zS [9, 10] ?_)
 have hq := sj h
 subst r
 exact .ret ⟨.inr rfl, rsi⟩
theorem zmc (a0 : TWait) (c0 : Torder_step) (r : Bool) (h : zeg a0 c0 = some r) : zbn Tryz.prog 37 [.agg [.int .i64 a0.Message.Id, .imm 1 (a0.Message.Groups.map (D.int .i64)) 4, .int .i64 a0.Message.Topic, .str a0.Message.Key, .str a0.Message.Body, .int .i64 a0.Time, .bool a0.Final], .iptr 0 [.int .u8 c0.fC.Kind, .int .i64 c0.fC.Message.Id, .imm 1 (c0.fC.Message.Groups.map (D.int .i64)) 4, .int .i64 c0.fC.Message.Topic, .str c0.fC.Message.Key, .str c0.fC.Message.Body, .int .i64 c0.fC.Id, .int .i64 c0.fC.Time, .imm 1 (c0.fC.Members.map (D.int .i64)) 4, .int .i64 c0.fC.Topic, .int .i64 c0.fC.Who, .int .i64 c0.fC.N, .int .i64 c0.fBefore.Clock, .imm 7 (c0.fBefore.Waits.map TWait.d) 4, .imm 2 (c0.fBefore.Done.map TStamp.d) 4, .int .i64 c0.fAfter.Clock, .imm 7 (c0.fAfter.Waits.map TWait.d) 4, .imm 2 (c0.fAfter.Done.map TStamp.d) 4, .imm 5 (c0.fOut.map TMessage.d) 4]] (.bool r) := by
 refine za2 Tryz.tmOk 3 Tryz.func37 rfl (by decide) rfl rfl (lb rfl) ?_
 intro hwf
 unfold zeg at h
 refine .seq (.pl zS [0, 1] ?_)
 refine .seq (.pl zS [1, 2] ?_)
 have hq := sj h
 subst r
 exact .ret ⟨.inr rfl, rsi⟩
@[go_sem] def st10 (r : (List (List Torder_given)) × Bool) : St := ⟨[(1, .ptr 20000 0), (2, .ptr 20001 0)], [(20000, .box [.imm 1 (r.1.map dL_Torder_givend) 12]), (20001, .box [.bool r.2])], 20100⟩
theorem znb (a0 : Torder_step) (c0 : List (List Torder_given)) (c1 : Bool) (r : (List (List Torder_given)) × Bool) (h : zfs a0 c0 c1 = some r) : zcv Tryz.prog 34 [.agg [.int .u8 a0.fC.Kind, .int .i64 a0.fC.Message.Id, .imm 1 (a0.fC.Message.Groups.map (D.int .i64)) 4, .int .i64 a0.fC.Message.Topic, .str a0.fC.Message.Key, .str a0.fC.Message.Body, .int .i64 a0.fC.Id, .int .i64 a0.fC.Time, .imm 1 (a0.fC.Members.map (D.int .i64)) 4, .int .i64 a0.fC.Topic, .int .i64 a0.fC.Who, .int .i64 a0.fC.N, .int .i64 a0.fBefore.Clock, .imm 7 (a0.fBefore.Waits.map TWait.d) 4, .imm 2 (a0.fBefore.Done.map TStamp.d) 4, .int .i64 a0.fAfter.Clock, .imm 7 (a0.fAfter.Waits.map TWait.d) 4, .imm 2 (a0.fAfter.Done.map TStamp.d) 4, .imm 5 (a0.fOut.map TMessage.d) 4], .ptr 20000 0, .ptr 20001 0] [(20000, .box [.imm 1 (c0.map dL_Torder_givend) 12]), (20001, .box [.bool c1])] (.tuple []) [(20000, some (.box [.imm 1 (r.1.map dL_Torder_givend) 12])), (20001, some (.box [.bool r.2]))] (20100, 20103) := by
 refine za5 Tryz.tmOk Tryz.func34 rfl (by decide) (lb rfl) (by simp) ?_
 intro hwf
 unfold zfs at h
 refine .ends 20100 (Nat.le_refl _) ?_
 refine .seq (.pl zS [0, 1, 2] ?_)
 refine .seq (.seq ?_)
 obtain ⟨v1, hv1, h⟩ := bind_some h
 refine .rg zS [1, 2, 3] ?_
 refine .rn 6 ?_
 refine .rn 3 ?_
 refine .gcall (r := .bool v1) rfl rfl rfl rfl rfl (fun hg => ⟨[], [.agg [.int .i64 a0.fBefore.Clock, .imm 7 (a0.fBefore.Waits.map TWait.d) 4, .imm 2 (a0.fBefore.Done.map TStamp.d) 4], .agg [.int .i64 a0.fAfter.Clock, .imm 7 (a0.fAfter.Waits.map TWait.d) 4, .imm 2 (a0.fAfter.Done.map TStamp.d) 4]], _, rfl, gd hg, rfl, (zq3 a0.fBefore a0.fAfter v1 (za0 hv1 hg))⟩) ?_
 refine .rn 1 ?_
 refine .nil ⟨nofun, ?_⟩
 refine .cond rfl rfl (fun hc1 => ?_) (fun hc1 => ?_)
 replace h := za0 h hc1
 have hq := sj h
 subst r
 refine .ret ⟨st10 (c0, c1), ?_, .inr rfl, retH [20000, 20001] ?_ ?_⟩
 exact .m [1, 2] [20000, 20001] []
 exact rsi0
 rfl
 replace h := za3 h hc1
 refine .skip ?_
 refine .seq ?_
 obtain ⟨v2, hv2, h⟩ := bind_some h
 refine .rg zS [1, 2, 3] ?_
 refine .rn 4 ?_
 refine .lcall (r := .int .i64 v2) [] rfl rfl rfl rfl rfl (za7 rfl (za7 (zlz (za7 (zk2 rfl (za1 rfl (za1 rfl (za1 rfl (za1 rfl (za1 rfl (za1 rfl (za1 rfl (za1 rfl (za1 rfl (za1 rfl (za1 rfl (za1 rfl (za1 rfl (za1 rfl (za1 rfl (za1 rfl (za1 rfl (za1 rfl (za1 rfl zgv)))))))))))))))))))) zb9)) zb9)) rfl (zij a0.fBefore.Waits 37 [.iptr 0 [.int .u8 a0.fC.Kind, .int .i64 a0.fC.Message.Id, .imm 1 (a0.fC.Message.Groups.map (D.int .i64)) 4, .int .i64 a0.fC.Message.Topic, .str a0.fC.Message.Key, .str a0.fC.Message.Body, .int .i64 a0.fC.Id, .int .i64 a0.fC.Time, .imm 1 (a0.fC.Members.map (D.int .i64)) 4, .int .i64 a0.fC.Topic, .int .i64 a0.fC.Who, .int .i64 a0.fC.N, .int .i64 a0.fBefore.Clock, .imm 7 (a0.fBefore.Waits.map TWait.d) 4, .imm 2 (a0.fBefore.Done.map TStamp.d) 4, .int .i64 a0.fAfter.Clock, .imm 7 (a0.fAfter.Waits.map TWait.d) 4, .imm 2 (a0.fAfter.Done.map TStamp.d) 4, .imm 5 (a0.fOut.map TMessage.d) 4]] (fun _ => rfl) (fun _ => rfl) (fun _ => rfl) (fun x0 => zeg x0 a0) (fun x0 y hy => zmc x0 a0 y hy) v2 hv2) ?_
 refine .rn 1 ?_
 refine .nil ⟨nofun, ?_⟩
 refine .seq ?_
 obtain ⟨k1, h⟩ := zae h
 obtain ⟨v3, hv3, h⟩ := bind_some h
 have e1 := zb1 TWait.d a0.fBefore.Waits v2
 replace e1 := e1 k1
 refine .rg zS [1, 2, 3, 4] ?_
 refine .rdx 8 e1 ?_
 refine .call (r := .tuple [.int .i64 v3.1, .bool v3.2]) rfl rfl rfl rfl rfl rfl (zii c0 ((a0.fBefore.Waits.getD v2.toNat default).Message) v3 hv3) ?_
 refine .rdx 5 e1 ?_
 refine .nd ?_
 refine .rg zS [1, 2, 3, 5, 6] ?_
 refine .rn 6 ?_
 refine .rn 6 ?_
 refine .nil ⟨nofun, ?_⟩
 have hq := sj h
 subst r
 refine ⟨st10 (c0, ((c1 && v3.2) && (v3.1 == a0.fC.Time))), ?_, .inl rfl, retH [20000, 20001] ?_ ?_⟩
 exact .m [1, 2] [20000, 20001] []
 exact rsi0
 rfl
@[go_sem] def st68 (l1 : List (List Torder_given)) (b1 : Bool) (n1 : Int) (l2 : List TWait) (l3 : List TStamp) : St := ⟨[(2, .fn (.func 34) [.ptr 20000 0, .ptr 20001 0]), (6, .ptr 20100 0), (10, .ptr 20101 0)], [(20000, .box [.imm 1 (l1.map dL_Torder_givend) 12]), (20001, .box [.bool b1]), (20100, .box [.int .i64 0, .imm 0 [] 0, .imm 0 [] 0]), (20101, .box [.int .i64 n1, .imm 7 (l2.map TWait.d) 12, .imm 2 (l3.map TStamp.d) 12])], 20102⟩
@[go_sem] def st69 (a0 : Int) (v1 : (List TCommand) × Int) (n3 : Nat) (l4 : List (List Torder_given)) (b2 : Bool) (n2 : Int) (l5 : List TWait) (l6 : List TStamp) : St := ⟨[(0, .int .i64 a0), (2, .fn (.func 34) [.ptr 20000 0, .ptr 20001 0]), (6, .ptr 20100 0), (10, .ptr 20101 0), (33, .imm 12 (v1.1.map TCommand.d) 12), (34, .int .i64 (v1.1.length : Int)), (35, .int .i64 (n3 : Int))], [(20000, .box [.imm 1 (l4.map dL_Torder_givend) 12]), (20001, .box [.bool b2]), (20100, .box [.int .i64 0, .imm 0 [] 0, .imm 0 [] 0]), (20101, .box [.int .i64 n2, .imm 7 (l5.map TWait.d) 12, .imm 2 (l6.map TStamp.d) 12])], 20102⟩
@[go_sem] def st70 (a0 : Int) (v1 : (List TCommand) × Int) (n3 : Nat) (l4 : List (List Torder_given)) (b2 : Bool) (n2 : Int) (l5 : List TWait) (l6 : List TStamp) (yq0 : TCommand) (n4 : Int) (l7 : List TWait) (l8 : List TStamp) (l9 : List TMessage) : St := ⟨[(0, .int .i64 a0), (2, .fn (.func 34) [.ptr 20000 0, .ptr 20001 0]), (6, .ptr 20100 0), (10, .ptr 20101 0), (12, .ptr 20102 0), (13, .ptr 20103 0), (14, .imm 5 (l9.map TMessage.d) 12), (33, .imm 12 (v1.1.map TCommand.d) 12), (34, .int .i64 (v1.1.length : Int)), (35, .int .i64 (n3 : Int))], [(20000, .box [.imm 1 (l4.map dL_Torder_givend) 12]), (20001, .box [.bool b2]), (20100, .box [.int .i64 0, .imm 0 [] 0, .imm 0 [] 0]), (20101, .box [.int .i64 n2, .imm 7 (l5.map TWait.d) 12, .imm 2 (l6.map TStamp.d) 12]), (20102, .box [.int .u8 (yq0.Kind), .int .i64 (yq0.Message.Id), .imm 1 ((yq0.Message.Groups).map (D.int .i64)) 12, .int .i64 (yq0.Message.Topic), .str (yq0.Message.Key), .str (yq0.Message.Body), .int .i64 (yq0.Id), .int .i64 (yq0.Time), .imm 1 ((yq0.Members).map (D.int .i64)) 12, .int .i64 (yq0.Topic), .int .i64 (yq0.Who), .int .i64 (yq0.N)]), (20103, .box [.int .i64 n4, .imm 7 (l7.map TWait.d) 12, .imm 2 (l8.map TStamp.d) 12])], 20104⟩
@[go_sem] def st12 (r : TSkeen × Int × (List (List Torder_given)) × Bool) : St := ⟨[(2, .fn (.func 34) [.ptr 20000 0, .ptr 20001 0]), (6, .ptr 20102 0), (7, .int .i64 r.2.1)], [(20000, .box [.imm 1 (r.2.2.1.map dL_Torder_givend) 12]), (20001, .box [.bool r.2.2.2]), (20100, .arr 78 7 true (r.1.Waits.map TWait.n)), (20101, .arr 72 2 true (r.1.Done.map TStamp.d)), (20102, .box [.int .i64 r.1.Clock, .ref 20100 7 0 r.1.Waits.length (some uC), .ref 20101 2 0 r.1.Done.length (some uC)])], 20103⟩
theorem zm6 (a0 : Int) (a1 : List (List UInt8)) (a2_0 : List (List Torder_given)) (a2_1 : Bool) (r : TSkeen × Int × (List (List Torder_given)) × Bool) (h : zfm a0 a1 a2_0 a2_1 = some r) : zcv Tryz.prog 20 [.int .i64 a0, .imm 1 (a1.map D.str) 4, .fn (.func 34) [.ptr 20000 0, .ptr 20001 0]] [(20000, .box [.imm 1 (a2_0.map dL_Torder_givend) 12]), (20001, .box [.bool a2_1])] (.tuple [.agg [.int .i64 r.1.Clock, .ref 20100 7 0 r.1.Waits.length (some uC), .ref 20101 2 0 r.1.Done.length (some uC)], .int .i64 r.2.1]) [(20000, some (.box [.imm 1 (r.2.2.1.map dL_Torder_givend) 12])), (20001, some (.box [.bool r.2.2.2])), (20100, some (.arr 78 7 true (r.1.Waits.map TWait.n))), (20101, some (.arr 72 2 true (r.1.Done.map TStamp.d)))] (20100, 20116) := by
 refine za5 Tryz.tmOk Tryz.func20 rfl (by decide) (lb rfl) (by simp) ?_
 intro hwf
 unfold zfm at h
 refine .ends 20100 (Nat.le_refl _) ?_
 refine .seq (.pl zS [0, 1, 2] ?_)
 refine .seq (.seq (.pl zS [0, 1, 2, 6] ?_))
 refine .cond rfl rfl (fun hc1 => ?_) (fun hc1 => ?_)
 replace h := za0 h hc1
 refine .seq (.pl zS [2, 6] ?_)
 have hq := sj h
 subst r
 refine .ret ⟨st12 ((⟨0, [], []⟩ : TSkeen), 2, a2_0, a2_1), ?_, .inr rfl, retH [20000, 20001, 20101, 20100] ?_ ?_⟩
 refine Goes.new0 7 78 (lb rfl) ?_
 refine Goes.new0 2 72 (lb rfl) ?_
 refine Goes.boxs 20100 _ [.int .i64 0, .ref 20101 7 0 0 (some uC), .ref 20102 2 0 0 (some uC)] rfl (.keep (.cons (.own0 20101 _ _ _ (by decide)) (.cons (.own0 20102 _ _ _ (by decide)) (.refl _)))) ?_
 exact .m [2, 6, 7] [20000, 20001, 20101, 20102, 20100] [(20101, 20100), (20102, 20101), (20100, 20102)]
 exact rsi0
 rfl
 replace h := za3 h hc1
 refine .skip ?_
 refine .seq ?_
 obtain ⟨v1, hv1, h⟩ := bind_some h
 refine .rg zS [0, 1, 2, 6] ?_
 refine .rn 1 ?_
 refine .call (r := .tuple [.imm 12 (v1.1.map TCommand.d) 12, .int .i64 v1.2]) rfl rfl rfl rfl rfl rfl (zkp a1 v1 hv1) ?_
 refine .rn 5 ?_
 refine .nil ⟨nofun, ?_⟩
 refine .seq (.seq (.pl zS [0, 2, 6, 8, 9] ?_))
 refine .cond rfl rfl (fun hc2 => ?_) (fun hc2 => ?_)
 replace h := za0 h hc2
 refine .seq (.pl zS [2, 6, 9] ?_)
 have hq := sj h
 subst r
 refine .ret ⟨st12 ((⟨0, [], []⟩ : TSkeen), v1.2, a2_0, a2_1), ?_, .inr rfl, retH [20000, 20001, 20101, 20100] ?_ ?_⟩
 refine Goes.new0 7 78 (lb rfl) ?_
 refine Goes.new0 2 72 (lb rfl) ?_
 refine Goes.boxs 20100 _ [.int .i64 0, .ref 20101 7 0 0 (some uC), .ref 20102 2 0 0 (some uC)] rfl (.keep (.cons (.own0 20101 _ _ _ (by decide)) (.cons (.own0 20102 _ _ _ (by decide)) (.refl _)))) ?_
 exact .m [2, 6, 7] [20000, 20001, 20101, 20102, 20100] [(20101, 20100), (20102, 20101), (20100, 20102)]
 exact rsi0
 rfl
 replace h := za3 h hc2
 refine .skip ?_
 refine .seq ?_
 obtain ⟨v2, hv2, h⟩ := bind_some h
 refine .rg zS [0, 2, 6, 8] ?_
 refine .call (r := .agg [.int .i64 v2.Clock, .imm 7 (v2.Waits.map TWait.d) 12, .imm 2 (v2.Done.map TStamp.d) 12]) rfl rfl rfl rfl rfl rfl (zmt  v2 hv2) ?_
 refine .rn 2 ?_
 refine .nil ⟨nofun, ?_⟩
 obtain ⟨x1, hx1, h⟩ := bind_some h
 refine .seqM 20102 (fun (j : (List (List Torder_given)) × Bool × Int × (List TWait) × (List TStamp)) => st68 j.1 j.2.1 j.2.2.1 j.2.2.2.1 j.2.2.2.2) (fun j => x1 = j) (lb rfl) ?_ ?_
 refine .seq (.pl zS [0, 2, 6, 8, 10] ?_)
 refine .block ?_
 refine .loopG 20102 (fun (j : Nat × (List (List Torder_given)) × Bool × Int × (List TWait) × (List TStamp)) => st69 a0 v1 j.1 j.2.1 j.2.2.1 j.2.2.2.1 j.2.2.2.2.1 j.2.2.2.2.2) (fun j => j.1 <= v1.1.length /\ zc8 a0 (v1.1.drop j.1) j.2.1 j.2.2.1 j.2.2.2.1 j.2.2.2.2.1 j.2.2.2.2.2 = some x1) (fun j => v1.1.length - j.1) (0, a2_0, a2_1, v2.Clock, v2.Waits, v2.Done) (lb rfl) ?_ ⟨Nat.zero_le _, hx1⟩ ?_
 exact .m [0, 2, 6, 10, 33, 34, 35] [20000, 20001, 20100, 20101] []
 rintro ⟨n3, l4, b2, n2, l5, l6⟩ ⟨hi1, hx1⟩
 simp only [st69]
 simp only at hi1 hx1
 refine .wf 34 (.int .i64 (v1.1.length : Int)) rfl ?_
 intro hln3
 replace hln3 : (v1.1.length : Int) <= 9223372036854775807 := by simp only [wf, wfL, IntKind.max, IntKind.min, IntKind.signed, IntKind.bits, List.length_map] at hln3; first | exact hln3.2 | exact hln3.1 | (simp at hln3; omega)
 refine .seq (.pl zS [0, 2, 6, 10, 33, 34, 35] ?_)
 refine .seq ?_
 refine .cond rfl rfl (fun hc3 => ?_) (fun hc3 => ?_)
 have h1 : n3 < v1.1.length := by simpa using hc3
 have hwn3 : wr .i64 ((n3 : Int) + 1) = ((n3 + 1 : Nat) : Int) := zch h1 hln3
 have hpn3 : wr .i64 ((n3 : Int) - 1) = (n3 : Int) - 1 := zci h1 hln3
 rw [List.drop_eq_getElem_cons h1, zc8] at hx1
 refine .skip ?_
 refine .seq (.block (.seq ?_))
 have e1 := zay TCommand.d v1.1 n3 h1
 refine .plx zS (ai e1 hwn3) [0, 2, 6, 10, 33, 34, 35] ?_
 refine .seq ?_
 obtain ⟨v3, hv3, hx1⟩ := bind_some hx1
 refine .rg zS [0, 2, 6, 10, 12, 33, 34, 35] ?_
 refine .rnx 3 hwn3 ?_
 refine .call (r := .tuple [.agg [.int .i64 v3.1.Clock, .imm 7 (v3.1.Waits.map TWait.d) 12, .imm 2 (v3.1.Done.map TStamp.d) 12], .imm 5 (v3.2.1.map TMessage.d) 12, .int .i64 v3.2.2]) rfl rfl rfl rfl rfl rfl (zlm (⟨n2, l5, l6⟩ : TSkeen) a0 (v1.1[n3]) v3 hv3) ?_
 refine .rnx 8 hwn3 ?_
 refine .nil ⟨nofun, ?_⟩
 obtain ⟨x2, hx2, hx1⟩ := bind_some hx1
 refine .seqM 20104 (fun (j : Int × (List TWait) × (List TStamp) × (List TMessage)) => st70 a0 v1 n3 l4 b2 n2 l5 l6 (v1.1[n3]) j.1 j.2.1 j.2.2.1 j.2.2.2) (fun j => x2 = j) (lb rfl) ?_ ?_
 refine .seq (.plx zS hwn3 [0, 2, 6, 10, 12, 13, 14, 15, 33, 34, 35] ?_)
 refine .cond rfl rfl (fun hc4 => ?_) (fun hc4 => ?_)
 replace hx2 := za0 hx2 hc4
 refine .plx zS hwn3 [0, 2, 6, 10, 12, 13, 33, 34, 35] ?_
 refine ⟨_, ?_, (sj hx2).symm⟩
 refine Goes.wk 14 _ (.imm 5 [] 12) rfl (.nil12 _ _ 0 (by decide)) ?_
 exact .m [0, 2, 6, 10, 12, 13, 14, 33, 34, 35] [20000, 20001, 20100, 20101, 20102, 20103] []
 replace hx2 := za3 hx2 hc4
 refine .skip ?_
 refine ⟨_, ?_, (sj hx2).symm⟩
 exact .m [0, 2, 6, 10, 12, 13, 14, 33, 34, 35] [20000, 20001, 20100, 20101, 20102, 20103] []
 rintro ⟨n4, l7, l8, l9⟩ hj1
 subst x2
 try dsimp only at hx1
 simp only [st70]
 refine .seq ?_
 obtain ⟨v4, hv4, hx1⟩ := bind_some hx1
 refine .rg zS [0, 2, 6, 10, 12, 13, 14, 33, 34, 35] ?_
 refine .rnx 6 hwn3 ?_
 refine .hcall (H := [(20000, .box [.imm 1 (l4.map dL_Torder_givend) 12]), (20001, .box [.bool b2])]) (eff := [(20000, some (.box [.imm 1 (v4.1.map dL_Torder_givend) 12])), (20001, some (.box [.bool v4.2]))]) (nw := (20104, 20107)) (r := .tuple []) rfl rfl rfl rfl rfl (zc5 20001 20001 (zc5 20000 20000 (zd7 20104 (zot (.cons (.aggs (.keep (.keep (.cons (.new4 _ _ rfl) (.keep (.keep (.keep (.keep (.keep (.cons (.new4 _ _ rfl) (.keep (.keep (.keep (.keep (.cons (.new4 _ _ rfl) (.cons (.new4 _ _ rfl) (.keep (.cons (.new4 _ _ rfl) (.cons (.new4 _ _ rfl) (.cons (.new4 _ _ rfl) (.refl _))))))))))))))))))))) (.refl _)) (znb (⟨v1.1[n3], (⟨n2, l5, l6⟩ : TSkeen), (⟨n4, l7, l8⟩ : TSkeen), l9⟩ : Torder_step) l4 b2 v4 hv4))))) (fun id b h => zaj [20000, 20001] _ id b h) (by simp) (.inr ⟨lb rfl, lb rfl⟩) ?_
 refine .nil ⟨nofun, ?_⟩
 refine .plx zS hwn3 [0, 2, 6, 10, 13, 33, 34, 35] ?_
 refine .plx zS hwn3 [0, 2, 6, 10, 33, 34, 35] ?_
 refine ⟨(n3 + 1, _, _, _, _, _), ?_, ⟨by omega, hx1⟩, by dsimp only; omega⟩
 exact .m [0, 2, 6, 10, 33, 34, 35] [20000, 20001, 20100, 20101] []
 have h2 : n3 = v1.1.length := by have h2b := of_decide_eq_false hc3; omega
 rw [List.drop_of_length_le (by omega), zc8] at hx1
 refine .exit ?_
 refine ⟨_, ?_, (sj hx1).symm⟩
 exact .m [2, 6, 10] [20000, 20001, 20100, 20101] []
 rintro ⟨l1, b1, n1, l2, l3⟩ hj2
 subst x1
 try dsimp only at h
 simp only [st68]
 refine .seq ?_
 obtain ⟨v5, hv5, h⟩ := bind_some h
 refine .rg zS [2, 6, 10] ?_
 refine .rn 1 ?_
 refine .ncall (r := .agg [.int .i64 v5.Clock, .ref 20102 7 0 v5.Waits.length (some uC), .ref 20103 2 0 v5.Done.length (some uC)]) (eff := [(20102, some (.arr 78 7 true (v5.Waits.map TWait.n))), (20103, some (.arr 72 2 true (v5.Done.map TStamp.d)))]) (nw := (20102, 20114)) [] rfl rfl rfl rfl rfl (za7 rfl zb9) rfl (zeh 20102 (lb rfl) (zjc (⟨n1, l2, l3⟩ : TSkeen) v5 hv5)) (zfu rfl rfl (zmp zft _ _ _) (zfu rfl rfl (zji zhf _ _ _) zjh)) (by intro i hi; simp [D.ids, D.idsL] at hi <;> omega) rfl ⟨lb rfl, lb rfl⟩ ?_
 refine .rn 2 ?_
 refine .nil ⟨nofun, ?_⟩
 have hq := sj h
 subst r
 refine .ret ⟨st12 (v5, 0, l1, b1), ?_, .inr rfl, retH [20000, 20001, 20101, 20100] ?_ ?_⟩
 exact .m [2, 6, 7] [20000, 20001, 20102, 20103, 20100] [(20102, 20100), (20103, 20101), (20100, 20102)]
 exact rsi0
 rfl
@[go_sem] def st64 (b1 : Bool) : St := ⟨[(6, .ptr 1 0)], [(1, .box [.bool b1])], 2⟩
@[go_sem] def st65 (a0 : List (List (List UInt8))) (n1 : Nat) (l1 : List (List Torder_given)) (b2 : Bool) : St := ⟨[(4, .ptr 0 0), (6, .ptr 1 0), (19, .imm 1 (a0.map zdn) 4), (20, .int .i64 (a0.length : Int)), (21, .int .i64 (n1 : Int))], [(0, .box [.imm 1 (l1.map dL_Torder_givend) 12]), (1, .box [.bool b2])], 2⟩
theorem zoq (a0 : List (List (List UInt8))) (r : Bool × Int) (h : zfh a0 = some r) : zbn Tryz.prog 16 [.imm 1 (a0.map zdn) 4] (.tuple [.bool r.1, .int .i64 r.2]) := by
 refine za2 Tryz.tmOk 20 Tryz.func16 rfl (by decide) rfl rfl (lb rfl) ?_
 intro hwf
 unfold zfh at h
 refine .seq (.pl zS [0] ?_)
 refine .seq ?_
 obtain ⟨v1, hv1, h⟩ := bind_some h
 refine .rg zS [0] ?_
 refine .rn 1 ?_
 refine .call (r := .tuple [.imm 1 (v1.1.map dL_Torder_givend) 12, .int .i64 v1.2]) rfl rfl rfl rfl rfl rfl (znh a0 v1 hv1) ?_
 refine .rn 6 ?_
 refine .nil ⟨nofun, ?_⟩
 refine .seq (.seq (.pl zS [0, 4, 5] ?_))
 refine .cond rfl rfl (fun hc1 => ?_) (fun hc1 => ?_)
 replace h := za0 h hc1
 refine .seq (.pl zS [5] ?_)
 have hq := sj h
 subst r
 exact .ret ⟨.inr rfl, rsi⟩
 replace h := za3 h hc1
 refine .skip ?_
 refine .seq ?_
 obtain ⟨v2, hv2, h⟩ := bind_some h
 refine .rg zS [0, 4] ?_
 refine .rn 1 ?_
 refine .call (r := .bool v2) rfl rfl rfl rfl rfl rfl (zmu v1.1 v2 hv2) ?_
 refine .rn 2 ?_
 refine .nil ⟨nofun, ?_⟩
 obtain ⟨x1, hx1, h⟩ := bind_some h
 refine .seqM 2 (fun (j : Bool) => st64 j) (fun j => x1 = j) (lb rfl) ?_ ?_
 refine .seq (.pl zS [0, 4, 6] ?_)
 refine .block ?_
 refine .loopG 2 (fun (j : Nat × (List (List Torder_given)) × Bool) => st65 a0 j.1 j.2.1 j.2.2) (fun j => j.1 <= a0.length /\ zdq (a0.drop j.1) j.1 j.2.1 j.2.2 = some x1) (fun j => a0.length - j.1) (0, v1.1, v2) (lb rfl) ?_ ⟨Nat.zero_le _, hx1⟩ ?_
 exact .m [4, 6, 19, 20, 21] [0, 1] []
 rintro ⟨n1, l1, b2⟩ ⟨hi1, hx1⟩
 simp only [st65]
 simp only at hi1 hx1
 refine .wf 20 (.int .i64 (a0.length : Int)) rfl ?_
 intro hln1
 replace hln1 : (a0.length : Int) <= 9223372036854775807 := by simp only [wf, wfL, IntKind.max, IntKind.min, IntKind.signed, IntKind.bits, List.length_map] at hln1; first | exact hln1.2 | exact hln1.1 | (simp at hln1; omega)
 refine .seq (.pl zS [4, 6, 19, 20, 21] ?_)
 refine .seq ?_
 refine .cond rfl rfl (fun hc2 => ?_) (fun hc2 => ?_)
 have h1 : n1 < a0.length := by simpa using hc2
 have hwn1 : wr .i64 ((n1 : Int) + 1) = ((n1 + 1 : Nat) : Int) := zch h1 hln1
 have hpn1 : wr .i64 ((n1 : Int) - 1) = (n1 : Int) - 1 := zci h1 hln1
 rw [List.drop_eq_getElem_cons h1, zdq] at hx1
 refine .skip ?_
 refine .seq (.block (.seq ?_))
 have e1 := zay zdn a0 n1 h1
 refine .plx zS (ai e1 hwn1) [4, 6, 19, 20, 21] ?_
 obtain ⟨v3, hv3, hx1⟩ := bind_some hx1
 refine .rg zS [4, 6, 7, 8, 19, 20, 21] ?_
 refine .rnx 3 hwn1 ?_
 refine .hcall (H := [(0, .box [.imm 1 (l1.map dL_Torder_givend) 12]), (1, .box [.bool b2])]) (eff := [(0, some (.box [.imm 1 (v3.2.2.1.map dL_Torder_givend) 12])), (1, some (.box [.bool v3.2.2.2])), (2, some (.arr 78 7 true (v3.1.Waits.map TWait.n))), (3, some (.arr 72 2 true (v3.1.Done.map TStamp.d)))]) (nw := (2, 18)) (r := .tuple [.agg [.int .i64 v3.1.Clock, .ref 2 7 0 v3.1.Waits.length (some uC), .ref 3 2 0 v3.1.Done.length (some uC)], .int .i64 v3.2.1]) rfl rfl rfl rfl rfl (zk9 2 (zc5 20001 1 (zc5 20000 0 (zm6 (n1 : Int) (a0[n1]) l1 b2 v3 hv3)))) (fun id b h => zaj [0, 1] _ id b h) (by simp) (.inr ⟨lb rfl, lb rfl⟩) ?_
 refine .rnx 3 hwn1 ?_
 refine .nil ⟨nofun, ?_⟩
 refine .plx zS hwn1 [4, 6, 19, 20, 21] ?_
 refine ⟨(n1 + 1, _, _), ?_, ⟨by omega, hx1⟩, by dsimp only; omega⟩
 exact .m [4, 6, 19, 20, 21] [0, 1] []
 have h2 : n1 = a0.length := by have h2b := of_decide_eq_false hc2; omega
 rw [List.drop_of_length_le (by omega), zdq] at hx1
 refine .exit ?_
 refine ⟨_, ?_, (sj hx1).symm⟩
 exact .m [6] [1] []
 rintro b1 hj1
 subst x1
 try dsimp only at h
 simp only [st64]
 refine .seq (.pl zS [6] ?_)
 have hq := sj h
 subst r
 exact .ret ⟨.inr rfl, rsi⟩
@[go_sem] def st59 (a0 : List TStamp) (m1 : List (Int × Int)) : St := ⟨[(0, .imm 2 (a0.map TStamp.d) 4), (4, .imm 0 [] 0), (5, .mref 0)], [(0, .map (mapD (D.int .i64) (D.int .i64) m1))], 1⟩
@[go_sem] def st60 (a0 : List TStamp) (a1 : List TStamp) (n1 : Nat) (m2 : List (Int × Int)) : St := ⟨[(0, .imm 2 (a0.map TStamp.d) 4), (4, .imm 0 [] 0), (5, .mref 0), (11, .imm 2 (a1.map TStamp.d) 4), (12, .int .i64 (a1.length : Int)), (13, .int .i64 (n1 : Int))], [(0, .map (mapD (D.int .i64) (D.int .i64) m2))], 1⟩
@[go_sem] def st61 (l1 : List TStamp) : St := ⟨[(4, .ref 1 2 0 l1.length (some uC))], [(1, .arr 72 2 true (l1.map TStamp.d))], 2⟩
@[go_sem] def st62 (a0 : List TStamp) (m1 : List (Int × Int)) (n2 : Nat) (l2 : List TStamp) : St := ⟨[(4, .ref 1 2 0 l2.length (some uC)), (5, .mref 0), (21, .imm 2 (a0.map TStamp.d) 4), (22, .int .i64 (a0.length : Int)), (23, .int .i64 (n2 : Int))], [(0, .map (mapD (D.int .i64) (D.int .i64) m1)), (1, .arr 72 2 true (l2.map TStamp.d))], 2⟩
@[go_sem] def st63 (a0 : List TStamp) (m1 : List (Int × Int)) (n2 : Nat) (l3 : List TStamp) : St := ⟨[(4, .ref 2 2 0 l3.length (some uC)), (5, .mref 0), (21, .imm 2 (a0.map TStamp.d) 4), (22, .int .i64 (a0.length : Int)), (23, .int .i64 (n2 : Int))], [(0, .map (mapD (D.int .i64) (D.int .i64) m1)), (2, .arr 72 2 true (l3.map TStamp.d))], 3⟩
@[go_sem] def st9 (r : (List TStamp)) : St := ⟨[(4, .ref 0 2 0 r.length (some uC))], [(0, .arr 72 2 true (r.map TStamp.d))], 1⟩
theorem zns (a0 : List TStamp) (a1 : List TStamp) (r : (List TStamp)) (h : zfn a0 a1 = some r) : zcv Tryz.prog 39 [.imm 2 (a0.map TStamp.d) 4, .imm 2 (a1.map TStamp.d) 4] [] (.ref 0 2 0 r.length (some uC)) [(0, some (.arr 72 2 true (r.map TStamp.d)))] (0, 7) := by
 refine za5 Tryz.tmOk Tryz.func39 rfl (by decide) (lb rfl) (by simp) ?_
 intro hwf
 unfold zfn at h
 refine .ends 0 (Nat.le_refl _) ?_
 refine .seq (.pl zS [0, 1] ?_)
 refine .seq (.pl zS [0, 1, 4] ?_)
 obtain ⟨x1, hx1, h⟩ := bind_some h
 refine .seqM 1 (fun (j : (List (Int × Int))) => st59 a0 j) (fun j => x1 = j) (lb rfl) ?_ ?_
 refine .seq (.pl zS [0, 1, 4, 5] ?_)
 refine .block ?_
 refine .loopG 1 (fun (j : Nat × (List (Int × Int))) => st60 a0 a1 j.1 j.2) (fun j => j.1 <= a1.length /\ ze9 (a1.drop j.1) j.2 = some x1) (fun j => a1.length - j.1) (0, []) (lb rfl) ?_ ⟨Nat.zero_le _, hx1⟩ ?_
 exact .mp [0, 4, 5, 11, 12, 13] [0] [] ⟨rfl, trivial⟩
 rintro ⟨n1, m2⟩ ⟨hi1, hx1⟩
 simp only [st60]
 simp only at hi1 hx1
 refine .wf 12 (.int .i64 (a1.length : Int)) rfl ?_
 intro hln1
 replace hln1 : (a1.length : Int) <= 9223372036854775807 := by simp only [wf, wfL, IntKind.max, IntKind.min, IntKind.signed, IntKind.bits, List.length_map] at hln1; first | exact hln1.2 | exact hln1.1 | (simp at hln1; omega)
 refine .seq (.pl zS [0, 4, 5, 11, 12, 13] ?_)
 refine .seq ?_
 refine .cond rfl rfl (fun hc1 => ?_) (fun hc1 => ?_)
 have h1 : n1 < a1.length := by simpa using hc1
 have hwn1 : wr .i64 ((n1 : Int) + 1) = ((n1 + 1 : Nat) : Int) := zch h1 hln1
 have hpn1 : wr .i64 ((n1 : Int) - 1) = (n1 : Int) - 1 := zci h1 hln1
 rw [List.drop_eq_getElem_cons h1, ze9] at hx1
 refine .skip ?_
 refine .seq (.block (.seq ?_))
 have e1 := zay TStamp.d a1 n1 h1
 refine .plx zS (ai e1 hwn1) [0, 4, 5, 11, 12, 13] ?_
 have em1 : updD (.int .i64 (a1[n1].Id)) (.int .i64 1) (mapD (D.int .i64) (D.int .i64) m2) = some (mapD (D.int .i64) (D.int .i64) (mput (a1[n1].Id) 1 m2)) := zt4 _ (D.int .i64) (a1[n1].Id) 1 _ rfl m2
 refine .plx zS (ai em1 hwn1) [0, 4, 5, 7, 11, 12, 13] ?_
 refine .plx zS hwn1 [0, 4, 5, 11, 12, 13] ?_
 refine ⟨(n1 + 1, _), ?_, ⟨by omega, hx1⟩, by dsimp only; omega⟩
 exact .mp [0, 4, 5, 11, 12, 13] [0] [] ⟨zfj (fun _ => rfl) (fun _ => rfl) _, trivial⟩
 have h2 : n1 = a1.length := by have h2b := of_decide_eq_false hc1; omega
 rw [List.drop_of_length_le (by omega), ze9] at hx1
 refine .exit ?_
 refine ⟨_, ?_, (sj hx1).symm⟩
 exact .mp [0, 4, 5] [0] [] ⟨zfj (fun _ => rfl) (fun _ => rfl) _, trivial⟩
 rintro m1 hj1
 subst x1
 try dsimp only at h
 simp only [st59]
 obtain ⟨x2, hx2, h⟩ := bind_some h
 refine .seqM 1 (fun (j : (List TStamp)) => st61 j) (fun j => x2 = j) (lb rfl) ?_ ?_
 refine .seq (.pl zS [0, 4, 5] ?_)
 refine .block ?_
 refine .loopG 1 (fun (j : Nat × (List TStamp)) => st62 a0 m1 j.1 j.2) (fun j => j.1 <= a0.length /\ zdk m1 (a0.drop j.1) j.2 = some x2) (fun j => a0.length - j.1) (0, []) (lb rfl) ?_ ⟨Nat.zero_le _, hx2⟩ ?_
 refine Goes.new0 2 72 (lb rfl) ?_
 refine Goes.wk 4 _ (.ref 1 2 0 0 (some uC)) rfl (.own0 1 _ _ _ (by decide)) ?_
 exact .mp [4, 5, 21, 22, 23] [0, 1] [] ⟨zfj (fun _ => rfl) (fun _ => rfl) _, trivial⟩
 rintro ⟨n2, l2⟩ ⟨hi2, hx2⟩
 simp only [st62]
 simp only at hi2 hx2
 refine .wf 22 (.int .i64 (a0.length : Int)) rfl ?_
 intro hln2
 replace hln2 : (a0.length : Int) <= 9223372036854775807 := by simp only [wf, wfL, IntKind.max, IntKind.min, IntKind.signed, IntKind.bits, List.length_map] at hln2; first | exact hln2.2 | exact hln2.1 | (simp at hln2; omega)
 refine .seq (.pl zS [4, 5, 21, 22, 23] ?_)
 refine .seq ?_
 refine .cond rfl rfl (fun hc2 => ?_) (fun hc2 => ?_)
 have h3 : n2 < a0.length := by simpa using hc2
 have hwn2 : wr .i64 ((n2 : Int) + 1) = ((n2 + 1 : Nat) : Int) := zch h3 hln2
 have hpn2 : wr .i64 ((n2 : Int) - 1) = (n2 : Int) - 1 := zci h3 hln2
 rw [List.drop_eq_getElem_cons h3, zif] at hx2
 refine .skip ?_
 obtain ⟨x3, hx3, hx2⟩ := bind_some hx2
 refine .seqM 2 (fun (j : (List TStamp)) => st63 a0 m1 n2 j) (fun j => x3 = j) (lb rfl) ?_ ?_
 refine .block ?_
 refine .seq ?_
 have e2 := zay TStamp.d a0 n2 h3
 refine .plx zS (ai e2 hwn2) [4, 5, 21, 22, 23] ?_
 refine .seq (.plx zS hwn2 [4, 5, 9, 21, 22, 23] ?_)
 refine .cond rfl rfl (fun hc3 => ?_) (fun hc3 => ?_)
 replace hx3 := za0 hx3 hc3
 obtain ⟨k1, hx3⟩ := zae hx3
 refine .plx zS hwn2 [4, 5, 9, 21, 22, 23] ?_
 refine ⟨_, ?_, (sj hx3).symm⟩
 exact .mp [4, 5, 21, 22, 23] [0, 4] [(4, 2)] ⟨zfj (fun _ => rfl) (fun _ => rfl) _, trivial⟩
 replace hx3 := za3 hx3 hc3
 refine .skip ?_
 refine ⟨_, ?_, (sj hx3).symm⟩
 exact .mp [4, 5, 21, 22, 23] [0, 1] [(1, 2)] ⟨zfj (fun _ => rfl) (fun _ => rfl) _, trivial⟩
 rintro l3 hj2
 subst x3
 try dsimp only at hx2
 simp only [st63]
 refine .plx zS hwn2 [4, 5, 21, 22, 23] ?_
 refine ⟨(n2 + 1, _), ?_, ⟨by omega, hx2⟩, by dsimp only; omega⟩
 exact .mp [4, 5, 21, 22, 23] [0, 2] [(2, 1)] ⟨zfj (fun _ => rfl) (fun _ => rfl) _, trivial⟩
 have h4 : n2 = a0.length := by have h4b := of_decide_eq_false hc2; omega
 rw [List.drop_of_length_le (by omega), zie] at hx2
 refine .exit ?_
 refine ⟨_, ?_, (sj hx2).symm⟩
 exact .m [4] [1] []
 rintro l1 hj3
 subst x2
 try dsimp only at h
 simp only [st61]
 refine .seq (.pl zS [4] ?_)
 have hq := sj h
 subst r
 refine .ret ⟨st9 l1, ?_, .inr rfl, retH [0] ?_ ?_⟩
 exact .m [4] [1] [(1, 0)]
 exact rsi0
 rfl
theorem zk4 (a0 : List TStamp) (a1 : List TStamp) (r : (List TStamp)) (h : zfn a0 a1 = some r) : zbn Tryz.prog 39 [.imm 2 (a0.map TStamp.d) 4, .imm 2 (a1.map TStamp.d) 4] (.imm 2 (r.map TStamp.d) 12) :=
 zg0 (ziv zhf rfl rfl) (zns a0 a1 r h)
theorem zph (a0 : List TStamp) (a1 : List TStamp) (r : Bool) (h : zig a0 a1 = some r) : zbn Tryz.prog 18 [.imm 2 (a0.map TStamp.d) 4, .imm 2 (a1.map TStamp.d) 4] (.bool r) := by
 refine za2 Tryz.tmOk 2 Tryz.func18 rfl (by decide) rfl rfl (lb rfl) ?_
 intro hwf
 unfold zig at h
 refine .seq (.pl zS [0, 1] ?_)
 refine .seq (.pl zS [0, 1] ?_)
 refine .seq ?_
 obtain ⟨v1, hv1, h⟩ := bind_some h
 obtain ⟨v2, hv2, h⟩ := bind_some h
 refine .rg zS [0, 1, 5] ?_
 refine .rn 3 ?_
 refine .call (r := .imm 2 (v1.map TStamp.d) 12) rfl rfl rfl rfl rfl rfl (zk4 a0 a1 v1 hv1) ?_
 refine .rn 3 ?_
 refine .call (r := .imm 2 (v2.map TStamp.d) 12) rfl rfl rfl rfl rfl rfl (zk4 a1 a0 v2 hv2) ?_
 refine .rn 2 ?_
 refine .nil ⟨nofun, ?_⟩
 refine .seq (.pl zS [6, 7] ?_)
 refine .seq ?_
 obtain ⟨k1, h⟩ := zae h
 obtain ⟨k2, h⟩ := zae h
 obtain ⟨v3, hv3, h⟩ := bind_some h
 refine .rg zS [6, 7, 8] ?_
 refine .rd 6 ?_
 refine .call (r := .bool v3) rfl rfl rfl rfl rfl rfl (zgn (v1.take (min (v1.length : Int) (v2.length : Int)).toNat) (v2.take (min (v1.length : Int) (v2.length : Int)).toNat) v3 hv3) ?_
 refine .rd 1 ?_
 refine .nd ?_
 have hq := sj h
 subst r
 exact .ret ⟨.inr rfl, rsi⟩
end Go.Proofs
end
section
namespace Go.Proofs
open Go.Tm
set_option linter.unusedVariables false
def zb7 (a1 : TMessage) : List Ttowncrierref16_Given -> Int -> Option (Int)
 | [], n6 =>
  some n6
 | y2 :: rest2, n6 =>
  Option.bind (α := Int) (Option.bind (zb2 (y2.Message) a1) fun v2 =>
  if v2 = true then
  some (y2.Time)
  else
  some n6) fun n8 =>
  zb7 a1 rest2 n8
def zca (a0 : List (List (List UInt8))) (a1 : TMessage) : List Int -> Int -> Option ((Int × Bool) ⊕ Int)
 | [], n2 =>
  some (.inr n2)
 | y1 :: rest1, n2 =>
  Option.bind (α := (Int × Bool) ⊕ Int) (if y1 >= (a0.length : Int) then
  some (.inl (0, false))
  else
  if (0 <= y1 /\ y1 < (a0.length : Int)) then
  Option.bind (zcp (y1) (a0.getD (y1).toNat default)) fun v1 =>
  Option.bind (α := Int) (zb7 a1 v1 0) fun n5 =>
  if n5 = 0 then
  some (.inl (0, false))
  else
  some (.inr (max n2 n5))
  else none) fun z => match z with
  | (.inl r) => some (.inl r)
  | (.inr n4) =>
  zca a0 a1 rest1 n4
def ze4 (a0 : List (List (List UInt8))) (a1 : TMessage) : Option (Int × Bool) :=
 Option.bind (α := (Int × Bool) ⊕ Int) (zca a0 a1 a1.Groups 0) fun z => match z with
 | (.inl r) => some r
 | (.inr n1) =>
 some (n1, true)
def zc1 : List (List (List UInt8)) -> Option (Int ⊕ Unit)
 | [] =>
  some (.inr ())
 | y1 :: rest1 =>
  Option.bind (zdc (y1)) fun v1 =>
  if ¬ (v1 = 0) then
  some (.inl v1)
  else
  zc1 rest1 
def zdo (a0 : List (List (List UInt8))) : Option Int :=
 if (a0.length : Int) > 4 then
 some 4
 else
 Option.bind (α := Int ⊕ Unit) (zc1 a0 ) fun z => match z with
 | (.inl r) => some r
 | (.inr _) =>
 some 0
def zen (a0 : List (List (List UInt8))) (a1 : TMessage) : Option (Int × Bool × Int) :=
 Option.bind (zdo a0) fun v1 =>
 Option.bind (α := Int) (Option.bind (if v1 = 0 then zct a1 else some default) fun v2 =>
 if (v1 = 0) /\ (¬ (v2 = true)) then
 some 8
 else
 some v1) fun n1 =>
 if ¬ (n1 = 0) then
 some (0, false, n1)
 else
 Option.bind (ze4 a0 a1) fun v3 =>
 some (v3.1, v3.2, 0)
def zbp (a1 : Int) : List TWait -> Option ((TWait × Bool) ⊕ Unit)
 | [] =>
  some (.inr ())
 | y1 :: rest1 =>
  if y1.Message.Id = a1 then
  some (.inl (y1, true))
  else
  zbp a1 rest1 
def zfv (a0 : TSkeen) (a1 : Int) : Option (TWait × Bool) :=
 Option.bind (α := (TWait × Bool) ⊕ Unit) (zbp a1 a0.Waits ) fun z => match z with
 | (.inl r) => some r
 | (.inr _) =>
 some ((⟨(⟨0, [], 0, [], []⟩ : TMessage), 0, false⟩ : TWait), false)
def zcj : List (List (List UInt8)) -> Nat -> (List Ttowncrierref16_Given) -> Option ((List Ttowncrierref16_Given))
 | [], n1, l2 =>
  some l2
 | y1 :: rest1, n1, l2 =>
  Option.bind (zcp (n1 : Int) (y1)) fun v1 =>
  if l2.length + v1.length < 1000000 then
  zcj rest1 (n1 + 1) (l2 ++ v1)
  else none
theorem zh6 (n1 : Nat) (l2 : List Ttowncrierref16_Given) : zcj [] n1 l2 =
  (some l2 : Option ((List Ttowncrierref16_Given))) := rfl
theorem zh7 (y1 : (List (List UInt8))) (rest1 : List (List (List UInt8))) (n1 : Nat) (l2 : List Ttowncrierref16_Given) : zcj (y1 :: rest1) n1 l2 =
  (Option.bind (zcp (n1 : Int) (y1)) fun v1 =>
  if l2.length + v1.length < 1000000 then
  zcj rest1 (n1 + 1) (l2 ++ v1)
  else none : Option ((List Ttowncrierref16_Given))) := rfl
def zal (l1 : List Ttowncrierref16_Given) (n2 : Int) : Nat -> Int -> Option (Bool ⊕ Unit)
 | 0, _ => none
 | fu2 + 1, n3 =>
  if n3 < n2 then
  if (0 <= n2 /\ n2 < (l1.length : Int)) then
  if (0 <= n3 /\ n3 < (l1.length : Int)) then
  if ((l1.getD n2.toNat default).Message.Id = (l1.getD n3.toNat default).Message.Id) -> (0 <= n2 /\ n2 < (l1.length : Int)) then
  if ((l1.getD n2.toNat default).Message.Id = (l1.getD n3.toNat default).Message.Id) -> (0 <= n3 /\ n3 < (l1.length : Int)) then
  Option.bind (if (l1.getD n2.toNat default).Message.Id = (l1.getD n3.toNat default).Message.Id then zb2 ((l1.getD n2.toNat default).Message) ((l1.getD n3.toNat default).Message) else some default) fun v2 =>
  if ((l1.getD n2.toNat default).Message.Id = (l1.getD n3.toNat default).Message.Id) /\ (¬ (v2 = true)) then
  some (.inl false)
  else
  zal l1 n2 fu2 (wr .i64 (n3 + 1))
  else none
  else none
  else none
  else none
  else
  some (.inr ())
def zax (l1 : List Ttowncrierref16_Given) : Nat -> Int -> Option (Bool ⊕ Unit)
 | 0, _ => none
 | fu1 + 1, n2 =>
  if n2 < (l1.length : Int) then
  Option.bind (α := Bool ⊕ Unit) (zal l1 n2 (900) 0) fun z => match z with
  | (.inl r) => some (.inl r)
  | (.inr _) =>
  zax l1 fu1 (wr .i64 (n2 + 1))
  else
  some (.inr ())
def zf8 (a0 : List (List (List UInt8))) : Option Bool :=
 Option.bind (α := (List Ttowncrierref16_Given)) (zcj a0 0 []) fun l1 =>
 Option.bind (α := Bool ⊕ Unit) (zax l1 (900) 0) fun z => match z with
 | (.inl r) => some r
 | (.inr _) =>
 some true
def zau (a0 : List (List (List UInt8))) : List Ttowncrierref16_Step -> Option (Bool ⊕ Unit)
 | [] =>
  some (.inr ())
 | y2 :: rest2 =>
  Option.bind (α := Bool ⊕ Unit) (if ¬ (y2.C.Kind = 2) then
  some (.inr ())
  else
  Option.bind (zfv (y2.Before) (y2.C.Id)) fun v3 =>
  Option.bind (if ¬ (((¬ (v3.2 = true)) \/ (v3.1.Final = true)) \/ (y2.C.Time < v3.1.Time)) then zev (y2.Before) (y2.After) else some default) fun v4 =>
  if (((¬ (v3.2 = true)) \/ (v3.1.Final = true)) \/ (y2.C.Time < v3.1.Time)) \/ (v4 = true) then
  some (.inr ())
  else
  Option.bind (ze4 a0 v3.1.Message) fun v5 =>
  if (¬ (v5.2 = true)) \/ (¬ (v5.1 = y2.C.Time)) then
  some (.inl false)
  else
  some (.inr ())) fun z => match z with
  | (.inl r) => some (.inl r)
  | (.inr _) =>
  zau a0 rest2 
def zbq (a0 : List (List (List UInt8))) : List (List (List UInt8)) -> Nat -> Option (Bool ⊕ Unit)
 | [], n1 =>
  some (.inr ())
 | y1 :: rest1, n1 =>
  Option.bind (α := Bool ⊕ Unit) (Option.bind (zdb (n1 : Int) (y1)) fun v2 =>
  zau a0 v2 ) fun z => match z with
  | (.inl r) => some (.inl r)
  | (.inr _) =>
  zbq a0 rest1 (n1 + 1) 
def zfw (a0 : List (List (List UInt8))) : Option Bool :=
 Option.bind (zf8 a0) fun v1 =>
 if ¬ (v1 = true) then
 some false
 else
 Option.bind (α := Bool ⊕ Unit) (zbq a0 a0 0 ) fun z => match z with
 | (.inl r) => some r
 | (.inr _) =>
 some true
def zec (a0 : List (List (List UInt8))) : Option (Bool × Int) :=
 Option.bind (zdo a0) fun v1 =>
 if ¬ (v1 = 0) then
 some (false, v1)
 else
 Option.bind (zfw a0) fun v2 =>
 some (v2, 0)
def zaw (ye0 : TStamp) : List TStamp -> Bool -> Option (Bool)
 | [], b2 =>
  some b2
 | y2 :: rest2, b2 =>
  zaw ye0 rest2 (b2 || (y2.Id == ye0.Id))
def zbw (a1 : List TStamp) : List TStamp -> (List TStamp) -> Option ((List TStamp))
 | [], l2 =>
  some l2
 | y1 :: rest1, l2 =>
  Option.bind (α := (List TStamp)) (Option.bind (α := Bool) (zaw (y1) a1 false) fun b1 =>
  if b1 = true then
  if l2.length + [y1].length < 1000000 then
  some (l2 ++ [y1])
  else none
  else
  some l2) fun l3 =>
  zbw a1 rest1 l3
theorem zg9 (a1 : List TStamp) (l2 : List TStamp) : zbw a1 [] l2 =
  (some l2 : Option ((List TStamp))) := rfl
theorem zga (a1 : List TStamp) (y1 : TStamp) (rest1 : List TStamp) (l2 : List TStamp) : zbw a1 (y1 :: rest1) l2 =
  (Option.bind (α := (List TStamp)) (Option.bind (α := Bool) (zaw (y1) a1 false) fun b1 =>
  if b1 = true then
  if l2.length + [y1].length < 1000000 then
  some (l2 ++ [y1])
  else none
  else
  some l2) fun l3 =>
  zbw a1 rest1 l3 : Option ((List TStamp))) := rfl
def zd2 (a0 : List TStamp) (a1 : List TStamp) : Option ((List TStamp)) :=
 Option.bind (α := (List TStamp)) (zbw a1 a0 []) fun l1 =>
 some l1
def zeo (a0 : List TStamp) (a1 : List TStamp) : Option Bool :=
 Option.bind (zd2 a0 a1) fun v1 =>
 Option.bind (zd2 a1 a0) fun v2 =>
 if (0 <= (min (v1.length : Int) (v2.length : Int)) /\ (min (v1.length : Int) (v2.length : Int)) <= (v1.length : Int)) then
 if (0 <= (min (v1.length : Int) (v2.length : Int)) /\ (min (v1.length : Int) (v2.length : Int)) <= (v2.length : Int)) then
 Option.bind (zcs (v1.take (min (v1.length : Int) (v2.length : Int)).toNat) (v2.take (min (v1.length : Int) (v2.length : Int)).toNat)) fun v3 =>
 some v3
 else none
 else none
def zek (a0 : List (List (List UInt8))) (a1 : TMessage) (a2 : List TStamp) (a3 : List TStamp) : Option Bool :=
 Option.bind (zem a0) fun v1 =>
 if ((((v1 = true) \/ ((a1.Groups.length : Int) > 1000)) \/ ((wr .i64 ((a1.Key.length : Int) + (a1.Body.length : Int))) > 5000)) \/ ((a2.length : Int) > 300)) \/ ((a3.length : Int) > 300) then
 some true
 else
 Option.bind (zid a0 a1) fun v2 =>
 Option.bind (zen a0 a1) fun v3 =>
 Option.bind (zfh a0) fun v4 =>
 Option.bind (zec a0) fun v5 =>
 Option.bind (if ((((v2.1 = v3.1) /\ ((v2.2.1 == v3.2.1) = true)) /\ (v2.2.2 = v3.2.2)) /\ ((v4.1 == v5.1) = true)) /\ (v4.2 = v5.2) then zig a2 a3 else some default) fun v6 =>
 Option.bind (if ((((v2.1 = v3.1) /\ ((v2.2.1 == v3.2.1) = true)) /\ (v2.2.2 = v3.2.2)) /\ ((v4.1 == v5.1) = true)) /\ (v4.2 = v5.2) then zeo a2 a3 else some default) fun v7 =>
 some ((((((v2.1 == v3.1) && (v2.2.1 == v3.2.1)) && (v2.2.2 == v3.2.2)) && (v4.1 == v5.1)) && (v4.2 == v5.2)) && (v6 == v7))
end Go.Proofs
end
