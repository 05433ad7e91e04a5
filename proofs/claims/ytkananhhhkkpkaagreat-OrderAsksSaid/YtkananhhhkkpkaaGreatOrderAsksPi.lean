/- Texts of the proof. -/
import Derived.Test.YtkananhhhkkpkaaGreatOrderAsksPg
import Derived.Test.YtkananhhhkkpkaaGreatOrderAsksPf
import Derived.Test.YtkananhhhkkpkaaGreatOrderAsksPh
section
namespace Go.Proofs
open Go.Tm
set_option linter.unusedVariables false
def zd5 : List Int -> Nat -> Int -> Option ((Int × Int × Int) ⊕ Unit)
 | [], n2, n1 =>
  some (.inr ())
 | y1 :: rest1, n2, n1 =>
  if (n2 : Int) > 5 then
  some (.inr ())
  else
  if 0 <= (wr .i64 (7 * (n2 : Int))) then
  if y1 > 127 then
  zd5 rest1 (n2 + 1) (bitw .or .i64 n1 (shw true .i64 (wr .i64 (bitw .and .u8 (y1) 127)) (wr .i64 (7 * (n2 : Int)))))
  else
  Option.bind (if ¬ ((y1 = 0) /\ ((n2 : Int) > 0)) then zlw (bitw .or .i64 n1 (shw true .i64 (wr .i64 (bitw .and .u8 (y1) 127)) (wr .i64 (7 * (n2 : Int))))) else some default) fun v1 =>
  if ((y1 = 0) /\ ((n2 : Int) > 0)) \/ (¬ (v1 = true)) then
  some (.inr ())
  else
  some (.inl ((bitw .or .i64 n1 (shw true .i64 (wr .i64 (bitw .and .u8 (y1) 127)) (wr .i64 (7 * (n2 : Int))))), (wr .i64 ((n2 : Int) + 1)), 0))
  else none
def zfz (a0 : List Int) : Option (Int × Int × Int) :=
 Option.bind (α := (Int × Int × Int) ⊕ Unit) (zd5 a0 0 0) fun z => match z with
 | (.inl r) => some r
 | (.inr _) =>
 some (0, 0, 8)
def zfe (a0 : List Int) : Option ((List UInt8) × Int × Int) :=
 Option.bind (zfz a0) fun v1 =>
 if ((¬ (v1.2.2 = 0)) \/ (v1.1 > 4096)) \/ (v1.1 > (wr .i64 ((a0.length : Int) - v1.2.1))) then
 some ([], 0, 8)
 else
 if (0 <= v1.2.1 /\ v1.2.1 <= (wr .i64 (v1.2.1 + v1.1)) /\ (wr .i64 (v1.2.1 + v1.1)) <= (a0.length : Int)) then
 some ((zt6 ((a0.take (wr .i64 (v1.2.1 + v1.1)).toNat).drop v1.2.1.toNat)), (wr .i64 (v1.2.1 + v1.1)), 0)
 else none
def zcf (a0 : List Int) (v1 : Int × Int × Int) : Nat -> (List Int) -> Int -> Int -> Option (((List Int) × Int × Int) ⊕ ((List Int) × Int))
 | 0, _, _, _ => none
 | fu1 + 1, l2, n2, n3 =>
  if n3 < v1.1 then
  if (0 <= n2 /\ n2 <= (a0.length : Int)) then
  Option.bind (zfz (a0.drop n2.toNat)) fun v2 =>
  if ¬ (v2.2.2 = 0) then
  some (.inl ([], 0, v2.2.2))
  else
  if l2.length + [v2.1].length < 1000000 then
  zcf a0 v1 fu1 (l2 ++ [v2.1]) (wr .i64 (n2 + v2.2.1)) (wr .i64 (n3 + 1))
  else none
  else none
  else
  some (.inr (l2, n2))
def zff (a0 : List Int) (a1 : Int) : Option ((List Int) × Int × Int) :=
 if (a1 < 0) \/ (a1 > 4096) then
 some ([], 0, 2)
 else
 Option.bind (zfz a0) fun v1 =>
 if (¬ (v1.2.2 = 0)) \/ (v1.1 > a1) then
 some ([], 0, 8)
 else
 Option.bind (α := ((List Int) × Int × Int) ⊕ ((List Int) × Int)) (zcf a0 v1 (v1.1.toNat + 1) [] v1.2.1 0) fun z => match z with
 | (.inl r) => some r
 | (.inr (l1, n1)) =>
 some (l1, n1, 0)
def zcn (a0 : Tcommand_reader) (a1 : Int) (a2 : Int) : Option Tcommand_reader :=
 if (0 <= (min a1 (a0.fB.length : Int)) /\ (min a1 (a0.fB.length : Int)) <= (a0.fB.length : Int)) then
 some (⟨(a0.fB.drop (min a1 (a0.fB.length : Int)).toNat), (a0.fOk && (a2 == 0))⟩ : Tcommand_reader)
 else none
def zag (a0 : Tcommand_reader) : Option (Int × Tcommand_reader) :=
 Option.bind (zfz a0.fB) fun v1 =>
 Option.bind (zcn a0 v1.2.1 v1.2.2) fun v2 =>
 some (v1.1, v2)
def zcx (a0 : Tcommand_reader) : Option ((List UInt8) × Tcommand_reader) :=
 Option.bind (zfe a0.fB) fun v1 =>
 Option.bind (zcn a0 v1.2.1 v1.2.2) fun v2 =>
 some (v1.1, v2)
def zcy (a0 : Tcommand_reader) (a1 : Int) : Option ((List Int) × Tcommand_reader) :=
 Option.bind (zff a0.fB a1) fun v1 =>
 Option.bind (zcn a0 v1.2.1 v1.2.2) fun v2 =>
 some (v1.1, v2)
def zcg (a0 : Tcommand_reader) : Option (TCommand × Tcommand_reader) :=
 Option.bind (zag a0) fun v1 =>
 Option.bind (α := (List Int) × Bool × Int × (List Int) × Int × (List UInt8) × (List UInt8) × Int × Int × (List Int) × Int × Int × Int) (if (wr .u8 (min v1.1 255)) = 1 then
 Option.bind (zag v1.2) fun v2 =>
 Option.bind (zcy v2.2 4) fun v3 =>
 Option.bind (zag v3.2) fun v4 =>
 Option.bind (zcx v4.2) fun v5 =>
 Option.bind (zcx v5.2) fun v6 =>
 some (v6.2.fB, v6.2.fOk, v2.1, v3.1, v4.1, v5.1, v6.1, 0, 0, [], 0, 0, 0)
 else
 if (wr .u8 (min v1.1 255)) = 2 then
 Option.bind (zag v1.2) fun v7 =>
 Option.bind (zag v7.2) fun v8 =>
 some (v8.2.fB, v8.2.fOk, 0, [], 0, [], [], v7.1, v8.1, [], 0, 0, 0)
 else
 if (wr .u8 (min v1.1 255)) = 3 then
 Option.bind (zcy v1.2 6) fun v9 =>
 some (v9.2.fB, v9.2.fOk, 0, [], 0, [], [], 0, 0, v9.1, 0, 0, 0)
 else
 Option.bind (α := Bool) (if (wr .u8 (min v1.1 255)) = 4 then
 some ((wr .u8 (min v1.1 255)) == 4)
 else
 if (wr .u8 (min v1.1 255)) = 5 then
 some ((wr .u8 (min v1.1 255)) == 5)
 else
 some ((wr .u8 (min v1.1 255)) == 6)) fun b2 =>
 if b2 = true then
 Option.bind (zag v1.2) fun v10 =>
 Option.bind (zag v10.2) fun v11 =>
 Option.bind (α := (List Int) × Bool × Int) (if (wr .u8 (min v1.1 255)) = 4 then
 Option.bind (zag v11.2) fun v12 =>
 some (v12.2.fB, v12.2.fOk, v12.1)
 else
 some (v11.2.fB, v11.2.fOk, 0)) fun (l4, b3, n8) =>
 Option.bind (zag (⟨l4, b3⟩ : Tcommand_reader)) fun v13 =>
 some (v13.2.fB, v13.2.fOk, 0, [], 0, [], [], v10.1, 0, [], v11.1, n8, v13.1)
 else
 some (v1.2.fB, v1.2.fOk, 0, [], 0, [], [], 0, 0, [], 0, 0, 0)) fun (l1, b1, n1, l2, n2, s1, s2, n3, n4, l3, n5, n6, n7) =>
 some ((⟨(wr .u8 (min v1.1 255)), (⟨n1, l2, n2, s1, s2⟩ : TMessage), n3, n4, l3, n5, n6, n7⟩ : TCommand), (⟨l1, b1⟩ : Tcommand_reader))
def zcu (a0 : List UInt8) : Option (TCommand × Int) :=
 if (a0.length : Int) > 1024 then
 some ((⟨0, (⟨0, [], 0, [], []⟩ : TMessage), 0, 0, [], 0, 0, 0⟩ : TCommand), 3)
 else
 Option.bind (zcg (⟨(zh1 a0), true⟩ : Tcommand_reader)) fun v1 =>
 Option.bind (if ¬ ((¬ (v1.2.fOk = true)) \/ ((v1.2.fB.length : Int) > 0)) then zc3 v1.1 else some default) fun v2 =>
 if ((¬ (v1.2.fOk = true)) \/ ((v1.2.fB.length : Int) > 0)) \/ (¬ (v2 = 0)) then
 some ((⟨0, (⟨0, [], 0, [], []⟩ : TMessage), 0, 0, [], 0, 0, 0⟩ : TCommand), 8)
 else
 some (v1.1, 0)
def zdr : List (List UInt8) -> (List TCommand) -> Option (((List TCommand) × Int) ⊕ ((List TCommand)))
 | [], l2 =>
  some (.inr l2)
 | y1 :: rest1, l2 =>
  Option.bind (zcu (y1)) fun v1 =>
  if ¬ (v1.2 = 0) then
  some (.inl ([], 8))
  else
  if l2.length + [v1.1].length < 1000000 then
  zdr rest1 (l2 ++ [v1.1])
  else none
theorem zim (l2 : List TCommand) : zdr [] l2 =
  (some (.inr l2) : Option (((List TCommand) × Int) ⊕ ((List TCommand)))) := rfl
theorem zin (y1 : (List UInt8)) (rest1 : List (List UInt8)) (l2 : List TCommand) : zdr (y1 :: rest1) l2 =
  (Option.bind (zcu (y1)) fun v1 =>
  if ¬ (v1.2 = 0) then
  some (.inl ([], 8))
  else
  if l2.length + [v1.1].length < 1000000 then
  zdr rest1 (l2 ++ [v1.1])
  else none : Option (((List TCommand) × Int) ⊕ ((List TCommand)))) := rfl
def zg3 (a0 : List (List UInt8)) : Option ((List TCommand) × Int) :=
 if (a0.length : Int) > 200 then
 some ([], 4)
 else
 Option.bind (α := ((List TCommand) × Int) ⊕ ((List TCommand))) (zdr a0 []) fun z => match z with
 | (.inl r) => some r
 | (.inr l1) =>
 some (l1, 0)
def zhb (a0 : Torder_step) (c0 : List Torder_given) : Option ((List Torder_given)) :=
 if (a0.fAfter.Waits.length : Int) > (a0.fBefore.Waits.length : Int) then
 if c0.length + [(⟨a0.fAfter.Clock, a0.fC.Message⟩ : Torder_given)].length < 1000000 then
 some (c0 ++ [(⟨a0.fAfter.Clock, a0.fC.Message⟩ : Torder_given)])
 else none
 else
 some c0
def zbv (a0 : Int) : List TCommand -> (List Torder_given) -> Int -> (List TWait) -> (List TStamp) -> Option ((List Torder_given) × Int × (List TWait) × (List TStamp))
 | [], l4, n2, l5, l6 =>
  some (l4, n2, l5, l6)
 | y1 :: rest1, l4, n2, l5, l6 =>
  Option.bind (zd3 (⟨n2, l5, l6⟩ : TSkeen) a0 (y1)) fun v3 =>
  Option.bind (α := Int × (List TWait) × (List TStamp) × (List TMessage)) (if ¬ (v3.2.2 = 0) then
  some (n2, l5, l6, [])
  else
  some (v3.1.Clock, v3.1.Waits, v3.1.Done, v3.2.1)) fun (n4, l7, l8, l9) =>
  Option.bind (zhb (⟨y1, (⟨n2, l5, l6⟩ : TSkeen), (⟨n4, l7, l8⟩ : TSkeen), l9⟩ : Torder_step) l4) fun v4 =>
  zbv a0 rest1 v4 n4 l7 l8
def zh8 (a0 : Int) (a1 : List (List UInt8)) (a2_0 : List Torder_given) : Option (TSkeen × Int × (List Torder_given)) :=
 if (a0 < 0) \/ (a0 >= 4) then
 some ((⟨0, [], []⟩ : TSkeen), 2, a2_0)
 else
 Option.bind (zg3 a1) fun v1 =>
 if ¬ (v1.2 = 0) then
 some ((⟨0, [], []⟩ : TSkeen), v1.2, a2_0)
 else
 Option.bind (zi1 ) fun v2 =>
 Option.bind (α := (List Torder_given) × Int × (List TWait) × (List TStamp)) (zbv a0 v1.1 a2_0 v2.Clock v2.Waits v2.Done) fun (l1, n1, l2, l3) =>
 Option.bind (ze8 (⟨n1, l2, l3⟩ : TSkeen)) fun v5 =>
 some (v5, 0, l1)
def zfy (a0 : Int) (a1 : List (List UInt8)) : Option ((List Torder_given) × Int) :=
 Option.bind (zh8 a0 a1 []) fun v1 =>
 some (v1.2.2, v1.2.1)
def zbf (a0 : List (List (List UInt8))) (n3 : Int) : Nat -> Int -> Int -> Option (Int)
 | 0, _, _ => none
 | fu2 + 1, n5, n6 =>
  if (0 <= n3 /\ n3 < (a0.length : Int)) then
  if (n6 < ((a0.getD n3.toNat default).length : Int)) /\ (n6 < 1000) then
  if (0 <= n3 /\ n3 < (a0.length : Int)) then
  if (0 <= n6 /\ n6 < ((a0.getD n3.toNat default).length : Int)) then
  zbf a0 n3 fu2 (wr .i64 ((wr .i64 (n5 + (min (((a0.getD n3.toNat default).getD n6.toNat default).length : Int) 10000))) + 100)) (wr .i64 (n6 + 1))
  else none
  else none
  else
  some n5
  else none
def zbg (a0 : List (List (List UInt8))) : Nat -> Int -> Int -> Option (Int)
 | 0, _, _ => none
 | fu1 + 1, n2, n3 =>
  if (n3 < (a0.length : Int)) /\ (n3 < 10) then
  Option.bind (α := Int) (zbf a0 n3 (1002) n2 0) fun n4 =>
  zbg a0 fu1 n4 (wr .i64 (n3 + 1))
  else
  some n2
def zem (a0 : List (List (List UInt8))) : Option Bool :=
 Option.bind (α := Int) (zbg a0 (12) 0 0) fun n1 =>
 some ((decide ((a0.length : Int) > 6)) || (decide (n1 > 30000)))
end Go.Proofs
end
section
namespace Go.Proofs
open Go.Tm Go.RowKit Go.WideShapes
set_option maxRecDepth 100000
set_option maxHeartbeats 4000000
set_option linter.unusedSimpArgs false
set_option linter.unusedVariables false
@[go_sem] def st57 : St := ⟨[], [], 0⟩
@[go_sem] def st58 (a0 : List Int) (n2 : Nat) (n1 : Int) : St := ⟨[(2, .int .i64 n1), (7, .imm 1 (a0.map (D.int .u8)) 4), (8, .int .i64 (a0.length : Int)), (9, .int .i64 (n2 : Int))], [], 0⟩
theorem zjm (a0 : List Int) (r : Int × Int × Int) (h : zfz a0 = some r) : zbn Tryz.prog 119 [.imm 1 (a0.map (D.int .u8)) 4] (.tuple [.int .i64 r.1, .int .i64 r.2.1, .int .i64 r.2.2]) := by
 refine za2 Tryz.tmOk 2 Tryz.func119 rfl (by decide) rfl rfl (lb rfl) ?_
 intro hwf
 unfold zfz at h
 refine .seq (.pl zS [0] ?_)
 obtain ⟨x1, hx1, h⟩ := bind_some h
 refine .seqM 0 (fun (j : Unit) => st57) (fun j => x1 = (.inr j)) (lb rfl) ?_ ?_
 refine .seq (.pl zS [0, 2] ?_)
 refine .block ?_
 refine .loopG 0 (fun (j : Nat × Int) => st58 a0 j.1 j.2) (fun j => j.1 <= a0.length /\ zd5 (a0.drop j.1) j.1 j.2 = some x1) (fun j => a0.length - j.1) (0, 0) (lb rfl) ?_ ⟨Nat.zero_le _, hx1⟩ ?_
 exact .m [2, 7, 8, 9] [] []
 rintro ⟨n2, n1⟩ ⟨hi1, hx1⟩
 simp only [st58]
 simp only at hi1 hx1
 refine .wf 8 (.int .i64 (a0.length : Int)) rfl ?_
 intro hln2
 replace hln2 : (a0.length : Int) <= 9223372036854775807 := by simp only [wf, wfL, IntKind.max, IntKind.min, IntKind.signed, IntKind.bits, List.length_map] at hln2; first | exact hln2.2 | exact hln2.1 | (simp at hln2; omega)
 refine .seq (.pl zS [2, 7, 8, 9] ?_)
 refine .seq ?_
 refine .cond rfl rfl (fun hc1 => ?_) (fun hc1 => ?_)
 have h1 : n2 < a0.length := by simpa using hc1
 have hwn2 : wr .i64 ((n2 : Int) + 1) = ((n2 + 1 : Nat) : Int) := zch h1 hln2
 have hpn2 : wr .i64 ((n2 : Int) - 1) = (n2 : Int) - 1 := zci h1 hln2
 rw [List.drop_eq_getElem_cons h1, zd5] at hx1
 refine .skip ?_
 refine .seq (.block (.seq ?_))
 have e1 := zay (D.int .u8) a0 n2 h1
 refine .plx zS (ai e1 hwn2) [2, 7, 8, 9] ?_
 refine .seq (.seq (.plx zS hwn2 [2, 5, 6, 7, 8, 9] ?_))
 refine .cond rfl rfl (fun hc2 => ?_) (fun hc2 => ?_)
 replace hx1 := za0 hx1 hc2
 refine .exit ?_
 refine ⟨_, ?_, (sj hx1).symm⟩
 exact .m [] [] []
 replace hx1 := za3 hx1 hc2
 refine .skip ?_
 refine .seq ?_
 obtain ⟨k1, hx1⟩ := zae hx1
 refine .rg zS [2, 5, 6, 7, 8, 9] ?_
 refine .rnx 6 hwn2 ?_
 refine .rnx 3 hwn2 ?_
 refine .nil ⟨nofun, ?_⟩
 refine .seq (.seq (.plx zS hwn2 [2, 5, 6, 7, 8, 9] ?_))
 refine .cond rfl rfl (fun hc3 => ?_) (fun hc3 => ?_)
 replace hx1 := za0 hx1 hc3
 refine .exit ?_
 refine .plx zS hwn2 [2, 7, 8, 9] ?_
 refine ⟨(n2 + 1, _), ?_, ⟨by omega, hx1⟩, by dsimp only; omega⟩
 exact .m [2, 7, 8, 9] [] []
 replace hx1 := za3 hx1 hc3
 refine .skip ?_
 refine .seq (.seq ?_)
 obtain ⟨v1, hv1, hx1⟩ := bind_some hx1
 refine .rg zS [2, 5, 6] ?_
 refine .rnx 8 hwn2 ?_
 refine .gcall (r := .bool v1) rfl rfl rfl rfl rfl (fun hg => ⟨[], [.int .i64 (bitw .or .i64 n1 (shw true .i64 (wr .i64 (bitw .and .u8 (a0[n2]) 127)) (wr .i64 (7 * (n2 : Int)))))], _, rfl, gd hg, rfl, (zv7 (bitw .or .i64 n1 (shw true .i64 (wr .i64 (bitw .and .u8 (a0[n2]) 127)) (wr .i64 (7 * (n2 : Int))))) v1 (za0 hv1 hg))⟩) ?_
 refine .rnx 2 hwn2 ?_
 refine .nil ⟨nofun, ?_⟩
 refine .cond rfl rfl (fun hc4 => ?_) (fun hc4 => ?_)
 replace hx1 := za0 hx1 hc4
 refine .exit ?_
 refine ⟨_, ?_, (sj hx1).symm⟩
 exact .m [] [] []
 replace hx1 := za3 hx1 hc4
 refine .skip ?_
 refine .seq (.plx zS hwn2 [2, 5] ?_)
 have hq := sj hx1
 subst x1
 try dsimp only at h
 have hq := sj h
 subst r
 rw [hwn2]
 exact .ret ⟨.inr rfl, rsi⟩
 have h2 : n2 = a0.length := by have h2b := of_decide_eq_false hc1; omega
 rw [List.drop_of_length_le (by omega), zd5] at hx1
 refine .exit ?_
 refine ⟨_, ?_, (sj hx1).symm⟩
 exact .m [] [] []
 rintro ⟨⟩ hj1
 subst x1
 try dsimp only at h
 simp only [st57]
 refine .seq (.pl zS [] ?_)
 have hq := sj h
 subst r
 exact .ret ⟨.inr rfl, rsi⟩
theorem zpi (a0 : List Int) (r : (List UInt8) × Int × Int) (h : zfe a0 = some r) : zbn Tryz.prog 122 [.imm 1 (a0.map (D.int .u8)) 4] (.tuple [.str r.1, .int .i64 r.2.1, .int .i64 r.2.2]) := by
 refine za2 Tryz.tmOk 2 Tryz.func122 rfl (by decide) rfl rfl (lb rfl) ?_
 intro hwf
 unfold zfe at h
 refine .seq (.pl zS [0] ?_)
 refine .seq ?_
 obtain ⟨v1, hv1, h⟩ := bind_some h
 refine .rg zS [0] ?_
 refine .rn 1 ?_
 refine .call (r := .tuple [.int .i64 v1.1, .int .i64 v1.2.1, .int .i64 v1.2.2]) rfl rfl rfl rfl rfl rfl (zjm a0 v1 hv1) ?_
 refine .rn 7 ?_
 refine .nil ⟨nofun, ?_⟩
 refine .seq (.seq ?_)
 refine .rg zS [0, 4, 5, 6] ?_
 refine .rn 6 ?_
 refine .rn 8 ?_
 refine .nil ⟨nofun, ?_⟩
 refine .cond rfl rfl (fun hc1 => ?_) (fun hc1 => ?_)
 replace h := za0 h hc1
 refine .seq (.pl zS [] ?_)
 have hq := sj h
 subst r
 exact .ret ⟨.inr rfl, rsi⟩
 replace h := za3 h hc1
 refine .skip ?_
 refine .seq ?_
 obtain ⟨k1, h⟩ := zae h
 refine .rg zS [0, 5, 6] ?_
 refine .rn 6 ?_
 refine .rn 7 ?_
 refine .nil ⟨nofun, ?_⟩
 have hq := sj h
 subst r
 exact .ret ⟨.inr rfl, rsi⟩
@[go_sem] def st55 (l1 : List Int) (n1 : Int) : St := ⟨[(4, .ref 0 1 0 l1.length (some uC)), (5, .int .i64 n1)], [(0, .arr 3 1 true (l1.map (D.int .i64)))], 1⟩
@[go_sem] def st56 (a0 : List Int) (v1 : Int × Int × Int) (l2 : List Int) (n2 : Int) (n3 : Int) : St := ⟨[(0, .imm 1 (a0.map (D.int .u8)) 4), (4, .ref 0 1 0 l2.length (some uC)), (5, .int .i64 n2), (30, .int .i64 v1.1), (31, .int .i64 n3)], [(0, .arr 3 1 true (l2.map (D.int .i64)))], 1⟩
@[go_sem] def st8 (r : (List Int) × Int × Int) : St := ⟨[(4, .ref 0 1 0 r.1.length (some uC)), (5, .int .i64 r.2.1), (6, .int .i64 r.2.2)], [(0, .arr 3 1 true (r.1.map (D.int .i64)))], 1⟩
theorem zpl (a0 : List Int) (a1 : Int) (r : (List Int) × Int × Int) (h : zff a0 a1 = some r) : zcv Tryz.prog 121 [.imm 1 (a0.map (D.int .u8)) 4, .int .i64 a1] [] (.tuple [.ref 0 1 0 r.1.length (some uC), .int .i64 r.2.1, .int .i64 r.2.2]) [(0, some (.arr 3 1 true (r.1.map (D.int .i64))))] (0, 5) := by
 refine za5 Tryz.tmOk Tryz.func121 rfl (by decide) (lb rfl) (by simp) ?_
 intro hwf
 unfold zff at h
 refine .ends 0 (Nat.le_refl _) ?_
 refine .seq (.pl zS [0, 1] ?_)
 refine .seq (.seq (.pl zS [0, 1, 4] ?_))
 refine .cond rfl rfl (fun hc1 => ?_) (fun hc1 => ?_)
 replace h := za0 h hc1
 refine .seq (.pl zS [] ?_)
 have hq := sj h
 subst r
 refine .ret ⟨st8 ([], 0, 2), ?_, .inr rfl, retH [0] ?_ ?_⟩
 refine Goes.new0 1 3 (lb rfl) ?_
 refine Goes.wk 4 _ (.ref 0 1 0 0 (some uC)) rfl (.own0 0 _ _ _ (by decide)) ?_
 exact .m [4, 5, 6] [0] []
 exact rsi0
 rfl
 replace h := za3 h hc1
 refine .skip ?_
 refine .seq ?_
 obtain ⟨v1, hv1, h⟩ := bind_some h
 refine .rg zS [0, 1, 4] ?_
 refine .rn 1 ?_
 refine .call (r := .tuple [.int .i64 v1.1, .int .i64 v1.2.1, .int .i64 v1.2.2]) rfl rfl rfl rfl rfl rfl (zjm a0 v1 hv1) ?_
 refine .rn 7 ?_
 refine .nil ⟨nofun, ?_⟩
 refine .seq (.seq (.pl zS [0, 1, 4, 5, 6, 7] ?_))
 refine .cond rfl rfl (fun hc2 => ?_) (fun hc2 => ?_)
 replace h := za0 h hc2
 refine .seq (.pl zS [] ?_)
 have hq := sj h
 subst r
 refine .ret ⟨st8 ([], 0, 8), ?_, .inr rfl, retH [0] ?_ ?_⟩
 refine Goes.new0 1 3 (lb rfl) ?_
 refine Goes.wk 4 _ (.ref 0 1 0 0 (some uC)) rfl (.own0 0 _ _ _ (by decide)) ?_
 exact .m [4, 5, 6] [0] []
 exact rsi0
 rfl
 replace h := za3 h hc2
 refine .skip ?_
 obtain ⟨x1, hx1, h⟩ := bind_some h
 refine .seqM 0 (fun (j : (List Int) × Int) => st55 j.1 j.2) (fun j => x1 = (.inr j)) (lb rfl) ?_ ?_
 refine .seq (.pl zS [0, 4, 5, 7] ?_)
 refine .block ?_
 refine .loopG 0 (fun (j : Nat × (List Int) × Int × Int) => st56 a0 v1 j.2.1 j.2.2.1 j.2.2.2) (fun j => zcf a0 v1 j.1 j.2.1 j.2.2.1 j.2.2.2 = some x1) (fun j => j.1) (v1.1.toNat + 1, [], v1.2.1, 0) (lb rfl) ?_ hx1 ?_
 refine Goes.new0 1 3 (lb rfl) ?_
 refine Goes.wk 4 _ (.ref 0 1 0 0 (some uC)) rfl (.own0 0 _ _ _ (by decide)) ?_
 exact .m [0, 4, 5, 30, 31] [0] []
 rintro ⟨fu1, l2, n2, n3⟩ hx1
 simp only [st56]
 try simp only at hx1
 obtain ⟨fu1, rfl⟩ : ∃ k, fu1 = k + 1 := by cases fu1 with | zero => (rw [zcf] at hx1; cases hx1) | succ k => exact ⟨k, rfl⟩
 rw [zcf] at hx1
 refine .seq (.pl zS [0, 4, 5, 30, 31] ?_)
 refine .seq ?_
 refine .cond rfl rfl (fun hc3 => ?_) (fun hc3 => ?_)
 replace hx1 := za0 hx1 hc3
 refine .skip ?_
 refine .seq (.block (.seq ?_))
 obtain ⟨k1, hx1⟩ := zae hx1
 obtain ⟨v2, hv2, hx1⟩ := bind_some hx1
 refine .rg zS [0, 4, 5, 30, 31] ?_
 refine .rn 3 ?_
 refine .call (r := .tuple [.int .i64 v2.1, .int .i64 v2.2.1, .int .i64 v2.2.2]) rfl rfl rfl rfl rfl rfl (zjm (a0.drop n2.toNat) v2 hv2) ?_
 refine .rn 7 ?_
 refine .nil ⟨nofun, ?_⟩
 refine .seq (.seq (.pl zS [0, 4, 5, 8, 9, 10, 30, 31] ?_))
 refine .cond rfl rfl (fun hc4 => ?_) (fun hc4 => ?_)
 replace hx1 := za0 hx1 hc4
 refine .seq (.pl zS [10] ?_)
 have hq := sj hx1
 subst x1
 try dsimp only at h
 have hq := sj h
 subst r
 refine .ret ⟨st8 ([], 0, v2.2.2), ?_, .inr rfl, retH [0] ?_ ?_⟩
 refine Goes.new0 1 3 (lb rfl) ?_
 refine Goes.wk 4 _ (.ref 1 1 0 0 (some uC)) rfl (.own0 1 _ _ _ (by decide)) ?_
 exact .m [4, 5, 6] [1] [(1, 0)]
 exact rsi0
 rfl
 replace hx1 := za3 hx1 hc4
 refine .skip ?_
 refine .seq ?_
 obtain ⟨k2, hx1⟩ := zae hx1
 refine .pl zS [0, 4, 5, 8, 9, 30, 31] ?_
 refine .pl zS [0, 4, 5, 9, 30, 31] ?_
 refine .pl zS [0, 4, 5, 30, 31] ?_
 refine ⟨(fu1, _, _, _), ?_, hx1, by dsimp only; omega⟩
 exact .m [0, 4, 5, 30, 31] [2] [(2, 0)]
 replace hx1 := za3 hx1 hc3
 refine .exit ?_
 refine ⟨_, ?_, (sj hx1).symm⟩
 exact .m [4, 5] [0] []
 rintro ⟨l1, n1⟩ hj1
 subst x1
 try dsimp only at h
 simp only [st55]
 refine .seq (.pl zS [4, 5] ?_)
 have hq := sj h
 subst r
 refine .ret ⟨st8 (l1, n1, 0), ?_, .inr rfl, retH [0] ?_ ?_⟩
 exact .m [4, 5, 6] [0] []
 exact rsi0
 rfl
@[go_sem] def st5 (r : Tcommand_reader) : St := ⟨[(0, .ptr 20000 0)], [(20000, .box [.imm 1 (r.fB.map (D.int .u8)) 12, .bool r.fOk])], 20100⟩
theorem zg4 (a0 : Tcommand_reader) (a1 : Int) (a2 : Int) (r : Tcommand_reader) (h : zcn a0 a1 a2 = some r) : zcv Tryz.prog 120 [.ptr 20000 0, .int .i64 a1, .int .i64 a2] [(20000, .box [.imm 1 (a0.fB.map (D.int .u8)) 12, .bool a0.fOk])] (.tuple []) [(20000, some (.box [.imm 1 (r.fB.map (D.int .u8)) 12, .bool r.fOk]))] (20100, 20102) := by
 refine za5 Tryz.tmOk Tryz.func120 rfl (by decide) (lb rfl) (by simp) ?_
 intro hwf
 unfold zcn at h
 refine .ends 20100 (Nat.le_refl _) ?_
 refine .seq ?_
 refine .rg zS [0, 1, 2] ?_
 refine .rn 6 ?_
 refine .rn 6 ?_
 refine .nil ⟨nofun, ?_⟩
 obtain ⟨k1, h⟩ := zae h
 refine .rg zS [0, 1] ?_
 refine .rd 6 ?_
 refine .rd 6 ?_
 refine .rd 4 ?_
 refine .nd ?_
 have hq := sj h
 subst r
 refine ⟨st5 (⟨(a0.fB.drop (min a1 (a0.fB.length : Int)).toNat), (a0.fOk && (a2 == 0))⟩ : Tcommand_reader), ?_, .inl rfl, retH [20000] ?_ ?_⟩
 exact .m [0] [20000] []
 exact rsi0
 rfl
@[go_sem] def st4 (r : Int × Tcommand_reader) : St := ⟨[(0, .ptr 20000 0), (2, .int .i64 r.1)], [(20000, .box [.imm 1 (r.2.fB.map (D.int .u8)) 12, .bool r.2.fOk])], 20100⟩
theorem zb8 (a0 : Tcommand_reader) (r : Int × Tcommand_reader) (h : zag a0 = some r) : zcv Tryz.prog 100 [.ptr 20000 0] [(20000, .box [.imm 1 (a0.fB.map (D.int .u8)) 12, .bool a0.fOk])] (.int .i64 r.1) [(20000, some (.box [.imm 1 (r.2.fB.map (D.int .u8)) 12, .bool r.2.fOk]))] (20100, 20106) := by
 refine za5 Tryz.tmOk Tryz.func100 rfl (by decide) (lb rfl) (by simp) ?_
 intro hwf
 unfold zag at h
 refine .ends 20100 (Nat.le_refl _) ?_
 refine .seq (.pl zS [0] ?_)
 refine .seq ?_
 obtain ⟨v1, hv1, h⟩ := bind_some h
 refine .rg zS [0] ?_
 refine .rn 4 ?_
 refine .call (r := .tuple [.int .i64 v1.1, .int .i64 v1.2.1, .int .i64 v1.2.2]) rfl rfl rfl rfl rfl rfl (zjm a0.fB v1 hv1) ?_
 refine .rn 7 ?_
 refine .nil ⟨nofun, ?_⟩
 refine .seq ?_
 obtain ⟨v2, hv2, h⟩ := bind_some h
 refine .rg zS [0, 3, 4, 5] ?_
 refine .rn 3 ?_
 refine .hcall (H := [(20000, .box [.imm 1 (a0.fB.map (D.int .u8)) 12, .bool a0.fOk])]) (eff := [(20000, some (.box [.imm 1 (v2.fB.map (D.int .u8)) 12, .bool v2.fOk]))]) (nw := (20102, 20104)) (r := .tuple []) rfl rfl rfl rfl rfl (zc5 20000 20000 (zd7 20102 (zg4 a0 v1.2.1 v1.2.2 v2 hv2))) (fun id b h => zaj [20000] _ id b h) (by simp) (.inr ⟨lb rfl, lb rfl⟩) ?_
 refine .nil ⟨nofun, ?_⟩
 refine .seq (.pl zS [0, 3] ?_)
 have hq := sj h
 subst r
 refine .ret ⟨st4 (v1.1, v2), ?_, .inr rfl, retH [20000] ?_ ?_⟩
 exact .m [0, 2] [20000] []
 exact rsi0
 rfl
@[go_sem] def st6 (r : (List UInt8) × Tcommand_reader) : St := ⟨[(0, .ptr 20000 0), (2, .str r.1)], [(20000, .box [.imm 1 (r.2.fB.map (D.int .u8)) 12, .bool r.2.fOk])], 20100⟩
theorem zhu (a0 : Tcommand_reader) (r : (List UInt8) × Tcommand_reader) (h : zcx a0 = some r) : zcv Tryz.prog 102 [.ptr 20000 0] [(20000, .box [.imm 1 (a0.fB.map (D.int .u8)) 12, .bool a0.fOk])] (.str r.1) [(20000, some (.box [.imm 1 (r.2.fB.map (D.int .u8)) 12, .bool r.2.fOk]))] (20100, 20106) := by
 refine za5 Tryz.tmOk Tryz.func102 rfl (by decide) (lb rfl) (by simp) ?_
 intro hwf
 unfold zcx at h
 refine .ends 20100 (Nat.le_refl _) ?_
 refine .seq (.pl zS [0] ?_)
 refine .seq ?_
 obtain ⟨v1, hv1, h⟩ := bind_some h
 refine .rg zS [0] ?_
 refine .rn 4 ?_
 refine .call (r := .tuple [.str v1.1, .int .i64 v1.2.1, .int .i64 v1.2.2]) rfl rfl rfl rfl rfl rfl (zpi a0.fB v1 hv1) ?_
 refine .rn 7 ?_
 refine .nil ⟨nofun, ?_⟩
 refine .seq ?_
 obtain ⟨v2, hv2, h⟩ := bind_some h
 refine .rg zS [0, 3, 4, 5] ?_
 refine .rn 3 ?_
 refine .hcall (H := [(20000, .box [.imm 1 (a0.fB.map (D.int .u8)) 12, .bool a0.fOk])]) (eff := [(20000, some (.box [.imm 1 (v2.fB.map (D.int .u8)) 12, .bool v2.fOk]))]) (nw := (20102, 20104)) (r := .tuple []) rfl rfl rfl rfl rfl (zc5 20000 20000 (zd7 20102 (zg4 a0 v1.2.1 v1.2.2 v2 hv2))) (fun id b h => zaj [20000] _ id b h) (by simp) (.inr ⟨lb rfl, lb rfl⟩) ?_
 refine .nil ⟨nofun, ?_⟩
 refine .seq (.pl zS [0, 3] ?_)
 have hq := sj h
 subst r
 refine .ret ⟨st6 (v1.1, v2), ?_, .inr rfl, retH [20000] ?_ ?_⟩
 exact .m [0, 2] [20000] []
 exact rsi0
 rfl
@[go_sem] def st3 (r : (List Int) × Tcommand_reader) : St := ⟨[(0, .ptr 20000 0), (4, .ref 20100 1 0 r.1.length (some uC))], [(20000, .box [.imm 1 (r.2.fB.map (D.int .u8)) 12, .bool r.2.fOk]), (20100, .arr 3 1 true (r.1.map (D.int .i64)))], 20101⟩
theorem zhv (a0 : Tcommand_reader) (a1 : Int) (r : (List Int) × Tcommand_reader) (h : zcy a0 a1 = some r) : zcv Tryz.prog 101 [.ptr 20000 0, .int .i64 a1] [(20000, .box [.imm 1 (a0.fB.map (D.int .u8)) 12, .bool a0.fOk])] (.ref 20100 1 0 r.1.length (some uC)) [(20000, some (.box [.imm 1 (r.2.fB.map (D.int .u8)) 12, .bool r.2.fOk])), (20100, some (.arr 3 1 true (r.1.map (D.int .i64))))] (20100, 20109) := by
 refine za5 Tryz.tmOk Tryz.func101 rfl (by decide) (lb rfl) (by simp) ?_
 intro hwf
 unfold zcy at h
 refine .ends 20100 (Nat.le_refl _) ?_
 refine .seq (.pl zS [0, 1] ?_)
 refine .seq ?_
 obtain ⟨v1, hv1, h⟩ := bind_some h
 refine .rg zS [0, 1] ?_
 refine .rn 5 ?_
 refine .ncall (r := .tuple [.ref 20100 1 0 v1.1.length (some uC), .int .i64 v1.2.1, .int .i64 v1.2.2]) (eff := [(20100, some (.arr 3 1 true (v1.1.map (D.int .i64))))]) (nw := (20100, 20105)) [] rfl rfl rfl rfl rfl (za7 rfl (za7 rfl zb9)) rfl (zeh 20100 (lb rfl) (zpl a0.fB a1 v1 hv1)) (zfu rfl rfl (zji zks _ _ _) zjh) (by intro i hi; simp [D.ids, D.idsL] at hi <;> omega) rfl ⟨lb rfl, lb rfl⟩ ?_
 refine .rn 7 ?_
 refine .nil ⟨nofun, ?_⟩
 refine .seq ?_
 obtain ⟨v2, hv2, h⟩ := bind_some h
 refine .rg zS [0, 5, 6, 7] ?_
 refine .rn 3 ?_
 refine .hcall (H := [(20000, .box [.imm 1 (a0.fB.map (D.int .u8)) 12, .bool a0.fOk])]) (eff := [(20000, some (.box [.imm 1 (v2.fB.map (D.int .u8)) 12, .bool v2.fOk]))]) (nw := (20105, 20107)) (r := .tuple []) rfl rfl rfl rfl rfl (zc5 20000 20000 (zd7 20105 (zg4 a0 v1.2.1 v1.2.2 v2 hv2))) (fun id b h => zaj [20000] _ id b h) (by simp) (.inr ⟨lb rfl, lb rfl⟩) ?_
 refine .nil ⟨nofun, ?_⟩
 refine .seq (.pl zS [0, 5] ?_)
 have hq := sj h
 subst r
 refine .ret ⟨st3 (v1.1, v2), ?_, .inr rfl, retH [20000, 20100] ?_ ?_⟩
 exact .m [0, 4] [20000, 20100] []
 exact rsi0
 rfl
@[go_sem] def st50 (v1 : Int × Tcommand_reader) (l1 : List Int) (b1 : Bool) (n1 : Int) (l2 : List Int) (n2 : Int) (s1 : List UInt8) (s2 : List UInt8) (n3 : Int) (n4 : Int) (l3 : List Int) (n5 : Int) (n6 : Int) (n7 : Int) : St := ⟨[(0, .ptr 20000 0), (2, .ptr 20100 0), (4, .ptr 20112 0)], [(20000, .box [.imm 1 (l1.map (D.int .u8)) 12, .bool b1]), (20100, .box [.int .u8 0, .int .i64 0, .imm 0 [] 0, .int .i64 0, .str [], .str [], .int .i64 0, .int .i64 0, .imm 0 [] 0, .int .i64 0, .int .i64 0, .int .i64 0]), (20112, .box [.int .u8 (wr .u8 (min v1.1 255)), .int .i64 n1, .ref 20113 1 0 l2.length (some uC), .int .i64 n2, .str s1, .str s2, .int .i64 n3, .int .i64 n4, .ref 20114 1 0 l3.length (some uC), .int .i64 n5, .int .i64 n6, .int .i64 n7]), (20113, .arr 3 1 true (l2.map (D.int .i64))), (20114, .arr 3 1 true (l3.map (D.int .i64)))], 20115⟩
@[go_sem] def st51 (v1 : Int × Tcommand_reader) (b2 : Bool) : St := ⟨[(0, .ptr 20000 0), (2, .ptr 20100 0), (4, .ptr 20112 0), (48, .bool b2)], [(20000, .box [.imm 1 (v1.2.fB.map (D.int .u8)) 12, .bool v1.2.fOk]), (20100, .box [.int .u8 0, .int .i64 0, .imm 0 [] 0, .int .i64 0, .str [], .str [], .int .i64 0, .int .i64 0, .imm 0 [] 0, .int .i64 0, .int .i64 0, .int .i64 0]), (20112, .box [.int .u8 (wr .u8 (min v1.1 255)), .int .i64 0, .imm 0 [] 0, .int .i64 0, .str [], .str [], .int .i64 0, .int .i64 0, .imm 0 [] 0, .int .i64 0, .int .i64 0, .int .i64 0])], 20113⟩
@[go_sem] def st52 (v1 : Int × Tcommand_reader) (v10 : Int × Tcommand_reader) (v11 : Int × Tcommand_reader) (l4 : List Int) (b3 : Bool) (n8 : Int) : St := ⟨[(0, .ptr 20000 0), (2, .ptr 20100 0), (4, .ptr 20112 0)], [(20000, .box [.imm 1 (l4.map (D.int .u8)) 12, .bool b3]), (20100, .box [.int .u8 0, .int .i64 0, .imm 0 [] 0, .int .i64 0, .str [], .str [], .int .i64 0, .int .i64 0, .imm 0 [] 0, .int .i64 0, .int .i64 0, .int .i64 0]), (20112, .box [.int .u8 (wr .u8 (min v1.1 255)), .int .i64 0, .imm 0 [] 0, .int .i64 0, .str [], .str [], .int .i64 v10.1, .int .i64 0, .imm 0 [] 0, .int .i64 v11.1, .int .i64 n8, .int .i64 0])], 20125⟩
@[go_sem] def st2 (r : TCommand × Tcommand_reader) : St := ⟨[(0, .ptr 20000 0), (2, .ptr 20102 0)], [(20000, .box [.imm 1 (r.2.fB.map (D.int .u8)) 12, .bool r.2.fOk]), (20100, .arr 3 1 true (r.1.Message.Groups.map (D.int .i64))), (20101, .arr 3 1 true (r.1.Members.map (D.int .i64))), (20102, .box [.int .u8 r.1.Kind, .int .i64 r.1.Message.Id, .ref 20100 1 0 r.1.Message.Groups.length (some uC), .int .i64 r.1.Message.Topic, .str r.1.Message.Key, .str r.1.Message.Body, .int .i64 r.1.Id, .int .i64 r.1.Time, .ref 20101 1 0 r.1.Members.length (some uC), .int .i64 r.1.Topic, .int .i64 r.1.Who, .int .i64 r.1.N])], 20103⟩
theorem zjp (a0 : Tcommand_reader) (r : TCommand × Tcommand_reader) (h : zcg a0 = some r) : zcv Tryz.prog 77 [.ptr 20000 0] [(20000, .box [.imm 1 (a0.fB.map (D.int .u8)) 12, .bool a0.fOk])] (.agg [.int .u8 r.1.Kind, .int .i64 r.1.Message.Id, .ref 20100 1 0 r.1.Message.Groups.length (some uC), .int .i64 r.1.Message.Topic, .str r.1.Message.Key, .str r.1.Message.Body, .int .i64 r.1.Id, .int .i64 r.1.Time, .ref 20101 1 0 r.1.Members.length (some uC), .int .i64 r.1.Topic, .int .i64 r.1.Who, .int .i64 r.1.N]) [(20000, some (.box [.imm 1 (r.2.fB.map (D.int .u8)) 12, .bool r.2.fOk])), (20100, some (.arr 3 1 true (r.1.Message.Groups.map (D.int .i64)))), (20101, some (.arr 3 1 true (r.1.Members.map (D.int .i64))))] (20100, 20149) := by
 refine za5 Tryz.tmOk Tryz.func77 rfl (by decide) (lb rfl) (by simp) ?_
 intro hwf
 unfold zcg at h
 refine .ends 20100 (Nat.le_refl _) ?_
 refine .seq (.pl zS [0] ?_)
 refine .seq ?_
 obtain ⟨v1, hv1, h⟩ := bind_some h
 refine .rg zS [0, 2] ?_
 refine .rn 1 ?_
 refine .hcall (H := [(20000, .box [.imm 1 (a0.fB.map (D.int .u8)) 12, .bool a0.fOk])]) (eff := [(20000, some (.box [.imm 1 (v1.2.fB.map (D.int .u8)) 12, .bool v1.2.fOk]))]) (nw := (20106, 20112)) (r := .int .i64 v1.1) rfl rfl rfl rfl rfl (zc5 20000 20000 (zd7 20106 (zb8 a0 v1 hv1))) (fun id b h => zaj [20000] _ id b h) (by simp) (.inr ⟨lb rfl, lb rfl⟩) ?_
 refine .rn 1 ?_
 refine .nil ⟨nofun, ?_⟩
 refine .seq (.pl zS [0, 2, 3] ?_)
 obtain ⟨x1, hx1, h⟩ := bind_some h
 refine .seqM 20113 (fun (j : (List Int) × Bool × Int × (List Int) × Int × (List UInt8) × (List UInt8) × Int × Int × (List Int) × Int × Int × Int) => st50 v1 j.1 j.2.1 j.2.2.1 j.2.2.2.1 j.2.2.2.2.1 j.2.2.2.2.2.1 j.2.2.2.2.2.2.1 j.2.2.2.2.2.2.2.1 j.2.2.2.2.2.2.2.2.1 j.2.2.2.2.2.2.2.2.2.1 j.2.2.2.2.2.2.2.2.2.2.1 j.2.2.2.2.2.2.2.2.2.2.2.1 j.2.2.2.2.2.2.2.2.2.2.2.2) (fun j => x1 = j) (lb rfl) ?_ ?_
 refine .seq (.pl zS [0, 2, 4] ?_)
 refine .block ?_
 refine .seq (.pl zS [0, 2, 4, 12] ?_)
 refine .cond rfl rfl (fun hc1 => ?_) (fun hc1 => ?_)
 replace hx1 := za0 hx1 hc1
 refine .seq ?_
 obtain ⟨v2, hv2, hx1⟩ := bind_some hx1
 refine .rg zS [0, 2, 4] ?_
 refine .rn 1 ?_
 refine .hcall (H := [(20000, .box [.imm 1 (v1.2.fB.map (D.int .u8)) 12, .bool v1.2.fOk])]) (eff := [(20000, some (.box [.imm 1 (v2.2.fB.map (D.int .u8)) 12, .bool v2.2.fOk]))]) (nw := (20113, 20119)) (r := .int .i64 v2.1) rfl rfl rfl rfl rfl (zc5 20000 20000 (zd7 20113 (zb8 v1.2 v2 hv2))) (fun id b h => zaj [20000] _ id b h) (by simp) (.inr ⟨lb rfl, lb rfl⟩) ?_
 refine .rn 3 ?_
 refine .nil ⟨nofun, ?_⟩
 refine .seq ?_
 obtain ⟨v3, hv3, hx1⟩ := bind_some hx1
 refine .rg zS [0, 2, 4] ?_
 refine .rn 1 ?_
 refine .hcall (H := [(20000, .box [.imm 1 (v2.2.fB.map (D.int .u8)) 12, .bool v2.2.fOk])]) (eff := [(20000, some (.box [.imm 1 (v3.2.fB.map (D.int .u8)) 12, .bool v3.2.fOk])), (20119, some (.arr 3 1 true (v3.1.map (D.int .i64))))]) (nw := (20119, 20128)) (r := .ref 20119 1 0 v3.1.length (some uC)) rfl rfl rfl rfl rfl (zc5 20000 20000 (zd7 20119 (zhv v2.2 4 v3 hv3))) (fun id b h => zaj [20000] _ id b h) (by simp) (.inr ⟨lb rfl, lb rfl⟩) ?_
 refine .rn 3 ?_
 refine .nil ⟨nofun, ?_⟩
 refine .seq ?_
 obtain ⟨v4, hv4, hx1⟩ := bind_some hx1
 refine .rg zS [0, 2, 4] ?_
 refine .rn 1 ?_
 refine .hcall (H := [(20000, .box [.imm 1 (v3.2.fB.map (D.int .u8)) 12, .bool v3.2.fOk])]) (eff := [(20000, some (.box [.imm 1 (v4.2.fB.map (D.int .u8)) 12, .bool v4.2.fOk]))]) (nw := (20128, 20134)) (r := .int .i64 v4.1) rfl rfl rfl rfl rfl (zc5 20000 20000 (zd7 20128 (zb8 v3.2 v4 hv4))) (fun id b h => zaj [20000] _ id b h) (by simp) (.inr ⟨lb rfl, lb rfl⟩) ?_
 refine .rn 3 ?_
 refine .nil ⟨nofun, ?_⟩
 refine .seq ?_
 obtain ⟨v5, hv5, hx1⟩ := bind_some hx1
 refine .rg zS [0, 2, 4] ?_
 refine .rn 1 ?_
 refine .hcall (H := [(20000, .box [.imm 1 (v4.2.fB.map (D.int .u8)) 12, .bool v4.2.fOk])]) (eff := [(20000, some (.box [.imm 1 (v5.2.fB.map (D.int .u8)) 12, .bool v5.2.fOk]))]) (nw := (20134, 20140)) (r := .str v5.1) rfl rfl rfl rfl rfl (zc5 20000 20000 (zd7 20134 (zhu v4.2 v5 hv5))) (fun id b h => zaj [20000] _ id b h) (by simp) (.inr ⟨lb rfl, lb rfl⟩) ?_
 refine .rn 3 ?_
 refine .nil ⟨nofun, ?_⟩
 obtain ⟨v6, hv6, hx1⟩ := bind_some hx1
 refine .rg zS [0, 2, 4] ?_
 refine .rn 1 ?_
 refine .hcall (H := [(20000, .box [.imm 1 (v5.2.fB.map (D.int .u8)) 12, .bool v5.2.fOk])]) (eff := [(20000, some (.box [.imm 1 (v6.2.fB.map (D.int .u8)) 12, .bool v6.2.fOk]))]) (nw := (20140, 20146)) (r := .str v6.1) rfl rfl rfl rfl rfl (zc5 20000 20000 (zd7 20140 (zhu v5.2 v6 hv6))) (fun id b h => zaj [20000] _ id b h) (by simp) (.inr ⟨lb rfl, lb rfl⟩) ?_
 refine .rn 3 ?_
 refine .nil ⟨nofun, ?_⟩
 refine ⟨_, ?_, (sj hx1).symm⟩
 refine Goes.new0 1 3 (lb rfl) ?_
 refine Goes.boxs 20112 _ [.int .u8 (wr .u8 (min v1.1 255)), .int .i64 v2.1, .ref 20119 1 0 v3.1.length (some uC), .int .i64 v4.1, .str v5.1, .str v6.1, .int .i64 0, .int .i64 0, .ref 20146 1 0 0 (some uC), .int .i64 0, .int .i64 0, .int .i64 0] rfl (.keep (.keep (.keep (.keep (.keep (.keep (.keep (.keep (.cons (.own0 20146 _ _ _ (by decide)) (.refl _)))))))))) ?_
 exact .m [0, 2, 4] [20000, 20100, 20112, 20119, 20146] [(20119, 20113), (20146, 20114)]
 replace hx1 := za3 hx1 hc1
 refine .seq (.pl zS [0, 2, 4, 12] ?_)
 refine .cond rfl rfl (fun hc2 => ?_) (fun hc2 => ?_)
 replace hx1 := za0 hx1 hc2
 refine .seq ?_
 obtain ⟨v7, hv7, hx1⟩ := bind_some hx1
 refine .rg zS [0, 2, 4] ?_
 refine .rn 1 ?_
 refine .hcall (H := [(20000, .box [.imm 1 (v1.2.fB.map (D.int .u8)) 12, .bool v1.2.fOk])]) (eff := [(20000, some (.box [.imm 1 (v7.2.fB.map (D.int .u8)) 12, .bool v7.2.fOk]))]) (nw := (20113, 20119)) (r := .int .i64 v7.1) rfl rfl rfl rfl rfl (zc5 20000 20000 (zd7 20113 (zb8 v1.2 v7 hv7))) (fun id b h => zaj [20000] _ id b h) (by simp) (.inr ⟨lb rfl, lb rfl⟩) ?_
 refine .rn 2 ?_
 refine .nil ⟨nofun, ?_⟩
 obtain ⟨v8, hv8, hx1⟩ := bind_some hx1
 refine .rg zS [0, 2, 4] ?_
 refine .rn 1 ?_
 refine .hcall (H := [(20000, .box [.imm 1 (v7.2.fB.map (D.int .u8)) 12, .bool v7.2.fOk])]) (eff := [(20000, some (.box [.imm 1 (v8.2.fB.map (D.int .u8)) 12, .bool v8.2.fOk]))]) (nw := (20119, 20125)) (r := .int .i64 v8.1) rfl rfl rfl rfl rfl (zc5 20000 20000 (zd7 20119 (zb8 v7.2 v8 hv8))) (fun id b h => zaj [20000] _ id b h) (by simp) (.inr ⟨lb rfl, lb rfl⟩) ?_
 refine .rn 2 ?_
 refine .nil ⟨nofun, ?_⟩
 refine ⟨_, ?_, (sj hx1).symm⟩
 refine Goes.new0 1 3 (lb rfl) ?_
 refine Goes.new0 1 3 (lb rfl) ?_
 refine Goes.boxs 20112 _ [.int .u8 (wr .u8 (min v1.1 255)), .int .i64 0, .ref 20125 1 0 0 (some uC), .int .i64 0, .str [], .str [], .int .i64 v7.1, .int .i64 v8.1, .ref 20126 1 0 0 (some uC), .int .i64 0, .int .i64 0, .int .i64 0] rfl (.keep (.keep (.cons (.own0 20125 _ _ _ (by decide)) (.keep (.keep (.keep (.keep (.keep (.cons (.own0 20126 _ _ _ (by decide)) (.refl _)))))))))) ?_
 exact .m [0, 2, 4] [20000, 20100, 20112, 20125, 20126] [(20125, 20113), (20126, 20114)]
 replace hx1 := za3 hx1 hc2
 refine .seq (.pl zS [0, 2, 4, 12] ?_)
 refine .cond rfl rfl (fun hc3 => ?_) (fun hc3 => ?_)
 replace hx1 := za0 hx1 hc3
 obtain ⟨v9, hv9, hx1⟩ := bind_some hx1
 refine .rg zS [0, 2, 4] ?_
 refine .rn 1 ?_
 refine .hcall (H := [(20000, .box [.imm 1 (v1.2.fB.map (D.int .u8)) 12, .bool v1.2.fOk])]) (eff := [(20000, some (.box [.imm 1 (v9.2.fB.map (D.int .u8)) 12, .bool v9.2.fOk])), (20113, some (.arr 3 1 true (v9.1.map (D.int .i64))))]) (nw := (20113, 20122)) (r := .ref 20113 1 0 v9.1.length (some uC)) rfl rfl rfl rfl rfl (zc5 20000 20000 (zd7 20113 (zhv v1.2 6 v9 hv9))) (fun id b h => zaj [20000] _ id b h) (by simp) (.inr ⟨lb rfl, lb rfl⟩) ?_
 refine .rn 2 ?_
 refine .nil ⟨nofun, ?_⟩
 refine ⟨_, ?_, (sj hx1).symm⟩
 refine Goes.new0 1 3 (lb rfl) ?_
 refine Goes.boxs 20112 _ [.int .u8 (wr .u8 (min v1.1 255)), .int .i64 0, .ref 20122 1 0 0 (some uC), .int .i64 0, .str [], .str [], .int .i64 0, .int .i64 0, .ref 20113 1 0 v9.1.length (some uC), .int .i64 0, .int .i64 0, .int .i64 0] rfl (.keep (.keep (.cons (.own0 20122 _ _ _ (by decide)) (.refl _)))) ?_
 exact .m [0, 2, 4] [20000, 20100, 20112, 20122, 20113] [(20122, 20113), (20113, 20114)]
 replace hx1 := za3 hx1 hc3
 obtain ⟨x2, hx2, hx1⟩ := bind_some hx1
 refine .seqM 20113 (fun (j : Bool) => st51 v1 j) (fun j => x2 = j) (lb rfl) ?_ ?_
 refine .seq (.pl zS [0, 2, 4, 12] ?_)
 refine .cond rfl rfl (fun hc4 => ?_) (fun hc4 => ?_)
 replace hx2 := za0 hx2 hc4
 refine .skip ?_
 refine ⟨_, ?_, (sj hx2).symm⟩
 exact .m [0, 2, 4, 48] [20000, 20100, 20112] []
 replace hx2 := za3 hx2 hc4
 refine .seq (.pl zS [0, 2, 4, 12] ?_)
 refine .cond rfl rfl (fun hc5 => ?_) (fun hc5 => ?_)
 replace hx2 := za0 hx2 hc5
 refine .skip ?_
 refine ⟨_, ?_, (sj hx2).symm⟩
 exact .m [0, 2, 4, 48] [20000, 20100, 20112] []
 replace hx2 := za3 hx2 hc5
 refine .pl zS [0, 2, 4, 12] ?_
 refine ⟨_, ?_, (sj hx2).symm⟩
 exact .m [0, 2, 4, 48] [20000, 20100, 20112] []
 rintro b2 hj1
 subst x2
 try dsimp only at hx1
 simp only [st51]
 refine .cond rfl rfl (fun hc6 => ?_) (fun hc6 => ?_)
 replace hx1 := za0 hx1 hc6
 refine .seq ?_
 obtain ⟨v10, hv10, hx1⟩ := bind_some hx1
 refine .rg zS [0, 2, 4] ?_
 refine .rn 1 ?_
 refine .hcall (H := [(20000, .box [.imm 1 (v1.2.fB.map (D.int .u8)) 12, .bool v1.2.fOk])]) (eff := [(20000, some (.box [.imm 1 (v10.2.fB.map (D.int .u8)) 12, .bool v10.2.fOk]))]) (nw := (20113, 20119)) (r := .int .i64 v10.1) rfl rfl rfl rfl rfl (zc5 20000 20000 (zd7 20113 (zb8 v1.2 v10 hv10))) (fun id b h => zaj [20000] _ id b h) (by simp) (.inr ⟨lb rfl, lb rfl⟩) ?_
 refine .rn 2 ?_
 refine .nil ⟨nofun, ?_⟩
 refine .seq ?_
 obtain ⟨v11, hv11, hx1⟩ := bind_some hx1
 refine .rg zS [0, 2, 4] ?_
 refine .rn 1 ?_
 refine .hcall (H := [(20000, .box [.imm 1 (v10.2.fB.map (D.int .u8)) 12, .bool v10.2.fOk])]) (eff := [(20000, some (.box [.imm 1 (v11.2.fB.map (D.int .u8)) 12, .bool v11.2.fOk]))]) (nw := (20119, 20125)) (r := .int .i64 v11.1) rfl rfl rfl rfl rfl (zc5 20000 20000 (zd7 20119 (zb8 v10.2 v11 hv11))) (fun id b h => zaj [20000] _ id b h) (by simp) (.inr ⟨lb rfl, lb rfl⟩) ?_
 refine .rn 2 ?_
 refine .nil ⟨nofun, ?_⟩
 obtain ⟨x3, hx3, hx1⟩ := bind_some hx1
 refine .seqM 20125 (fun (j : (List Int) × Bool × Int) => st52 v1 v10 v11 j.1 j.2.1 j.2.2) (fun j => x3 = j) (lb rfl) ?_ ?_
 refine .seq (.pl zS [0, 2, 4] ?_)
 refine .cond rfl rfl (fun hc7 => ?_) (fun hc7 => ?_)
 replace hx3 := za0 hx3 hc7
 obtain ⟨v12, hv12, hx3⟩ := bind_some hx3
 refine .rg zS [0, 2, 4] ?_
 refine .rn 1 ?_
 refine .hcall (H := [(20000, .box [.imm 1 (v11.2.fB.map (D.int .u8)) 12, .bool v11.2.fOk])]) (eff := [(20000, some (.box [.imm 1 (v12.2.fB.map (D.int .u8)) 12, .bool v12.2.fOk]))]) (nw := (20125, 20131)) (r := .int .i64 v12.1) rfl rfl rfl rfl rfl (zc5 20000 20000 (zd7 20125 (zb8 v11.2 v12 hv12))) (fun id b h => zaj [20000] _ id b h) (by simp) (.inr ⟨lb rfl, lb rfl⟩) ?_
 refine .rn 2 ?_
 refine .nil ⟨nofun, ?_⟩
 refine ⟨_, ?_, (sj hx3).symm⟩
 exact .m [0, 2, 4] [20000, 20100, 20112] []
 replace hx3 := za3 hx3 hc7
 refine .skip ?_
 refine ⟨_, ?_, (sj hx3).symm⟩
 exact .m [0, 2, 4] [20000, 20100, 20112] []
 rintro ⟨l4, b3, n8⟩ hj2
 subst x3
 try dsimp only at hx1
 simp only [st52]
 obtain ⟨v13, hv13, hx1⟩ := bind_some hx1
 refine .rg zS [0, 2, 4] ?_
 refine .rn 1 ?_
 refine .hcall (H := [(20000, .box [.imm 1 (l4.map (D.int .u8)) 12, .bool b3])]) (eff := [(20000, some (.box [.imm 1 (v13.2.fB.map (D.int .u8)) 12, .bool v13.2.fOk]))]) (nw := (20125, 20131)) (r := .int .i64 v13.1) rfl rfl rfl rfl rfl (zc5 20000 20000 (zd7 20125 (zb8 (⟨l4, b3⟩ : Tcommand_reader) v13 hv13))) (fun id b h => zaj [20000] _ id b h) (by simp) (.inr ⟨lb rfl, lb rfl⟩) ?_
 refine .rn 2 ?_
 refine .nil ⟨nofun, ?_⟩
 refine ⟨_, ?_, (sj hx1).symm⟩
 refine Goes.new0 1 3 (lb rfl) ?_
 refine Goes.new0 1 3 (lb rfl) ?_
 refine Goes.boxs 20112 _ [.int .u8 (wr .u8 (min v1.1 255)), .int .i64 0, .ref 20131 1 0 0 (some uC), .int .i64 0, .str [], .str [], .int .i64 v10.1, .int .i64 0, .ref 20132 1 0 0 (some uC), .int .i64 v11.1, .int .i64 n8, .int .i64 v13.1] rfl (.keep (.keep (.cons (.own0 20131 _ _ _ (by decide)) (.keep (.keep (.keep (.keep (.keep (.cons (.own0 20132 _ _ _ (by decide)) (.refl _)))))))))) ?_
 exact .m [0, 2, 4] [20000, 20100, 20112, 20131, 20132] [(20131, 20113), (20132, 20114)]
 replace hx1 := za3 hx1 hc6
 refine .skip ?_
 refine ⟨_, ?_, (sj hx1).symm⟩
 refine Goes.new0 1 3 (lb rfl) ?_
 refine Goes.new0 1 3 (lb rfl) ?_
 refine Goes.boxs 20112 _ [.int .u8 (wr .u8 (min v1.1 255)), .int .i64 0, .ref 20113 1 0 0 (some uC), .int .i64 0, .str [], .str [], .int .i64 0, .int .i64 0, .ref 20114 1 0 0 (some uC), .int .i64 0, .int .i64 0, .int .i64 0] rfl (.keep (.keep (.cons (.own0 20113 _ _ _ (by decide)) (.keep (.keep (.keep (.keep (.keep (.cons (.own0 20114 _ _ _ (by decide)) (.refl _)))))))))) ?_
 exact .m [0, 2, 4] [20000, 20100, 20112, 20113, 20114] []
 rintro ⟨l1, b1, n1, l2, n2, s1, s2, n3, n4, l3, n5, n6, n7⟩ hj3
 subst x1
 try dsimp only at h
 simp only [st50]
 refine .seq (.pl zS [0, 2, 4] ?_)
 have hq := sj h
 subst r
 refine .ret ⟨st2 ((⟨(wr .u8 (min v1.1 255)), (⟨n1, l2, n2, s1, s2⟩ : TMessage), n3, n4, l3, n5, n6, n7⟩ : TCommand), (⟨l1, b1⟩ : Tcommand_reader)), ?_, .inr rfl, retH [20000, 20101, 20100] ?_ ?_⟩
 exact .m [0, 2] [20000, 20113, 20114, 20100] [(20113, 20100), (20114, 20101), (20100, 20102)]
 exact rsi0
 rfl
@[go_sem] def st0 (r : TCommand × Int) : St := ⟨[(2, .ptr 2 0), (3, .int .i64 r.2)], [(0, .arr 3 1 true (r.1.Message.Groups.map (D.int .i64))), (1, .arr 3 1 true (r.1.Members.map (D.int .i64))), (2, .box [.int .u8 r.1.Kind, .int .i64 r.1.Message.Id, .ref 0 1 0 r.1.Message.Groups.length (some uC), .int .i64 r.1.Message.Topic, .str r.1.Message.Key, .str r.1.Message.Body, .int .i64 r.1.Id, .int .i64 r.1.Time, .ref 1 1 0 r.1.Members.length (some uC), .int .i64 r.1.Topic, .int .i64 r.1.Who, .int .i64 r.1.N])], 3⟩
theorem zow (a0 : List UInt8) (r : TCommand × Int) (h : zcu a0 = some r) : zcv Tryz.prog 62 [.str a0] [] (.tuple [.agg [.int .u8 r.1.Kind, .int .i64 r.1.Message.Id, .ref 0 1 0 r.1.Message.Groups.length (some uC), .int .i64 r.1.Message.Topic, .str r.1.Message.Key, .str r.1.Message.Body, .int .i64 r.1.Id, .int .i64 r.1.Time, .ref 1 1 0 r.1.Members.length (some uC), .int .i64 r.1.Topic, .int .i64 r.1.Who, .int .i64 r.1.N], .int .i64 r.2]) [(0, some (.arr 3 1 true (r.1.Message.Groups.map (D.int .i64)))), (1, some (.arr 3 1 true (r.1.Members.map (D.int .i64))))] (0, 56) := by
 refine za5 Tryz.tmOk Tryz.func62 rfl (by decide) (lb rfl) (by simp) ?_
 intro hwf
 unfold zcu at h
 refine .ends 0 (Nat.le_refl _) ?_
 refine .seq (.pl zS [0] ?_)
 refine .seq (.seq (.pl zS [0, 2] ?_))
 refine .cond rfl rfl (fun hc1 => ?_) (fun hc1 => ?_)
 replace h := za0 h hc1
 refine .seq (.pl zS [2] ?_)
 have hq := sj h
 subst r
 refine .ret ⟨st0 ((⟨0, (⟨0, [], 0, [], []⟩ : TMessage), 0, 0, [], 0, 0, 0⟩ : TCommand), 3), ?_, .inr rfl, retH [1, 0] ?_ ?_⟩
 refine Goes.new0 1 3 (lb rfl) ?_
 refine Goes.new0 1 3 (lb rfl) ?_
 refine Goes.boxs 0 _ [.int .u8 0, .int .i64 0, .ref 1 1 0 0 (some uC), .int .i64 0, .str [], .str [], .int .i64 0, .int .i64 0, .ref 2 1 0 0 (some uC), .int .i64 0, .int .i64 0, .int .i64 0] rfl (.keep (.keep (.cons (.own0 1 _ _ _ (by decide)) (.keep (.keep (.keep (.keep (.keep (.cons (.own0 2 _ _ _ (by decide)) (.refl _)))))))))) ?_
 exact .m [2, 3] [1, 2, 0] [(1, 0), (2, 1), (0, 2)]
 exact rsi0
 rfl
 replace h := za3 h hc1
 refine .skip ?_
 refine .seq (.pl zS [0, 2] ?_)
 refine .goes (.boxs 1 _ [.imm 1 ((zh1 a0).map (D.int .u8)) 12, .bool true] rfl (.cons (.of_new12 _ _ rfl) (.refl _)) .refl) ?_
 refine .seq ?_
 obtain ⟨v1, hv1, h⟩ := bind_some h
 refine .rg zS [2, 4] ?_
 refine .rn 1 ?_
 refine .hcall (H := [(1, .box [.imm 1 ((zh1 a0).map (D.int .u8)) 12, .bool true])]) (eff := [(1, some (.box [.imm 1 (v1.2.fB.map (D.int .u8)) 12, .bool v1.2.fOk])), (2, some (.arr 3 1 true (v1.1.Message.Groups.map (D.int .i64)))), (3, some (.arr 3 1 true (v1.1.Members.map (D.int .i64))))]) (nw := (2, 51)) (r := .agg [.int .u8 v1.1.Kind, .int .i64 v1.1.Message.Id, .ref 2 1 0 v1.1.Message.Groups.length (some uC), .int .i64 v1.1.Message.Topic, .str v1.1.Message.Key, .str v1.1.Message.Body, .int .i64 v1.1.Id, .int .i64 v1.1.Time, .ref 3 1 0 v1.1.Members.length (some uC), .int .i64 v1.1.Topic, .int .i64 v1.1.Who, .int .i64 v1.1.N]) rfl rfl rfl rfl rfl (zk9 2 (zc5 20000 1 (zjp (⟨(zh1 a0), true⟩ : Tcommand_reader) v1 hv1))) (fun id b h => zaj [1] _ id b h) (by simp) (.inr ⟨lb rfl, lb rfl⟩) ?_
 refine .rn 2 ?_
 refine .nil ⟨nofun, ?_⟩
 refine .seq (.seq ?_)
 obtain ⟨v2, hv2, h⟩ := bind_some h
 refine .rg zS [2, 4, 5] ?_
 refine .rn 6 ?_
 refine .rn 6 ?_
 refine .rn 3 ?_
 refine .glcall (r := .int .i64 v2) [] rfl rfl rfl rfl rfl (fun hg => ⟨[], [.agg [.int .u8 v1.1.Kind, .int .i64 v1.1.Message.Id, .ref 2 1 0 v1.1.Message.Groups.length (some uC), .int .i64 v1.1.Message.Topic, .str v1.1.Message.Key, .str v1.1.Message.Body, .int .i64 v1.1.Id, .int .i64 v1.1.Time, .ref 3 1 0 v1.1.Members.length (some uC), .int .i64 v1.1.Topic, .int .i64 v1.1.Who, .int .i64 v1.1.N]], _, rfl, gd hg, (za7 (zly (zob (za1 rfl (za1 rfl (za1 (zhw (zsp .i64) (by first | rfl | (simp only [go_sem, Nat.reduceBEq]; rfl)) (by first | rfl | (simp; done) | (simp <;> omega))) (za1 rfl (za1 rfl (za1 rfl (za1 rfl (za1 rfl (za1 (zhw (zsp .i64) (by first | rfl | (simp only [go_sem, Nat.reduceBEq]; rfl)) (by first | rfl | (simp; done) | (simp <;> omega))) (za1 rfl (za1 rfl (za1 rfl zgv))))))))))))) trivial) zb9), rfl, (zk5 v1.1 v2 (za0 hv2 hg))⟩) ?_
 refine .rn 2 ?_
 refine .nil ⟨nofun, ?_⟩
 refine .cond rfl rfl (fun hc2 => ?_) (fun hc2 => ?_)
 replace h := za0 h hc2
 refine .seq (.pl zS [2] ?_)
 have hq := sj h
 subst r
 refine .ret ⟨st0 ((⟨0, (⟨0, [], 0, [], []⟩ : TMessage), 0, 0, [], 0, 0, 0⟩ : TCommand), 8), ?_, .inr rfl, retH [1, 0] ?_ ?_⟩
 refine Goes.new0 1 3 (lb rfl) ?_
 refine Goes.new0 1 3 (lb rfl) ?_
 refine Goes.boxs 0 _ [.int .u8 0, .int .i64 0, .ref 52 1 0 0 (some uC), .int .i64 0, .str [], .str [], .int .i64 0, .int .i64 0, .ref 53 1 0 0 (some uC), .int .i64 0, .int .i64 0, .int .i64 0] rfl (.keep (.keep (.cons (.own0 52 _ _ _ (by decide)) (.keep (.keep (.keep (.keep (.keep (.cons (.own0 53 _ _ _ (by decide)) (.refl _)))))))))) ?_
 exact .m [2, 3] [52, 53, 0] [(52, 0), (53, 1), (0, 2)]
 exact rsi0
 rfl
 replace h := za3 h hc2
 refine .skip ?_
 refine .seq (.pl zS [2, 5] ?_)
 have hq := sj h
 subst r
 refine .ret ⟨st0 (v1.1, 0), ?_, .inr rfl, retH [1, 0] ?_ ?_⟩
 exact .m [2, 3] [2, 3, 0] [(2, 0), (3, 1), (0, 2)]
 exact rsi0
 rfl
theorem zos (a0 : List UInt8) (r : TCommand × Int) (h : zcu a0 = some r) : zbn Tryz.prog 62 [.str a0] (.tuple [.agg [.int .u8 r.1.Kind, .int .i64 r.1.Message.Id, .imm 1 (r.1.Message.Groups.map (D.int .i64)) 12, .int .i64 r.1.Message.Topic, .str r.1.Message.Key, .str r.1.Message.Body, .int .i64 r.1.Id, .int .i64 r.1.Time, .imm 1 (r.1.Members.map (D.int .i64)) 12, .int .i64 r.1.Topic, .int .i64 r.1.Who, .int .i64 r.1.N], .int .i64 r.2]) :=
 zg0 (zpb (zak (zrk (zak rfl (zak rfl (zak (ziv zks rfl rfl) (zak rfl (zak rfl (zak rfl (zak rfl (zak rfl (zak (ziv zks rfl rfl) (zak rfl (zak rfl (zak rfl zhx))))))))))))) (zak rfl zhx))) (zow a0 r h)
@[go_sem] def st53 (l1 : List TCommand) : St := ⟨[(2, .ref 0 12 0 l1.length (some uC))], [(0, .arr 59 12 true (l1.map TCommand.n))], 1⟩
@[go_sem] def st54 (a0 : List (List UInt8)) (n1 : Nat) (l2 : List TCommand) : St := ⟨[(2, .ref 0 12 0 l2.length (some uC)), (11, .imm 1 (a0.map D.str) 4), (12, .int .i64 (a0.length : Int)), (13, .int .i64 (n1 : Int))], [(0, .arr 59 12 true (l2.map TCommand.n))], 1⟩
@[go_sem] def st7 (r : (List TCommand) × Int) : St := ⟨[(2, .ref 0 12 0 r.1.length (some uC)), (3, .int .i64 r.2)], [(0, .arr 59 12 true (r.1.map TCommand.n))], 1⟩
theorem zov (a0 : List (List UInt8)) (r : (List TCommand) × Int) (h : zg3 a0 = some r) : zcv Tryz.prog 42 [.imm 1 (a0.map D.str) 4] [] (.tuple [.ref 0 12 0 r.1.length (some uC), .int .i64 r.2]) [(0, some (.arr 59 12 true (r.1.map TCommand.n)))] (0, 6) := by
 refine za5 Tryz.tmOk Tryz.func42 rfl (by decide) (lb rfl) (by simp) ?_
 intro hwf
 unfold zg3 at h
 refine .ends 0 (Nat.le_refl _) ?_
 refine .seq (.pl zS [0] ?_)
 refine .seq (.seq (.pl zS [0, 2] ?_))
 refine .cond rfl rfl (fun hc1 => ?_) (fun hc1 => ?_)
 replace h := za0 h hc1
 refine .seq (.pl zS [] ?_)
 have hq := sj h
 subst r
 refine .ret ⟨st7 ([], 4), ?_, .inr rfl, retH [0] ?_ ?_⟩
 refine Goes.new0 12 59 (lb rfl) ?_
 refine Goes.wk 2 _ (.ref 0 12 0 0 (some uC)) rfl (.own0 0 _ _ _ (by decide)) ?_
 exact .m [2, 3] [0] []
 exact rsi0
 rfl
 replace h := za3 h hc1
 refine .skip ?_
 obtain ⟨x1, hx1, h⟩ := bind_some h
 refine .seqM 0 (fun (j : (List TCommand)) => st53 j) (fun j => x1 = (.inr j)) (lb rfl) ?_ ?_
 refine .seq (.pl zS [0, 2] ?_)
 refine .block ?_
 refine .loopG 0 (fun (j : Nat × (List TCommand)) => st54 a0 j.1 j.2) (fun j => j.1 <= a0.length /\ zdr (a0.drop j.1) j.2 = some x1) (fun j => a0.length - j.1) (0, []) (lb rfl) ?_ ⟨Nat.zero_le _, hx1⟩ ?_
 refine Goes.new0 12 59 (lb rfl) ?_
 refine Goes.wk 2 _ (.ref 0 12 0 0 (some uC)) rfl (.own0 0 _ _ _ (by decide)) ?_
 exact .m [2, 11, 12, 13] [0] []
 rintro ⟨n1, l2⟩ ⟨hi1, hx1⟩
 simp only [st54]
 simp only at hi1 hx1
 refine .wf 12 (.int .i64 (a0.length : Int)) rfl ?_
 intro hln1
 replace hln1 : (a0.length : Int) <= 9223372036854775807 := by simp only [wf, wfL, IntKind.max, IntKind.min, IntKind.signed, IntKind.bits, List.length_map] at hln1; first | exact hln1.2 | exact hln1.1 | (simp at hln1; omega)
 refine .seq (.pl zS [2, 11, 12, 13] ?_)
 refine .seq ?_
 refine .cond rfl rfl (fun hc2 => ?_) (fun hc2 => ?_)
 have h1 : n1 < a0.length := by simpa using hc2
 have hwn1 : wr .i64 ((n1 : Int) + 1) = ((n1 + 1 : Nat) : Int) := zch h1 hln1
 have hpn1 : wr .i64 ((n1 : Int) - 1) = (n1 : Int) - 1 := zci h1 hln1
 rw [List.drop_eq_getElem_cons h1, zin] at hx1
 refine .skip ?_
 refine .seq (.block (.seq ?_))
 have e1 := zay D.str a0 n1 h1
 refine .plx zS (ai e1 hwn1) [2, 11, 12, 13] ?_
 refine .seq ?_
 obtain ⟨v1, hv1, hx1⟩ := bind_some hx1
 refine .rg zS [2, 5, 11, 12, 13] ?_
 refine .rnx 1 hwn1 ?_
 refine .call (r := .tuple [.agg [.int .u8 v1.1.Kind, .int .i64 v1.1.Message.Id, .imm 1 (v1.1.Message.Groups.map (D.int .i64)) 12, .int .i64 v1.1.Message.Topic, .str v1.1.Message.Key, .str v1.1.Message.Body, .int .i64 v1.1.Id, .int .i64 v1.1.Time, .imm 1 (v1.1.Members.map (D.int .i64)) 12, .int .i64 v1.1.Topic, .int .i64 v1.1.Who, .int .i64 v1.1.N], .int .i64 v1.2]) rfl rfl rfl rfl rfl rfl (zos (a0[n1]) v1 hv1) ?_
 refine .rnx 6 hwn1 ?_
 refine .nil ⟨nofun, ?_⟩
 refine .seq (.seq (.plx zS hwn1 [2, 6, 7, 11, 12, 13] ?_))
 refine .cond rfl rfl (fun hc3 => ?_) (fun hc3 => ?_)
 replace hx1 := za0 hx1 hc3
 refine .seq (.plx zS hwn1 [] ?_)
 have hq := sj hx1
 subst x1
 try dsimp only at h
 have hq := sj h
 subst r
 refine .ret ⟨st7 ([], 8), ?_, .inr rfl, retH [0] ?_ ?_⟩
 refine Goes.new0 12 59 (lb rfl) ?_
 refine Goes.wk 2 _ (.ref 2 12 0 0 (some uC)) rfl (.own0 2 _ _ _ (by decide)) ?_
 exact .m [2, 3] [2] [(2, 0)]
 exact rsi0
 rfl
 replace hx1 := za3 hx1 hc3
 refine .skip ?_
 obtain ⟨k1, hx1⟩ := zae hx1
 refine .plx zS hwn1 [2, 6, 11, 12, 13] ?_
 refine .plx zS hwn1 [2, 11, 12, 13] ?_
 refine ⟨(n1 + 1, _), ?_, ⟨by omega, hx1⟩, by dsimp only; omega⟩
 exact .m [2, 11, 12, 13] [3] [(3, 0)]
 have h2 : n1 = a0.length := by have h2b := of_decide_eq_false hc2; omega
 rw [List.drop_of_length_le (by omega), zim] at hx1
 refine .exit ?_
 refine ⟨_, ?_, (sj hx1).symm⟩
 exact .m [2] [0] []
 rintro l1 hj1
 subst x1
 try dsimp only at h
 simp only [st53]
 refine .seq (.pl zS [2] ?_)
 have hq := sj h
 subst r
 refine .ret ⟨st7 (l1, 0), ?_, .inr rfl, retH [0] ?_ ?_⟩
 exact .m [2, 3] [0] []
 exact rsi0
 rfl
theorem zkp (a0 : List (List UInt8)) (r : (List TCommand) × Int) (h : zg3 a0 = some r) : zbn Tryz.prog 42 [.imm 1 (a0.map D.str) 4] (.tuple [.imm 12 (r.1.map TCommand.d) 12, .int .i64 r.2]) :=
 zg0 (zpb (zak (ziu zpw rfl rfl) (zak rfl zhx))) (zov a0 r h)
@[go_sem] def st15 (r : (List Torder_given)) : St := ⟨[(1, .ptr 20000 0)], [(20000, .box [.ref 20100 6 0 r.length (some uC)]), (20100, .arr 70 6 true (r.map Torder_given.n))], 20101⟩
theorem znr (a0 : Torder_step) (c0 : List Torder_given) (r : (List Torder_given)) (h : zhb a0 c0 = some r) : zcv Tryz.prog 48 [.agg [.int .u8 a0.fC.Kind, .int .i64 a0.fC.Message.Id, .imm 1 (a0.fC.Message.Groups.map (D.int .i64)) 12, .int .i64 a0.fC.Message.Topic, .str a0.fC.Message.Key, .str a0.fC.Message.Body, .int .i64 a0.fC.Id, .int .i64 a0.fC.Time, .imm 1 (a0.fC.Members.map (D.int .i64)) 12, .int .i64 a0.fC.Topic, .int .i64 a0.fC.Who, .int .i64 a0.fC.N, .int .i64 a0.fBefore.Clock, .imm 7 (a0.fBefore.Waits.map TWait.d) 12, .imm 2 (a0.fBefore.Done.map TStamp.d) 12, .int .i64 a0.fAfter.Clock, .imm 7 (a0.fAfter.Waits.map TWait.d) 12, .imm 2 (a0.fAfter.Done.map TStamp.d) 12, .imm 5 (a0.fOut.map TMessage.d) 12], .ptr 20000 0] [(20000, .box [.ref 20001 6 0 c0.length (some uC)]), (20001, .arr 70 6 true (c0.map Torder_given.n))] (.tuple []) [(20000, some (.box [.ref 20100 6 0 r.length (some uC)])), (20001, none), (20100, some (.arr 70 6 true (r.map Torder_given.n)))] (20100, 20105) := by
 refine za5 Tryz.tmOk Tryz.func48 rfl (by decide) (lb rfl) (by simp) ?_
 intro hwf
 unfold zhb at h
 refine .ends 20100 (Nat.le_refl _) ?_
 refine .seq (.pl zS [0, 1] ?_)
 refine .seq ?_
 refine .rg zS [1, 2] ?_
 refine .rn 6 ?_
 refine .rn 3 ?_
 refine .nil ⟨nofun, ?_⟩
 refine .cond rfl rfl (fun hc1 => ?_) (fun hc1 => ?_)
 replace h := za0 h hc1
 obtain ⟨k1, h⟩ := zae h
 refine .rg zS [1, 2] ?_
 refine .rn 6 ?_
 refine .rn 5 ?_
 refine .nil ⟨nofun, ?_⟩
 have hq := sj h
 subst r
 refine ⟨st15 (c0 ++ [(⟨a0.fAfter.Clock, a0.fC.Message⟩ : Torder_given)]), ?_, .inl rfl, retH [20000, 20100] ?_ ?_⟩
 exact .m [1] [20000, 20102] [(20102, 20100)]
 exact rsi0
 rfl
 replace h := za3 h hc1
 refine .skip ?_
 have hq := sj h
 subst r
 refine ⟨st15 c0, ?_, .inl rfl, retH [20000, 20100] ?_ ?_⟩
 exact .m [1] [20000, 20001] [(20001, 20100)]
 exact rsi0
 rfl
@[go_sem] def st71 (l1 : List Torder_given) (n1 : Int) (l2 : List TWait) (l3 : List TStamp) : St := ⟨[(2, .fn (.func 48) [.ptr 20000 0]), (6, .ptr 20100 0), (10, .ptr 20101 0)], [(20000, .box [.ref 20102 6 0 l1.length (some uC)]), (20100, .box [.int .i64 0, .imm 0 [] 0, .imm 0 [] 0]), (20101, .box [.int .i64 n1, .imm 7 (l2.map TWait.d) 12, .imm 2 (l3.map TStamp.d) 12]), (20102, .arr 70 6 true (l1.map Torder_given.n))], 20103⟩
@[go_sem] def st72 (a0 : Int) (v1 : (List TCommand) × Int) (n3 : Nat) (l4 : List Torder_given) (n2 : Int) (l5 : List TWait) (l6 : List TStamp) : St := ⟨[(0, .int .i64 a0), (2, .fn (.func 48) [.ptr 20000 0]), (6, .ptr 20100 0), (10, .ptr 20101 0), (33, .imm 12 (v1.1.map TCommand.d) 12), (34, .int .i64 (v1.1.length : Int)), (35, .int .i64 (n3 : Int))], [(20000, .box [.ref 20102 6 0 l4.length (some uC)]), (20100, .box [.int .i64 0, .imm 0 [] 0, .imm 0 [] 0]), (20101, .box [.int .i64 n2, .imm 7 (l5.map TWait.d) 12, .imm 2 (l6.map TStamp.d) 12]), (20102, .arr 70 6 true (l4.map Torder_given.n))], 20103⟩
@[go_sem] def st73 (a0 : Int) (v1 : (List TCommand) × Int) (n3 : Nat) (l4 : List Torder_given) (n2 : Int) (l5 : List TWait) (l6 : List TStamp) (yq0 : TCommand) (n4 : Int) (l7 : List TWait) (l8 : List TStamp) (l9 : List TMessage) : St := ⟨[(0, .int .i64 a0), (2, .fn (.func 48) [.ptr 20000 0]), (6, .ptr 20100 0), (10, .ptr 20101 0), (12, .ptr 20103 0), (13, .ptr 20104 0), (14, .imm 5 (l9.map TMessage.d) 12), (33, .imm 12 (v1.1.map TCommand.d) 12), (34, .int .i64 (v1.1.length : Int)), (35, .int .i64 (n3 : Int))], [(20000, .box [.ref 20102 6 0 l4.length (some uC)]), (20100, .box [.int .i64 0, .imm 0 [] 0, .imm 0 [] 0]), (20101, .box [.int .i64 n2, .imm 7 (l5.map TWait.d) 12, .imm 2 (l6.map TStamp.d) 12]), (20102, .arr 70 6 true (l4.map Torder_given.n)), (20103, .box [.int .u8 (yq0.Kind), .int .i64 (yq0.Message.Id), .imm 1 ((yq0.Message.Groups).map (D.int .i64)) 12, .int .i64 (yq0.Message.Topic), .str (yq0.Message.Key), .str (yq0.Message.Body), .int .i64 (yq0.Id), .int .i64 (yq0.Time), .imm 1 ((yq0.Members).map (D.int .i64)) 12, .int .i64 (yq0.Topic), .int .i64 (yq0.Who), .int .i64 (yq0.N)]), (20104, .box [.int .i64 n4, .imm 7 (l7.map TWait.d) 12, .imm 2 (l8.map TStamp.d) 12])], 20105⟩
@[go_sem] def st13 (r : TSkeen × Int × (List Torder_given)) : St := ⟨[(2, .fn (.func 48) [.ptr 20000 0]), (6, .ptr 20103 0), (7, .int .i64 r.2.1)], [(20000, .box [.ref 20102 6 0 r.2.2.length (some uC)]), (20100, .arr 78 7 true (r.1.Waits.map TWait.n)), (20101, .arr 72 2 true (r.1.Done.map TStamp.d)), (20102, .arr 70 6 true (r.2.2.map Torder_given.n)), (20103, .box [.int .i64 r.1.Clock, .ref 20100 7 0 r.1.Waits.length (some uC), .ref 20101 2 0 r.1.Done.length (some uC)])], 20104⟩
theorem zmd (a0 : Int) (a1 : List (List UInt8)) (a2_0 : List Torder_given) (r : TSkeen × Int × (List Torder_given)) (h : zh8 a0 a1 a2_0 = some r) : zcv Tryz.prog 20 [.int .i64 a0, .imm 1 (a1.map D.str) 4, .fn (.func 48) [.ptr 20000 0]] [(20000, .box [.ref 20001 6 0 a2_0.length (some uC)]), (20001, .arr 70 6 true (a2_0.map Torder_given.n))] (.tuple [.agg [.int .i64 r.1.Clock, .ref 20100 7 0 r.1.Waits.length (some uC), .ref 20101 2 0 r.1.Done.length (some uC)], .int .i64 r.2.1]) [(20000, some (.box [.ref 20102 6 0 r.2.2.length (some uC)])), (20001, none), (20100, some (.arr 78 7 true (r.1.Waits.map TWait.n))), (20101, some (.arr 72 2 true (r.1.Done.map TStamp.d))), (20102, some (.arr 70 6 true (r.2.2.map Torder_given.n)))] (20100, 20117) := by
 refine za5 Tryz.tmOk Tryz.func20 rfl (by decide) (lb rfl) (by simp) ?_
 intro hwf
 unfold zh8 at h
 refine .ends 20100 (Nat.le_refl _) ?_
 refine .seq (.pl zS [0, 1, 2] ?_)
 refine .seq (.seq (.pl zS [0, 1, 2, 6] ?_))
 refine .cond rfl rfl (fun hc1 => ?_) (fun hc1 => ?_)
 replace h := za0 h hc1
 refine .seq (.pl zS [2, 6] ?_)
 have hq := sj h
 subst r
 refine .ret ⟨st13 ((⟨0, [], []⟩ : TSkeen), 2, a2_0), ?_, .inr rfl, retH [20000, 20102, 20101, 20100] ?_ ?_⟩
 refine Goes.new0 7 78 (lb rfl) ?_
 refine Goes.new0 2 72 (lb rfl) ?_
 refine Goes.boxs 20100 _ [.int .i64 0, .ref 20101 7 0 0 (some uC), .ref 20102 2 0 0 (some uC)] rfl (.keep (.cons (.own0 20101 _ _ _ (by decide)) (.cons (.own0 20102 _ _ _ (by decide)) (.refl _)))) ?_
 exact .m [2, 6, 7] [20000, 20101, 20102, 20001, 20100] [(20101, 20100), (20102, 20101), (20001, 20102), (20100, 20103)]
 exact rsi0
 rfl
 replace h := za3 h hc1
 refine .skip ?_
 refine .seq ?_
 obtain ⟨v1, hv1, h⟩ := bind_some h
 refine .rg zS [0, 1, 2, 6] ?_
 refine .rn 1 ?_
 refine .call (r := .tuple [.imm 12 (v1.1.map TCommand.d) 12, .int .i64 v1.2]) rfl rfl rfl rfl rfl rfl (zkp a1 v1 hv1) ?_
 refine .rn 5 ?_
 refine .nil ⟨nofun, ?_⟩
 refine .seq (.seq (.pl zS [0, 2, 6, 8, 9] ?_))
 refine .cond rfl rfl (fun hc2 => ?_) (fun hc2 => ?_)
 replace h := za0 h hc2
 refine .seq (.pl zS [2, 6, 9] ?_)
 have hq := sj h
 subst r
 refine .ret ⟨st13 ((⟨0, [], []⟩ : TSkeen), v1.2, a2_0), ?_, .inr rfl, retH [20000, 20102, 20101, 20100] ?_ ?_⟩
 refine Goes.new0 7 78 (lb rfl) ?_
 refine Goes.new0 2 72 (lb rfl) ?_
 refine Goes.boxs 20100 _ [.int .i64 0, .ref 20101 7 0 0 (some uC), .ref 20102 2 0 0 (some uC)] rfl (.keep (.cons (.own0 20101 _ _ _ (by decide)) (.cons (.own0 20102 _ _ _ (by decide)) (.refl _)))) ?_
 exact .m [2, 6, 7] [20000, 20101, 20102, 20001, 20100] [(20101, 20100), (20102, 20101), (20001, 20102), (20100, 20103)]
 exact rsi0
 rfl
 replace h := za3 h hc2
 refine .skip ?_
 refine .seq ?_
 obtain ⟨v2, hv2, h⟩ := bind_some h
 refine .rg zS [0, 2, 6, 8] ?_
 refine .call (r := .agg [.int .i64 v2.Clock, .imm 7 (v2.Waits.map TWait.d) 12, .imm 2 (v2.Done.map TStamp.d) 12]) rfl rfl rfl rfl rfl rfl (zmt  v2 hv2) ?_
 refine .rn 2 ?_
 refine .nil ⟨nofun, ?_⟩
 obtain ⟨x1, hx1, h⟩ := bind_some h
 refine .seqM 20102 (fun (j : (List Torder_given) × Int × (List TWait) × (List TStamp)) => st71 j.1 j.2.1 j.2.2.1 j.2.2.2) (fun j => x1 = j) (lb rfl) ?_ ?_
 refine .seq (.pl zS [0, 2, 6, 8, 10] ?_)
 refine .block ?_
 refine .loopG 20102 (fun (j : Nat × (List Torder_given) × Int × (List TWait) × (List TStamp)) => st72 a0 v1 j.1 j.2.1 j.2.2.1 j.2.2.2.1 j.2.2.2.2) (fun j => j.1 <= v1.1.length /\ zbv a0 (v1.1.drop j.1) j.2.1 j.2.2.1 j.2.2.2.1 j.2.2.2.2 = some x1) (fun j => v1.1.length - j.1) (0, a2_0, v2.Clock, v2.Waits, v2.Done) (lb rfl) ?_ ⟨Nat.zero_le _, hx1⟩ ?_
 exact .m [0, 2, 6, 10, 33, 34, 35] [20000, 20100, 20101, 20001] [(20001, 20102)]
 rintro ⟨n3, l4, n2, l5, l6⟩ ⟨hi1, hx1⟩
 simp only [st72]
 simp only at hi1 hx1
 refine .wf 34 (.int .i64 (v1.1.length : Int)) rfl ?_
 intro hln3
 replace hln3 : (v1.1.length : Int) <= 9223372036854775807 := by simp only [wf, wfL, IntKind.max, IntKind.min, IntKind.signed, IntKind.bits, List.length_map] at hln3; first | exact hln3.2 | exact hln3.1 | (simp at hln3; omega)
 refine .seq (.pl zS [0, 2, 6, 10, 33, 34, 35] ?_)
 refine .seq ?_
 refine .cond rfl rfl (fun hc3 => ?_) (fun hc3 => ?_)
 have h1 : n3 < v1.1.length := by simpa using hc3
 have hwn3 : wr .i64 ((n3 : Int) + 1) = ((n3 + 1 : Nat) : Int) := zch h1 hln3
 have hpn3 : wr .i64 ((n3 : Int) - 1) = (n3 : Int) - 1 := zci h1 hln3
 rw [List.drop_eq_getElem_cons h1, zbv] at hx1
 refine .skip ?_
 refine .seq (.block (.seq ?_))
 have e1 := zay TCommand.d v1.1 n3 h1
 refine .plx zS (ai e1 hwn3) [0, 2, 6, 10, 33, 34, 35] ?_
 refine .seq ?_
 obtain ⟨v3, hv3, hx1⟩ := bind_some hx1
 refine .rg zS [0, 2, 6, 10, 12, 33, 34, 35] ?_
 refine .rnx 3 hwn3 ?_
 refine .call (r := .tuple [.agg [.int .i64 v3.1.Clock, .imm 7 (v3.1.Waits.map TWait.d) 12, .imm 2 (v3.1.Done.map TStamp.d) 12], .imm 5 (v3.2.1.map TMessage.d) 12, .int .i64 v3.2.2]) rfl rfl rfl rfl rfl rfl (zlm (⟨n2, l5, l6⟩ : TSkeen) a0 (v1.1[n3]) v3 hv3) ?_
 refine .rnx 8 hwn3 ?_
 refine .nil ⟨nofun, ?_⟩
 obtain ⟨x2, hx2, hx1⟩ := bind_some hx1
 refine .seqM 20105 (fun (j : Int × (List TWait) × (List TStamp) × (List TMessage)) => st73 a0 v1 n3 l4 n2 l5 l6 (v1.1[n3]) j.1 j.2.1 j.2.2.1 j.2.2.2) (fun j => x2 = j) (lb rfl) ?_ ?_
 refine .seq (.plx zS hwn3 [0, 2, 6, 10, 12, 13, 14, 15, 33, 34, 35] ?_)
 refine .cond rfl rfl (fun hc4 => ?_) (fun hc4 => ?_)
 replace hx2 := za0 hx2 hc4
 refine .plx zS hwn3 [0, 2, 6, 10, 12, 13, 33, 34, 35] ?_
 refine ⟨_, ?_, (sj hx2).symm⟩
 refine Goes.wk 14 _ (.imm 5 [] 12) rfl (.nil12 _ _ 0 (by decide)) ?_
 exact .m [0, 2, 6, 10, 12, 13, 14, 33, 34, 35] [20000, 20100, 20101, 20102, 20103, 20104] []
 replace hx2 := za3 hx2 hc4
 refine .skip ?_
 refine ⟨_, ?_, (sj hx2).symm⟩
 exact .m [0, 2, 6, 10, 12, 13, 14, 33, 34, 35] [20000, 20100, 20101, 20102, 20103, 20104] []
 rintro ⟨n4, l7, l8, l9⟩ hj1
 subst x2
 try dsimp only at hx1
 simp only [st73]
 refine .seq ?_
 obtain ⟨v4, hv4, hx1⟩ := bind_some hx1
 refine .rg zS [0, 2, 6, 10, 12, 13, 14, 33, 34, 35] ?_
 refine .rnx 6 hwn3 ?_
 refine .hcall (H := [(20000, .box [.ref 20102 6 0 l4.length (some uC)]), (20102, .arr 70 6 true (l4.map Torder_given.n))]) (eff := [(20000, some (.box [.ref 20105 6 0 v4.length (some uC)])), (20102, none), (20105, some (.arr 70 6 true (v4.map Torder_given.n)))]) (nw := (20105, 20110)) (r := .tuple []) rfl rfl rfl rfl rfl (zc5 20001 20102 (zc5 20000 20000 (zd7 20105 (znr (⟨v1.1[n3], (⟨n2, l5, l6⟩ : TSkeen), (⟨n4, l7, l8⟩ : TSkeen), l9⟩ : Torder_step) l4 v4 hv4)))) (fun id b h => zaj [20000, 20102] _ id b h) (by simp) (.inr ⟨lb rfl, lb rfl⟩) ?_
 refine .nil ⟨nofun, ?_⟩
 refine .plx zS hwn3 [0, 2, 6, 10, 13, 33, 34, 35] ?_
 refine .plx zS hwn3 [0, 2, 6, 10, 33, 34, 35] ?_
 refine ⟨(n3 + 1, _, _, _, _), ?_, ⟨by omega, hx1⟩, by dsimp only; omega⟩
 exact .m [0, 2, 6, 10, 33, 34, 35] [20000, 20100, 20101, 20105] [(20105, 20102)]
 have h2 : n3 = v1.1.length := by have h2b := of_decide_eq_false hc3; omega
 rw [List.drop_of_length_le (by omega), zbv] at hx1
 refine .exit ?_
 refine ⟨_, ?_, (sj hx1).symm⟩
 exact .m [2, 6, 10] [20000, 20100, 20101, 20102] []
 rintro ⟨l1, n1, l2, l3⟩ hj2
 subst x1
 try dsimp only at h
 simp only [st71]
 refine .seq ?_
 obtain ⟨v5, hv5, h⟩ := bind_some h
 refine .rg zS [2, 6, 10] ?_
 refine .rn 1 ?_
 refine .ncall (r := .agg [.int .i64 v5.Clock, .ref 20103 7 0 v5.Waits.length (some uC), .ref 20104 2 0 v5.Done.length (some uC)]) (eff := [(20103, some (.arr 78 7 true (v5.Waits.map TWait.n))), (20104, some (.arr 72 2 true (v5.Done.map TStamp.d)))]) (nw := (20103, 20115)) [] rfl rfl rfl rfl rfl (za7 rfl zb9) rfl (zeh 20103 (lb rfl) (zjc (⟨n1, l2, l3⟩ : TSkeen) v5 hv5)) (zfu rfl rfl (zmp zft _ _ _) (zfu rfl rfl (zji zhf _ _ _) zjh)) (by intro i hi; simp [D.ids, D.idsL] at hi <;> omega) rfl ⟨lb rfl, lb rfl⟩ ?_
 refine .rn 2 ?_
 refine .nil ⟨nofun, ?_⟩
 have hq := sj h
 subst r
 refine .ret ⟨st13 (v5, 0, l1), ?_, .inr rfl, retH [20000, 20102, 20101, 20100] ?_ ?_⟩
 exact .m [2, 6, 7] [20000, 20103, 20104, 20102, 20100] [(20103, 20100), (20104, 20101), (20100, 20103)]
 exact rsi0
 rfl
@[go_sem] def st14 (r : (List Torder_given) × Int) : St := ⟨[(4, .ptr 1 0), (5, .int .i64 r.2)], [(0, .arr 70 6 true (r.1.map Torder_given.n)), (1, .box [.ref 0 6 0 r.1.length (some uC)])], 2⟩
theorem zpk (a0 : Int) (a1 : List (List UInt8)) (r : (List Torder_given) × Int) (h : zfy a0 a1 = some r) : zcv Tryz.prog 24 [.int .i64 a0, .imm 1 (a1.map D.str) 4] [] (.tuple [.ref 0 6 0 r.1.length (some uC), .int .i64 r.2]) [(0, some (.arr 70 6 true (r.1.map Torder_given.n)))] (0, 21) := by
 refine za5 Tryz.tmOk Tryz.func24 rfl (by decide) (lb rfl) (by simp) ?_
 intro hwf
 unfold zfy at h
 refine .ends 0 (Nat.le_refl _) ?_
 refine .seq (.pl zS [0, 1] ?_)
 refine .goes (.new0 6 70 (lb rfl) .refl) ?_
 refine .goes (.boxs 0 _ [.ref 1 6 0 0 (some uC)] rfl (.cons (.own0 1 _ _ _ (by decide)) (.refl _)) .refl) ?_
 refine .seq ?_
 obtain ⟨v1, hv1, h⟩ := bind_some h
 refine .rg zS [0, 1, 4] ?_
 refine .rn 3 ?_
 refine .hcall (H := [(0, .box [.ref 1 6 0 0 (some uC)]), (1, .arr 70 6 true [])]) (eff := [(0, some (.box [.ref 4 6 0 v1.2.2.length (some uC)])), (1, none), (2, some (.arr 78 7 true (v1.1.Waits.map TWait.n))), (3, some (.arr 72 2 true (v1.1.Done.map TStamp.d))), (4, some (.arr 70 6 true (v1.2.2.map Torder_given.n)))]) (nw := (2, 19)) (r := .tuple [.agg [.int .i64 v1.1.Clock, .ref 2 7 0 v1.1.Waits.length (some uC), .ref 3 2 0 v1.1.Done.length (some uC)], .int .i64 v1.2.1]) rfl rfl rfl rfl rfl (zk9 2 (zc5 20001 1 (zc5 20000 0 (zmd a0 a1 [] v1 hv1)))) (fun id b h => zaj [0, 1] _ id b h) (by simp) (.inr ⟨lb rfl, lb rfl⟩) ?_
 refine .rn 4 ?_
 refine .nil ⟨nofun, ?_⟩
 refine .seq (.pl zS [4, 5] ?_)
 have hq := sj h
 subst r
 refine .ret ⟨st14 (v1.2.2, v1.2.1), ?_, .inr rfl, retH [0] ?_ ?_⟩
 exact .m [4, 5] [4, 0] [(4, 0), (0, 1)]
 exact rsi0
 rfl
theorem zpf (a0 : Int) (a1 : List (List UInt8)) (r : (List Torder_given) × Int) (h : zfy a0 a1 = some r) : zbn Tryz.prog 24 [.int .i64 a0, .imm 1 (a1.map D.str) 4] (.tuple [.imm 6 (r.1.map Torder_given.d) 12, .int .i64 r.2]) :=
 zg0 (zpb (zak (ziu zm9 rfl rfl) (zak rfl zhx))) (zpk a0 a1 r h)
@[go_sem] def ya4y (a0 : List (List (List UInt8))) (n1 : Int) : St := ⟨[(0, .imm 1 (a0.map zdn) 4), (3, .int .i64 n1)], [], 0⟩
@[go_sem] def ya4x (a0 : List (List (List UInt8))) (n2 : Int) (n3 : Int) : St := ⟨[(0, .imm 1 (a0.map zdn) 4), (3, .int .i64 n2), (4, .int .i64 n3)], [], 0⟩
@[go_sem] def ya4w (a0 : List (List (List UInt8))) (n3 : Int) (n4 : Int) : St := ⟨[(0, .imm 1 (a0.map zdn) 4), (3, .int .i64 n4), (4, .int .i64 n3)], [], 0⟩
@[go_sem] def ya4v (a0 : List (List (List UInt8))) (n3 : Int) (n5 : Int) (n6 : Int) : St := ⟨[(0, .imm 1 (a0.map zdn) 4), (3, .int .i64 n5), (4, .int .i64 n3), (5, .int .i64 n6)], [], 0⟩
theorem zkb (a0 : List (List (List UInt8))) (r : Bool) (h : zem a0 = some r) : zbn Tryz.prog 5 [.imm 1 (a0.map zdn) 4] (.bool r) := by
 refine za2 Tryz.tmOk 2 Tryz.func5 rfl (by decide) rfl rfl (lb rfl) ?_
 intro hwf
 unfold zem at h
 refine .seq (.pl zS [0] ?_)
 refine .seq (.pl zS [0] ?_)
 obtain ⟨x1, hx1, h⟩ := bind_some h
 refine .seqM 0 (fun (j : Int) => ya4y a0 j) (fun j => x1 = j) (lb rfl) ?_ ?_
 refine .seq (.pl zS [0, 3] ?_)
 refine .block ?_
 refine .loopG 0 (fun (j : Nat × Int × Int) => ya4x a0 j.2.1 j.2.2) (fun j => zbg a0 j.1 j.2.1 j.2.2 = some x1) (fun j => j.1) (12, 0, 0) (lb rfl) ?_ hx1 ?_
 exact .m [0, 3, 4] [] []
 rintro ⟨fu1, n2, n3⟩ hx1
 simp only [ya4x]
 try simp only at hx1
 obtain ⟨fu1, rfl⟩ : ∃ k, fu1 = k + 1 := by cases fu1 with | zero => (rw [zbg] at hx1; cases hx1) | succ k => exact ⟨k, rfl⟩
 rw [zbg] at hx1
 refine .seq (.seq (.pl zS [0, 3, 4] ?_))
 refine .cond rfl rfl (fun hc1 => ?_) (fun hc1 => ?_)
 replace hx1 := za0 hx1 hc1
 refine .skip ?_
 obtain ⟨x2, hx2, hx1⟩ := bind_some hx1
 refine .seqM 0 (fun (j : Int) => ya4w a0 n3 j) (fun j => x2 = j) (lb rfl) ?_ ?_
 refine .block ?_
 refine .seq (.pl zS [0, 3, 4] ?_)
 refine .block ?_
 refine .loopG 0 (fun (j : Nat × Int × Int) => ya4v a0 n3 j.2.1 j.2.2) (fun j => zbf a0 n3 j.1 j.2.1 j.2.2 = some x2) (fun j => j.1) (1002, n2, 0) (lb rfl) ?_ hx2 ?_
 exact .m [0, 3, 4, 5] [] []
 rintro ⟨fu2, n5, n6⟩ hx2
 simp only [ya4v]
 try simp only at hx2
 obtain ⟨fu2, rfl⟩ : ∃ k, fu2 = k + 1 := by cases fu2 with | zero => (rw [zbf] at hx2; cases hx2) | succ k => exact ⟨k, rfl⟩
 rw [zbf] at hx2
 refine .seq (.seq ?_)
 obtain ⟨k2, hx2⟩ := zae hx2
 have e2 := zb1 zdn a0 n3
 replace e2 := e2 k2
 refine .rg zS [0, 3, 4, 5] ?_
 refine .rnx 6 e2 ?_
 refine .rnx 5 e2 ?_
 refine .nil ⟨nofun, ?_⟩
 refine .cond rfl rfl (fun hc2 => ?_) (fun hc2 => ?_)
 replace hx2 := za0 hx2 hc2
 refine .skip ?_
 refine .seq (.block ?_)
 obtain ⟨k3, hx2⟩ := zae hx2
 obtain ⟨k4, hx2⟩ := zae hx2
 have e3 := zb1 zdn a0 n3
 have e4 := zb1 D.str (a0.getD n3.toNat default) n6
 replace e3 := e3 k3
 replace e4 := e4 k4
 refine .rg zS [0, 3, 4, 5] ?_
 refine .rnx 6 (ai e3 e4) ?_
 refine .rnx 7 (ai e3 e4) ?_
 refine .nil ⟨nofun, ?_⟩
 refine .pl zS [0, 3, 4, 5] ?_
 refine ⟨(fu2, _, _), ?_, hx2, by dsimp only; omega⟩
 exact .m [0, 3, 4, 5] [] []
 replace hx2 := za3 hx2 hc2
 refine .exit ?_
 refine ⟨_, ?_, (sj hx2).symm⟩
 exact .m [0, 3, 4] [] []
 rintro n4 hj1
 subst x2
 try dsimp only at hx1
 simp only [ya4w]
 refine .pl zS [0, 3, 4] ?_
 refine ⟨(fu1, _, _), ?_, hx1, by dsimp only; omega⟩
 exact .m [0, 3, 4] [] []
 replace hx1 := za3 hx1 hc1
 refine .exit ?_
 refine ⟨_, ?_, (sj hx1).symm⟩
 exact .m [0, 3] [] []
 rintro n1 hj2
 subst x1
 try dsimp only at h
 simp only [ya4y]
 refine .seq (.pl zS [0, 3] ?_)
 have hq := sj h
 subst r
 exact .ret ⟨.inr rfl, rsi⟩
end Go.Proofs
end
section
namespace Go.Proofs
open Go.Tm
set_option linter.unusedVariables false
def zfl (a0 : Int) : Option Bool :=
 some ((decide (a0 >= 0)) && (decide (a0 <= 1099511627776)))
def zap : List Int -> Nat -> Int -> Int -> Option ((Int × Int × Int) ⊕ Unit)
 | [], n3, n1, n2 =>
  some (.inr ())
 | y1 :: rest1, n3, n1, n2 =>
  if ((n3 : Int) < 6) then
  if y1 < 128 then
  Option.bind (if ¬ (((n3 : Int) > 0) /\ (y1 = 0)) then zfl (wr .i64 (n1 + (wr .i64 ((wr .i64 ((y1).tmod 128)) * n2)))) else some default) fun v1 =>
  if (((n3 : Int) > 0) /\ (y1 = 0)) \/ (¬ (v1 = true)) then
  some (.inl (0, 0, 8))
  else
  some (.inl ((wr .i64 (n1 + (wr .i64 ((wr .i64 ((y1).tmod 128)) * n2)))), (wr .i64 ((n3 : Int) + 1)), 0))
  else
  zap rest1 (n3 + 1) (wr .i64 (n1 + (wr .i64 ((wr .i64 ((y1).tmod 128)) * n2)))) (wr .i64 (n2 * 128))
  else
  some (.inr ())
def zd8 (a0 : List Int) : Option (Int × Int × Int) :=
 Option.bind (α := (Int × Int × Int) ⊕ Unit) (zap a0 0 0 1) fun z => match z with
 | (.inl r) => some r
 | (.inr _) =>
 some (0, 0, 8)
def zdh (a0 : List Int) : Option ((List UInt8) × Int × Int) :=
 Option.bind (zd8 a0) fun v1 =>
 if ((¬ (v1.2.2 = 0)) \/ (v1.1 > 4096)) \/ (v1.1 > (wr .i64 ((a0.length : Int) - v1.2.1))) then
 some ([], 0, 8)
 else
 if (0 <= v1.2.1 /\ v1.2.1 <= (wr .i64 (v1.2.1 + v1.1)) /\ (wr .i64 (v1.2.1 + v1.1)) <= (a0.length : Int)) then
 some ((zt6 ((a0.take (wr .i64 (v1.2.1 + v1.1)).toNat).drop v1.2.1.toNat)), (wr .i64 (v1.2.1 + v1.1)), 0)
 else none
def zbs (a0 : List Int) (v1 : Int × Int × Int) : Nat -> Int -> (List Int) -> Int -> Option (((List Int) × Int × Int) ⊕ (Int × (List Int)))
 | 0, _, _, _ => none
 | fu1 + 1, n2, l2, n3 =>
  if n3 < v1.1 then
  if (0 <= n2 /\ n2 <= (a0.length : Int)) then
  Option.bind (zd8 (a0.drop n2.toNat)) fun v2 =>
  if ¬ (v2.2.2 = 0) then
  some (.inl ([], 0, 8))
  else
  if l2.length + [v2.1].length < 1000000 then
  zbs a0 v1 fu1 (wr .i64 (n2 + v2.2.1)) (l2 ++ [v2.1]) (wr .i64 (n3 + 1))
  else none
  else none
  else
  some (.inr (n2, l2))
def ze7 (a0 : List Int) (a1 : Int) : Option ((List Int) × Int × Int) :=
 if (a1 < 0) \/ (a1 > 4096) then
 some ([], 0, 2)
 else
 Option.bind (zd8 a0) fun v1 =>
 if (¬ (v1.2.2 = 0)) \/ (v1.1 > a1) then
 some ([], 0, 8)
 else
 Option.bind (α := ((List Int) × Int × Int) ⊕ (Int × (List Int))) (zbs a0 v1 (v1.1.toNat + 1) v1.2.1 [] 0) fun z => match z with
 | (.inl r) => some r
 | (.inr (n1, l1)) =>
 some (l1, n1, 0)
def zb5 (a1 : Int) : Nat -> (List Int) -> (List Int) -> Int -> Option (((List Int) × (List Int) × Bool) ⊕ ((List Int) × (List Int)))
 | 0, _, _, _ => none
 | fu1 + 1, l3, l4, n1 =>
  if n1 < a1 then
  Option.bind (zd8 l3) fun v1 =>
  if ¬ (v1.2.2 = 0) then
  some (.inl ([], [], false))
  else
  if l4.length + [v1.1].length < 1000000 then
  if (0 <= v1.2.1 /\ v1.2.1 <= (l3.length : Int)) then
  zb5 a1 fu1 (l3.drop v1.2.1.toNat) (l4 ++ [v1.1]) (wr .i64 (n1 + 1))
  else none
  else none
  else
  some (.inr (l3, l4))
def zai (a0 : List Int) (a1 : Int) : Option ((List Int) × (List Int) × Bool) :=
 Option.bind (α := ((List Int) × (List Int) × Bool) ⊕ ((List Int) × (List Int))) (zb5 a1 (a1.toNat + 1) a0 [] 0) fun z => match z with
 | (.inl r) => some r
 | (.inr (l1, l2)) =>
 some (l2, l1, true)
def ze6 (a0 : List Int) (a1 : Int) : Option ((List Int) × (List Int) × Bool) :=
 Option.bind (ze7 a0 a1) fun v1 =>
 if ¬ (v1.2.2 = 0) then
 some ([], [], false)
 else
 if (0 <= v1.2.1 /\ v1.2.1 <= (a0.length : Int)) then
 some (v1.1, (a0.drop v1.2.1.toNat), true)
 else none
def zeq (a0 : List Int) : Option ((List UInt8) × (List UInt8) × (List Int) × Bool) :=
 Option.bind (zdh a0) fun v1 =>
 if ¬ (v1.2.2 = 0) then
 some ([], [], [], false)
 else
 if (0 <= v1.2.1 /\ v1.2.1 <= (a0.length : Int)) then
 Option.bind (zdh (a0.drop v1.2.1.toNat)) fun v2 =>
 if ¬ (v2.2.2 = 0) then
 some ([], [], [], false)
 else
 if (0 <= (wr .i64 (v1.2.1 + v2.2.1)) /\ (wr .i64 (v1.2.1 + v2.2.1)) <= (a0.length : Int)) then
 some (v1.1, v2.1, (a0.drop (wr .i64 (v1.2.1 + v2.2.1)).toNat), true)
 else none
 else none
def zdx (a0 : List Int) : Option (TCommand × (List Int) × Bool) :=
 Option.bind (zai a0 1) fun v1 =>
 if (¬ (¬ (v1.2.2 = true))) -> 0 < v1.1.length then
 if (¬ (v1.2.2 = true)) \/ ((v1.1.getD 0 default) > 6) then
 some ((⟨0, (⟨0, [], 0, [], []⟩ : TMessage), 0, 0, [], 0, 0, 0⟩ : TCommand), [], false)
 else
 if 0 < v1.1.length then
 Option.bind (α := (TCommand × (List Int) × Bool) ⊕ ((List Int) × Bool × Int × (List Int) × Int × (List UInt8) × (List UInt8) × Int × Int × (List Int) × Int × Int × Int)) (if (wr .u8 (v1.1.getD 0 default)) = 1 then
 Option.bind (zai v1.2.1 1) fun v2 =>
 if ¬ (v2.2.2 = true) then
 some (.inl ((⟨(wr .u8 (v1.1.getD 0 default)), (⟨0, [], 0, [], []⟩ : TMessage), 0, 0, [], 0, 0, 0⟩ : TCommand), [], false))
 else
 if 0 < v2.1.length then
 Option.bind (ze6 v2.2.1 4) fun v3 =>
 if ¬ (v3.2.2 = true) then
 some (.inl ((⟨(wr .u8 (v1.1.getD 0 default)), (⟨(v2.1.getD 0 default), v3.1, 0, [], []⟩ : TMessage), 0, 0, [], 0, 0, 0⟩ : TCommand), [], false))
 else
 Option.bind (zai v3.2.1 1) fun v4 =>
 if ¬ (v4.2.2 = true) then
 some (.inl ((⟨(wr .u8 (v1.1.getD 0 default)), (⟨(v2.1.getD 0 default), v3.1, 0, [], []⟩ : TMessage), 0, 0, [], 0, 0, 0⟩ : TCommand), [], false))
 else
 if 0 < v4.1.length then
 Option.bind (zeq v4.2.1) fun v5 =>
 some (.inr (v5.2.2.1, v5.2.2.2, (v2.1.getD 0 default), v3.1, (v4.1.getD 0 default), v5.1, v5.2.1, 0, 0, [], 0, 0, 0))
 else none
 else none
 else
 if (wr .u8 (v1.1.getD 0 default)) = 2 then
 Option.bind (zai v1.2.1 2) fun v6 =>
 if v6.2.2 = true then
 if 0 < v6.1.length then
 if 1 < v6.1.length then
 some (.inr (v6.2.1, v6.2.2, 0, [], 0, [], [], (v6.1.getD 0 default), (v6.1.getD 1 default), [], 0, 0, 0))
 else none
 else none
 else
 some (.inr (v6.2.1, v6.2.2, 0, [], 0, [], [], 0, 0, [], 0, 0, 0))
 else
 if (wr .u8 (v1.1.getD 0 default)) = 3 then
 Option.bind (ze6 v1.2.1 6) fun v7 =>
 some (.inr (v7.2.1, v7.2.2, 0, [], 0, [], [], 0, 0, v7.1, 0, 0, 0))
 else
 if (wr .u8 (v1.1.getD 0 default)) = 4 then
 Option.bind (zai v1.2.1 4) fun v8 =>
 if v8.2.2 = true then
 if 0 < v8.1.length then
 if 1 < v8.1.length then
 if 2 < v8.1.length then
 if 3 < v8.1.length then
 some (.inr (v8.2.1, v8.2.2, 0, [], 0, [], [], (v8.1.getD 0 default), 0, [], (v8.1.getD 1 default), (v8.1.getD 2 default), (v8.1.getD 3 default)))
 else none
 else none
 else none
 else none
 else
 some (.inr (v8.2.1, v8.2.2, 0, [], 0, [], [], 0, 0, [], 0, 0, 0))
 else
 Option.bind (α := Bool) (if (wr .u8 (v1.1.getD 0 default)) = 5 then
 some ((wr .u8 (v1.1.getD 0 default)) == 5)
 else
 some ((wr .u8 (v1.1.getD 0 default)) == 6)) fun b2 =>
 if b2 = true then
 Option.bind (zai v1.2.1 3) fun v9 =>
 if v9.2.2 = true then
 if 0 < v9.1.length then
 if 1 < v9.1.length then
 if 2 < v9.1.length then
 some (.inr (v9.2.1, v9.2.2, 0, [], 0, [], [], (v9.1.getD 0 default), 0, [], (v9.1.getD 1 default), 0, (v9.1.getD 2 default)))
 else none
 else none
 else none
 else
 some (.inr (v9.2.1, v9.2.2, 0, [], 0, [], [], 0, 0, [], 0, 0, 0))
 else
 some (.inr (v1.2.1, v1.2.2, 0, [], 0, [], [], 0, 0, [], 0, 0, 0))) fun z => match z with
 | (.inl r) => some r
 | (.inr (l1, b1, n1, l2, n2, s1, s2, n3, n4, l3, n5, n6, n7)) =>
 some ((⟨(wr .u8 (v1.1.getD 0 default)), (⟨n1, l2, n2, s1, s2⟩ : TMessage), n3, n4, l3, n5, n6, n7⟩ : TCommand), l1, b1)
 else none
 else none
def zc6 (a0 : List UInt8) : Option (TCommand × Int) :=
 if (a0.length : Int) > 1024 then
 some ((⟨0, (⟨0, [], 0, [], []⟩ : TMessage), 0, 0, [], 0, 0, 0⟩ : TCommand), 3)
 else
 Option.bind (zdx (zh1 a0)) fun v1 =>
 Option.bind (if ¬ ((¬ (v1.2.2 = true)) \/ ((v1.2.1.length : Int) > 0)) then zfa v1.1 else some default) fun v2 =>
 if ((¬ (v1.2.2 = true)) \/ ((v1.2.1.length : Int) > 0)) \/ (¬ (v2 = true)) then
 some ((⟨0, (⟨0, [], 0, [], []⟩ : TMessage), 0, 0, [], 0, 0, 0⟩ : TCommand), 8)
 else
 some (v1.1, 0)
def zbk : List (List UInt8) -> Option (Int ⊕ Unit)
 | [] =>
  some (.inr ())
 | y1 :: rest1 =>
  Option.bind (zc6 (y1)) fun v1 =>
  if ¬ (v1.2 = 0) then
  some (.inl 8)
  else
  zbk rest1 
def zdc (a0 : List (List UInt8)) : Option Int :=
 if (a0.length : Int) > 200 then
 some 4
 else
 Option.bind (α := Int ⊕ Unit) (zbk a0 ) fun z => match z with
 | (.inl r) => some r
 | (.inr _) =>
 some 0
def zbd : List (List UInt8) -> (List TCommand) -> Option ((List TCommand))
 | [], l2 =>
  some l2
 | y1 :: rest1, l2 =>
  Option.bind (zc6 (y1)) fun v1 =>
  if l2.length + [v1.1].length < 1000000 then
  zbd rest1 (l2 ++ [v1.1])
  else none
theorem zjj (l2 : List TCommand) : zbd [] l2 =
  (some l2 : Option ((List TCommand))) := rfl
theorem zjk (y1 : (List UInt8)) (rest1 : List (List UInt8)) (l2 : List TCommand) : zbd (y1 :: rest1) l2 =
  (Option.bind (zc6 (y1)) fun v1 =>
  if l2.length + [v1.1].length < 1000000 then
  zbd rest1 (l2 ++ [v1.1])
  else none : Option ((List TCommand))) := rfl
def zf9 (a0 : List (List UInt8)) : Option ((List TCommand)) :=
 Option.bind (α := (List TCommand)) (zbd a0 []) fun l1 =>
 some l1
def zby (a0 : List TWait) (a1 : TWait) : Nat -> (List TWait) -> Int -> Option ((List TWait))
 | 0, _, _ => none
 | fu1 + 1, l2, n1 =>
  if n1 < (a0.length : Int) then
  Option.bind (α := (List TWait)) (if (0 <= n1 /\ n1 < (a0.length : Int)) then
  if (a0.getD n1.toNat default).Message.Id < a1.Message.Id then
  if (0 <= n1 /\ n1 < (a0.length : Int)) then
  if l2.length + [(a0.getD n1.toNat default)].length < 1000000 then
  some (l2 ++ [(a0.getD n1.toNat default)])
  else none
  else none
  else
  some l2
  else none) fun l3 =>
  zby a0 a1 fu1 l3 (wr .i64 (n1 + 1))
  else
  some l2
def zbx (a0 : List TWait) (a1 : TWait) : Nat -> (List TWait) -> Int -> Option ((List TWait))
 | 0, _, _ => none
 | fu2 + 1, l5, n2 =>
  if n2 < (a0.length : Int) then
  Option.bind (α := (List TWait)) (if (0 <= n2 /\ n2 < (a0.length : Int)) then
  if (a0.getD n2.toNat default).Message.Id > a1.Message.Id then
  if (0 <= n2 /\ n2 < (a0.length : Int)) then
  if l5.length + [(a0.getD n2.toNat default)].length < 1000000 then
  some (l5 ++ [(a0.getD n2.toNat default)])
  else none
  else none
  else
  some l5
  else none) fun l6 =>
  zbx a0 a1 fu2 l6 (wr .i64 (n2 + 1))
  else
  some l5
def zed (a0 : List TWait) (a1 : TWait) : Option ((List TWait)) :=
 Option.bind (α := (List TWait)) (zby a0 a1 (a0.length + 1) [] 0) fun l1 =>
 if l1.length + [a1].length < 1000000 then
 Option.bind (α := (List TWait)) (zbx a0 a1 (a0.length + 1) (l1 ++ [a1]) 0) fun l4 =>
 some l4
 else none
def zbb (a0 : List TWait) (a1 : Int) : Nat -> (List TWait) -> Int -> Option ((List TWait))
 | 0, _, _ => none
 | fu1 + 1, l2, n1 =>
  if n1 < (a0.length : Int) then
  Option.bind (α := (List TWait)) (if ¬ (n1 = a1) then
  if (0 <= n1 /\ n1 < (a0.length : Int)) then
  if l2.length + [(a0.getD n1.toNat default)].length < 1000000 then
  some (l2 ++ [(a0.getD n1.toNat default)])
  else none
  else none
  else
  some l2) fun l3 =>
  zbb a0 a1 fu1 l3 (wr .i64 (n1 + 1))
  else
  some l2
def zdm (a0 : List TWait) (a1 : Int) : Option ((List TWait)) :=
 Option.bind (α := (List TWait)) (zbb a0 a1 (a0.length + 1) [] 0) fun l1 =>
 some l1
def zbc : Nat -> (List TWait) -> (List TStamp) -> (List TMessage) -> Option ((List TWait) × (List TStamp) × (List TMessage))
 | 0, _, _, _ => none
 | fu1 + 1, l6, l7, l8 =>
  if (l6.length : Int) > 0 then
  Option.bind (zep l6) fun v7 =>
  if (0 <= v7 /\ v7 < (l6.length : Int)) then
  if ¬ ((l6.getD v7.toNat default).Final = true) then
  some (l6, l7, l8)
  else
  if (0 <= v7 /\ v7 < (l6.length : Int)) then
  Option.bind (zcr (l6.getD v7.toNat default)) fun v8 =>
  if l7.length + [v8].length < 1000000 then
  if (0 <= v7 /\ v7 < (l6.length : Int)) then
  if l8.length + [(l6.getD v7.toNat default).Message].length < 1000000 then
  Option.bind (zdm l6 v7) fun v9 =>
  zbc fu1 v9 (l7 ++ [v8]) (l8 ++ [(l6.getD v7.toNat default).Message])
  else none
  else none
  else none
  else none
  else none
  else
  some (l6, l7, l8)
def zei (a0 : TSkeen) (a1 : Int) (a2 : TCommand) : Option (TSkeen × (List TMessage) × Bool) :=
 Option.bind (α := (TSkeen × (List TMessage) × Bool) ⊕ (Int × (List TWait))) (Option.bind (if a2.Kind = 1 then zcq a0 a2.Message.Id else some default) fun v1 =>
 Option.bind (if (a2.Kind = 1) /\ (v1 < 0) then ze5 a0 a2.Message.Id else some default) fun v2 =>
 Option.bind (if ((a2.Kind = 1) /\ (v1 < 0)) /\ (¬ (v2 = true)) then zej a2.Message.Groups a1 else some default) fun v3 =>
 if (((a2.Kind = 1) /\ (v1 < 0)) /\ (¬ (v2 = true))) /\ (v3 = true) then
 if (a0.Clock = 1073741824) \/ ((a0.Waits.length : Int) = 200) then
 some (.inl (a0, [], false))
 else
 Option.bind (zbj a2.Message) fun v4 =>
 Option.bind (zed a0.Waits (⟨v4, (wr .i64 (a0.Clock + 1)), false⟩ : TWait)) fun v5 =>
 some (.inr ((wr .i64 (a0.Clock + 1)), v5))
 else
 some (.inr (a0.Clock, a0.Waits))) fun z => match z with
 | (.inl r) => some r
 | (.inr (n1, l1)) =>
 Option.bind (zcq (⟨n1, l1, a0.Done⟩ : TSkeen) a2.Id) fun v6 =>
 Option.bind (α := Int × (List TWait)) (if ((a2.Kind = 2) /\ (v6 >= 0)) -> (0 <= v6 /\ v6 < (l1.length : Int)) then
 if (((a2.Kind = 2) /\ (v6 >= 0)) /\ (¬ ((l1.getD v6.toNat default).Final = true))) -> (0 <= v6 /\ v6 < (l1.length : Int)) then
 if (((a2.Kind = 2) /\ (v6 >= 0)) /\ (¬ ((l1.getD v6.toNat default).Final = true))) /\ (a2.Time >= (l1.getD v6.toNat default).Time) then
 if (0 <= v6 /\ v6 < (l1.length : Int)) then
 if (0 <= v6 /\ v6 < ((l1.set v6.toNat (⟨(l1.getD v6.toNat default).Message, a2.Time, (l1.getD v6.toNat default).Final⟩ : TWait)).length : Int)) then
 some ((max n1 a2.Time), ((l1.set v6.toNat (⟨(l1.getD v6.toNat default).Message, a2.Time, (l1.getD v6.toNat default).Final⟩ : TWait)).set v6.toNat (⟨((l1.set v6.toNat (⟨(l1.getD v6.toNat default).Message, a2.Time, (l1.getD v6.toNat default).Final⟩ : TWait)).getD v6.toNat default).Message, ((l1.set v6.toNat (⟨(l1.getD v6.toNat default).Message, a2.Time, (l1.getD v6.toNat default).Final⟩ : TWait)).getD v6.toNat default).Time, true⟩ : TWait)))
 else none
 else none
 else
 some (n1, l1)
 else none
 else none) fun (n2, l2) =>
 Option.bind (α := (List TWait) × (List TStamp) × (List TMessage)) (zbc (a0.Waits.length + 2) l2 a0.Done []) fun (l3, l4, l5) =>
 some ((⟨n2, l3, l4⟩ : TSkeen), l5, (decide ((l4.length : Int) <= 200)))
def zbe (a0 : Int) : List TCommand -> (List Ttowncrierref16_Step) -> Int -> (List TWait) -> (List TStamp) -> Option ((List Ttowncrierref16_Step))
 | [], l2, n1, l3, l4 =>
  some l2
 | y1 :: rest1, l2, n1, l3, l4 =>
  Option.bind (zdi (⟨n1, l3, l4⟩ : TSkeen)) fun v2 =>
  Option.bind (zei v2 a0 (y1)) fun v3 =>
  Option.bind (α := Int × (List TWait) × (List TStamp) × (List TMessage)) (if ¬ (v3.2.2 = true) then
  some (n1, l3, l4, [])
  else
  some (v3.1.Clock, v3.1.Waits, v3.1.Done, v3.2.1)) fun (n3, l5, l6, l7) =>
  if l2.length + [(⟨y1, (⟨n1, l3, l4⟩ : TSkeen), (⟨n3, l5, l6⟩ : TSkeen), l7⟩ : Ttowncrierref16_Step)].length < 1000000 then
  zbe a0 rest1 (l2 ++ [(⟨y1, (⟨n1, l3, l4⟩ : TSkeen), (⟨n3, l5, l6⟩ : TSkeen), l7⟩ : Ttowncrierref16_Step)]) n3 l5 l6
  else none
theorem zgj (a0 : Int) (l2 : List Ttowncrierref16_Step) (n1 : Int) (l3 : List TWait) (l4 : List TStamp) : zbe a0 [] l2 n1 l3 l4 =
  (some l2 : Option ((List Ttowncrierref16_Step))) := rfl
theorem zgk (a0 : Int) (y1 : TCommand) (rest1 : List TCommand) (l2 : List Ttowncrierref16_Step) (n1 : Int) (l3 : List TWait) (l4 : List TStamp) : zbe a0 (y1 :: rest1) l2 n1 l3 l4 =
  (Option.bind (zdi (⟨n1, l3, l4⟩ : TSkeen)) fun v2 =>
  Option.bind (zei v2 a0 (y1)) fun v3 =>
  Option.bind (α := Int × (List TWait) × (List TStamp) × (List TMessage)) (if ¬ (v3.2.2 = true) then
  some (n1, l3, l4, [])
  else
  some (v3.1.Clock, v3.1.Waits, v3.1.Done, v3.2.1)) fun (n3, l5, l6, l7) =>
  if l2.length + [(⟨y1, (⟨n1, l3, l4⟩ : TSkeen), (⟨n3, l5, l6⟩ : TSkeen), l7⟩ : Ttowncrierref16_Step)].length < 1000000 then
  zbe a0 rest1 (l2 ++ [(⟨y1, (⟨n1, l3, l4⟩ : TSkeen), (⟨n3, l5, l6⟩ : TSkeen), l7⟩ : Ttowncrierref16_Step)]) n3 l5 l6
  else none : Option ((List Ttowncrierref16_Step))) := rfl
def zdb (a0 : Int) (a1 : List (List UInt8)) : Option ((List Ttowncrierref16_Step)) :=
 Option.bind (zf9 a1) fun v1 =>
 Option.bind (α := (List Ttowncrierref16_Step)) (zbe a0 v1 [] 0 [] []) fun l1 =>
 some l1
def zh2 (a0 : Int) (a1 : List (List UInt8)) : Option Int :=
 if (a0 < 0) \/ (a0 >= 4) then
 some 2
 else
 Option.bind (zdc a1) fun v1 =>
 some v1
def zc4 : List Ttowncrierref16_Step -> (List Ttowncrierref16_Given) -> Option ((List Ttowncrierref16_Given))
 | [], l2 =>
  some l2
 | y1 :: rest1, l2 =>
  Option.bind (α := (List Ttowncrierref16_Given)) (if ((y1.After.Waits).length : Int) > ((y1.Before.Waits).length : Int) then
  if l2.length + [(⟨y1.After.Clock, y1.C.Message⟩ : Ttowncrierref16_Given)].length < 1000000 then
  some (l2 ++ [(⟨y1.After.Clock, y1.C.Message⟩ : Ttowncrierref16_Given)])
  else none
  else
  some l2) fun l3 =>
  zc4 rest1 l3
theorem zgh (l2 : List Ttowncrierref16_Given) : zc4 [] l2 =
  (some l2 : Option ((List Ttowncrierref16_Given))) := rfl
theorem zgi (y1 : Ttowncrierref16_Step) (rest1 : List Ttowncrierref16_Step) (l2 : List Ttowncrierref16_Given) : zc4 (y1 :: rest1) l2 =
  (Option.bind (α := (List Ttowncrierref16_Given)) (if ((y1.After.Waits).length : Int) > ((y1.Before.Waits).length : Int) then
  if l2.length + [(⟨y1.After.Clock, y1.C.Message⟩ : Ttowncrierref16_Given)].length < 1000000 then
  some (l2 ++ [(⟨y1.After.Clock, y1.C.Message⟩ : Ttowncrierref16_Given)])
  else none
  else
  some l2) fun l3 =>
  zc4 rest1 l3 : Option ((List Ttowncrierref16_Given))) := rfl
def zcp (a0 : Int) (a1 : List (List UInt8)) : Option ((List Ttowncrierref16_Given)) :=
 Option.bind (zdb a0 a1) fun v1 =>
 Option.bind (α := (List Ttowncrierref16_Given)) (zc4 v1 []) fun l1 =>
 some l1
end Go.Proofs
end
