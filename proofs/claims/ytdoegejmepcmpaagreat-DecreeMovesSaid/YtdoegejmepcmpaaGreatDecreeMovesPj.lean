/- Texts of the proof. -/
import Derived.Test.YtdoegejmepcmpaaGreatDecreeMovesPg
import Derived.Test.YtdoegejmepcmpaaGreatDecreeMovesPh
import Derived.Test.YtdoegejmepcmpaaGreatDecreeMovesPi
namespace Go.Proofs
open Go.Tm
set_option linter.unusedVariables false
def zhc (a0 : TVote) : Option Int :=
 Option.bind (if ¬ (a0.Promised = 0) then zcw a0.Promised else some default) fun v1 =>
 Option.bind (α := Bool) (if a0.Ballot = 0 then
 some (((a0.Promised == 0) || (v1 == 0)) && (a0.Value == []))
 else
 Option.bind (if (a0.Promised = 0) \/ (v1 = 0) then zcw a0.Ballot else some default) fun v2 =>
 some (((((a0.Promised == 0) || (v1 == 0)) && (v2 == 0)) && (decide (a0.Ballot <= a0.Promised))) && (decide ((a0.Value.length : Int) <= 1024)))) fun b1 =>
 if ¬ (b1 = true) then
 some 8
 else
 some 0
def zhb (a0 : TVote) (a1 : Int) (a2 : List UInt8) : Option Int :=
 Option.bind (zhc a0) fun v1 =>
 if ¬ (v1 = 0) then
 some v1
 else
 Option.bind (zcw a1) fun v2 =>
 if ¬ (v2 = 0) then
 some v2
 else
 if (a2.length : Int) > 1024 then
 some 3
 else
 if a1 < a0.Promised then
 some 70
 else
 some 0
def zf0 (a0 : TVote) (a1 : Int) : Option (TVote × Int) :=
 Option.bind (zhb a0 a1 []) fun v1 =>
 if ¬ (v1 = 0) then
 some ((⟨0, 0, []⟩ : TVote), v1)
 else
 some ((⟨a1, a0.Ballot, a0.Value⟩ : TVote), 0)
def zff (a0 : TVote) (a1 : Int) (a2 : List UInt8) : Option (TVote × Int) :=
 Option.bind (zhb a0 a1 a2) fun v1 =>
 if ¬ (v1 = 0) then
 some ((⟨0, 0, []⟩ : TVote), v1)
 else
 some ((⟨a1, a1, a2⟩ : TVote), 0)
def zex (a0 : Int) (a1 : Int) : Option (Int × Int) :=
 Option.bind (zg5 a1) fun v1 =>
 if ((¬ (v1 = true)) \/ (a0 < 0)) \/ (a0 > 8388613) then
 some (0, 2)
 else
 Option.bind (α := Int) (if ((wr .i64 ((wr .i64 ((wr .i64 (a0.tdiv 8)) * 8)) + a1)) <= a0) \/ ((wr .i64 ((wr .i64 ((wr .i64 (a0.tdiv 8)) * 8)) + a1)) < 8) then
 some (wr .i64 ((wr .i64 ((wr .i64 ((wr .i64 (a0.tdiv 8)) * 8)) + a1)) + 8))
 else
 some (wr .i64 ((wr .i64 ((wr .i64 (a0.tdiv 8)) * 8)) + a1))) fun n1 =>
 if n1 > 8388613 then
 some (0, 9)
 else
 some (n1, 0)
def zev (a0 : Int) : Option Bool :=
 some ((decide (a0 >= 0)) && (decide (a0 < 6)))
def zhp (a0 : TMail) : Option Bool :=
 Option.bind (zev a0.From) fun v1 =>
 Option.bind (if v1 = true then zev a0.To else some default) fun v2 =>
 Option.bind (if (((v1 = true) /\ (v2 = true)) /\ (a0.Kind >= 1)) /\ (a0.Kind <= 5) then zcw a0.Ballot else some default) fun v3 =>
 some ((((((((((v1 && v2) && (decide (a0.Kind >= 1))) && (decide (a0.Kind <= 5))) && (v3 == 0)) && (decide (a0.Prior >= 0))) && (decide ((a0.Value.length : Int) <= 1024))) && (a0.Group == 0)) && (a0.Slot == 0)) && (a0.Id == 0)) && (a0.Time == 0))
def zcl (a0 : TWorld) : List TAttempt -> Nat -> Bool -> Option (Bool)
 | [], n1, b2 =>
  some b2
 | y1 :: rest1, n1, b2 =>
  Option.bind (α := Bool) (if (b2 = true) -> n1 < a0.Votes.length then
  Option.bind (if b2 = true then zhc (a0.Votes.getD n1 default) else some default) fun v2 =>
  Option.bind (if (b2 = true) /\ (v2 = 0) then zf6 (y1) else some default) fun v3 =>
  if ¬ (y1.Phase = 0) then
  Option.bind (zh8 (y1.Ballot)) fun v4 =>
  Option.bind (if (((b2 = true) /\ (v2 = 0)) /\ (v3 = 0)) /\ (v4.2.1 = (n1 : Int)) then zbr (y1.Members) a0.Members else some default) fun v5 =>
  some ((((b2 && (v2 == 0)) && (v3 == 0)) && (v4.2.1 == (n1 : Int))) && v5)
  else
  some ((b2 && (v2 == 0)) && (v3 == 0))
  else none) fun b3 =>
  zcl a0 rest1 (n1 + 1) b3
def zck : List TMail -> Bool -> Option (Bool)
 | [], b5 =>
  some b5
 | y2 :: rest2, b5 =>
  Option.bind (if b5 = true then zhp (y2) else some default) fun v6 =>
  zck rest2 (b5 && v6)
def zd4 : List TChoice -> Bool -> Option (Bool)
 | [], b7 =>
  some b7
 | y3 :: rest3, b7 =>
  Option.bind (if b7 = true then zev (y3.Node) else some default) fun v7 =>
  zd4 rest3 ((b7 && v7) && (decide (((y3.Value).length : Int) <= 1024)))
theorem zi0 (b7 : Bool) : zd4 [] b7 =
  (some b7 : Option (Bool)) := rfl
theorem zi1 (y3 : TChoice) (rest3 : List TChoice) (b7 : Bool) : zd4 (y3 :: rest3) b7 =
  (Option.bind (if b7 = true then zev (y3.Node) else some default) fun v7 =>
  zd4 rest3 ((b7 && v7) && (decide (((y3.Value).length : Int) <= 1024))) : Option (Bool)) := rfl
def zf1 (a0 : TWorld) : Option Int :=
 Option.bind (zcv a0.Members) fun v1 =>
 if ¬ (((((v1 = 0) /\ ((a0.Votes.length : Int) = 6)) /\ ((a0.Tries.length : Int) = 6)) /\ ((a0.Mail.length : Int) <= 1000)) /\ ((a0.Chosen.length : Int) <= 1000)) then
 some 8
 else
 Option.bind (α := Bool) (zcl a0 a0.Tries 0 (((((v1 == 0) && ((a0.Votes.length : Int) == 6)) && ((a0.Tries.length : Int) == 6)) && (decide ((a0.Mail.length : Int) <= 1000))) && (decide ((a0.Chosen.length : Int) <= 1000)))) fun b1 =>
 Option.bind (α := Bool) (zck a0.Mail b1) fun b4 =>
 Option.bind (α := Bool) (zd4 a0.Chosen b4) fun b6 =>
 if ¬ (b6 = true) then
 some 8
 else
 some 0
def zdp (a0 : List TVote) : Option ((List TVote)) :=
 if a0.length * 32 <= 140737488355328 then
 some a0
 else none
def zdq (a0 : List TMail) : Option ((List TMail)) :=
 if a0.length * 88 <= 140737488355328 then
 some a0
 else none
def zcq (a0 : List TChoice) : Option ((List TChoice)) :=
 if a0.length * 24 <= 140737488355328 then
 some a0
 else none
def zca (a0 : List TAttempt) : Option ((List TAttempt)) :=
 if a0.length * 120 <= 140737488355328 then
 some a0
 else none
def zbp (v5 : (List TAttempt)) : Nat -> (List TAttempt) -> Int -> Option ((List TAttempt))
 | 0, _, _ => none
 | fu1 + 1, l2, n1 =>
  if n1 < (v5.length : Int) then
  if (0 <= n1 /\ n1 < (l2.length : Int)) then
  Option.bind (zf2 (l2.getD n1.toNat default)) fun v6 =>
  if (0 <= n1 /\ n1 < (l2.length : Int)) then
  if l2.length < 1000000 then
  zbp v5 fu1 (l2.set n1.toNat v6) (wr .i64 (n1 + 1))
  else none
  else none
  else none
  else
  if l2.length <= n1.toNat then
  some l2
  else none
def zew (a0 : TWorld) : Option TWorld :=
 Option.bind (zaw a0.Members) fun v1 =>
 Option.bind (zdp a0.Votes) fun v2 =>
 Option.bind (zdq a0.Mail) fun v3 =>
 Option.bind (zcq a0.Chosen) fun v4 =>
 Option.bind (zca a0.Tries) fun v5 =>
 Option.bind (α := (List TAttempt)) (zbp v5 (a0.Tries.length + 1) v5 0) fun l1 =>
 some (⟨v1, v2, l1, v3, v4⟩ : TWorld)
def zbi (a0 : Tdecree_world) (a1 : TMail) : Nat -> (List TMail) -> Int -> Int -> Option (Tdecree_world)
 | 0, _, _, _ => none
 | fu1 + 1, l1, n1, n2 =>
  if n2 < (a0.World.Members.length : Int) then
  Option.bind (α := (List TMail)) (if (0 <= n2 /\ n2 < (a0.World.Members.length : Int)) then
  if ¬ ((a0.World.Members.getD n2.toNat default) = a1.From) then
  if l1.length + [(⟨a1.From, (a0.World.Members.getD n2.toNat default), a1.Kind, a1.Group, a1.Slot, a1.Ballot, a1.Prior, a1.Value, a1.Id, a1.Time⟩ : TMail)].length < 1000000 then
  some (l1 ++ [(⟨a1.From, (a0.World.Members.getD n2.toNat default), a1.Kind, a1.Group, a1.Slot, a1.Ballot, a1.Prior, a1.Value, a1.Id, a1.Time⟩ : TMail)])
  else none
  else
  some l1
  else none) fun l2 =>
  zbi a0 a1 fu1 l2 (a0.World.Members.getD n2.toNat default) (wr .i64 (n2 + 1))
  else
  some (⟨(⟨a0.World.Members, a0.World.Votes, a0.World.Tries, l1, a0.World.Chosen⟩ : TWorld)⟩ : Tdecree_world)
def zea (a0 : Tdecree_world) (a1 : TMail) : Option Tdecree_world :=
 zbi a0 a1 (a0.World.Members.length + 1) a0.World.Mail a1.To 0
def zd3 (a0 : Tdecree_world) (a1 : Int) (a2 : Int) (a3 : Int) : Option Tdecree_world :=
 if (0 <= a1 /\ a1 < (a0.World.Tries.length : Int)) then
 Option.bind (zdx (a0.World.Tries.getD a1.toNat default) a2 a3) fun v1 =>
 if ¬ (v1.2 = 0) then
 some a0
 else
 Option.bind (α := (List TChoice)) (if (v1.1.Phase = 3) -> (0 <= a1 /\ a1 < (a0.World.Tries.length : Int)) then
 if (v1.1.Phase = 3) /\ (¬ ((a0.World.Tries.getD a1.toNat default).Phase = 3)) then
 if a0.World.Chosen.length + [(⟨a1, v1.1.Value⟩ : TChoice)].length < 1000000 then
 some (a0.World.Chosen ++ [(⟨a1, v1.1.Value⟩ : TChoice)])
 else none
 else
 some a0.World.Chosen
 else none) fun l1 =>
 if (0 <= a1 /\ a1 < (a0.World.Tries.length : Int)) then
 some (⟨(⟨a0.World.Members, a0.World.Votes, (a0.World.Tries.set a1.toNat v1.1), a0.World.Mail, l1⟩ : TWorld)⟩ : Tdecree_world)
 else none
 else none
def zd0 (a0 : Tdecree_world) (a1 : Int) (a2 : Int) (a3 : TPromise) : Option Tdecree_world :=
 if (0 <= a1 /\ a1 < (a0.World.Tries.length : Int)) then
 Option.bind (zdw (a0.World.Tries.getD a1.toNat default) a2 a3) fun v1 =>
 if ¬ (v1.2 = 0) then
 some a0
 else
 if (0 <= a1 /\ a1 < (a0.World.Tries.length : Int)) then
 if v1.1.Phase = 1 then
 some (⟨(⟨a0.World.Members, a0.World.Votes, (a0.World.Tries.set a1.toNat v1.1), a0.World.Mail, a0.World.Chosen⟩ : TWorld)⟩ : Tdecree_world)
 else
 Option.bind (zea (⟨(⟨a0.World.Members, a0.World.Votes, (a0.World.Tries.set a1.toNat v1.1), a0.World.Mail, a0.World.Chosen⟩ : TWorld)⟩ : Tdecree_world) (⟨a1, 0, 3, 0, 0, a2, 0, v1.1.Value, 0, 0⟩ : TMail)) fun v2 =>
 Option.bind (zfg v2.World.Members a1) fun v3 =>
 if ¬ (v3 = true) then
 some v2
 else
 if (0 <= a1 /\ a1 < (v2.World.Votes.length : Int)) then
 Option.bind (zff (v2.World.Votes.getD a1.toNat default) a2 v1.1.Value) fun v4 =>
 if v4.2 = 0 then
 if (0 <= a1 /\ a1 < (v2.World.Votes.length : Int)) then
 Option.bind (zd3 (⟨(⟨v2.World.Members, (v2.World.Votes.set a1.toNat v4.1), v2.World.Tries, v2.World.Mail, v2.World.Chosen⟩ : TWorld)⟩ : Tdecree_world) a1 a2 a1) fun v5 =>
 some v5
 else none
 else
 some v2
 else none
 else none
 else none
def zep (a0 : Tdecree_world) (a1 : Int) (a2 : List UInt8) : Option (Int × Tdecree_world) :=
 if (0 <= a1 /\ a1 < (a0.World.Votes.length : Int)) then
 Option.bind (zex ((a0.World.Votes.getD a1.toNat default).Promised) a1) fun v1 =>
 if ¬ (v1.2 = 0) then
 some (v1.2, a0)
 else
 Option.bind (zf0 (a0.World.Votes.getD a1.toNat default) v1.1) fun v2 =>
 if (0 <= a1 /\ a1 < (a0.World.Votes.length : Int)) then
 if ¬ (v2.2 = 0) then
 some (v2.2, (⟨(⟨a0.World.Members, (a0.World.Votes.set a1.toNat v2.1), a0.World.Tries, a0.World.Mail, a0.World.Chosen⟩ : TWorld)⟩ : Tdecree_world))
 else
 Option.bind (zft a0.World.Members v1.1 a2) fun v3 =>
 if (0 <= a1 /\ a1 < (a0.World.Tries.length : Int)) then
 if ¬ (v3.2 = 0) then
 some (v3.2, (⟨(⟨a0.World.Members, (a0.World.Votes.set a1.toNat v2.1), (a0.World.Tries.set a1.toNat v3.1), a0.World.Mail, a0.World.Chosen⟩ : TWorld)⟩ : Tdecree_world))
 else
 Option.bind (zea (⟨(⟨a0.World.Members, (a0.World.Votes.set a1.toNat v2.1), (a0.World.Tries.set a1.toNat v3.1), a0.World.Mail, a0.World.Chosen⟩ : TWorld)⟩ : Tdecree_world) (⟨a1, 0, 1, 0, 0, v1.1, 0, [], 0, 0⟩ : TMail)) fun v4 =>
 Option.bind (zd0 v4 a1 v1.1 (⟨a1, (a0.World.Votes.getD a1.toNat default).Ballot, (a0.World.Votes.getD a1.toNat default).Value⟩ : TPromise)) fun v5 =>
 some (0, v5)
 else none
 else none
 else none
def zf5 (a0 : Tdecree_world) (a1 : TMail) : Option Tdecree_world :=
 if (0 <= a1.To /\ a1.To < (a0.World.Votes.length : Int)) then
 Option.bind (α := Tdecree_world ⊕ (Int × Int × (List UInt8) × Int × Int × (List UInt8) × Int)) (if a1.Kind = 2 then
 Option.bind (zd0 a0 a1.To a1.Ballot (⟨a1.From, a1.Prior, a1.Value⟩ : TPromise)) fun v1 =>
 some (.inl v1)
 else
 if a1.Kind = 4 then
 Option.bind (zd3 a0 a1.To a1.Ballot a1.From) fun v2 =>
 some (.inl v2)
 else
 if a1.Kind = 5 then
 some (.inl a0)
 else
 if a1.Kind = 1 then
 Option.bind (zf0 (a0.World.Votes.getD a1.To.toNat default) a1.Ballot) fun v3 =>
 some (.inr (v3.1.Promised, v3.1.Ballot, v3.1.Value, 2, v3.1.Ballot, v3.1.Value, v3.2))
 else
 if a1.Kind = 3 then
 Option.bind (zff (a0.World.Votes.getD a1.To.toNat default) a1.Ballot a1.Value) fun v4 =>
 some (.inr (v4.1.Promised, v4.1.Ballot, v4.1.Value, 4, 0, [], v4.2))
 else
 some (.inr ((a0.World.Votes.getD a1.To.toNat default).Promised, (a0.World.Votes.getD a1.To.toNat default).Ballot, (a0.World.Votes.getD a1.To.toNat default).Value, 0, 0, [], 0))) fun z => match z with
 | (.inl r) => some r
 | (.inr (n1, n2, s1, n3, n4, s2, n5)) =>
 Option.bind (α := (List TVote) × Int × Int × (List UInt8)) (if ¬ (n5 = 0) then
 if (0 <= a1.To /\ a1.To < (a0.World.Votes.length : Int)) then
 some (a0.World.Votes, 5, (a0.World.Votes.getD a1.To.toNat default).Promised, [])
 else none
 else
 if (0 <= a1.To /\ a1.To < (a0.World.Votes.length : Int)) then
 some ((a0.World.Votes.set a1.To.toNat (⟨n1, n2, s1⟩ : TVote)), n3, n4, s2)
 else none) fun (l1, n6, n7, s3) =>
 if a0.World.Mail.length + [(⟨a1.To, a1.From, n6, 0, 0, a1.Ballot, n7, s3, 0, 0⟩ : TMail)].length < 1000000 then
 some (⟨(⟨a0.World.Members, l1, a0.World.Tries, (a0.World.Mail ++ [(⟨a1.To, a1.From, n6, 0, 0, a1.Ballot, n7, s3, 0, 0⟩ : TMail)]), a0.World.Chosen⟩ : TWorld)⟩ : Tdecree_world)
 else none
 else none
def zgk (a0 : TWorld) (a1 : TMove) : Option (TWorld × Int) :=
 Option.bind (zf1 a0) fun v1 =>
 if ¬ (v1 = 0) then
 some ((⟨[], [], [], [], []⟩ : TWorld), v1)
 else
 Option.bind (zew a0) fun v2 =>
 Option.bind (α := (TWorld × Int) ⊕ ((List Int) × (List TVote) × (List TAttempt) × (List TMail) × (List TChoice))) (Option.bind (α := Bool) (if a1.Kind = 1 then
 some (a1.Kind == 1)
 else
 some (a1.Kind == 5)) fun b1 =>
 if b1 = true then
 Option.bind (zev a1.Node) fun v3 =>
 if ¬ (v3 = true) then
 some (.inl ((⟨[], [], [], [], []⟩ : TWorld), 2))
 else
 if a1.Kind = 5 then
 if (0 <= a1.Node /\ a1.Node < (v2.Tries.length : Int)) then
 some (.inr (v2.Members, v2.Votes, (v2.Tries.set a1.Node.toNat (⟨0, 0, [], [], [], [], []⟩ : TAttempt)), v2.Mail, v2.Chosen))
 else none
 else
 if (a1.Value.length : Int) > 1024 then
 some (.inl ((⟨[], [], [], [], []⟩ : TWorld), 3))
 else
 Option.bind (zep (⟨v2⟩ : Tdecree_world) a1.Node a1.Value) fun v4 =>
 if ¬ (v4.1 = 0) then
 some (.inl ((⟨[], [], [], [], []⟩ : TWorld), v4.1))
 else
 some (.inr (v4.2.World.Members, v4.2.World.Votes, v4.2.World.Tries, v4.2.World.Mail, v4.2.World.Chosen))
 else
 Option.bind (α := Bool) (if a1.Kind = 2 then
 some (a1.Kind == 2)
 else
 if a1.Kind = 3 then
 some (a1.Kind == 3)
 else
 some (a1.Kind == 4)) fun b2 =>
 if b2 = true then
 if (a1.At < 0) \/ (a1.At >= (v2.Mail.length : Int)) then
 some (.inl ((⟨[], [], [], [], []⟩ : TWorld), 6))
 else
 if (0 <= a1.At /\ a1.At < (v2.Mail.length : Int)) then
 Option.bind (α := (List TMail)) (if ¬ (a1.Kind = 3) then
 if 0 <= a1.At /\ a1.At < (v2.Mail.length : Int) then
 if v2.Mail.length < 1000000 then
 some (v2.Mail.eraseIdx a1.At.toNat)
 else none
 else none
 else
 some v2.Mail) fun l6 =>
 if ¬ (a1.Kind = 4) then
 Option.bind (zf5 (⟨(⟨v2.Members, v2.Votes, v2.Tries, l6, v2.Chosen⟩ : TWorld)⟩ : Tdecree_world) (v2.Mail.getD a1.At.toNat default)) fun v5 =>
 some (.inr (v5.World.Members, v5.World.Votes, v5.World.Tries, v5.World.Mail, v5.World.Chosen))
 else
 some (.inr (v2.Members, v2.Votes, v2.Tries, l6, v2.Chosen))
 else none
 else
 some (.inl ((⟨[], [], [], [], []⟩ : TWorld), 2))) fun z => match z with
 | (.inl r) => some r
 | (.inr (l1, l2, l3, l4, l5)) =>
 if ((l4.length : Int) > 1000) \/ ((l5.length : Int) > 1000) then
 some ((⟨[], [], [], [], []⟩ : TWorld), 9)
 else
 some ((⟨l1, l2, l3, l4, l5⟩ : TWorld), 0)
def zbf : List TMail -> Nat -> Int -> Option (Int)
 | [], n3, n2 =>
  some n2
 | y1 :: rest1, n3, n2 =>
  if ((n3 : Int) < 2000) then
  zbf rest1 (n3 + 1) (wr .i64 (n2 + (min ((y1.Value).length : Int) 100000)))
  else
  some n2
theorem zif (n3 : Nat) (n2 : Int) : zbf [] n3 n2 =
  (some n2 : Option (Int)) := rfl
theorem zei (y1 : TMail) (rest1 : List TMail) (n3 : Nat) (n2 : Int) : zbf (y1 :: rest1) n3 n2 =
  (if ((n3 : Int) < 2000) then
  zbf rest1 (n3 + 1) (wr .i64 (n2 + (min ((y1.Value).length : Int) 100000)))
  else
  some n2 : Option (Int)) := rfl
def zbe : List TChoice -> Nat -> Int -> Option (Int)
 | [], n6, n5 =>
  some n5
 | y2 :: rest2, n6, n5 =>
  if ((n6 : Int) < 2000) then
  zbe rest2 (n6 + 1) (wr .i64 (n5 + (min ((y2.Value).length : Int) 100000)))
  else
  some n5
theorem zie (n6 : Nat) (n5 : Int) : zbe [] n6 n5 =
  (some n5 : Option (Int)) := rfl
theorem zeh (y2 : TChoice) (rest2 : List TChoice) (n6 : Nat) (n5 : Int) : zbe (y2 :: rest2) n6 n5 =
  (if ((n6 : Int) < 2000) then
  zbe rest2 (n6 + 1) (wr .i64 (n5 + (min ((y2.Value).length : Int) 100000)))
  else
  some n5 : Option (Int)) := rfl
def zay : List TAttempt -> Nat -> Option (Bool ⊕ Unit)
 | [], n7 =>
  some (.inr ())
 | y3 :: rest3, n7 =>
  if ((n7 : Int) < 20) then
  Option.bind (ze7 (y3)) fun v1 =>
  if v1 = true then
  some (.inl true)
  else
  zay rest3 (n7 + 1) 
  else
  some (.inr ())
def zbd : List TVote -> Nat -> Int -> Option (Int)
 | [], n10, n9 =>
  some n9
 | y4 :: rest4, n10, n9 =>
  if ((n10 : Int) < 20) then
  zbd rest4 (n10 + 1) (wr .i64 (n9 + (min ((y4.Value).length : Int) 100000)))
  else
  some n9
theorem zid (n10 : Nat) (n9 : Int) : zbd [] n10 n9 =
  (some n9 : Option (Int)) := rfl
theorem zeg (y4 : TVote) (rest4 : List TVote) (n10 : Nat) (n9 : Int) : zbd (y4 :: rest4) n10 n9 =
  (if ((n10 : Int) < 20) then
  zbd rest4 (n10 + 1) (wr .i64 (n9 + (min ((y4.Value).length : Int) 100000)))
  else
  some n9 : Option (Int)) := rfl
def zda (a0 : TWorld) : Option Bool :=
 Option.bind (α := Int) (zbf a0.Mail 0 0) fun n1 =>
 Option.bind (α := Int) (zbe a0.Chosen 0 n1) fun n4 =>
 Option.bind (α := Bool ⊕ Unit) (zay a0.Tries 0 ) fun z => match z with
 | (.inl r) => some r
 | (.inr _) =>
 Option.bind (α := Int) (zbd a0.Votes 0 n4) fun n8 =>
 some ((((((decide (n8 > 100000)) || (decide ((a0.Mail.length : Int) > 1100))) || (decide ((a0.Chosen.length : Int) > 1100))) || (decide ((a0.Tries.length : Int) > 10))) || (decide ((a0.Votes.length : Int) > 10))) || (decide ((a0.Members.length : Int) > 100)))
end Go.Proofs
