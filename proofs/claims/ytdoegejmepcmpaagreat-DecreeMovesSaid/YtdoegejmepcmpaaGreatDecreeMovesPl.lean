/- Texts of the proof. -/
import Derived.Test.YtdoegejmepcmpaaGreatDecreeMovesPg
import Derived.Test.YtdoegejmepcmpaaGreatDecreeMovesPh
import Derived.Test.YtdoegejmepcmpaaGreatDecreeMovesPi
import Derived.Test.YtdoegejmepcmpaaGreatDecreeMovesPj
namespace Go.Proofs
open Go.Tm
set_option linter.unusedVariables false
def zch (a0 : TVote) : Option Bool :=
 Option.bind (if ¬ (a0.Promised = 0) then zbc a0.Promised else some default) fun v1 =>
 if (¬ (a0.Promised = 0)) /\ (¬ (v1 = true)) then
 some false
 else
 if a0.Ballot = 0 then
 some (a0.Value == [])
 else
 Option.bind (zbc a0.Ballot) fun v2 =>
 some ((v2 && (decide (a0.Ballot <= a0.Promised))) && (decide ((a0.Value.length : Int) <= 1024)))
def zbh (a0 : Int) : Option Bool :=
 some ((decide (a0 >= 0)) && (decide (a0 < 6)))
def zfa (a0 : Int) : Option Int :=
 Option.bind (zbc a0) fun v1 =>
 if ¬ (v1 = true) then
 some 50
 else
 some 0
def zdm (a0 : Int) (a1 : Int) : Option (Int × Int) :=
 Option.bind (zbh a1) fun v1 =>
 if ((¬ (v1 = true)) \/ (a0 < 0)) \/ (a0 > 8388613) then
 some (0, 2)
 else
 Option.bind (α := Int) (if (a0.tmod 8) >= a1 then
 some (wr .i64 ((wr .i64 (a0.tdiv 8)) + 1))
 else
 some (wr .i64 (a0.tdiv 8))) fun n1 =>
 if (max n1 1) > 1048576 then
 some (0, 9)
 else
 some ((wr .i64 ((wr .i64 ((max n1 1) * 8)) + a1)), 0)
def zdb (a0 : List Int) (a1 : Int) (a2 : List UInt8) : Option (TAttempt × Int) :=
 Option.bind (ze8 a0) fun v1 =>
 Option.bind (α := Int) (if v1 = 0 then
 Option.bind (zfa a1) fun v2 =>
 some v2
 else
 some v1) fun n1 =>
 Option.bind (α := Int) (if (n1 = 0) /\ ((a2.length : Int) > 1024) then
 some 3
 else
 some n1) fun n2 =>
 if ¬ (n2 = 0) then
 some ((⟨0, 0, [], [], [], [], []⟩ : TAttempt), n2)
 else
 if a0.length * 8 <= 140737488355328 then
 some ((⟨1, a1, a0, a2, [], [], []⟩ : TAttempt), 0)
 else none
def zbz (a0 : TMail) : Option Bool :=
 Option.bind (if (a0.From = a0.From) /\ (a0.To = a0.To) /\ (a0.Kind = a0.Kind) /\ (a0.Group = 0) /\ (a0.Slot = 0) /\ (a0.Ballot = a0.Ballot) /\ (a0.Prior = a0.Prior) /\ (a0.Value = a0.Value) /\ (a0.Id = 0) /\ (a0.Time = 0) then zbh a0.From else some default) fun v1 =>
 Option.bind (if ((a0.From = a0.From) /\ (a0.To = a0.To) /\ (a0.Kind = a0.Kind) /\ (a0.Group = 0) /\ (a0.Slot = 0) /\ (a0.Ballot = a0.Ballot) /\ (a0.Prior = a0.Prior) /\ (a0.Value = a0.Value) /\ (a0.Id = 0) /\ (a0.Time = 0)) /\ (v1 = true) then zbh a0.To else some default) fun v2 =>
 Option.bind (if (((((a0.From = a0.From) /\ (a0.To = a0.To) /\ (a0.Kind = a0.Kind) /\ (a0.Group = 0) /\ (a0.Slot = 0) /\ (a0.Ballot = a0.Ballot) /\ (a0.Prior = a0.Prior) /\ (a0.Value = a0.Value) /\ (a0.Id = 0) /\ (a0.Time = 0)) /\ (v1 = true)) /\ (v2 = true)) /\ (a0.Kind >= 1)) /\ (a0.Kind <= 5) then zbc a0.Ballot else some default) fun v3 =>
 some (((((((((a0.From == a0.From) && ((a0.To == a0.To) && ((a0.Kind == a0.Kind) && ((a0.Group == 0) && ((a0.Slot == 0) && ((a0.Ballot == a0.Ballot) && ((a0.Prior == a0.Prior) && ((a0.Value == a0.Value) && ((a0.Id == 0) && ((a0.Time == 0) && true)))))))))) && v1) && v2) && (decide (a0.Kind >= 1))) && (decide (a0.Kind <= 5))) && v3) && (decide (a0.Prior >= 0))) && (decide ((a0.Value.length : Int) <= 1024)))
def zad (a0 : TWorld) : Nat -> Int -> Option (Bool ⊕ Unit)
 | 0, _ => none
 | fu1 + 1, n1 =>
  if n1 < 6 then
  if (0 <= n1 /\ n1 < (a0.Tries.length : Int)) then
  if (0 <= n1 /\ n1 < (a0.Votes.length : Int)) then
  Option.bind (zch (a0.Votes.getD n1.toNat default)) fun v2 =>
  Option.bind (if ¬ (¬ (v2 = true)) then zd2 (a0.Tries.getD n1.toNat default) else some default) fun v3 =>
  Option.bind (if ((¬ ((¬ (v2 = true)) \/ (¬ (v3 = true)))) /\ (¬ ((a0.Tries.getD n1.toNat default).Phase = 0))) /\ (¬ (¬ ((((a0.Tries.getD n1.toNat default).Ballot).tmod 8) = n1))) then zaq ((a0.Tries.getD n1.toNat default).Members) a0.Members else some default) fun v4 =>
  if ((¬ (v2 = true)) \/ (¬ (v3 = true))) \/ ((¬ ((a0.Tries.getD n1.toNat default).Phase = 0)) /\ ((¬ ((((a0.Tries.getD n1.toNat default).Ballot).tmod 8) = n1)) \/ (¬ (v4 = true)))) then
  some (.inl false)
  else
  zad a0 fu1 (wr .i64 (n1 + 1))
  else none
  else none
  else
  some (.inr ())
def zal : List TMail -> Option (Bool ⊕ Unit)
 | [] =>
  some (.inr ())
 | y1 :: rest1 =>
  Option.bind (zbz (y1)) fun v5 =>
  if ¬ (v5 = true) then
  some (.inl false)
  else
  zal rest1 
def zb8 : List TChoice -> Option (Bool ⊕ Unit)
 | [] =>
  some (.inr ())
 | y2 :: rest2 =>
  Option.bind (zbh (y2.Node)) fun v6 =>
  if (¬ (v6 = true)) \/ (((y2.Value).length : Int) > 1024) then
  some (.inl false)
  else
  zb8 rest2 
theorem zes : zb8 [] =
  (some (.inr ()) : Option (Bool ⊕ Unit)) := rfl
theorem zet (y2 : TChoice) (rest2 : List TChoice) : zb8 (y2 :: rest2) =
  (Option.bind (zbh (y2.Node)) fun v6 =>
  if (¬ (v6 = true)) \/ (((y2.Value).length : Int) > 1024) then
  some (.inl false)
  else
  zb8 rest2 : Option (Bool ⊕ Unit)) := rfl
def zcg (a0 : TWorld) : Option Bool :=
 Option.bind (zci a0.Members) fun v1 =>
 if ((((¬ (v1 = true)) \/ (¬ ((a0.Votes.length : Int) = 6))) \/ (¬ ((a0.Tries.length : Int) = 6))) \/ ((a0.Mail.length : Int) > 1000)) \/ ((a0.Chosen.length : Int) > 1000) then
 some false
 else
 Option.bind (α := Bool ⊕ Unit) (zad a0 (7) 0) fun z => match z with
 | (.inl r) => some r
 | (.inr _) =>
 Option.bind (α := Bool ⊕ Unit) (zal a0.Mail ) fun z => match z with
 | (.inl r) => some r
 | (.inr _) =>
 Option.bind (α := Bool ⊕ Unit) (zb8 a0.Chosen ) fun z => match z with
 | (.inl r) => some r
 | (.inr _) =>
 some true
def zah (a0 : TWorld) : Nat -> (List TAttempt) -> Int -> Option ((List TAttempt))
 | 0, _, _ => none
 | fu1 + 1, l2, n1 =>
  if n1 < (a0.Tries.length : Int) then
  if (0 <= n1 /\ n1 < (a0.Tries.length : Int)) then
  Option.bind (zc8 (a0.Tries.getD n1.toNat default)) fun v1 =>
  if l2.length + [v1].length < 1000000 then
  zah a0 fu1 (l2 ++ [v1]) (wr .i64 (n1 + 1))
  else none
  else none
  else
  some l2
def zb1 (a0 : TWorld) : Option TWorld :=
 if a0.Members.length * 8 <= 140737488355328 then
 if a0.Votes.length * 32 <= 140737488355328 then
 if a0.Mail.length * 88 <= 140737488355328 then
 if a0.Chosen.length * 24 <= 140737488355328 then
 Option.bind (α := (List TAttempt)) (zah a0 (a0.Tries.length + 1) [] 0) fun l1 =>
 some (⟨a0.Members, a0.Votes, l1, a0.Mail, a0.Chosen⟩ : TWorld)
 else none
 else none
 else none
 else none
def zbn (a1 : TWorld) : List TVote -> Nat -> Option (Bool ⊕ Unit)
 | [], n1 =>
  some (.inr ())
 | y1 :: rest1, n1 =>
  if n1 < a1.Votes.length then
  if ¬ ((y1.Promised = (a1.Votes.getD n1 default).Promised) /\ (y1.Ballot = (a1.Votes.getD n1 default).Ballot) /\ (y1.Value = (a1.Votes.getD n1 default).Value)) then
  some (.inl false)
  else
  zbn a1 rest1 (n1 + 1) 
  else none
def zbm (a1 : TWorld) : List TAttempt -> Nat -> Option (Bool ⊕ Unit)
 | [], n2 =>
  some (.inr ())
 | y2 :: rest2, n2 =>
  if n2 < a1.Tries.length then
  Option.bind (zej (y2) (a1.Tries.getD n2 default)) fun v2 =>
  if ¬ (v2 = true) then
  some (.inl false)
  else
  zbm a1 rest2 (n2 + 1) 
  else none
def zbl (a1 : TWorld) : List TMail -> Nat -> Option (Bool ⊕ Unit)
 | [], n3 =>
  some (.inr ())
 | y3 :: rest3, n3 =>
  if n3 < a1.Mail.length then
  if ¬ ((y3.From = (a1.Mail.getD n3 default).From) /\ (y3.To = (a1.Mail.getD n3 default).To) /\ (y3.Kind = (a1.Mail.getD n3 default).Kind) /\ (y3.Group = (a1.Mail.getD n3 default).Group) /\ (y3.Slot = (a1.Mail.getD n3 default).Slot) /\ (y3.Ballot = (a1.Mail.getD n3 default).Ballot) /\ (y3.Prior = (a1.Mail.getD n3 default).Prior) /\ (y3.Value = (a1.Mail.getD n3 default).Value) /\ (y3.Id = (a1.Mail.getD n3 default).Id) /\ (y3.Time = (a1.Mail.getD n3 default).Time)) then
  some (.inl false)
  else
  zbl a1 rest3 (n3 + 1) 
  else none
def zbk (a1 : TWorld) : List TChoice -> Nat -> Option (Bool ⊕ Unit)
 | [], n4 =>
  some (.inr ())
 | y4 :: rest4, n4 =>
  if n4 < a1.Chosen.length then
  if ¬ ((y4.Node = (a1.Chosen.getD n4 default).Node) /\ (y4.Value = (a1.Chosen.getD n4 default).Value)) then
  some (.inl false)
  else
  zbk a1 rest4 (n4 + 1) 
  else none
def zc7 (a0 : TWorld) (a1 : TWorld) : Option Bool :=
 Option.bind (zaq a0.Members a1.Members) fun v1 =>
 if ((((¬ (v1 = true)) \/ (¬ ((a0.Votes.length : Int) = (a1.Votes.length : Int)))) \/ (¬ ((a0.Tries.length : Int) = (a1.Tries.length : Int)))) \/ (¬ ((a0.Mail.length : Int) = (a1.Mail.length : Int)))) \/ (¬ ((a0.Chosen.length : Int) = (a1.Chosen.length : Int))) then
 some false
 else
 Option.bind (α := Bool ⊕ Unit) (zbn a1 a0.Votes 0 ) fun z => match z with
 | (.inl r) => some r
 | (.inr _) =>
 Option.bind (α := Bool ⊕ Unit) (zbm a1 a0.Tries 0 ) fun z => match z with
 | (.inl r) => some r
 | (.inr _) =>
 Option.bind (α := Bool ⊕ Unit) (zbl a1 a0.Mail 0 ) fun z => match z with
 | (.inl r) => some r
 | (.inr _) =>
 Option.bind (α := Bool ⊕ Unit) (zbk a1 a0.Chosen 0 ) fun z => match z with
 | (.inl r) => some r
 | (.inr _) =>
 some true
def zat (a0 : TWorld) (a1 : TMail) : Nat -> (List TMail) -> Int -> Int -> Option (TWorld)
 | 0, _, _, _ => none
 | fu1 + 1, l1, n1, n2 =>
  if n2 < (a0.Members.length : Int) then
  Option.bind (α := (List TMail) × Int) (if (0 <= n2 /\ n2 < (a0.Members.length : Int)) then
  if ¬ ((a0.Members.getD n2.toNat default) = a1.From) then
  if (0 <= n2 /\ n2 < (a0.Members.length : Int)) then
  if l1.length + [(⟨a1.From, (a0.Members.getD n2.toNat default), a1.Kind, a1.Group, a1.Slot, a1.Ballot, a1.Prior, a1.Value, a1.Id, a1.Time⟩ : TMail)].length < 1000000 then
  some ((l1 ++ [(⟨a1.From, (a0.Members.getD n2.toNat default), a1.Kind, a1.Group, a1.Slot, a1.Ballot, a1.Prior, a1.Value, a1.Id, a1.Time⟩ : TMail)]), (a0.Members.getD n2.toNat default))
  else none
  else none
  else
  some (l1, n1)
  else none) fun (l2, n3) =>
  zat a0 a1 fu1 l2 n3 (wr .i64 (n2 + 1))
  else
  some (⟨a0.Members, a0.Votes, a0.Tries, l1, a0.Chosen⟩ : TWorld)
def zcx (a0 : TWorld) (a1 : TMail) : Option TWorld :=
 zat a0 a1 (a0.Members.length + 1) a0.Mail a1.To 0
def zd9 (a0 : TWorld) (a1 : Int) (a2 : Int) : Option TWorld :=
 if (¬ (a2 = 3)) -> (0 <= a1 /\ a1 < (a0.Tries.length : Int)) then
 if (¬ (a2 = 3)) /\ ((a0.Tries.getD a1.toNat default).Phase = 3) then
 if (0 <= a1 /\ a1 < (a0.Tries.length : Int)) then
 if a0.Chosen.length + [(⟨a1, (a0.Tries.getD a1.toNat default).Value⟩ : TChoice)].length < 1000000 then
 some (⟨a0.Members, a0.Votes, a0.Tries, a0.Mail, (a0.Chosen ++ [(⟨a1, (a0.Tries.getD a1.toNat default).Value⟩ : TChoice)])⟩ : TWorld)
 else none
 else none
 else
 some a0
 else none
def zdc (a0 : TVote) (a1 : Int) : Option Int :=
 Option.bind (zch a0) fun v1 =>
 if ¬ (v1 = true) then
 some 8
 else
 Option.bind (zbc a1) fun v2 =>
 if ¬ (v2 = true) then
 some 50
 else
 some 0
def zcs (a0 : TVote) (a1 : Int) : Option (TVote × Int) :=
 Option.bind (zdc a0 a1) fun v1 =>
 if ¬ (v1 = 0) then
 some ((⟨0, 0, []⟩ : TVote), v1)
 else
 if a1 < a0.Promised then
 some ((⟨0, 0, []⟩ : TVote), 70)
 else
 some ((⟨a1, a0.Ballot, a0.Value⟩ : TVote), 0)
def zcz (a0 : TVote) (a1 : Int) (a2 : List UInt8) : Option (TVote × Int) :=
 Option.bind (zdc a0 a1) fun v1 =>
 if ¬ (v1 = 0) then
 some ((⟨0, 0, []⟩ : TVote), v1)
 else
 if (a2.length : Int) > 1024 then
 some ((⟨0, 0, []⟩ : TVote), 3)
 else
 if a1 < a0.Promised then
 some ((⟨0, 0, []⟩ : TVote), 70)
 else
 some ((⟨a1, a1, a2⟩ : TVote), 0)
def zd8 (a0 : TWorld) (a1 : Int) (a2 : Int) (a3 : TPromise) : Option TWorld :=
 if (0 <= a1 /\ a1 < (a0.Tries.length : Int)) then
 Option.bind (zcf (a0.Tries.getD a1.toNat default) a2 a3) fun v1 =>
 if ¬ (v1.2 = 0) then
 some a0
 else
 if (0 <= a1 /\ a1 < (a0.Tries.length : Int)) then
 if ¬ (v1.1.Phase = 2) then
 some (⟨a0.Members, a0.Votes, (a0.Tries.set a1.toNat v1.1), a0.Mail, a0.Chosen⟩ : TWorld)
 else
 Option.bind (zcx (⟨a0.Members, a0.Votes, (a0.Tries.set a1.toNat v1.1), a0.Mail, a0.Chosen⟩ : TWorld) (⟨a1, 0, 3, 0, 0, v1.1.Ballot, 0, v1.1.Value, 0, 0⟩ : TMail)) fun v2 =>
 Option.bind (zbb v2.Members a1) fun v3 =>
 if ¬ (v3 = true) then
 some v2
 else
 if (0 <= a1 /\ a1 < (v2.Votes.length : Int)) then
 Option.bind (zcz (v2.Votes.getD a1.toNat default) v1.1.Ballot v1.1.Value) fun v4 =>
 if ¬ (v4.2 = 0) then
 some v2
 else
 if (0 <= a1 /\ a1 < (v2.Votes.length : Int)) then
 Option.bind (zbv v1.1 v1.1.Ballot a1) fun v5 =>
 if (0 <= a1 /\ a1 < (v2.Tries.length : Int)) then
 Option.bind (zd9 (⟨v2.Members, (v2.Votes.set a1.toNat v4.1), (v2.Tries.set a1.toNat v5.1), v2.Mail, v2.Chosen⟩ : TWorld) a1 v1.1.Phase) fun v6 =>
 some v6
 else none
 else none
 else none
 else none
 else none
def zdt (a0 : TWorld) (a1 : Int) (a2 : List UInt8) : Option (Int × TWorld) :=
 if (0 <= a1 /\ a1 < (a0.Votes.length : Int)) then
 Option.bind (zdm ((a0.Votes.getD a1.toNat default).Promised) a1) fun v1 =>
 if ¬ (v1.2 = 0) then
 some (v1.2, a0)
 else
 Option.bind (zcs (a0.Votes.getD a1.toNat default) v1.1) fun v2 =>
 Option.bind (zdb a0.Members v1.1 a2) fun v3 =>
 if (0 <= a1 /\ a1 < (a0.Votes.length : Int)) then
 if (0 <= a1 /\ a1 < (a0.Tries.length : Int)) then
 Option.bind (zcx (⟨a0.Members, (a0.Votes.set a1.toNat v2.1), (a0.Tries.set a1.toNat v3.1), a0.Mail, a0.Chosen⟩ : TWorld) (⟨a1, 0, 1, 0, 0, v1.1, 0, [], 0, 0⟩ : TMail)) fun v4 =>
 Option.bind (zd8 v4 a1 v1.1 (⟨a1, (a0.Votes.getD a1.toNat default).Ballot, (a0.Votes.getD a1.toNat default).Value⟩ : TPromise)) fun v5 =>
 some (0, v5)
 else none
 else none
 else none
def ze6 (a0 : TWorld) (a1 : TMail) : Option TWorld :=
 if (0 <= a1.To /\ a1.To < (a0.Votes.length : Int)) then
 Option.bind (α := Bool) (if a1.Kind = 1 then
 some (a1.Kind == 1)
 else
 some (a1.Kind == 3)) fun b1 =>
 if b1 = true then
 Option.bind (zcs (a0.Votes.getD a1.To.toNat default) a1.Ballot) fun v1 =>
 Option.bind (α := Int × Int × (List UInt8) × Int × Int × (List UInt8) × Int) (if a1.Kind = 3 then
 Option.bind (zcz (a0.Votes.getD a1.To.toNat default) a1.Ballot a1.Value) fun v2 =>
 some (4, 0, [], v2.1.Promised, v2.1.Ballot, v2.1.Value, v2.2)
 else
 some (2, (a0.Votes.getD a1.To.toNat default).Ballot, (a0.Votes.getD a1.To.toNat default).Value, v1.1.Promised, v1.1.Ballot, v1.1.Value, v1.2)) fun (n1, n2, s1, n3, n4, s2, n5) =>
 Option.bind (α := Int × Int × (List UInt8) × Int × Int × (List UInt8)) (if n5 = 70 then
 some (5, (a0.Votes.getD a1.To.toNat default).Promised, [], (a0.Votes.getD a1.To.toNat default).Promised, (a0.Votes.getD a1.To.toNat default).Ballot, (a0.Votes.getD a1.To.toNat default).Value)
 else
 some (n1, n2, s1, n3, n4, s2)) fun (n6, n7, s3, n8, n9, s4) =>
 if (0 <= a1.To /\ a1.To < (a0.Votes.length : Int)) then
 if a0.Mail.length + [(⟨a1.To, a1.From, n6, 0, 0, a1.Ballot, n7, s3, 0, 0⟩ : TMail)].length < 1000000 then
 some (⟨a0.Members, (a0.Votes.set a1.To.toNat (⟨n8, n9, s4⟩ : TVote)), a0.Tries, (a0.Mail ++ [(⟨a1.To, a1.From, n6, 0, 0, a1.Ballot, n7, s3, 0, 0⟩ : TMail)]), a0.Chosen⟩ : TWorld)
 else none
 else none
 else
 if a1.Kind = 2 then
 Option.bind (zd8 a0 a1.To a1.Ballot (⟨a1.From, a1.Prior, a1.Value⟩ : TPromise)) fun v3 =>
 some v3
 else
 if a1.Kind = 4 then
 if (0 <= a1.To /\ a1.To < (a0.Tries.length : Int)) then
 Option.bind (zbv (a0.Tries.getD a1.To.toNat default) a1.Ballot a1.From) fun v4 =>
 if v4.2 = 0 then
 if (0 <= a1.To /\ a1.To < (a0.Tries.length : Int)) then
 if (0 <= a1.To /\ a1.To < (a0.Tries.length : Int)) then
 Option.bind (zd9 (⟨a0.Members, a0.Votes, (a0.Tries.set a1.To.toNat v4.1), a0.Mail, a0.Chosen⟩ : TWorld) a1.To ((a0.Tries.getD a1.To.toNat default).Phase)) fun v5 =>
 some v5
 else none
 else none
 else
 some a0
 else none
 else
 some a0
 else none
def zct (a0 : TWorld) (a1 : TMove) : Option (TWorld × Int) :=
 Option.bind (zcg a0) fun v1 =>
 if ¬ (v1 = true) then
 some ((⟨[], [], [], [], []⟩ : TWorld), 8)
 else
 if (a1.Kind < 1) \/ (a1.Kind > 5) then
 some ((⟨[], [], [], [], []⟩ : TWorld), 2)
 else
 Option.bind (zb1 a0) fun v2 =>
 Option.bind (α := (TWorld × Int) ⊕ ((List Int) × (List TVote) × (List TAttempt) × (List TMail) × (List TChoice))) (if (a1.Kind = 1) \/ (a1.Kind = 5) then
 Option.bind (zbh a1.Node) fun v3 =>
 if ¬ (v3 = true) then
 some (.inl ((⟨[], [], [], [], []⟩ : TWorld), 2))
 else
 if a1.Kind = 5 then
 if (0 <= a1.Node /\ a1.Node < (v2.Tries.length : Int)) then
 some (.inl ((⟨v2.Members, v2.Votes, (v2.Tries.set a1.Node.toNat (⟨0, 0, [], [], [], [], []⟩ : TAttempt)), v2.Mail, v2.Chosen⟩ : TWorld), 0))
 else none
 else
 if (a1.Value.length : Int) > 1024 then
 some (.inl ((⟨[], [], [], [], []⟩ : TWorld), 3))
 else
 Option.bind (zdt v2 a1.Node a1.Value) fun v4 =>
 if ¬ (v4.1 = 0) then
 some (.inl ((⟨[], [], [], [], []⟩ : TWorld), v4.1))
 else
 some (.inr (v4.2.Members, v4.2.Votes, v4.2.Tries, v4.2.Mail, v4.2.Chosen))
 else
 if (a1.At < 0) \/ (a1.At >= (a0.Mail.length : Int)) then
 some (.inl ((⟨[], [], [], [], []⟩ : TWorld), 6))
 else
 Option.bind (α := (List TMail)) (if ¬ (a1.Kind = 3) then
 if (0 <= a1.At /\ a1.At <= (v2.Mail.length : Int)) then
 if (0 <= (wr .i64 (a1.At + 1)) /\ (wr .i64 (a1.At + 1)) <= (a0.Mail.length : Int)) then
 if (v2.Mail.take a1.At.toNat).length + (a0.Mail.drop (wr .i64 (a1.At + 1)).toNat).length < 1000000 then
 some ((v2.Mail.take a1.At.toNat) ++ (a0.Mail.drop (wr .i64 (a1.At + 1)).toNat))
 else none
 else none
 else none
 else
 some v2.Mail) fun l6 =>
 if ¬ (a1.Kind = 4) then
 if (0 <= a1.At /\ a1.At < (a0.Mail.length : Int)) then
 Option.bind (ze6 (⟨v2.Members, v2.Votes, v2.Tries, l6, v2.Chosen⟩ : TWorld) (a0.Mail.getD a1.At.toNat default)) fun v5 =>
 some (.inr (v5.Members, v5.Votes, v5.Tries, v5.Mail, v5.Chosen))
 else none
 else
 some (.inr (v2.Members, v2.Votes, v2.Tries, l6, v2.Chosen))) fun z => match z with
 | (.inl r) => some r
 | (.inr (l1, l2, l3, l4, l5)) =>
 if ((l4.length : Int) > 1000) \/ ((l5.length : Int) > 1000) then
 some ((⟨[], [], [], [], []⟩ : TWorld), 9)
 else
 some ((⟨l1, l2, l3, l4, l5⟩ : TWorld), 0)
end Go.Proofs
