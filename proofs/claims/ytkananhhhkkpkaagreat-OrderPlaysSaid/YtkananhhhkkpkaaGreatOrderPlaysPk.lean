/- Texts of the proof. -/
import Derived.Test.YtkananhhhkkpkaaGreatOrderPlaysPf
import Derived.Test.YtkananhhhkkpkaaGreatOrderPlaysPg
import Derived.Test.YtkananhhhkkpkaaGreatOrderPlaysPh
import Derived.Test.YtkananhhhkkpkaaGreatOrderPlaysPj
namespace Go.Proofs
open Go.Tm
set_option linter.unusedVariables false
def zej (a0 : Int) : Option Bool :=
 some ((decide (a0 >= 0)) && (decide (a0 <= 1099511627776)))
def zaj : List Int -> Nat -> Int -> Int -> Option ((Int × Int × Int) ⊕ Unit)
 | [], n3, n1, n2 =>
  some (.inr ())
 | y1 :: rest1, n3, n1, n2 =>
  if ((n3 : Int) < 6) then
  if y1 < 128 then
  Option.bind (if ¬ (((n3 : Int) > 0) /\ (y1 = 0)) then zej (wr .i64 (n1 + (wr .i64 ((wr .i64 ((y1).tmod 128)) * n2)))) else some default) fun v1 =>
  if (((n3 : Int) > 0) /\ (y1 = 0)) \/ (¬ (v1 = true)) then
  some (.inl (0, 0, 8))
  else
  some (.inl ((wr .i64 (n1 + (wr .i64 ((wr .i64 ((y1).tmod 128)) * n2)))), (wr .i64 ((n3 : Int) + 1)), 0))
  else
  zaj rest1 (n3 + 1) (wr .i64 (n1 + (wr .i64 ((wr .i64 ((y1).tmod 128)) * n2)))) (wr .i64 (n2 * 128))
  else
  some (.inr ())
def zce (a0 : List Int) : Option (Int × Int × Int) :=
 Option.bind (α := (Int × Int × Int) ⊕ Unit) (zaj a0 0 0 1) fun z => match z with
 | (.inl r) => some r
 | (.inr _) =>
 some (0, 0, 8)
def zcm (a0 : List Int) : Option ((List UInt8) × Int × Int) :=
 Option.bind (zce a0) fun v1 =>
 if ((¬ (v1.2.2 = 0)) \/ (v1.1 > 4096)) \/ (v1.1 > (wr .i64 ((a0.length : Int) - v1.2.1))) then
 some ([], 0, 8)
 else
 if (0 <= v1.2.1 /\ v1.2.1 <= (wr .i64 (v1.2.1 + v1.1)) /\ (wr .i64 (v1.2.1 + v1.1)) <= (a0.length : Int)) then
 some ((toBytes ((a0.take (wr .i64 (v1.2.1 + v1.1)).toNat).drop v1.2.1.toNat)), (wr .i64 (v1.2.1 + v1.1)), 0)
 else none
def zb9 (a0 : List Int) (v1 : Int × Int × Int) : Nat -> Int -> (List Int) -> Int -> Option (((List Int) × Int × Int) ⊕ (Int × (List Int)))
 | 0, _, _, _ => none
 | fu1 + 1, n2, l2, n3 =>
  if n3 < v1.1 then
  if (0 <= n2 /\ n2 <= (a0.length : Int)) then
  Option.bind (zce (a0.drop n2.toNat)) fun v2 =>
  if ¬ (v2.2.2 = 0) then
  some (.inl ([], 0, 8))
  else
  if l2.length + [v2.1].length < 1000000 then
  zb9 a0 v1 fu1 (wr .i64 (n2 + v2.2.1)) (l2 ++ [v2.1]) (wr .i64 (n3 + 1))
  else none
  else none
  else
  some (.inr (n2, l2))
def zdc (a0 : List Int) (a1 : Int) : Option ((List Int) × Int × Int) :=
 if (a1 < 0) \/ (a1 > 4096) then
 some ([], 0, 2)
 else
 Option.bind (zce a0) fun v1 =>
 if (¬ (v1.2.2 = 0)) \/ (v1.1 > a1) then
 some ([], 0, 8)
 else
 Option.bind (α := ((List Int) × Int × Int) ⊕ (Int × (List Int))) (zb9 a0 v1 (v1.1.toNat + 1) v1.2.1 [] 0) fun z => match z with
 | (.inl r) => some r
 | (.inr (n1, l1)) =>
 some (l1, n1, 0)
def zax (b : List (List UInt8)) : List (List UInt8) -> Nat -> Option (Bool ⊕ Unit)
 | [], n1 =>
  some (.inr ())
 | y1 :: rest1, n1 =>
  if n1 < b.length then
  if ¬ (y1 = (b.getD n1 default)) then
  some (.inl false)
  else
  zax b rest1 (n1 + 1) 
  else none
def zcu (a : List (List UInt8)) (b : List (List UInt8)) : Option Bool :=
 if ¬ ((a.length : Int) = (b.length : Int)) then
 some false
 else
 Option.bind (α := Bool ⊕ Unit) (zax b a 0 ) fun z => match z with
 | (.inl r) => some r
 | (.inr _) =>
 some true
def zau (a1 : Int) : Nat -> (List Int) -> (List Int) -> Int -> Option (((List Int) × (List Int) × Bool) ⊕ ((List Int) × (List Int)))
 | 0, _, _, _ => none
 | fu1 + 1, l3, l4, n1 =>
  if n1 < a1 then
  Option.bind (zce l3) fun v1 =>
  if ¬ (v1.2.2 = 0) then
  some (.inl ([], [], false))
  else
  if l4.length + [v1.1].length < 1000000 then
  if (0 <= v1.2.1 /\ v1.2.1 <= (l3.length : Int)) then
  zau a1 fu1 (l3.drop v1.2.1.toNat) (l4 ++ [v1.1]) (wr .i64 (n1 + 1))
  else none
  else none
  else
  some (.inr (l3, l4))
def zad (a0 : List Int) (a1 : Int) : Option ((List Int) × (List Int) × Bool) :=
 Option.bind (α := ((List Int) × (List Int) × Bool) ⊕ ((List Int) × (List Int))) (zau a1 (a1.toNat + 1) a0 [] 0) fun z => match z with
 | (.inl r) => some r
 | (.inr (l1, l2)) =>
 some (l2, l1, true)
def zdb (a0 : List Int) (a1 : Int) : Option ((List Int) × (List Int) × Bool) :=
 Option.bind (zdc a0 a1) fun v1 =>
 if ¬ (v1.2.2 = 0) then
 some ([], [], false)
 else
 if (0 <= v1.2.1 /\ v1.2.1 <= (a0.length : Int)) then
 some (v1.1, (a0.drop v1.2.1.toNat), true)
 else none
def zdt (a0 : List Int) : Option ((List UInt8) × (List UInt8) × (List Int) × Bool) :=
 Option.bind (zcm a0) fun v1 =>
 if ¬ (v1.2.2 = 0) then
 some ([], [], [], false)
 else
 if (0 <= v1.2.1 /\ v1.2.1 <= (a0.length : Int)) then
 Option.bind (zcm (a0.drop v1.2.1.toNat)) fun v2 =>
 if ¬ (v2.2.2 = 0) then
 some ([], [], [], false)
 else
 if (0 <= (wr .i64 (v1.2.1 + v2.2.1)) /\ (wr .i64 (v1.2.1 + v2.2.1)) <= (a0.length : Int)) then
 some (v1.1, v2.1, (a0.drop (wr .i64 (v1.2.1 + v2.2.1)).toNat), true)
 else none
 else none
def zd2 (a0 : List Int) : Option (TCommand × (List Int) × Bool) :=
 Option.bind (zad a0 1) fun v1 =>
 if (¬ (¬ (v1.2.2 = true))) -> 0 < v1.1.length then
 if (¬ (v1.2.2 = true)) \/ ((v1.1.getD 0 default) > 6) then
 some ((⟨0, (⟨0, [], 0, [], []⟩ : TMessage), 0, 0, [], 0, 0, 0⟩ : TCommand), [], false)
 else
 if 0 < v1.1.length then
 Option.bind (α := (TCommand × (List Int) × Bool) ⊕ ((List Int) × Bool × Int × (List Int) × Int × (List UInt8) × (List UInt8) × Int × Int × (List Int) × Int × Int × Int)) (if (wr .u8 (v1.1.getD 0 default)) = 1 then
 Option.bind (zad v1.2.1 1) fun v2 =>
 if ¬ (v2.2.2 = true) then
 some (.inl ((⟨(wr .u8 (v1.1.getD 0 default)), (⟨0, [], 0, [], []⟩ : TMessage), 0, 0, [], 0, 0, 0⟩ : TCommand), [], false))
 else
 if 0 < v2.1.length then
 Option.bind (zdb v2.2.1 4) fun v3 =>
 if ¬ (v3.2.2 = true) then
 some (.inl ((⟨(wr .u8 (v1.1.getD 0 default)), (⟨(v2.1.getD 0 default), v3.1, 0, [], []⟩ : TMessage), 0, 0, [], 0, 0, 0⟩ : TCommand), [], false))
 else
 Option.bind (zad v3.2.1 1) fun v4 =>
 if ¬ (v4.2.2 = true) then
 some (.inl ((⟨(wr .u8 (v1.1.getD 0 default)), (⟨(v2.1.getD 0 default), v3.1, 0, [], []⟩ : TMessage), 0, 0, [], 0, 0, 0⟩ : TCommand), [], false))
 else
 if 0 < v4.1.length then
 Option.bind (zdt v4.2.1) fun v5 =>
 some (.inr (v5.2.2.1, v5.2.2.2, (v2.1.getD 0 default), v3.1, (v4.1.getD 0 default), v5.1, v5.2.1, 0, 0, [], 0, 0, 0))
 else none
 else none
 else
 if (wr .u8 (v1.1.getD 0 default)) = 2 then
 Option.bind (zad v1.2.1 2) fun v6 =>
 if v6.2.2 = true then
 if 0 < v6.1.length then
 if 1 < v6.1.length then
 some (.inr (v6.2.1, v6.2.2, 0, [], 0, [], [], (v6.1.getD 0 default), (v6.1.getD 1 default), [], 0, 0, 0))
 else none
 else none
 else
 some (.inr (v6.2.1, v6.2.2, 0, [], 0, [], [], 0, 0, [], 0, 0, 0))
 else
 if (wr .u8 (v1.1.getD 0 default)) = 3 then
 Option.bind (zdb v1.2.1 6) fun v7 =>
 some (.inr (v7.2.1, v7.2.2, 0, [], 0, [], [], 0, 0, v7.1, 0, 0, 0))
 else
 if (wr .u8 (v1.1.getD 0 default)) = 4 then
 Option.bind (zad v1.2.1 4) fun v8 =>
 if v8.2.2 = true then
 if 0 < v8.1.length then
 if 1 < v8.1.length then
 if 2 < v8.1.length then
 if 3 < v8.1.length then
 some (.inr (v8.2.1, v8.2.2, 0, [], 0, [], [], (v8.1.getD 0 default), 0, [], (v8.1.getD 1 default), (v8.1.getD 2 default), (v8.1.getD 3 default)))
 else none
 else none
 else none
 else none
 else
 some (.inr (v8.2.1, v8.2.2, 0, [], 0, [], [], 0, 0, [], 0, 0, 0))
 else
 Option.bind (α := Bool) (if (wr .u8 (v1.1.getD 0 default)) = 5 then
 some ((wr .u8 (v1.1.getD 0 default)) == 5)
 else
 some ((wr .u8 (v1.1.getD 0 default)) == 6)) fun b2 =>
 if b2 = true then
 Option.bind (zad v1.2.1 3) fun v9 =>
 if v9.2.2 = true then
 if 0 < v9.1.length then
 if 1 < v9.1.length then
 if 2 < v9.1.length then
 some (.inr (v9.2.1, v9.2.2, 0, [], 0, [], [], (v9.1.getD 0 default), 0, [], (v9.1.getD 1 default), 0, (v9.1.getD 2 default)))
 else none
 else none
 else none
 else
 some (.inr (v9.2.1, v9.2.2, 0, [], 0, [], [], 0, 0, [], 0, 0, 0))
 else
 some (.inr (v1.2.1, v1.2.2, 0, [], 0, [], [], 0, 0, [], 0, 0, 0))) fun z => match z with
 | (.inl r) => some r
 | (.inr (l1, b1, n1, l2, n2, s1, s2, n3, n4, l3, n5, n6, n7)) =>
 some ((⟨(wr .u8 (v1.1.getD 0 default)), (⟨n1, l2, n2, s1, s2⟩ : TMessage), n3, n4, l3, n5, n6, n7⟩ : TCommand), l1, b1)
 else none
 else none
def zbn (a0 : List UInt8) : Option (TCommand × Int) :=
 if (a0.length : Int) > 1024 then
 some ((⟨0, (⟨0, [], 0, [], []⟩ : TMessage), 0, 0, [], 0, 0, 0⟩ : TCommand), 3)
 else
 Option.bind (zd2 (zft a0)) fun v1 =>
 Option.bind (if ¬ ((¬ (v1.2.2 = true)) \/ ((v1.2.1.length : Int) > 0)) then ze9 v1.1 else some default) fun v2 =>
 if ((¬ (v1.2.2 = true)) \/ ((v1.2.1.length : Int) > 0)) \/ (¬ (v2 = true)) then
 some ((⟨0, (⟨0, [], 0, [], []⟩ : TMessage), 0, 0, [], 0, 0, 0⟩ : TCommand), 8)
 else
 some (v1.1, 0)
def zb4 : List (List UInt8) -> Option (Int ⊕ Unit)
 | [] =>
  some (.inr ())
 | y1 :: rest1 =>
  Option.bind (zbn (y1)) fun v1 =>
  if ¬ (v1.2 = 0) then
  some (.inl 8)
  else
  zb4 rest1 
def zek (a0 : List (List UInt8)) : Option Int :=
 if (a0.length : Int) > 200 then
 some 4
 else
 Option.bind (α := Int ⊕ Unit) (zb4 a0 ) fun z => match z with
 | (.inl r) => some r
 | (.inr _) =>
 some 0
def zaz : List (List UInt8) -> (List TCommand) -> Option ((List TCommand))
 | [], l2 =>
  some l2
 | y1 :: rest1, l2 =>
  Option.bind (zbn (y1)) fun v1 =>
  if l2.length + [v1.1].length < 1000000 then
  zaz rest1 (l2 ++ [v1.1])
  else none
theorem zi4 (l2 : List TCommand) : zaz [] l2 =
  (some l2 : Option ((List TCommand))) := rfl
theorem zi5 (y1 : (List UInt8)) (rest1 : List (List UInt8)) (l2 : List TCommand) : zaz (y1 :: rest1) l2 =
  (Option.bind (zbn (y1)) fun v1 =>
  if l2.length + [v1.1].length < 1000000 then
  zaz rest1 (l2 ++ [v1.1])
  else none : Option ((List TCommand))) := rfl
def ze8 (a0 : List (List UInt8)) : Option ((List TCommand)) :=
 Option.bind (α := (List TCommand)) (zaz a0 []) fun l1 =>
 some l1
def zbc (a0 : List TWait) (a1 : TWait) : Nat -> (List TWait) -> Int -> Option ((List TWait))
 | 0, _, _ => none
 | fu1 + 1, l2, n1 =>
  if n1 < (a0.length : Int) then
  Option.bind (α := (List TWait)) (if (0 <= n1 /\ n1 < (a0.length : Int)) then
  if (a0.getD n1.toNat default).Message.Id < a1.Message.Id then
  if (0 <= n1 /\ n1 < (a0.length : Int)) then
  if l2.length + [(a0.getD n1.toNat default)].length < 1000000 then
  some (l2 ++ [(a0.getD n1.toNat default)])
  else none
  else none
  else
  some l2
  else none) fun l3 =>
  zbc a0 a1 fu1 l3 (wr .i64 (n1 + 1))
  else
  some l2
def zbb (a0 : List TWait) (a1 : TWait) : Nat -> (List TWait) -> Int -> Option ((List TWait))
 | 0, _, _ => none
 | fu2 + 1, l5, n2 =>
  if n2 < (a0.length : Int) then
  Option.bind (α := (List TWait)) (if (0 <= n2 /\ n2 < (a0.length : Int)) then
  if (a0.getD n2.toNat default).Message.Id > a1.Message.Id then
  if (0 <= n2 /\ n2 < (a0.length : Int)) then
  if l5.length + [(a0.getD n2.toNat default)].length < 1000000 then
  some (l5 ++ [(a0.getD n2.toNat default)])
  else none
  else none
  else
  some l5
  else none) fun l6 =>
  zbb a0 a1 fu2 l6 (wr .i64 (n2 + 1))
  else
  some l5
def zde (a0 : List TWait) (a1 : TWait) : Option ((List TWait)) :=
 Option.bind (α := (List TWait)) (zbc a0 a1 (a0.length + 1) [] 0) fun l1 =>
 if l1.length + [a1].length < 1000000 then
 Option.bind (α := (List TWait)) (zbb a0 a1 (a0.length + 1) (l1 ++ [a1]) 0) fun l4 =>
 some l4
 else none
def zaw (a0 : List TWait) (a1 : Int) : Nat -> (List TWait) -> Int -> Option ((List TWait))
 | 0, _, _ => none
 | fu1 + 1, l2, n1 =>
  if n1 < (a0.length : Int) then
  Option.bind (α := (List TWait)) (if ¬ (n1 = a1) then
  if (0 <= n1 /\ n1 < (a0.length : Int)) then
  if l2.length + [(a0.getD n1.toNat default)].length < 1000000 then
  some (l2 ++ [(a0.getD n1.toNat default)])
  else none
  else none
  else
  some l2) fun l3 =>
  zaw a0 a1 fu1 l3 (wr .i64 (n1 + 1))
  else
  some l2
def zct (a0 : List TWait) (a1 : Int) : Option ((List TWait)) :=
 Option.bind (α := (List TWait)) (zaw a0 a1 (a0.length + 1) [] 0) fun l1 =>
 some l1
def zay : Nat -> (List TWait) -> (List TStamp) -> (List TMessage) -> Option ((List TWait) × (List TStamp) × (List TMessage))
 | 0, _, _, _ => none
 | fu1 + 1, l6, l7, l8 =>
  if (l6.length : Int) > 0 then
  Option.bind (zds l6) fun v7 =>
  if (0 <= v7 /\ v7 < (l6.length : Int)) then
  if ¬ ((l6.getD v7.toNat default).Final = true) then
  some (l6, l7, l8)
  else
  if (0 <= v7 /\ v7 < (l6.length : Int)) then
  Option.bind (zc2 (l6.getD v7.toNat default)) fun v8 =>
  if l7.length + [v8].length < 1000000 then
  if (0 <= v7 /\ v7 < (l6.length : Int)) then
  if l8.length + [(l6.getD v7.toNat default).Message].length < 1000000 then
  Option.bind (zct l6 v7) fun v9 =>
  zay fu1 v9 (l7 ++ [v8]) (l8 ++ [(l6.getD v7.toNat default).Message])
  else none
  else none
  else none
  else none
  else none
  else
  some (l6, l7, l8)
def zdj (a0 : TSkeen) (a1 : Int) (a2 : TCommand) : Option (TSkeen × (List TMessage) × Bool) :=
 Option.bind (α := (TSkeen × (List TMessage) × Bool) ⊕ (Int × (List TWait))) (Option.bind (if a2.Kind = 1 then zc1 a0 a2.Message.Id else some default) fun v1 =>
 Option.bind (if (a2.Kind = 1) /\ (v1 < 0) then zda a0 a2.Message.Id else some default) fun v2 =>
 Option.bind (if ((a2.Kind = 1) /\ (v1 < 0)) /\ (¬ (v2 = true)) then zdk a2.Message.Groups a1 else some default) fun v3 =>
 if (((a2.Kind = 1) /\ (v1 < 0)) /\ (¬ (v2 = true))) /\ (v3 = true) then
 if (a0.Clock = 1073741824) \/ ((a0.Waits.length : Int) = 200) then
 some (.inl (a0, [], false))
 else
 Option.bind (zb3 a2.Message) fun v4 =>
 Option.bind (zde a0.Waits (⟨v4, (wr .i64 (a0.Clock + 1)), false⟩ : TWait)) fun v5 =>
 some (.inr ((wr .i64 (a0.Clock + 1)), v5))
 else
 some (.inr (a0.Clock, a0.Waits))) fun z => match z with
 | (.inl r) => some r
 | (.inr (n1, l1)) =>
 Option.bind (zc1 (⟨n1, l1, a0.Done⟩ : TSkeen) a2.Id) fun v6 =>
 Option.bind (α := Int × (List TWait)) (if ((a2.Kind = 2) /\ (v6 >= 0)) -> (0 <= v6 /\ v6 < (l1.length : Int)) then
 if (((a2.Kind = 2) /\ (v6 >= 0)) /\ (¬ ((l1.getD v6.toNat default).Final = true))) -> (0 <= v6 /\ v6 < (l1.length : Int)) then
 if (((a2.Kind = 2) /\ (v6 >= 0)) /\ (¬ ((l1.getD v6.toNat default).Final = true))) /\ (a2.Time >= (l1.getD v6.toNat default).Time) then
 if (0 <= v6 /\ v6 < (l1.length : Int)) then
 if (0 <= v6 /\ v6 < ((l1.set v6.toNat (⟨(l1.getD v6.toNat default).Message, a2.Time, (l1.getD v6.toNat default).Final⟩ : TWait)).length : Int)) then
 some ((max n1 a2.Time), ((l1.set v6.toNat (⟨(l1.getD v6.toNat default).Message, a2.Time, (l1.getD v6.toNat default).Final⟩ : TWait)).set v6.toNat (⟨((l1.set v6.toNat (⟨(l1.getD v6.toNat default).Message, a2.Time, (l1.getD v6.toNat default).Final⟩ : TWait)).getD v6.toNat default).Message, ((l1.set v6.toNat (⟨(l1.getD v6.toNat default).Message, a2.Time, (l1.getD v6.toNat default).Final⟩ : TWait)).getD v6.toNat default).Time, true⟩ : TWait)))
 else none
 else none
 else
 some (n1, l1)
 else none
 else none) fun (n2, l2) =>
 Option.bind (α := (List TWait) × (List TStamp) × (List TMessage)) (zay (a0.Waits.length + 2) l2 a0.Done []) fun (l3, l4, l5) =>
 some ((⟨n2, l3, l4⟩ : TSkeen), l5, (decide ((l4.length : Int) <= 200)))
def zb0 (a0 : Int) : List TCommand -> (List Ttowncrierref16_Step) -> Int -> (List TWait) -> (List TStamp) -> Option ((List Ttowncrierref16_Step))
 | [], l2, n1, l3, l4 =>
  some l2
 | y1 :: rest1, l2, n1, l3, l4 =>
  Option.bind (zco (⟨n1, l3, l4⟩ : TSkeen)) fun v2 =>
  Option.bind (zdj v2 a0 (y1)) fun v3 =>
  Option.bind (α := Int × (List TWait) × (List TStamp) × (List TMessage)) (if ¬ (v3.2.2 = true) then
  some (n1, l3, l4, [])
  else
  some (v3.1.Clock, v3.1.Waits, v3.1.Done, v3.2.1)) fun (n3, l5, l6, l7) =>
  if l2.length + [(⟨y1, (⟨n1, l3, l4⟩ : TSkeen), (⟨n3, l5, l6⟩ : TSkeen), l7⟩ : Ttowncrierref16_Step)].length < 1000000 then
  zb0 a0 rest1 (l2 ++ [(⟨y1, (⟨n1, l3, l4⟩ : TSkeen), (⟨n3, l5, l6⟩ : TSkeen), l7⟩ : Ttowncrierref16_Step)]) n3 l5 l6
  else none
theorem zf4 (a0 : Int) (l2 : List Ttowncrierref16_Step) (n1 : Int) (l3 : List TWait) (l4 : List TStamp) : zb0 a0 [] l2 n1 l3 l4 =
  (some l2 : Option ((List Ttowncrierref16_Step))) := rfl
theorem zf5 (a0 : Int) (y1 : TCommand) (rest1 : List TCommand) (l2 : List Ttowncrierref16_Step) (n1 : Int) (l3 : List TWait) (l4 : List TStamp) : zb0 a0 (y1 :: rest1) l2 n1 l3 l4 =
  (Option.bind (zco (⟨n1, l3, l4⟩ : TSkeen)) fun v2 =>
  Option.bind (zdj v2 a0 (y1)) fun v3 =>
  Option.bind (α := Int × (List TWait) × (List TStamp) × (List TMessage)) (if ¬ (v3.2.2 = true) then
  some (n1, l3, l4, [])
  else
  some (v3.1.Clock, v3.1.Waits, v3.1.Done, v3.2.1)) fun (n3, l5, l6, l7) =>
  if l2.length + [(⟨y1, (⟨n1, l3, l4⟩ : TSkeen), (⟨n3, l5, l6⟩ : TSkeen), l7⟩ : Ttowncrierref16_Step)].length < 1000000 then
  zb0 a0 rest1 (l2 ++ [(⟨y1, (⟨n1, l3, l4⟩ : TSkeen), (⟨n3, l5, l6⟩ : TSkeen), l7⟩ : Ttowncrierref16_Step)]) n3 l5 l6
  else none : Option ((List Ttowncrierref16_Step))) := rfl
def zch (a0 : Int) (a1 : List (List UInt8)) : Option ((List Ttowncrierref16_Step)) :=
 Option.bind (ze8 a1) fun v1 =>
 Option.bind (α := (List Ttowncrierref16_Step)) (zb0 a0 v1 [] 0 [] []) fun l1 =>
 some l1
def zb8 : List Ttowncrierref16_Step -> Int -> (List TWait) -> (List TStamp) -> (List TMessage) -> Option (Int × (List TWait) × (List TStamp) × (List TMessage))
 | [], n2, l4, l5, l6 =>
  some (n2, l4, l5, l6)
 | y1 :: rest1, n2, l4, l5, l6 =>
  if l6.length + (y1.Out).length < 1000000 then
  zb8 rest1 (y1.After.Clock) (y1.After.Waits) (y1.After.Done) (l6 ++ y1.Out)
  else none
theorem zfk (n2 : Int) (l4 : List TWait) (l5 : List TStamp) (l6 : List TMessage) : zb8 [] n2 l4 l5 l6 =
  (some (n2, l4, l5, l6) : Option (Int × (List TWait) × (List TStamp) × (List TMessage))) := rfl
theorem zfl (y1 : Ttowncrierref16_Step) (rest1 : List Ttowncrierref16_Step) (n2 : Int) (l4 : List TWait) (l5 : List TStamp) (l6 : List TMessage) : zb8 (y1 :: rest1) n2 l4 l5 l6 =
  (if l6.length + (y1.Out).length < 1000000 then
  zb8 rest1 (y1.After.Clock) (y1.After.Waits) (y1.After.Done) (l6 ++ y1.Out)
  else none : Option (Int × (List TWait) × (List TStamp) × (List TMessage))) := rfl
def zdx (a0 : Int) (a1 : List (List UInt8)) : Option (TSkeen × (List TMessage)) :=
 Option.bind (zch a0 a1) fun v1 =>
 Option.bind (α := Int × (List TWait) × (List TStamp) × (List TMessage)) (zb8 v1 0 [] [] []) fun (n1, l1, l2, l3) =>
 some ((⟨n1, l1, l2⟩ : TSkeen), l3)
def zd1 (a0 : Int) (a1 : List (List UInt8)) : Option Int :=
 if (a0 < 0) \/ (a0 >= 4) then
 some 2
 else
 Option.bind (zek a1) fun v1 =>
 some v1
def zd9 (a0 : Int) (a1 : List (List UInt8)) : Option (TSkeen × (List TMessage) × Int) :=
 Option.bind (zd1 a0 a1) fun v1 =>
 if ¬ (v1 = 0) then
 some ((⟨0, [], []⟩ : TSkeen), [], v1)
 else
 Option.bind (zdx a0 a1) fun v2 =>
 some (v2.1, v2.2, 0)
def zbh : List Ttowncrierref16_Step -> (List Ttowncrierref16_Given) -> Option ((List Ttowncrierref16_Given))
 | [], l2 =>
  some l2
 | y1 :: rest1, l2 =>
  Option.bind (α := (List Ttowncrierref16_Given)) (if ((y1.After.Waits).length : Int) > ((y1.Before.Waits).length : Int) then
  if l2.length + [(⟨y1.After.Clock, y1.C.Message⟩ : Ttowncrierref16_Given)].length < 1000000 then
  some (l2 ++ [(⟨y1.After.Clock, y1.C.Message⟩ : Ttowncrierref16_Given)])
  else none
  else
  some l2) fun l3 =>
  zbh rest1 l3
theorem zf2 (l2 : List Ttowncrierref16_Given) : zbh [] l2 =
  (some l2 : Option ((List Ttowncrierref16_Given))) := rfl
theorem zf3 (y1 : Ttowncrierref16_Step) (rest1 : List Ttowncrierref16_Step) (l2 : List Ttowncrierref16_Given) : zbh (y1 :: rest1) l2 =
  (Option.bind (α := (List Ttowncrierref16_Given)) (if ((y1.After.Waits).length : Int) > ((y1.Before.Waits).length : Int) then
  if l2.length + [(⟨y1.After.Clock, y1.C.Message⟩ : Ttowncrierref16_Given)].length < 1000000 then
  some (l2 ++ [(⟨y1.After.Clock, y1.C.Message⟩ : Ttowncrierref16_Given)])
  else none
  else
  some l2) fun l3 =>
  zbh rest1 l3 : Option ((List Ttowncrierref16_Given))) := rfl
def zdp (a0 : Int) (a1 : List (List UInt8)) : Option ((List Ttowncrierref16_Given)) :=
 Option.bind (zch a0 a1) fun v1 =>
 Option.bind (α := (List Ttowncrierref16_Given)) (zbh v1 []) fun l1 =>
 some l1
def zbi : List Ttowncrierref16_Given -> (List TStamp) -> Option ((List TStamp))
 | [], l2 =>
  some l2
 | y1 :: rest1, l2 =>
  if l2.length + [(⟨y1.Time, y1.Message.Id⟩ : TStamp)].length < 1000000 then
  zbi rest1 (l2 ++ [(⟨y1.Time, y1.Message.Id⟩ : TStamp)])
  else none
theorem zf6 (l2 : List TStamp) : zbi [] l2 =
  (some l2 : Option ((List TStamp))) := rfl
theorem zf7 (y1 : Ttowncrierref16_Given) (rest1 : List Ttowncrierref16_Given) (l2 : List TStamp) : zbi (y1 :: rest1) l2 =
  (if l2.length + [(⟨y1.Time, y1.Message.Id⟩ : TStamp)].length < 1000000 then
  zbi rest1 (l2 ++ [(⟨y1.Time, y1.Message.Id⟩ : TStamp)])
  else none : Option ((List TStamp))) := rfl
def zdq (a0 : Int) (a1 : List (List UInt8)) : Option ((List TStamp) × Int) :=
 Option.bind (zd1 a0 a1) fun v1 =>
 if ¬ (v1 = 0) then
 some ([], v1)
 else
 Option.bind (zdp a0 a1) fun v2 =>
 Option.bind (α := (List TStamp)) (zbi v2 []) fun l1 =>
 some (l1, 0)
def zdf (a0 : Int) (a1 : List (List UInt8)) : Option Bool :=
 Option.bind (zdr [a1]) fun v1 =>
 if v1 = true then
 some true
 else
 if a1.length * 16 <= 140737488355328 then
 Option.bind (zf9 a0 a1) fun v2 =>
 Option.bind (zd9 a0 a1) fun v3 =>
 Option.bind (zer a0 a1) fun v4 =>
 Option.bind (zdq a0 a1) fun v5 =>
 Option.bind (zdy v2.1 v3.1) fun v6 =>
 Option.bind (if v6 = true then zca v2.2.1 v3.2.1 else some default) fun v7 =>
 Option.bind (if ((v6 = true) /\ (v7 = true)) /\ (v2.2.2 = v3.2.2) then zc3 v4.1 v5.1 else some default) fun v8 =>
 Option.bind (if ((((v6 = true) /\ (v7 = true)) /\ (v2.2.2 = v3.2.2)) /\ (v8 = true)) /\ (v4.2 = v5.2) then zcu a1 a1 else some default) fun v9 =>
 some (((((v6 && v7) && (v2.2.2 == v3.2.2)) && v8) && (v4.2 == v5.2)) && v9)
 else none
end Go.Proofs
