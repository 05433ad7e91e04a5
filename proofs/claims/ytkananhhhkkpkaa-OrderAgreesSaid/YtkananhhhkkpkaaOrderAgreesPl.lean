/- Texts of the proof. -/
import Derived.Test.YtkananhhhkkpkaaOrderAgreesPg
import Derived.Test.YtkananhhhkkpkaaOrderAgreesPh
import Derived.Test.YtkananhhhkkpkaaOrderAgreesPj
namespace Go.Proofs
open Go.Tm
set_option linter.unusedVariables false
def za3 (f : Torder_given -> Option Bool) : List Torder_given -> Nat -> Option (Int ⊕ Unit)
 | [], n1 =>
  some (.inr ())
 | y1 :: rest1, n1 =>
  Option.bind (f (y1)) fun v1 =>
  if v1 = true then
  some (.inl (n1 : Int))
  else
  za3 f rest1 (n1 + 1) 
def zbg (s : List Torder_given) (f : Torder_given -> Option Bool) : Option Int :=
 Option.bind (α := Int ⊕ Unit) (za3 f s 0 ) fun z => match z with
 | (.inl r) => some r
 | (.inr _) =>
 some (-1)
def zaq (f : TWait -> Option Bool) : List TWait -> Nat -> Option (Int ⊕ Unit)
 | [], n1 =>
  some (.inr ())
 | y1 :: rest1, n1 =>
  Option.bind (f (y1)) fun v1 =>
  if v1 = true then
  some (.inl (n1 : Int))
  else
  zaq f rest1 (n1 + 1) 
def zcq (s : List TWait) (f : TWait -> Option Bool) : Option Int :=
 Option.bind (α := Int ⊕ Unit) (zaq f s 0 ) fun z => match z with
 | (.inl r) => some r
 | (.inr _) =>
 some (-1)
def zcw : List (List (List UInt8)) -> Nat -> (List (List Torder_given)) -> Option (((List (List Torder_given)) × Int) ⊕ ((List (List Torder_given))))
 | [], n1, l2 =>
  some (.inr l2)
 | y1 :: rest1, n1, l2 =>
  Option.bind (zdx (n1 : Int) (y1)) fun v1 =>
  if ¬ (v1.2 = 0) then
  some (.inl ([], v1.2))
  else
  if l2.length + [v1.1].length < 1000000 then
  zcw rest1 (n1 + 1) (l2 ++ [v1.1])
  else none
theorem zht (n1 : Nat) (l2 : List (List Torder_given)) : zcw [] n1 l2 =
  (some (.inr l2) : Option (((List (List Torder_given)) × Int) ⊕ ((List (List Torder_given))))) := rfl
theorem zhu (y1 : (List (List UInt8))) (rest1 : List (List (List UInt8))) (n1 : Nat) (l2 : List (List Torder_given)) : zcw (y1 :: rest1) n1 l2 =
  (Option.bind (zdx (n1 : Int) (y1)) fun v1 =>
  if ¬ (v1.2 = 0) then
  some (.inl ([], v1.2))
  else
  if l2.length + [v1.1].length < 1000000 then
  zcw rest1 (n1 + 1) (l2 ++ [v1.1])
  else none : Option (((List (List Torder_given)) × Int) ⊕ ((List (List Torder_given))))) := rfl
def zg8 (a0 : List (List (List UInt8))) : Option ((List (List Torder_given)) × Int) :=
 if (a0.length : Int) > 4 then
 some ([], 4)
 else
 Option.bind (α := ((List (List Torder_given)) × Int) ⊕ ((List (List Torder_given)))) (zcw a0 0 []) fun z => match z with
 | (.inl r) => some r
 | (.inr l1) =>
 some (l1, 0)
def zbl (a0 : Torder_given) (c0 : TMessage) : Option Bool :=
 Option.bind (zbm a0.fM c0) fun v1 =>
 some v1
def zbd (a0 : List (List Torder_given)) (a1 : TMessage) : List Int -> Int -> Option ((Int × Bool) ⊕ Int)
 | [], n2 =>
  some (.inr n2)
 | y1 :: rest1, n2 =>
  if y1 >= (a0.length : Int) then
  some (.inl (0, false))
  else
  if (0 <= y1 /\ y1 < (a0.length : Int)) then
  Option.bind (zbg (a0.getD (y1).toNat default) (fun x0 => zbl x0 a1)) fun v1 =>
  if v1 < 0 then
  some (.inl (0, false))
  else
  if (0 <= y1 /\ y1 < (a0.length : Int)) then
  if (0 <= v1 /\ v1 < ((a0.getD (y1).toNat default).length : Int)) then
  zbd a0 a1 rest1 (max n2 (((a0.getD (y1).toNat default).getD v1.toNat default).fTime))
  else none
  else none
  else none
def zd2 (a0 : List (List Torder_given)) (a1 : TMessage) : Option (Int × Bool) :=
 Option.bind (α := (Int × Bool) ⊕ Int) (zbd a0 a1 a1.Groups 0) fun z => match z with
 | (.inl r) => some r
 | (.inr n1) =>
 some (n1, true)
def zaa : List (List Torder_given) -> Int -> Option (Int)
 | [], n2 =>
  some n2
 | y1 :: rest1, n2 =>
  if (wr .i64 (n2 + ((y1).length : Int))) < 0 then
  none
  else
  zaa rest1 (wr .i64 (n2 + ((y1).length : Int)))
def za9 : List (List Torder_given) -> (List Torder_given) -> Option ((List Torder_given))
 | [], l2 =>
  some l2
 | y2 :: rest2, l2 =>
  if l2.length + (y2).length < 1000000 then
  za9 rest2 (l2 ++ y2)
  else none
theorem zci (l2 : List Torder_given) : za9 [] l2 =
  (some l2 : Option ((List Torder_given))) := rfl
theorem zcj (y2 : (List Torder_given)) (rest2 : List (List Torder_given)) (l2 : List Torder_given) : za9 (y2 :: rest2) l2 =
  (if l2.length + (y2).length < 1000000 then
  za9 rest2 (l2 ++ y2)
  else none : Option ((List Torder_given))) := rfl
def zb3 (a0 : List (List Torder_given)) : Option ((List Torder_given)) :=
 Option.bind (α := Int) (zaa a0 0) fun n1 =>
 if 0 <= n1 /\ (n1).toNat * 80 <= 140737488355328 then
 Option.bind (α := (List Torder_given)) (za9 a0 []) fun l1 =>
 some l1
 else none
def zb2 (v1 : (List Torder_given)) : Nat -> (List (Int × TMessage)) -> Int -> Option (Bool ⊕ Unit)
 | 0, _, _ => none
 | fu1 + 1, m1, n1 =>
  if n1 < (v1.length : Int) then
  if (0 <= n1 /\ n1 < (v1.length : Int)) then
  Option.bind (if (mget ((v1.getD n1.toNat default).fM.Id) m1).isSome = true then zbm ((mget ((v1.getD n1.toNat default).fM.Id) m1).getD (⟨0, [], 0, [], []⟩ : TMessage)) ((v1.getD n1.toNat default).fM) else some default) fun v2 =>
  if ((mget ((v1.getD n1.toNat default).fM.Id) m1).isSome = true) /\ (¬ (v2 = true)) then
  some (.inl false)
  else
  zb2 v1 fu1 (mput ((v1.getD n1.toNat default).fM.Id) ((v1.getD n1.toNat default).fM) m1) (wr .i64 (n1 + 1))
  else none
  else
  some (.inr ())
def ze7 (a0 : List (List Torder_given)) : Option Bool :=
 Option.bind (α := Bool ⊕ Unit) (Option.bind (zb3 a0) fun v1 =>
 zb2 v1 (v1.length + 1) [] 0) fun z => match z with
 | (.inl r) => some r
 | (.inr _) =>
 some true
def zcv (a0 : TWait) (c0 : Torder_step) : Option Bool :=
 some (a0.Message.Id == c0.fC.Id)
def zdu (a0 : Torder_step) (c0 : List (List Torder_given)) (c1 : Bool) : Option ((List (List Torder_given)) × Bool) :=
 Option.bind (if ¬ (¬ (a0.fC.Kind = 2)) then zgj a0.fBefore a0.fAfter else some default) fun v1 =>
 if (¬ (a0.fC.Kind = 2)) \/ (v1 = true) then
 some (c0, c1)
 else
 Option.bind (zcq a0.fBefore.Waits (fun x0 => zcv x0 a0)) fun v2 =>
 if (0 <= v2 /\ v2 < (a0.fBefore.Waits.length : Int)) then
 Option.bind (zd2 c0 ((a0.fBefore.Waits.getD v2.toNat default).Message)) fun v3 =>
 some (c0, ((c1 && v3.2) && (v3.1 == a0.fC.Time)))
 else none
def zbe (a0 : Int) : List TCommand -> (List (List Torder_given)) -> Bool -> Int -> (List TWait) -> (List TStamp) -> Option ((List (List Torder_given)) × Bool × Int × (List TWait) × (List TStamp))
 | [], l4, b2, n2, l5, l6 =>
  some (l4, b2, n2, l5, l6)
 | y1 :: rest1, l4, b2, n2, l5, l6 =>
  Option.bind (zbk (⟨n2, l5, l6⟩ : TSkeen) a0 (y1)) fun v3 =>
  Option.bind (α := Int × (List TWait) × (List TStamp) × (List TMessage)) (if ¬ (v3.2.2 = 0) then
  some (n2, l5, l6, [])
  else
  some (v3.1.Clock, v3.1.Waits, v3.1.Done, v3.2.1)) fun (n4, l7, l8, l9) =>
  Option.bind (zdu (⟨y1, (⟨n2, l5, l6⟩ : TSkeen), (⟨n4, l7, l8⟩ : TSkeen), l9⟩ : Torder_step) l4 b2) fun v4 =>
  zbe a0 rest1 v4.1 v4.2 n4 l7 l8
def zdo (a0 : Int) (a1 : List (List UInt8)) (a2_0 : List (List Torder_given)) (a2_1 : Bool) : Option (TSkeen × Int × (List (List Torder_given)) × Bool) :=
 if (a0 < 0) \/ (a0 >= 4) then
 some ((⟨0, [], []⟩ : TSkeen), 2, a2_0, a2_1)
 else
 Option.bind (zdk a1) fun v1 =>
 if ¬ (v1.2 = 0) then
 some ((⟨0, [], []⟩ : TSkeen), v1.2, a2_0, a2_1)
 else
 Option.bind (zed ) fun v2 =>
 Option.bind (α := (List (List Torder_given)) × Bool × Int × (List TWait) × (List TStamp)) (zbe a0 v1.1 a2_0 a2_1 v2.Clock v2.Waits v2.Done) fun (l1, b1, n1, l2, l3) =>
 Option.bind (zcd (⟨n1, l2, l3⟩ : TSkeen)) fun v5 =>
 some (v5, 0, l1, b1)
def zc9 : List (List (List UInt8)) -> Nat -> (List (List Torder_given)) -> Bool -> Option (Bool)
 | [], n1, l1, b2 =>
  some b2
 | y1 :: rest1, n1, l1, b2 =>
  Option.bind (zdo (n1 : Int) (y1) l1 b2) fun v3 =>
  zc9 rest1 (n1 + 1) v3.2.2.1 v3.2.2.2
def zf9 (a0 : List (List (List UInt8))) : Option (Bool × Int) :=
 Option.bind (zg8 a0) fun v1 =>
 if ¬ (v1.2 = 0) then
 some (false, v1.2)
 else
 Option.bind (ze7 v1.1) fun v2 =>
 Option.bind (α := Bool) (zc9 a0 0 v1.1 v2) fun b1 =>
 some (b1, 0)
def zcl : List TStamp -> (List (Int × Int)) -> Option ((List (Int × Int)))
 | [], m2 =>
  some m2
 | y1 :: rest1, m2 =>
  zcl rest1 (mput (y1.Id) 1 m2)
def zc2 (m1 : List (Int × Int)) : List TStamp -> (List TStamp) -> Option ((List TStamp))
 | [], l2 =>
  some l2
 | y2 :: rest2, l2 =>
  Option.bind (α := (List TStamp)) (if ((mget (y2.Id) m1).getD 0) > 0 then
  if l2.length + [y2].length < 1000000 then
  some (l2 ++ [y2])
  else none
  else
  some l2) fun l3 =>
  zc2 m1 rest2 l3
theorem zfq (m1 : List (Int × Int)) (l2 : List TStamp) : zc2 m1 [] l2 =
  (some l2 : Option ((List TStamp))) := rfl
theorem zfr (m1 : List (Int × Int)) (y2 : TStamp) (rest2 : List TStamp) (l2 : List TStamp) : zc2 m1 (y2 :: rest2) l2 =
  (Option.bind (α := (List TStamp)) (if ((mget (y2.Id) m1).getD 0) > 0 then
  if l2.length + [y2].length < 1000000 then
  some (l2 ++ [y2])
  else none
  else
  some l2) fun l3 =>
  zc2 m1 rest2 l3 : Option ((List TStamp))) := rfl
def zdp (a0 : List TStamp) (a1 : List TStamp) : Option ((List TStamp)) :=
 Option.bind (α := (List (Int × Int))) (zcl a1 []) fun m1 =>
 Option.bind (α := (List TStamp)) (zc2 m1 a0 []) fun l1 =>
 some l1
def zdz (a0 : List TStamp) (a1 : List TStamp) : Option Bool :=
 Option.bind (zdp a0 a1) fun v1 =>
 Option.bind (zdp a1 a0) fun v2 =>
 if (0 <= (min (v1.length : Int) (v2.length : Int)) /\ (min (v1.length : Int) (v2.length : Int)) <= (v1.length : Int)) then
 if (0 <= (min (v1.length : Int) (v2.length : Int)) /\ (min (v1.length : Int) (v2.length : Int)) <= (v2.length : Int)) then
 Option.bind (zbn (v1.take (min (v1.length : Int) (v2.length : Int)).toNat) (v2.take (min (v1.length : Int) (v2.length : Int)).toNat)) fun v3 =>
 some v3
 else none
 else none
def zax (a1 : List TMessage) (a2 : Int) (n1 : Int) : Nat -> Bool -> Int -> Option (Bool)
 | 0, _, _ => none
 | fu2 + 1, b2, n2 =>
  if (0 <= n1 /\ n1 < (a1.length : Int)) then
  if n2 < (((a1.getD n1.toNat default).Groups).length : Int) then
  if (¬ (b2 = true)) -> (0 <= n1 /\ n1 < (a1.length : Int)) then
  if (¬ (b2 = true)) -> (0 <= n2 /\ n2 < (((a1.getD n1.toNat default).Groups).length : Int)) then
  zax a1 a2 n1 fu2 (b2 || ((((a1.getD n1.toNat default).Groups).getD n2.toNat default) == a2)) (wr .i64 (n2 + 1))
  else none
  else none
  else
  some b2
  else none
def zaw (a0 : List TStamp) (n1 : Int) : List TStamp -> Bool -> Option (Bool)
 | [], b4 =>
  some b4
 | y1 :: rest1, b4 =>
  if (¬ (b4 = true)) -> (0 <= n1 /\ n1 < (a0.length : Int)) then
  zaw a0 n1 rest1 (b4 || ((y1.Time == (a0.getD n1.toNat default).Time) && ((y1.Id == (a0.getD n1.toNat default).Id) && true)))
  else none
def zay (a0 : List TStamp) (a1 : List TMessage) (a2 : Int) (a3 : List TStamp) : Nat -> Int -> Option (Bool ⊕ Unit)
 | 0, _ => none
 | fu1 + 1, n1 =>
  if n1 < (a0.length : Int) then
  Option.bind (α := Bool ⊕ Unit) (Option.bind (α := Bool) (zax a1 a2 n1 (10) false 0) fun b1 =>
  if (¬ ((¬ (b1 = true)) \/ ((a3.length : Int) = 0))) -> (0 <= (wr .i64 ((a3.length : Int) - 1)) /\ (wr .i64 ((a3.length : Int) - 1)) < (a3.length : Int)) then
  if (¬ ((¬ (b1 = true)) \/ ((a3.length : Int) = 0))) -> (0 <= n1 /\ n1 < (a0.length : Int)) then
  Option.bind (if ¬ ((¬ (b1 = true)) \/ ((a3.length : Int) = 0)) then zdi (a3.getD (wr .i64 ((a3.length : Int) - 1)).toNat default) (a0.getD n1.toNat default) else some default) fun v1 =>
  if ((¬ (b1 = true)) \/ ((a3.length : Int) = 0)) \/ (v1 = true) then
  some (.inr ())
  else
  Option.bind (α := Bool) (zaw a0 n1 a3 false) fun b3 =>
  if ¬ (b3 = true) then
  some (.inl false)
  else
  some (.inr ())
  else none
  else none) fun z => match z with
  | (.inl r) => some (.inl r)
  | (.inr _) =>
  zay a0 a1 a2 a3 fu1 (wr .i64 (n1 + 1))
  else
  some (.inr ())
def zbt (a0 : List TStamp) (a1 : List TMessage) (a2 : Int) (a3 : List TStamp) : Option Bool :=
 Option.bind (α := Bool ⊕ Unit) (zay a0 a1 a2 a3 (a0.length + 1) 0) fun z => match z with
 | (.inl r) => some r
 | (.inr _) =>
 some true
def zao : List (List (List UInt8)) -> Nat -> (List (List TStamp)) -> (List (List TMessage)) -> Option (Bool ⊕ ((List (List TStamp)) × (List (List TMessage))))
 | [], n1, l3, l4 =>
  some (.inr (l3, l4))
 | y1 :: rest1, n1, l3, l4 =>
  Option.bind (zdy (n1 : Int) (y1)) fun v3 =>
  Option.bind (if ¬ ((¬ (v3.2.2 = 0)) \/ (¬ ((v3.2.1.length : Int) = (v3.1.Done.length : Int)))) then zec v3.1.Done else some default) fun v4 =>
  if ((¬ (v3.2.2 = 0)) \/ (¬ ((v3.2.1.length : Int) = (v3.1.Done.length : Int)))) \/ (¬ (v4 = true)) then
  some (.inl false)
  else
  if l3.length + [v3.1.Done].length < 1000000 then
  if l4.length + [v3.2.1].length < 1000000 then
  zao rest1 (n1 + 1) (l3 ++ [v3.1.Done]) (l4 ++ [v3.2.1])
  else none
  else none
theorem zdg (n1 : Nat) (l3 : List (List TStamp)) (l4 : List (List TMessage)) : zao [] n1 l3 l4 =
  (some (.inr (l3, l4)) : Option (Bool ⊕ ((List (List TStamp)) × (List (List TMessage))))) := rfl
theorem zdh (y1 : (List (List UInt8))) (rest1 : List (List (List UInt8))) (n1 : Nat) (l3 : List (List TStamp)) (l4 : List (List TMessage)) : zao (y1 :: rest1) n1 l3 l4 =
  (Option.bind (zdy (n1 : Int) (y1)) fun v3 =>
  Option.bind (if ¬ ((¬ (v3.2.2 = 0)) \/ (¬ ((v3.2.1.length : Int) = (v3.1.Done.length : Int)))) then zec v3.1.Done else some default) fun v4 =>
  if ((¬ (v3.2.2 = 0)) \/ (¬ ((v3.2.1.length : Int) = (v3.1.Done.length : Int)))) \/ (¬ (v4 = true)) then
  some (.inl false)
  else
  if l3.length + [v3.1.Done].length < 1000000 then
  if l4.length + [v3.2.1].length < 1000000 then
  zao rest1 (n1 + 1) (l3 ++ [v3.1.Done]) (l4 ++ [v3.2.1])
  else none
  else none : Option (Bool ⊕ ((List (List TStamp)) × (List (List TMessage))))) := rfl
def zam (l1 : List (List TStamp)) (l2 : List (List TMessage)) (n2 : Nat) : List (List (List UInt8)) -> Nat -> Option (Bool ⊕ Unit)
 | [], n3 =>
  some (.inr ())
 | y3 :: rest3, n3 =>
  if n2 < l1.length then
  if n3 < l1.length then
  Option.bind (zdz (l1.getD n2 default) (l1.getD n3 default)) fun v5 =>
  if (¬ (¬ (v5 = true))) -> n2 < l1.length then
  if (¬ (¬ (v5 = true))) -> n2 < l2.length then
  if (¬ (¬ (v5 = true))) -> n3 < l1.length then
  Option.bind (if ¬ (¬ (v5 = true)) then zbt (l1.getD n2 default) (l2.getD n2 default) (n3 : Int) (l1.getD n3 default) else some default) fun v6 =>
  if (¬ (v5 = true)) \/ (¬ (v6 = true)) then
  some (.inl false)
  else
  zam l1 l2 n2 rest3 (n3 + 1) 
  else none
  else none
  else none
  else none
  else none
def zan (a0 : List (List (List UInt8))) (l1 : List (List TStamp)) (l2 : List (List TMessage)) : List (List (List UInt8)) -> Nat -> Option (Bool ⊕ Unit)
 | [], n2 =>
  some (.inr ())
 | y2 :: rest2, n2 =>
  Option.bind (α := Bool ⊕ Unit) (zam l1 l2 n2 a0 0 ) fun z => match z with
  | (.inl r) => some (.inl r)
  | (.inr _) =>
  zan a0 l1 l2 rest2 (n2 + 1) 
def zcp (a0 : List (List (List UInt8))) : Option Bool :=
 Option.bind (zd0 a0) fun v1 =>
 if v1 = true then
 some true
 else
 Option.bind (zf9 a0) fun v2 =>
 if (¬ (v2.2 = 0)) \/ (¬ (v2.1 = true)) then
 some true
 else
 Option.bind (α := Bool ⊕ ((List (List TStamp)) × (List (List TMessage)))) (zao a0 0 [] []) fun z => match z with
 | (.inl r) => some r
 | (.inr (l1, l2)) =>
 Option.bind (α := Bool ⊕ Unit) (zan a0 l1 l2 a0 0 ) fun z => match z with
 | (.inl r) => some r
 | (.inr _) =>
 some true
end Go.Proofs
