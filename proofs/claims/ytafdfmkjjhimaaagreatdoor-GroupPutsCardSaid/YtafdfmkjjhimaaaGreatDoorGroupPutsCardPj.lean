/- Texts of the proof. -/
import Derived.WideKeyArgs
import Derived.ChangeSame
import Derived.ChangeArms
import Derived.OpenShut
import Derived.Carry
import Derived.Test.YtafdfmkjjhimaaaGreatDoorGroupPutsCardPg
import Derived.Test.YtafdfmkjjhimaaaGreatDoorGroupPutsCardPh
import Derived.Test.YtafdfmkjjhimaaaGreatDoorGroupPutsCardPi
import Derived.Test.YtafdfmkjjhimaaaGreatDoorGroupPutsCardPe
namespace Go.Proofs
open Go.Tm
set_option linter.unusedVariables false
def zld : Option TTopic :=
 some (⟨0, 0, 0, []⟩ : TTopic)
def zgl (a0 : TEntry) : Option Bool :=
 some ((((decide (a0.Id >= 0)) && (decide (a0.Id < 6291456))) && (decide ((a0.Key.length : Int) <= 16))) && (decide ((a0.Body.length : Int) <= 64)))
def zcp (a0 : TTopic) : List TEntry -> (List ((List UInt8) × Int)) -> Int -> Option (Int ⊕ Int)
 | [], m1, n2 =>
  some (.inr n2)
 | y1 :: rest1, m1, n2 =>
  Option.bind (zgl (y1)) fun v1 =>
  if ((((¬ (v1 = true)) \/ (y1.Offset <= n2)) \/ (y1.Offset >= a0.Next)) \/ (y1.Offset > (max (wr .i64 (n2 + 1)) a0.Mark))) \/ ((y1.Offset < a0.Mark) /\ (((mget (y1.Key) m1).getD 0) > 0)) then
  some (.inl 8)
  else
  Option.bind (α := (List ((List UInt8) × Int))) (if y1.Offset < a0.Mark then
  some (mput (y1.Key) 1 m1)
  else
  some m1) fun m2 =>
  zcp a0 rest1 m2 (y1.Offset)
def zey (a0 : TTopic) : Option Int :=
 if ((((((a0.Next < 0) \/ (a0.Next > 1073741824)) \/ (a0.Base < 0)) \/ (a0.Base > a0.Next)) \/ (a0.Mark < 0)) \/ (a0.Mark > a0.Next)) \/ ((a0.Entries.length : Int) > 200) then
 some 8
 else
 Option.bind (α := Int ⊕ Int) (zcp a0 a0.Entries [] (wr .i64 (a0.Base - 1))) fun z => match z with
 | (.inl r) => some r
 | (.inr n1) =>
 if ¬ ((max (wr .i64 (n1 + 1)) a0.Mark) = a0.Next) then
 some 8
 else
 some 0
def zbh (a0 : List TEntry) : Option ((List TEntry)) :=
 if a0.length * 48 <= 140737488355328 then
 some a0
 else none
def zco (a0 : TTopic) : Option TTopic :=
 Option.bind (zbh a0.Entries) fun v1 =>
 some (⟨a0.Base, a0.Next, a0.Mark, v1⟩ : TTopic)
def zi6 (a0 : TTopic) (a1 : Int) (a2 : List UInt8) (a3 : List UInt8) : Option (TTopic × Int × Int) :=
 Option.bind (zey a0) fun v1 =>
 if ¬ (v1 = 0) then
 some ((⟨0, 0, 0, []⟩ : TTopic), 0, 8)
 else
 Option.bind (α := Bool) (if a1 < 0 then
 some (decide (a1 < 0))
 else
 some (decide (a1 >= 6291456))) fun b1 =>
 if b1 = true then
 some ((⟨0, 0, 0, []⟩ : TTopic), 0, 2)
 else
 Option.bind (zgl (⟨a0.Next, a1, a2, a3⟩ : TEntry)) fun v2 =>
 if ¬ (v2 = true) then
 some ((⟨0, 0, 0, []⟩ : TTopic), 0, 3)
 else
 Option.bind (α := Bool) (if a0.Next = 1073741824 then
 some (a0.Next == 1073741824)
 else
 some ((a0.Entries.length : Int) == 200)) fun b2 =>
 if b2 = true then
 some ((⟨0, 0, 0, []⟩ : TTopic), 0, 9)
 else
 Option.bind (zco a0) fun v3 =>
 if v3.Entries.length + [(⟨a0.Next, a1, a2, a3⟩ : TEntry)].length < 1000000 then
 some ((⟨v3.Base, (wr .i64 (v3.Next + 1)), v3.Mark, (v3.Entries ++ [(⟨a0.Next, a1, a2, a3⟩ : TEntry)])⟩ : TTopic), a0.Next, 0)
 else none
def zc6 (a1 : List TEntry) : List TEntry -> Nat -> Option (Bool ⊕ Unit)
 | [], n1 =>
  some (.inr ())
 | y1 :: rest1, n1 =>
  if n1 < a1.length then
  if ¬ ((y1.Offset = (a1.getD n1 default).Offset) /\ (y1.Id = (a1.getD n1 default).Id) /\ (y1.Key = (a1.getD n1 default).Key) /\ (y1.Body = (a1.getD n1 default).Body)) then
  some (.inl false)
  else
  zc6 a1 rest1 (n1 + 1) 
  else none
def zeu (a0 : List TEntry) (a1 : List TEntry) : Option Bool :=
 if ¬ ((a0.length : Int) = (a1.length : Int)) then
 some false
 else
 Option.bind (α := Bool ⊕ Unit) (zc6 a1 a0 0 ) fun z => match z with
 | (.inl r) => some r
 | (.inr _) =>
 some true
def zk8 (a0 : TTopic) (a1 : TTopic) : Option Bool :=
 Option.bind (if ((a0.Base = a1.Base) /\ (a0.Next = a1.Next)) /\ (a0.Mark = a1.Mark) then zeu a0.Entries a1.Entries else some default) fun v1 =>
 some ((((a0.Base == a1.Base) && (a0.Next == a1.Next)) && (a0.Mark == a1.Mark)) && v1)
def zb4 (a1 : TEntry -> Option Bool) : List TEntry -> Nat -> Option (Int ⊕ Unit)
 | [], n1 =>
  some (.inr ())
 | y1 :: rest1, n1 =>
  Option.bind (a1 (y1)) fun v1 =>
  if v1 = true then
  some (.inl (n1 : Int))
  else
  zb4 a1 rest1 (n1 + 1) 
def zd6 (a0 : List TEntry) (a1 : TEntry -> Option Bool) : Option Int :=
 Option.bind (α := Int ⊕ Unit) (zb4 a1 a0 0 ) fun z => match z with
 | (.inl r) => some r
 | (.inr _) =>
 some (-1)
def zhm (a0 : TEntry) (c0 : TTopic) : Option Bool :=
 some (decide (a0.Offset >= c0.Base))
def zi8 (a0 : TTopic) (a1 : Int) : Option (TTopic × Int) :=
 Option.bind (zey a0) fun v1 =>
 if ¬ (v1 = 0) then
 some ((⟨0, 0, 0, []⟩ : TTopic), v1)
 else
 if (a1 < 0) \/ (a1 > 1073741824) then
 some ((⟨0, 0, 0, []⟩ : TTopic), 2)
 else
 Option.bind (zco a0) fun v2 =>
 Option.bind (zd6 v2.Entries (fun x0 => zhm x0 (⟨(max v2.Base (min a1 v2.Next)), v2.Next, v2.Mark, v2.Entries⟩ : TTopic))) fun v3 =>
 Option.bind (α := Int) (if v3 < 0 then
 some (v2.Entries.length : Int)
 else
 some v3) fun n1 =>
 if (0 <= n1 /\ n1 <= (v2.Entries.length : Int)) then
 Option.bind (zbh (v2.Entries.drop n1.toNat)) fun v4 =>
 some ((⟨(max v2.Base (min a1 v2.Next)), v2.Next, v2.Mark, v4⟩ : TTopic), 0)
 else none
def zau : Nat -> (List TEntry) -> Int -> Int -> Option ((List TEntry))
 | 0, _, _, _ => none
 | fu1 + 1, l1, n1, n2 =>
  if n1 < n2 then
  if (0 <= n2 /\ n2 < (l1.length : Int)) then
  if (0 <= n1 /\ n1 < (l1.length : Int)) then
  if (0 <= n2 /\ n2 < ((l1.set n1.toNat (l1.getD n2.toNat default)).length : Int)) then
  zau fu1 ((l1.set n1.toNat (l1.getD n2.toNat default)).set n2.toNat (l1.getD n1.toNat default)) (wr .i64 (n1 + 1)) (wr .i64 (n2 - 1))
  else none
  else none
  else none
  else
  some l1
def zc3 (a0 : List TEntry) : Option ((List TEntry)) :=
 zau (a0.length + 1) a0 0 (wr .i64 ((a0.length : Int) - 1))
def zbg (a1 : Int -> Option Bool) : List Int -> Nat -> Option (Int ⊕ Unit)
 | [], n1 =>
  some (.inr ())
 | y1 :: rest1, n1 =>
  Option.bind (a1 (y1)) fun v1 =>
  if v1 = true then
  some (.inl (n1 : Int))
  else
  zbg a1 rest1 (n1 + 1) 
def zdz (a0 : List Int) (a1 : Int -> Option Bool) : Option Int :=
 Option.bind (α := Int ⊕ Unit) (zbg a1 a0 0 ) fun z => match z with
 | (.inl r) => some r
 | (.inr _) =>
 some (-1)
def zc0 (a0 : List Int) (a1 : Int -> Option Bool) : Option Bool :=
 Option.bind (zdz a0 a1) fun v1 =>
 some (decide (v1 >= 0))
def zbr (a0 : List Int) : Nat -> Int -> Int -> Option (Int)
 | 0, _, _ => none
 | fu1 + 1, n2, n3 =>
  if n3 < (a0.length : Int) then
  if (0 <= n3 /\ n3 < (a0.length : Int)) then
  zbr a0 fu1 (max n2 (a0.getD n3.toNat default)) (wr .i64 (n3 + 1))
  else none
  else
  some n2
def zed (a0 : List Int) : Option Int :=
 if (a0.length : Int) < 1 then
 none
 else
 if 0 < a0.length then
 Option.bind (α := Int) (zbr a0 (a0.length + 1) (a0.getD 0 default) 1) fun n1 =>
 some n1
 else none
def zbc (a1 : (List Int) -> Option Bool) : List (List Int) -> Nat -> Option (Int ⊕ Unit)
 | [], n1 =>
  some (.inr ())
 | y1 :: rest1, n1 =>
  Option.bind (a1 (y1)) fun v1 =>
  if v1 = true then
  some (.inl (n1 : Int))
  else
  zbc a1 rest1 (n1 + 1) 
def zdj (a0 : List (List Int)) (a1 : (List Int) -> Option Bool) : Option Int :=
 Option.bind (α := Int ⊕ Unit) (zbc a1 a0 0 ) fun z => match z with
 | (.inl r) => some r
 | (.inr _) =>
 some (-1)
def zcb (a0 : List (List Int)) (a1 : (List Int) -> Option Bool) : Option Bool :=
 Option.bind (zdj a0 a1) fun v1 =>
 some (decide (v1 >= 0))
def zfh (a0 : Int) : Option Bool :=
 some ((decide (a0 < 0)) || (decide (a0 > 1073741824)))
def zek (a0 : List Int) : Option Bool :=
 Option.bind (if ¬ (¬ ((a0.length : Int) = 8)) then zc0 a0 zfh else some default) fun v1 =>
 some (((a0.length : Int) != 8) || v1)
def zfi (a0 : List (List Int)) : Option Int :=
 Option.bind (if ¬ (¬ ((a0.length : Int) = 4)) then zcb a0 zek else some default) fun v1 =>
 if (¬ ((a0.length : Int) = 4)) \/ (v1 = true) then
 some 8
 else
 some 0
def zgh (a0 : List (List Int)) (a1 : Int) (a2 : Int) : Option Int :=
 Option.bind (zfi a0) fun v1 =>
 if ¬ (v1 = 0) then
 some v1
 else
 if (((a1 < 0) \/ (a1 >= 4)) \/ (a2 < 0)) \/ (a2 >= 8) then
 some 2
 else
 some 0
def zca : List (List Int) -> (List (List Int)) -> Option ((List (List Int)))
 | [], l2 =>
  some l2
 | y1 :: rest1, l2 =>
  if (0 <= ((y1).length : Int) /\ ((y1).length : Int) < 1000000) then
  if l2.length + [y1].length < 1000000 then
  zca rest1 (l2 ++ [y1])
  else none
  else none
theorem zer (l2 : List (List Int)) : zca [] l2 =
  (some l2 : Option ((List (List Int)))) := rfl
theorem zes (y1 : (List Int)) (rest1 : List (List Int)) (l2 : List (List Int)) : zca (y1 :: rest1) l2 =
  (if (0 <= ((y1).length : Int) /\ ((y1).length : Int) < 1000000) then
  if l2.length + [y1].length < 1000000 then
  zca rest1 (l2 ++ [y1])
  else none
  else none : Option ((List (List Int)))) := rfl
def zdn (a0 : List (List Int)) : Option ((List (List Int))) :=
 Option.bind (α := (List (List Int))) (zca a0 []) fun l1 =>
 some l1
def zh5 (a0 : List Int) (a1 : List Int) : Option Bool :=
 Option.bind (zc7 a0 a1) fun v1 =>
 some v1
def zbn (a1 : List (List Int)) (a2 : (List Int) -> (List Int) -> Option Bool) : List (List Int) -> Nat -> Option (Bool ⊕ Unit)
 | [], n1 =>
  some (.inr ())
 | y1 :: rest1, n1 =>
  if n1 < a1.length then
  Option.bind (a2 (y1) (a1.getD n1 default)) fun v1 =>
  if ¬ (v1 = true) then
  some (.inl false)
  else
  zbn a1 a2 rest1 (n1 + 1) 
  else none
def zdl (a0 : List (List Int)) (a1 : List (List Int)) (a2 : (List Int) -> (List Int) -> Option Bool) : Option Bool :=
 if ¬ ((a0.length : Int) = (a1.length : Int)) then
 some false
 else
 Option.bind (α := Bool ⊕ Unit) (zbn a1 a2 a0 0 ) fun z => match z with
 | (.inl r) => some r
 | (.inr _) =>
 some true
def zki (a0 : List (List Int)) (a1 : List (List Int)) : Option Bool :=
 Option.bind (zdl a0 a1 zh5) fun v1 =>
 some v1
def zb3 (a1 : TTopic -> Option Bool) : List TTopic -> Nat -> Option (Int ⊕ Unit)
 | [], n1 =>
  some (.inr ())
 | y1 :: rest1, n1 =>
  Option.bind (a1 (y1)) fun v1 =>
  if v1 = true then
  some (.inl (n1 : Int))
  else
  zb3 a1 rest1 (n1 + 1) 
def zd4 (a0 : List TTopic) (a1 : TTopic -> Option Bool) : Option Int :=
 Option.bind (α := Int ⊕ Unit) (zb3 a1 a0 0 ) fun z => match z with
 | (.inl r) => some r
 | (.inr _) =>
 some (-1)
def zc1 (a0 : List TTopic) (a1 : TTopic -> Option Bool) : Option Bool :=
 Option.bind (zd4 a0 a1) fun v1 =>
 some (decide (v1 >= 0))
def zev (a0 : TTopic) : Option Bool :=
 Option.bind (zey a0) fun v1 =>
 some (v1 != 0)
def zcf (a0 : TStream) : List (List Int) -> Nat -> Option (Int ⊕ Unit)
 | [], n1 =>
  some (.inr ())
 | y1 :: rest1, n1 =>
  Option.bind (zed (y1)) fun v3 =>
  if n1 < a0.Topics.length then
  if v3 > (a0.Topics.getD n1 default).Next then
  some (.inl 8)
  else
  zcf a0 rest1 (n1 + 1) 
  else none
def zg5 (a0 : TStream) : Option Int :=
 Option.bind (if ¬ (¬ ((a0.Topics.length : Int) = 4)) then zc1 a0.Topics zev else some default) fun v1 =>
 Option.bind (if ¬ ((¬ ((a0.Topics.length : Int) = 4)) \/ (v1 = true)) then zfi a0.Commits else some default) fun v2 =>
 if ((¬ ((a0.Topics.length : Int) = 4)) \/ (v1 = true)) \/ (¬ (v2 = 0)) then
 some 8
 else
 Option.bind (α := Int ⊕ Unit) (zcf a0 a0.Commits 0 ) fun z => match z with
 | (.inl r) => some r
 | (.inr _) =>
 some 0
def zf7 (a0 : TStream) (a1 : Int) : Option Int :=
 Option.bind (zg5 a0) fun v1 =>
 if ¬ (v1 = 0) then
 some v1
 else
 if (a1 < 0) \/ (a1 >= 4) then
 some 2
 else
 some 0
def zdd : List TTopic -> (List TTopic) -> Option ((List TTopic))
 | [], l2 =>
  some l2
 | y1 :: rest1, l2 =>
  Option.bind (zco (y1)) fun v2 =>
  if l2.length + [v2].length < 1000000 then
  zdd rest1 (l2 ++ [v2])
  else none
theorem zik (l2 : List TTopic) : zdd [] l2 =
  (some l2 : Option ((List TTopic))) := rfl
theorem zil (y1 : TTopic) (rest1 : List TTopic) (l2 : List TTopic) : zdd (y1 :: rest1) l2 =
  (Option.bind (zco (y1)) fun v2 =>
  if l2.length + [v2].length < 1000000 then
  zdd rest1 (l2 ++ [v2])
  else none : Option ((List TTopic))) := rfl
def zez (a0 : TStream) : Option TStream :=
 Option.bind (zdn a0.Commits) fun v1 =>
 Option.bind (α := (List TTopic)) (zdd a0.Topics []) fun l1 =>
 some (⟨l1, v1⟩ : TStream)
def zfs (a0 : TStream) (a1 : Int) (a2 : TTopic) : Option TStream :=
 Option.bind (zez a0) fun v1 =>
 if (0 <= a1 /\ a1 < (v1.Topics.length : Int)) then
 some (⟨(v1.Topics.set a1.toNat a2), v1.Commits⟩ : TStream)
 else none
def zf0 (a0 : TStream) (a1 : TMessage) : Option (TStream × Int × Int) :=
 Option.bind (zf7 a0 a1.Topic) fun v1 =>
 if ¬ (v1 = 0) then
 some ((⟨[], []⟩ : TStream), 0, v1)
 else
 if (0 <= a1.Topic /\ a1.Topic < (a0.Topics.length : Int)) then
 Option.bind (zi6 (a0.Topics.getD a1.Topic.toNat default) a1.Id a1.Key a1.Body) fun v2 =>
 if ¬ (v2.2.2 = 0) then
 some ((⟨[], []⟩ : TStream), 0, v2.2.2)
 else
 Option.bind (zfs a0 a1.Topic v2.1) fun v3 =>
 some (v3, v2.2.1, 0)
 else none
def zaz (a1 : List TTopic) (a2 : TTopic -> TTopic -> Option Bool) : List TTopic -> Nat -> Option (Bool ⊕ Unit)
 | [], n1 =>
  some (.inr ())
 | y1 :: rest1, n1 =>
  if n1 < a1.length then
  Option.bind (a2 (y1) (a1.getD n1 default)) fun v1 =>
  if ¬ (v1 = true) then
  some (.inl false)
  else
  zaz a1 a2 rest1 (n1 + 1) 
  else none
def zce (a0 : List TTopic) (a1 : List TTopic) (a2 : TTopic -> TTopic -> Option Bool) : Option Bool :=
 if ¬ ((a0.length : Int) = (a1.length : Int)) then
 some false
 else
 Option.bind (α := Bool ⊕ Unit) (zaz a1 a2 a0 0 ) fun z => match z with
 | (.inl r) => some r
 | (.inr _) =>
 some true
def zle (a0 : TStream) (a1 : TStream) : Option Bool :=
 Option.bind (zce a0.Topics a1.Topics zk8) fun v1 =>
 Option.bind (if v1 = true then zki a0.Commits a1.Commits else some default) fun v2 =>
 some (v1 && v2)
end Go.Proofs
namespace Go.Proofs
open Go.Tm Go.RowKit Go.WideShapes
set_option maxRecDepth 100000
set_option maxHeartbeats 4000000
set_option linter.unusedSimpArgs false
set_option linter.unusedVariables false
@[go_sem] def st42 (r : TTopic) : St := ⟨[(0, .ptr 0 0)], [(0, .box [.int .i64 r.Base, .int .i64 r.Next, .int .i64 r.Mark, .imm 4 (r.Entries.map TEntry.d) 13])], 1⟩
theorem zso (r : TTopic) (h : zld  = some r) : zby Tryz.prog 110 [] [] (.agg [.int .i64 r.Base, .int .i64 r.Next, .int .i64 r.Mark, .imm 4 (r.Entries.map TEntry.d) 13]) [] (0, 3) := by
 refine zcu Tryz.func110 ?_
 intro hwf
 unfold zld at h
 refine .ends 0 (za4 _) ?_
 refine .sp [] ?_
 refine .sp [0] ?_
 obtain rfl := sj h
 refine .ret ⟨st42 (⟨0, 0, 0, []⟩ : TTopic), ?_, .inr rfl, retH [] ?_ ?_⟩
 refine .boxs 0 _ [.int .i64 0, .int .i64 0, .int .i64 0, .imm 4 [] 13] rfl (.keep (.keep (.keep (.cons (.nil12 _ _ 0 (by decide)) (.refl _))))) ?_
 exact .m [0] [0] []
 exact rsi0
 rfl
theorem zsk (r : TTopic) (h : zld  = some r) : zb9 Tryz.prog 110 [] (.agg [.int .i64 r.Base, .int .i64 r.Next, .int .i64 r.Mark, .imm 4 (r.Entries.map TEntry.d) 13]) :=
 ze7 (zhs (zaa rfl (zaa rfl (zaa rfl (zaa rfl zcd))))) (zso  r h)
theorem zkw (a0 : TEntry) (r : Bool) (h : zgl a0 = some r) : zb9 Tryz.prog 147 [.agg [.int .i64 a0.Offset, .int .i64 a0.Id, .str a0.Key, .str a0.Body]] (.bool r) := by
 refine zbt 3 Tryz.func147 ?_
 intro hwf
 unfold zgl at h
 refine .sp [0] ?_
 refine .sr [1] ?_
 refine .rn 6 ?_
 refine .rn 6 ?_
 refine .rn 6 ?_
 refine .rn 3 ?_
 refine .nn ?_
 obtain rfl := sj h
 exact .rr
@[go_sem] def ya6e (a0 : TTopic) (n1 : Int) : St := ⟨[(1, .ptr 0 0), (4, .int .i64 n1)], [(0, .box [.int .i64 a0.Base, .int .i64 a0.Next, .int .i64 a0.Mark, .imm 4 (a0.Entries.map TEntry.d) 4])], 2⟩
@[go_sem] def ya6d (a0 : TTopic) (n3 : Nat) (m1 : List ((List UInt8) × Int)) (n2 : Int) : St := ⟨[(1, .ptr 0 0), (3, .mref 1), (4, .int .i64 n2), (50, .imm 4 (a0.Entries.map TEntry.d) 4), (51, .int .i64 (a0.Entries.length : Int)), (52, .int .i64 (n3 : Int))], [(0, .box [.int .i64 a0.Base, .int .i64 a0.Next, .int .i64 a0.Mark, .imm 4 (a0.Entries.map TEntry.d) 4]), (1, .map (mapD D.str (D.int .i64) m1))], 2⟩
@[go_sem] def ya6c (a0 : TTopic) (n3 : Nat) (yq0 : TEntry) (m2 : List ((List UInt8) × Int)) : St := ⟨[(1, .ptr 0 0), (3, .mref 1), (6, .ptr 2 0), (50, .imm 4 (a0.Entries.map TEntry.d) 4), (51, .int .i64 (a0.Entries.length : Int)), (52, .int .i64 (n3 : Int))], [(0, .box [.int .i64 a0.Base, .int .i64 a0.Next, .int .i64 a0.Mark, .imm 4 (a0.Entries.map TEntry.d) 4]), (1, .map (mapD D.str (D.int .i64) m2)), (2, .box [.int .i64 (yq0.Offset), .int .i64 (yq0.Id), .str (yq0.Key), .str (yq0.Body)])], 3⟩
theorem zgo (a0 : TTopic) (r : Int) (h : zey a0 = some r) : zb9 Tryz.prog 97 [.agg [.int .i64 a0.Base, .int .i64 a0.Next, .int .i64 a0.Mark, .imm 4 (a0.Entries.map TEntry.d) 4]] (.int .i64 r) := by
 refine zbt 5 Tryz.func97 ?_
 intro hwf
 unfold zey at h
 refine .sp [0] ?_
 refine .seq (.seq (.rg zS [1] ?_))
 refine .rn 6 ?_
 refine .rn 6 ?_
 refine .rn 6 ?_
 refine .rn 6 ?_
 refine .rn 6 ?_
 refine .rn 8 ?_
 refine .nn ?_
 refine .cd ?_ ?_ <;> intro hc1
 replace h := zaf h hc1
 refine .sp [] ?_
 obtain rfl := sj h
 exact .rr
 replace h := zao h hc1
 refine .skip (.seq (.pl zS [1] ?_))
 refine .sp [1, 3] ?_
 obtain ⟨x1, hx1, h⟩ := za2 h
 refine .seqM 2 (fun (j : Int) => ya6e a0 j) (fun j => x1 = (.inr j)) (lb rfl) ?_ ?_
 refine .sp [1, 3, 4] ?_
 refine .block ?_
 refine .loopG 2 (fun (j : Nat × (List ((List UInt8) × Int)) × Int) => ya6d a0 j.1 j.2.1 j.2.2) (fun j => j.1 <= a0.Entries.length /\ zcp a0 (a0.Entries.drop j.1) j.2.1 j.2.2 = some x1) (fun j => a0.Entries.length - j.1) (0, [], (wr .i64 (a0.Base - 1))) (lb rfl) ?_ ⟨Nat.zero_le _, hx1⟩ ?_
 exact .mp [1, 3, 4, 50, 51, 52] [0, 1] [] ⟨rfl, trivial⟩
 rintro ⟨n3, m1, n2⟩ ⟨hi1, hx1⟩
 simp only [ya6d]
 simp only at hi1 hx1
 refine .wf 51 (.int .i64 (a0.Entries.length : Int)) rfl ?_
 intro hln3
 replace hln3 := wfn hln3
 refine .sp [1, 3, 4, 50, 51, 52] ?_
 refine .seq (.cd (fun hc2 => ?_) (fun hc2 => ?_))
 have h1 : n3 < a0.Entries.length := by simpa using hc2
 have hwn3 := zdw h1 hln3
 have hpn3 := zdx h1 hln3
 rw [za7 h1, zcp] at hx1
 refine .skip (.seq (.block (.seq ?_)))
 have e1 := zdk TEntry.d a0.Entries n3 h1
 refine .plx zS (ai e1 hwn3) [1, 3, 4, 50, 51, 52] ?_
 refine .seq (.seq ?_)
 obtain ⟨v1, hv1, hx1⟩ := za2 hx1
 refine .rg zS [1, 3, 4, 6, 50, 51, 52] ?_
 refine .rnx 1 hwn3 ?_
 refine .cl (zkw (a0.Entries[n3]) v1 hv1) ?_
 refine .rnx 6 hwn3 ?_
 refine .rnx 6 hwn3 ?_
 refine .rnx 6 hwn3 ?_
 refine .rnx 6 hwn3 ?_
 refine .rnx 6 hwn3 ?_
 refine .rnx 8 hwn3 ?_
 refine .nn ?_
 refine .cd ?_ ?_ <;> intro hc3
 replace hx1 := zaf hx1 hc3
 refine .seq (.plx zS hwn3 [] ?_)
 have hq := sj hx1
 subst x1
 try dsimp only at h
 obtain rfl := sj h
 exact .rr
 replace hx1 := zao hx1 hc3
 refine .skip ?_
 obtain ⟨x2, hx2, hx1⟩ := za2 hx1
 refine .seqM 3 (fun (j : (List ((List UInt8) × Int))) => ya6c a0 n3 (a0.Entries[n3]) j) (fun j => x2 = j) (lb rfl) ?_ ?_
 refine .seq (.plx zS hwn3 [1, 3, 6, 50, 51, 52] ?_)
 refine .cd ?_ ?_ <;> intro hc4
 replace hx2 := zaf hx2 hc4
 have em1 : updD (.str (a0.Entries[n3].Key)) (.int .i64 1) (mapD D.str (D.int .i64) m1) = some (mapD D.str (D.int .i64) (mput (a0.Entries[n3].Key) 1 m1)) := zxt (D.int .i64) (a0.Entries[n3].Key) 1 _ rfl m1
 refine .plx zS (ai em1 hwn3) [1, 3, 6, 50, 51, 52] ?_
 refine ⟨_, ?_, (sj hx2).symm⟩
 exact .mp [1, 3, 6, 50, 51, 52] [0, 1, 2] [] ⟨zea (fun _ => rfl) (fun _ => rfl) _, trivial⟩
 replace hx2 := zao hx2 hc4
 refine .skip ?_
 refine ⟨_, ?_, (sj hx2).symm⟩
 exact .mp [1, 3, 6, 50, 51, 52] [0, 1, 2] [] ⟨zea (fun _ => rfl) (fun _ => rfl) _, trivial⟩
 rintro m2 hj1
 subst x2
 try dsimp only at hx1
 simp only [ya6c]
 refine .plx zS hwn3 [1, 3, 6, 50, 51, 52] ?_
 refine .plx zS hwn3 [1, 3, 4, 50, 51, 52] ?_
 refine ⟨(n3 + 1, _, _), ?_, ⟨by omega, hx1⟩, by dsimp only; omega⟩
 exact .mp [1, 3, 4, 50, 51, 52] [0, 1] [] ⟨zea (fun _ => rfl) (fun _ => rfl) _, trivial⟩
 have h2 : n3 = a0.Entries.length := by have h2b := of_decide_eq_false hc2; omega
 rw [zab (by omega), zcp] at hx1
 refine .exit ?_
 refine ⟨_, ?_, (sj hx1).symm⟩
 exact .m [1, 4] [0] []
 rintro n1 hj2
 subst x1
 try dsimp only at h
 simp only [ya6e]
 refine .seq (.seq (.pl zS [1, 4] ?_))
 refine .cd ?_ ?_ <;> intro hc5
 replace h := zaf h hc5
 refine .sp [] ?_
 obtain rfl := sj h
 exact .rr
 replace h := zao h hc5
 refine .skip (.seq (.pl zS [] ?_))
 obtain rfl := sj h
 exact .rr
@[go_sem] def st29 (r : (List TEntry)) : St := ⟨[(2, .ref 0 4 0 r.length (some uC))], [(0, .arr 96 4 true (r.map TEntry.d))], 1⟩
theorem zfq (a0 : List TEntry) (r : (List TEntry)) (h : zbh a0 = some r) : zby Tryz.prog 141 [.imm 4 (a0.map TEntry.d) 4] [] (.ref 0 4 0 r.length (some uC)) [(0, some (.arr 96 4 true (r.map TEntry.d)))] (0, 3) := by
 refine zcu Tryz.func141 ?_
 intro hwf
 unfold zbh at h
 refine .ends 0 (za4 _) ?_
 refine .nil4 0 4 (a0.map TEntry.d) rfl ?_ (fun hl => ?_)
 refine .sp [0] ?_
 refine .seq (.seq (.pl zS [0] ?_))
 refine .cond rfl rfl (fun hc => by cases hc) (fun hc => ?_)
 obtain ⟨k1, h⟩ := zb0 h
 refine .skip ?_
 refine .seqM 0 (fun (_ : Unit) => ⟨[(2, .ref 0 4 0 a0.length (some uC))], [(0, .arr 96 4 true (a0.map TEntry.d))], 1⟩) (fun _ => True) (lb rfl) ?_ (fun _ _ => ?_)
 rcases zmv a0 with hE1 | ⟨y, ys, hE1⟩
 have hM1 : a0.map TEntry.d = [] := by rw [hE1]; simp
 refine .px zS (apn hM1) [0] ?_
 refine ⟨(), ?_, trivial⟩
 refine .n0 4 96 ?_
 refine .w0 2 0 4 ?_
 exact .mx hE1 [2] [0] []
 have hM1 : a0.map TEntry.d ≠ [] := by rw [hE1]; simp
 refine .px zS (apc hM1) [0] ?_
 refine ⟨(), ?_, trivial⟩
 refine .wk 2 _ (.ref 0 4 0 a0.length (some uC)) rfl (.unk _ _ _ _ _) ?_
 exact .mx hE1 [2] [0] []
 obtain rfl := sj h
 refine .ret ⟨st29 a0, ?_, .inr rfl, retH [0] ?_ ?_⟩
 exact .m [2] [0] []
 exact rsi0
 rfl
 have hE0 : a0 = [] := by simpa using hl
 obtain ⟨k1, h⟩ := zb0 h
 refine .sp [0] ?_
 refine .seq (.seq (.pl zS [0] ?_))
 refine .cond rfl rfl (fun hc => ?_) (fun hc => by cases hc)
 refine .sp [] ?_
 obtain rfl := sj h
 refine .ret ⟨st29 a0, ?_, .inr rfl, retH [0] ?_ ?_⟩
 refine .n0 4 96 ?_
 refine .w0 2 0 4 ?_
 exact .mx hE0 [2] [0] []
 exact rsi0
 rfl
@[go_sem] def st43 (r : TTopic) : St := ⟨[(2, .ptr 1 0)], [(0, .arr 96 4 true (r.Entries.map TEntry.d)), (1, .box [.int .i64 r.Base, .int .i64 r.Next, .int .i64 r.Mark, .ref 0 4 0 r.Entries.length (some uC)])], 2⟩
theorem zlt (a0 : TTopic) (r : TTopic) (h : zco a0 = some r) : zby Tryz.prog 86 [.agg [.int .i64 a0.Base, .int .i64 a0.Next, .int .i64 a0.Mark, .imm 4 (a0.Entries.map TEntry.d) 4]] [] (.agg [.int .i64 r.Base, .int .i64 r.Next, .int .i64 r.Mark, .ref 0 4 0 r.Entries.length (some uC)]) [(0, some (.arr 96 4 true (r.Entries.map TEntry.d)))] (0, 8) := by
 refine zcu Tryz.func86 ?_
 intro hwf
 unfold zco at h
 refine .ends 0 (za4 _) ?_
 refine .sp [0] ?_
 obtain ⟨v1, hv1, h⟩ := za2 h
 refine .sr [1, 2] ?_
 refine .rn 2 ?_
 refine .ncall (r := .ref 3 4 0 v1.length (some uC)) (eff := [(3, some (.arr 96 4 true (v1.map TEntry.d)))]) (nw := (3, 6)) [] rfl rfl rfl rfl rfl (za9 rfl zap) rfl (zdt 3 (lb rfl) (zfq a0.Entries v1 hv1)) (zc4 rfl rfl (ze4 zi5 _ _ _) ze8) (by intro i hi; simp [D.ids, D.idsL] at hi <;> omega) rfl ⟨lb rfl, lb rfl⟩ ?_
 refine .rn 2 ?_
 refine .nn ?_
 refine .sp [1, 2] ?_
 obtain rfl := sj h
 refine .ret ⟨st43 (⟨a0.Base, a0.Next, a0.Mark, v1⟩ : TTopic), ?_, .inr rfl, retH [0] ?_ ?_⟩
 exact .m [2] [3, 1] [(3, 0)]
 exact rsi0
 rfl
theorem zj2 (a0 : TTopic) (r : TTopic) (h : zco a0 = some r) : zb9 Tryz.prog 86 [.agg [.int .i64 a0.Base, .int .i64 a0.Next, .int .i64 a0.Mark, .imm 4 (a0.Entries.map TEntry.d) 4]] (.agg [.int .i64 r.Base, .int .i64 r.Next, .int .i64 r.Mark, .imm 4 (r.Entries.map TEntry.d) 13]) :=
 ze7 (zhs (zaa rfl (zaa rfl (zaa rfl (zaa (zcm zi5 rfl rfl) zcd))))) (zlt a0 r h)
@[go_sem] def ya6g (a0 : TTopic) (a1 : Int) (a2 : List UInt8) (a3 : List UInt8) (b1 : Bool) : St := ⟨[(4, .ptr 0 0), (8, .ptr 1 0), (11, .ptr 2 0), (23, .bool b1)], [(0, .box [.int .i64 a0.Base, .int .i64 a0.Next, .int .i64 a0.Mark, .imm 4 (a0.Entries.map TEntry.d) 4]), (1, .box [.int .i64 0, .int .i64 0, .int .i64 0, .imm 0 [] 0]), (2, .box [.int .i64 a0.Next, .int .i64 a1, .str a2, .str a3])], 3⟩
@[go_sem] def ya6f (a0 : TTopic) (a1 : Int) (a2 : List UInt8) (a3 : List UInt8) (b2 : Bool) : St := ⟨[(4, .ptr 0 0), (8, .ptr 1 0), (11, .ptr 2 0), (34, .bool b2)], [(0, .box [.int .i64 a0.Base, .int .i64 a0.Next, .int .i64 a0.Mark, .imm 4 (a0.Entries.map TEntry.d) 4]), (1, .box [.int .i64 0, .int .i64 0, .int .i64 0, .imm 0 [] 0]), (2, .box [.int .i64 a0.Next, .int .i64 a1, .str a2, .str a3])], 3⟩
@[go_sem] def st41 (r : TTopic × Int × Int) : St := ⟨[(8, .ptr 1 0), (9, .int .i64 r.2.1), (10, .int .i64 r.2.2)], [(0, .arr 96 4 true (r.1.Entries.map TEntry.d)), (1, .box [.int .i64 r.1.Base, .int .i64 r.1.Next, .int .i64 r.1.Mark, .ref 0 4 0 r.1.Entries.length (some uC)])], 2⟩
theorem zsp (a0 : TTopic) (a1 : Int) (a2 : List UInt8) (a3 : List UInt8) (r : TTopic × Int × Int) (h : zi6 a0 a1 a2 a3 = some r) : zby Tryz.prog 186 [.agg [.int .i64 a0.Base, .int .i64 a0.Next, .int .i64 a0.Mark, .imm 4 (a0.Entries.map TEntry.d) 4], .int .i64 a1, .str a2, .str a3] [] (.tuple [.agg [.int .i64 r.1.Base, .int .i64 r.1.Next, .int .i64 r.1.Mark, .ref 0 4 0 r.1.Entries.length (some uC)], .int .i64 r.2.1, .int .i64 r.2.2]) [(0, some (.arr 96 4 true (r.1.Entries.map TEntry.d)))] (0, 20) := by
 refine zcu Tryz.func186 ?_
 intro hwf
 unfold zi6 at h
 refine .ends 0 (za4 _) ?_
 refine .sp [0, 1, 2, 3] ?_
 refine .sp [1, 2, 3, 4, 8] ?_
 refine .seq (.block ?_)
 obtain ⟨v1, hv1, h⟩ := za2 h
 refine .sr [1, 4, 8, 11] ?_
 refine .rn 1 ?_
 refine .cl (zgo a0 v1 hv1) ?_
 refine .rn 2 ?_
 refine .nn ?_
 refine .cd ?_ ?_ <;> intro hc1
 replace h := zaf h hc1
 refine .sp [8] ?_
 obtain rfl := sj h
 refine .ret ⟨st41 ((⟨0, 0, 0, []⟩ : TTopic), 0, 8), ?_, .inr rfl, retH [0] ?_ ?_⟩
 refine .n0 4 96 ?_
 refine .boxs 1 _ [.int .i64 0, .int .i64 0, .int .i64 0, .ref 3 4 0 0 (some uC)] rfl (.keep (.keep (.keep (.cons (.own0 3 _ _ _ (by decide)) (.refl _))))) ?_
 exact .m [8, 9, 10] [3, 1] [(3, 0)]
 exact rsi0
 rfl
 replace h := zao h hc1
 obtain ⟨x1, hx1, h⟩ := za2 h
 refine .seqM 3 (fun (j : Bool) => ya6g a0 a1 a2 a3 j) (fun j => x1 = j) (lb rfl) ?_ ?_
 refine .sp [1, 4, 8, 11] ?_
 refine .cd ?_ ?_ <;> intro hc2
 replace hx1 := zaf hx1 hc2
 refine .skip ?_
 refine ⟨_, ?_, (sj hx1).symm⟩
 exact .m [4, 8, 11, 23] [0, 1, 2] []
 replace hx1 := zao hx1 hc2
 refine .pl zS [1, 4, 8, 11] ?_
 refine ⟨_, ?_, (sj hx1).symm⟩
 exact .m [4, 8, 11, 23] [0, 1, 2] []
 rintro b1 hj1
 subst x1
 try dsimp only at h
 simp only [ya6g]
 refine .cd ?_ ?_ <;> intro hc3
 replace h := zaf h hc3
 refine .sp [8] ?_
 obtain rfl := sj h
 refine .ret ⟨st41 ((⟨0, 0, 0, []⟩ : TTopic), 0, 2), ?_, .inr rfl, retH [0] ?_ ?_⟩
 refine .n0 4 96 ?_
 refine .boxs 1 _ [.int .i64 0, .int .i64 0, .int .i64 0, .ref 3 4 0 0 (some uC)] rfl (.keep (.keep (.keep (.cons (.own0 3 _ _ _ (by decide)) (.refl _))))) ?_
 exact .m [8, 9, 10] [3, 1] [(3, 0)]
 exact rsi0
 rfl
 replace h := zao h hc3
 obtain ⟨v2, hv2, h⟩ := za2 h
 refine .sr [4, 8, 11] ?_
 refine .rn 1 ?_
 refine .cl (zkw (⟨a0.Next, a1, a2, a3⟩ : TEntry) v2 hv2) ?_
 refine .rn 2 ?_
 refine .nn ?_
 refine .cd ?_ ?_ <;> intro hc4
 replace h := zaf h hc4
 refine .sp [8] ?_
 obtain rfl := sj h
 refine .ret ⟨st41 ((⟨0, 0, 0, []⟩ : TTopic), 0, 3), ?_, .inr rfl, retH [0] ?_ ?_⟩
 refine .n0 4 96 ?_
 refine .boxs 1 _ [.int .i64 0, .int .i64 0, .int .i64 0, .ref 3 4 0 0 (some uC)] rfl (.keep (.keep (.keep (.cons (.own0 3 _ _ _ (by decide)) (.refl _))))) ?_
 exact .m [8, 9, 10] [3, 1] [(3, 0)]
 exact rsi0
 rfl
 replace h := zao h hc4
 obtain ⟨x2, hx2, h⟩ := za2 h
 refine .seqM 3 (fun (j : Bool) => ya6f a0 a1 a2 a3 j) (fun j => x2 = j) (lb rfl) ?_ ?_
 refine .sp [4, 8, 11] ?_
 refine .cd ?_ ?_ <;> intro hc5
 replace hx2 := zaf hx2 hc5
 refine .skip ?_
 refine ⟨_, ?_, (sj hx2).symm⟩
 exact .m [4, 8, 11, 34] [0, 1, 2] []
 replace hx2 := zao hx2 hc5
 refine .pl zS [4, 8, 11] ?_
 refine ⟨_, ?_, (sj hx2).symm⟩
 exact .m [4, 8, 11, 34] [0, 1, 2] []
 rintro b2 hj2
 subst x2
 try dsimp only at h
 simp only [ya6f]
 refine .cd ?_ ?_ <;> intro hc6
 replace h := zaf h hc6
 refine .sp [8] ?_
 obtain rfl := sj h
 refine .ret ⟨st41 ((⟨0, 0, 0, []⟩ : TTopic), 0, 9), ?_, .inr rfl, retH [0] ?_ ?_⟩
 refine .n0 4 96 ?_
 refine .boxs 1 _ [.int .i64 0, .int .i64 0, .int .i64 0, .ref 3 4 0 0 (some uC)] rfl (.keep (.keep (.keep (.cons (.own0 3 _ _ _ (by decide)) (.refl _))))) ?_
 exact .m [8, 9, 10] [3, 1] [(3, 0)]
 exact rsi0
 rfl
 replace h := zao h hc6
 refine .skip ?_
 obtain ⟨v3, hv3, h⟩ := za2 h
 refine .sr [4, 8, 11] ?_
 refine .rn 1 ?_
 refine .ncall (r := .agg [.int .i64 v3.Base, .int .i64 v3.Next, .int .i64 v3.Mark, .ref 8 4 0 v3.Entries.length (some uC)]) (eff := [(8, some (.arr 96 4 true (v3.Entries.map TEntry.d)))]) (nw := (8, 16)) [] rfl rfl rfl rfl rfl (za9 rfl zap) rfl (zdt 8 (lb rfl) (zlt a0 v3 hv3)) (zc4 rfl rfl (ze4 zi5 _ _ _) ze8) (by intro i hi; simp [D.ids, D.idsL] at hi <;> omega) rfl ⟨lb rfl, lb rfl⟩ ?_
 refine .rn 1 ?_
 refine .nn ?_
 obtain ⟨k1, h⟩ := zb0 h
 refine .sp [4, 8, 11] ?_
 refine .sp [4, 8, 11] ?_
 refine .seq ?_
 refine .dr zS [4, 8, 11] ?_
 obtain rfl := sj h
 refine .ret ⟨st41 ((⟨v3.Base, (wr .i64 (v3.Next + 1)), v3.Mark, (v3.Entries ++ [(⟨a0.Next, a1, a2, a3⟩ : TEntry)])⟩ : TTopic), a0.Next, 0), ?_, .inr rfl, retH [0] ?_ ?_⟩
 exact .m [8, 9, 10] [17, 1] [(17, 0)]
 exact rsi0
 rfl
theorem zsl (a0 : TTopic) (a1 : Int) (a2 : List UInt8) (a3 : List UInt8) (r : TTopic × Int × Int) (h : zi6 a0 a1 a2 a3 = some r) : zb9 Tryz.prog 186 [.agg [.int .i64 a0.Base, .int .i64 a0.Next, .int .i64 a0.Mark, .imm 4 (a0.Entries.map TEntry.d) 4], .int .i64 a1, .str a2, .str a3] (.tuple [.agg [.int .i64 r.1.Base, .int .i64 r.1.Next, .int .i64 r.1.Mark, .imm 4 (r.1.Entries.map TEntry.d) 13], .int .i64 r.2.1, .int .i64 r.2.2]) :=
 ze7 (zmh (zaa (zhs (zaa rfl (zaa rfl (zaa rfl (zaa (zcm zi5 rfl rfl) zcd))))) (zaa rfl (zaa rfl zcd)))) (zsp a0 a1 a2 a3 r h)
@[go_sem] def st96 : St := ⟨[], [], 0⟩
@[go_sem] def st97 (a0 : List TEntry) (a1 : List TEntry) (n1 : Nat) : St := ⟨[(0, .imm 4 (a0.map TEntry.d) 4), (1, .imm 4 (a1.map TEntry.d) 4), (12, .int .i64 (a0.length : Int)), (13, .int .i64 (n1 : Int))], [], 0⟩
theorem ziu (a0 : List TEntry) (a1 : List TEntry) (r : Bool) (h : zeu a0 a1 = some r) : zb9 Tryz.prog 152 [.imm 4 (a0.map TEntry.d) 4, .imm 4 (a1.map TEntry.d) 4] (.bool r) := by
 refine zbt 2 Tryz.func152 ?_
 intro hwf
 unfold zeu at h
 refine .sp [0, 1] ?_
 refine .seq (.seq (.pl zS [0, 1] ?_))
 refine .cd ?_ ?_ <;> intro hc1
 replace h := zaf h hc1
 refine .sp [] ?_
 obtain rfl := sj h
 exact .rr
 replace h := zao h hc1
 obtain ⟨x1, hx1, h⟩ := za2 h
 refine .skip ?_
 refine .seqM 0 (fun (j : Unit) => st96) (fun j => x1 = (.inr j)) (lb rfl) ?_ ?_
 refine .sp [0, 1] ?_
 refine .block ?_
 refine .loopG 0 (fun (j : Nat) => st97 a0 a1 j) (fun j => j <= a0.length /\ zc6 a1 (a0.drop j) j  = some x1) (fun j => a0.length - j) (0) (lb rfl) ?_ ⟨Nat.zero_le _, hx1⟩ ?_
 exact .m [0, 1, 12, 13] [] []
 rintro n1 ⟨hi1, hx1⟩
 simp only [st97]
 refine .wf 12 (.int .i64 (a0.length : Int)) rfl ?_
 intro hln1
 replace hln1 := wfn hln1
 refine .sp [0, 1, 12, 13] ?_
 refine .seq (.cd (fun hc2 => ?_) (fun hc2 => ?_))
 have h1 : n1 < a0.length := by simpa using hc2
 have hwn1 := zdw h1 hln1
 have hpn1 := zdx h1 hln1
 rw [za7 h1, zc6] at hx1
 refine .skip (.seq (.block (.seq (.plx zS hwn1 [0, 1, 12, 13] ?_))))
 refine .seq ?_
 obtain ⟨k1, hx1⟩ := zb0 hx1
 have e1 := zdk TEntry.d a0 n1 h1
 have e2 := zex TEntry.d a1 n1
 replace e2 := e2 k1
 refine .rg zS [0, 1, 5, 12, 13] ?_
 refine .rdx 6 (ai e1 (ai e2 hwn1)) ?_
 refine .rdx 3 (ai e1 (ai e2 hwn1)) ?_
 refine .nd ?_
 refine .cd ?_ ?_ <;> intro hc3
 replace hx1 := zaf hx1 hc3
 refine .seq (.plx zS hwn1 [] ?_)
 have hq := sj hx1
 subst x1
 try dsimp only at h
 obtain rfl := sj h
 exact .rr
 replace hx1 := zao hx1 hc3
 refine .skip (.plx zS hwn1 [0, 1, 12, 13] ?_)
 refine ⟨n1 + 1, ?_, ⟨by omega, hx1⟩, by dsimp only; omega⟩
 exact .m [0, 1, 12, 13] [] []
 have h2 : n1 = a0.length := by have h2b := of_decide_eq_false hc2; omega
 rw [zab (by omega), zc6] at hx1
 refine .exit ?_
 refine ⟨_, ?_, (sj hx1).symm⟩
 exact .m [] [] []
 rintro ⟨⟩ hj1
 subst x1
 try dsimp only at h
 simp only [st96]
 refine .sp [] ?_
 obtain rfl := sj h
 exact .rr
theorem zq7 (a0 : TTopic) (a1 : TTopic) (r : Bool) (h : zk8 a0 a1 = some r) : zb9 Tryz.prog 107 [.agg [.int .i64 a0.Base, .int .i64 a0.Next, .int .i64 a0.Mark, .imm 4 (a0.Entries.map TEntry.d) 4], .agg [.int .i64 a1.Base, .int .i64 a1.Next, .int .i64 a1.Mark, .imm 4 (a1.Entries.map TEntry.d) 4]] (.bool r) := by
 refine zbt 4 Tryz.func107 ?_
 intro hwf
 unfold zk8 at h
 refine .sp [0, 1] ?_
 obtain ⟨v1, hv1, h⟩ := za2 h
 refine .sr [2, 3] ?_
 refine .rn 6 ?_
 refine .rn 6 ?_
 refine .rn 6 ?_
 refine .rn 6 ?_
 refine .gcall rfl rfl rfl rfl rfl (fun hg => ⟨[], [.imm 4 (a0.Entries.map TEntry.d) 4, .imm 4 (a1.Entries.map TEntry.d) 4], _, rfl, gd hg, rfl, (ziu a0.Entries a1.Entries v1 (zaf hv1 hg))⟩) ?_
 refine .rn 2 ?_
 refine .nn ?_
 obtain rfl := sj h
 exact .rr
@[go_sem] def ya77 : St := ⟨[], [], 0⟩
@[go_sem] def ya76 (a0 : List TEntry) (Ka1 : Nat) (ca1 : List D) (n1 : Nat) : St := ⟨[(0, .imm 4 (a0.map TEntry.d) 4), (1, .fn (.func Ka1) ca1), (7, .int .i64 (a0.length : Int)), (8, .int .i64 (n1 : Int))], [], 0⟩
theorem zhg (a0 : List TEntry) (Ka1 : Nat) (ca1 : List D) (hca1 : ∀ hp, zdm hp ca1 = (ca1, true)) (h2a1 : ∀ hp, zdb hp ca1 = (ca1, true)) (h3a1 : ∀ hp, zfx hp ca1 = []) (a1 : TEntry -> Option Bool) (ha1 : ∀ x0 y, a1 x0 = some y -> zb9 Tryz.prog Ka1 (.agg [.int .i64 x0.Offset, .int .i64 x0.Id, .str x0.Key, .str x0.Body] :: ca1) (.bool y)) (r : Int) (h : zd6 a0 a1 = some r) : zb9 Tryz.prog 193 [.imm 4 (a0.map TEntry.d) 4, .fn (.func Ka1) ca1] (.int .i64 r) := by
 refine zbt 2 Tryz.func193 ?_
 intro hwf
 unfold zd6 at h
 refine .sp [0, 1] ?_
 obtain ⟨x1, hx1, h⟩ := za2 h
 refine .seqM 0 (fun (j : Unit) => ya77) (fun j => x1 = (.inr j)) (lb rfl) ?_ ?_
 refine .sp [0, 1] ?_
 refine .block ?_
 refine .loopG 0 (fun (j : Nat) => ya76 a0 Ka1 ca1 j) (fun j => j <= a0.length /\ zb4 a1 (a0.drop j) j  = some x1) (fun j => a0.length - j) (0) (lb rfl) ?_ ⟨Nat.zero_le _, hx1⟩ ?_
 exact .mq (zb2 hca1) (zb1 hca1) [0, 1, 7, 8] [] []
 rintro n1 ⟨hi1, hx1⟩
 simp only [ya76]
 refine .wf 7 (.int .i64 (a0.length : Int)) rfl ?_
 intro hln1
 replace hln1 := wfn hln1
 refine .sp [0, 1, 7, 8] ?_
 refine .seq (.cd (fun hc1 => ?_) (fun hc1 => ?_))
 have h1 : n1 < a0.length := by simpa using hc1
 have hwn1 := zdw h1 hln1
 have hpn1 := zdx h1 hln1
 rw [za7 h1, zb4] at hx1
 refine .skip (.seq (.block (.seq (.plx zS hwn1 [0, 1, 7, 8] ?_))))
 refine .seq ?_
 obtain ⟨v1, hv1, hx1⟩ := za2 hx1
 have e1 := zdk TEntry.d a0 n1 h1
 refine .rg zS [0, 1, 5, 7, 8] ?_
 refine .rnx 5 (ai e1 hwn1) ?_
 refine .call (r := .bool v1) rfl rfl rfl rfl rfl (za8 rfl (hca1 _)) (ha1 _ v1 hv1) ?_
 refine .nn ?_
 refine .cd ?_ ?_ <;> intro hc2
 replace hx1 := zaf hx1 hc2
 refine .seq (.plx zS hwn1 [5] ?_)
 have hq := sj hx1
 subst x1
 try dsimp only at h
 obtain rfl := sj h
 exact .rr
 replace hx1 := zao hx1 hc2
 refine .skip (.plx zS hwn1 [0, 1, 7, 8] ?_)
 refine ⟨n1 + 1, ?_, ⟨by omega, hx1⟩, by dsimp only; omega⟩
 exact .mq (zb2 hca1) (zb1 hca1) [0, 1, 7, 8] [] []
 have h2 : n1 = a0.length := by have h2b := of_decide_eq_false hc1; omega
 rw [zab (by omega), zb4] at hx1
 refine .exit ?_
 refine ⟨_, ?_, (sj hx1).symm⟩
 exact .mq (zb2 hca1) (zb1 hca1) [] [] []
 rintro ⟨⟩ hj1
 subst x1
 try dsimp only at h
 simp only [ya77]
 refine .sp [] ?_
 obtain rfl := sj h
 exact .rr
theorem zpp (a0 : TEntry) (c0 : TTopic) (r : Bool) (h : zhm a0 c0 = some r) : zb9 Tryz.prog 194 [.agg [.int .i64 a0.Offset, .int .i64 a0.Id, .str a0.Key, .str a0.Body], .iptr 0 [.int .i64 c0.Base, .int .i64 c0.Next, .int .i64 c0.Mark, .imm 4 (c0.Entries.map TEntry.d) 4]] (.bool r) := by
 refine zbt 3 Tryz.func194 ?_
 intro hwf
 unfold zhm at h
 refine .sp [0, 1] ?_
 refine .sp [1, 2] ?_
 obtain rfl := sj h
 exact .rr
@[go_sem] def st67 (a1 : Int) (v2 : TTopic) (n1 : Int) : St := ⟨[(2, .ptr 0 0), (4, .ptr 1 0), (7, .int .i64 n1)], [(0, .box [.int .i64 (max v2.Base (min a1 v2.Next)), .int .i64 v2.Next, .int .i64 v2.Mark, .imm 4 (v2.Entries.map TEntry.d) 13]), (1, .box [.int .i64 0, .int .i64 0, .int .i64 0, .imm 0 [] 0])], 2⟩
@[go_sem] def st17 (r : TTopic × Int) : St := ⟨[(4, .ptr 1 0), (5, .int .i64 r.2)], [(0, .arr 96 4 true (r.1.Entries.map TEntry.d)), (1, .box [.int .i64 r.1.Base, .int .i64 r.1.Next, .int .i64 r.1.Mark, .ref 0 4 0 r.1.Entries.length (some uC)])], 2⟩
theorem zsr (a0 : TTopic) (a1 : Int) (r : TTopic × Int) (h : zi8 a0 a1 = some r) : zby Tryz.prog 178 [.agg [.int .i64 a0.Base, .int .i64 a0.Next, .int .i64 a0.Mark, .imm 4 (a0.Entries.map TEntry.d) 4], .int .i64 a1] [] (.tuple [.agg [.int .i64 r.1.Base, .int .i64 r.1.Next, .int .i64 r.1.Mark, .ref 0 4 0 r.1.Entries.length (some uC)], .int .i64 r.2]) [(0, some (.arr 96 4 true (r.1.Entries.map TEntry.d)))] (0, 8) := by
 refine zcu Tryz.func178 ?_
 intro hwf
 unfold zi8 at h
 refine .ends 0 (za4 _) ?_
 refine .sp [0, 1] ?_
 refine .seq ?_
 obtain ⟨v1, hv1, h⟩ := za2 h
 refine .sr [1, 2, 4] ?_
 refine .rn 1 ?_
 refine .cl (zgo a0 v1 hv1) ?_
 refine .rn 1 ?_
 refine .nn ?_
 refine .sp [1, 2, 4, 6] ?_
 refine .cd ?_ ?_ <;> intro hc1
 replace h := zaf h hc1
 refine .sp [4, 6] ?_
 obtain rfl := sj h
 refine .ret ⟨st17 ((⟨0, 0, 0, []⟩ : TTopic), v1), ?_, .inr rfl, retH [0] ?_ ?_⟩
 refine .n0 4 96 ?_
 refine .boxs 1 _ [.int .i64 0, .int .i64 0, .int .i64 0, .ref 2 4 0 0 (some uC)] rfl (.keep (.keep (.keep (.cons (.own0 2 _ _ _ (by decide)) (.refl _))))) ?_
 exact .m [4, 5] [2, 1] [(2, 0)]
 exact rsi0
 rfl
 replace h := zao h hc1
 refine .skip (.seq (.seq (.pl zS [1, 2, 4] ?_)))
 refine .cd ?_ ?_ <;> intro hc2
 replace h := zaf h hc2
 refine .sp [4] ?_
 obtain rfl := sj h
 refine .ret ⟨st17 ((⟨0, 0, 0, []⟩ : TTopic), 2), ?_, .inr rfl, retH [0] ?_ ?_⟩
 refine .n0 4 96 ?_
 refine .boxs 1 _ [.int .i64 0, .int .i64 0, .int .i64 0, .ref 2 4 0 0 (some uC)] rfl (.keep (.keep (.keep (.cons (.own0 2 _ _ _ (by decide)) (.refl _))))) ?_
 exact .m [4, 5] [2, 1] [(2, 0)]
 exact rsi0
 rfl
 replace h := zao h hc2
 refine .skip ?_
 obtain ⟨v2, hv2, h⟩ := za2 h
 refine .sr [1, 2, 4] ?_
 refine .rn 1 ?_
 refine .cl (zj2 a0 v2 hv2) ?_
 refine .rn 1 ?_
 refine .nn ?_
 refine .sr [1, 2, 4] ?_
 refine .rn 6 ?_
 refine .rn 3 ?_
 refine .nn ?_
 obtain ⟨v3, hv3, h⟩ := za2 h
 refine .sr [2, 4] ?_
 refine .rn 3 ?_
 refine .lcall (r := .int .i64 v3) [] rfl rfl rfl rfl rfl (za9 rfl (za9 (zfw (za9 (zjx rfl (za8 rfl (za8 rfl (za8 rfl (za8 rfl zeg))))) zap)) zap)) rfl (zii (WkL.cons Wk.iz (WkL.cons (Wk.refl _) (WkL.refl _))) (zhg v2.Entries 194 [.iptr 0 [.int .i64 ((⟨(max v2.Base (min a1 v2.Next)), v2.Next, v2.Mark, v2.Entries⟩ : TTopic).Base), .int .i64 ((⟨(max v2.Base (min a1 v2.Next)), v2.Next, v2.Mark, v2.Entries⟩ : TTopic).Next), .int .i64 ((⟨(max v2.Base (min a1 v2.Next)), v2.Next, v2.Mark, v2.Entries⟩ : TTopic).Mark), .imm 4 (((⟨(max v2.Base (min a1 v2.Next)), v2.Next, v2.Mark, v2.Entries⟩ : TTopic).Entries).map TEntry.d) 4]] (fun _ => rfl) (fun _ => rfl) (fun _ => rfl) (fun x0 => zhm x0 (⟨(max v2.Base (min a1 v2.Next)), v2.Next, v2.Mark, v2.Entries⟩ : TTopic)) (fun x0 y hy => zpp x0 (⟨(max v2.Base (min a1 v2.Next)), v2.Next, v2.Mark, v2.Entries⟩ : TTopic) y hy) v3 hv3)) ?_
 refine .rn 1 ?_
 refine .nn ?_
 obtain ⟨x1, hx1, h⟩ := za2 h
 refine .seqM 2 (fun (j : Int) => st67 a1 v2 j) (fun j => x1 = j) (lb rfl) ?_ ?_
 refine .sp [2, 4, 7] ?_
 refine .cd ?_ ?_ <;> intro hc3
 replace hx1 := zaf hx1 hc3
 refine .pl zS [2, 4] ?_
 refine ⟨_, ?_, (sj hx1).symm⟩
 exact .m [2, 4, 7] [0, 1] []
 replace hx1 := zao hx1 hc3
 refine .skip ?_
 refine ⟨_, ?_, (sj hx1).symm⟩
 exact .m [2, 4, 7] [0, 1] []
 rintro n1 hj1
 subst x1
 try dsimp only at h
 simp only [st67]
 obtain ⟨k1, h⟩ := zb0 h
 obtain ⟨v4, hv4, h⟩ := za2 h
 refine .sr [2, 4, 7] ?_
 refine .rn 4 ?_
 refine .ncall (r := .ref 3 4 0 v4.length (some uC)) (eff := [(3, some (.arr 96 4 true (v4.map TEntry.d)))]) (nw := (3, 6)) [] rfl rfl rfl rfl rfl (za9 rfl zap) rfl (zdt 3 (lb rfl) (zfq (v2.Entries.drop n1.toNat) v4 hv4)) (zc4 rfl rfl (ze4 zi5 _ _ _) ze8) (by intro i hi; simp [D.ids, D.idsL] at hi <;> omega) rfl ⟨lb rfl, lb rfl⟩ ?_
 refine .rn 2 ?_
 refine .nn ?_
 refine .sp [2, 4] ?_
 obtain rfl := sj h
 refine .ret ⟨st17 ((⟨(max v2.Base (min a1 v2.Next)), v2.Next, v2.Mark, v4⟩ : TTopic), 0), ?_, .inr rfl, retH [0] ?_ ?_⟩
 exact .m [4, 5] [3, 1] [(3, 0)]
 exact rsi0
 rfl
theorem zsn (a0 : TTopic) (a1 : Int) (r : TTopic × Int) (h : zi8 a0 a1 = some r) : zb9 Tryz.prog 178 [.agg [.int .i64 a0.Base, .int .i64 a0.Next, .int .i64 a0.Mark, .imm 4 (a0.Entries.map TEntry.d) 4], .int .i64 a1] (.tuple [.agg [.int .i64 r.1.Base, .int .i64 r.1.Next, .int .i64 r.1.Mark, .imm 4 (r.1.Entries.map TEntry.d) 13], .int .i64 r.2]) :=
 ze7 (zmh (zaa (zhs (zaa rfl (zaa rfl (zaa rfl (zaa (zcm zi5 rfl rfl) zcd))))) (zaa rfl zcd))) (zsr a0 a1 r h)
@[go_sem] def ya6n (l1 : List TEntry) (n1 : Int) (n2 : Int) : St := ⟨[(0, .ref 20000 4 0 l1.length (some uC)), (2, .int .i64 n1), (3, .int .i64 n2)], [(20000, .arr 96 4 true (l1.map TEntry.d))], 20100⟩
@[go_sem] def st35 (r : (List TEntry)) : St := ⟨[(0, .ref 20000 4 0 r.length (some uC))], [(20000, .arr 96 4 true (r.map TEntry.d))], 20100⟩
theorem zi0 (a0 : List TEntry) (r : (List TEntry)) (h : zc3 a0 = some r) : zby Tryz.prog 196 [.ref 20000 4 0 a0.length (some uC)] [(20000, .arr 96 4 true (a0.map TEntry.d))] (.tuple []) [(20000, some (.arr 96 4 true (r.map TEntry.d)))] (20100, 20102) := by
 refine zcu Tryz.func196 ?_
 intro hwf
 unfold zc3 at h
 refine .ends 20100 (za4 _) ?_
 refine .sp [0] ?_
 refine .block ?_
 refine .loopG 20100 (fun (j : Nat × (List TEntry) × Int × Int) => ya6n j.2.1 j.2.2.1 j.2.2.2) (fun j => zau j.1 j.2.1 j.2.2.1 j.2.2.2 = some r) (fun j => j.1) (a0.length + 1, a0, 0, (wr .i64 ((a0.length : Int) - 1))) (lb rfl) ?_ h ?_
 exact .m [0, 2, 3] [20000] []
 rintro ⟨fu1, l1, n1, n2⟩ h
 simp only [ya6n]
 try simp only at h
 obtain ⟨fu1, rfl⟩ : ∃ k, fu1 = k + 1 := by cases fu1 with | zero => (rw [zau] at h; cases h) | succ k => exact ⟨k, rfl⟩
 rw [zau] at h
 refine .seq (.seq (.pl zS [0, 2, 3] ?_))
 refine .cd ?_ ?_ <;> intro hc1
 replace h := zaf h hc1
 refine .skip (.seq (.block ?_))
 obtain ⟨k1, h⟩ := zb0 h
 obtain ⟨k2, h⟩ := zb0 h
 obtain ⟨k3, h⟩ := zb0 h
 have e1 := zbx TEntry.d l1 n2
 have e2 := zbx TEntry.d l1 n1
 have e3 := zbx TEntry.d l1 n1
 have es1 := zif TEntry.d l1 n1.toNat (l1.getD n2.toNat default)
 have e4 := zbx TEntry.d (l1.set n1.toNat (l1.getD n2.toNat default)) n2
 have es2 := zif TEntry.d (l1.set n1.toNat (l1.getD n2.toNat default)) n2.toNat (l1.getD n1.toNat default)
 replace e1 := e1 k1
 replace e2 := e2 k2
 replace e3 := e3 k2
 replace es1 : setN (l1.map TEntry.d) n1.toNat (.agg [.int .i64 ((l1.getD n2.toNat default).Offset), .int .i64 ((l1.getD n2.toNat default).Id), .str ((l1.getD n2.toNat default).Key), .str ((l1.getD n2.toNat default).Body)]) = (l1.set n1.toNat (l1.getD n2.toNat default)).map TEntry.d := es1
 replace e4 := e4 k3
 replace es2 : setN ((l1.set n1.toNat (l1.getD n2.toNat default)).map TEntry.d) n2.toNat (.agg [.int .i64 ((l1.getD n1.toNat default).Offset), .int .i64 ((l1.getD n1.toNat default).Id), .str ((l1.getD n1.toNat default).Key), .str ((l1.getD n1.toNat default).Body)]) = ((l1.set n1.toNat (l1.getD n2.toNat default)).set n2.toNat (l1.getD n1.toNat default)).map TEntry.d := es2
 refine .rg zS [0, 2, 3] ?_
 refine .rdx 6 (ai e1 (ai e2 (ai e3 (ai es1 (ai e4 es2))))) ?_
 refine .rdx 6 (ai e1 (ai e2 (ai e3 (ai es1 (ai e4 es2))))) ?_
 refine .rdx 4 (ai e1 (ai e2 (ai e3 (ai es1 (ai e4 es2))))) ?_
 refine .nd ?_
 refine .pl zS [0, 2, 3] ?_
 refine ⟨(fu1, _, _, _), ?_, h, by dsimp only; omega⟩
 exact .m [0, 2, 3] [20000] []
 replace h := zao h hc1
 refine .exit ?_
 obtain rfl := sj h
 refine ⟨st35 l1, ?_, .inl rfl, retH [20000] ?_ ?_⟩
 exact .m [0] [20000] []
 exact rsi0
 rfl
@[go_sem] def ya71 : St := ⟨[], [], 0⟩
@[go_sem] def ya70 (a0 : List Int) (Ka1 : Nat) (ca1 : List D) (n1 : Nat) : St := ⟨[(0, .imm 1 (a0.map (D.int .i64)) 4), (1, .fn (.func Ka1) ca1), (7, .int .i64 (a0.length : Int)), (8, .int .i64 (n1 : Int))], [], 0⟩
theorem zis (a0 : List Int) (Ka1 : Nat) (ca1 : List D) (hca1 : ∀ hp, zdm hp ca1 = (ca1, true)) (h2a1 : ∀ hp, zdb hp ca1 = (ca1, true)) (h3a1 : ∀ hp, zfx hp ca1 = []) (a1 : Int -> Option Bool) (ha1 : ∀ x0 y, a1 x0 = some y -> zb9 Tryz.prog Ka1 (.int .i64 x0 :: ca1) (.bool y)) (r : Int) (h : zdz a0 a1 = some r) : zb9 Tryz.prog 101 [.imm 1 (a0.map (D.int .i64)) 4, .fn (.func Ka1) ca1] (.int .i64 r) := by
 refine zbt 2 Tryz.func101 ?_
 intro hwf
 unfold zdz at h
 refine .sp [0, 1] ?_
 obtain ⟨x1, hx1, h⟩ := za2 h
 refine .seqM 0 (fun (j : Unit) => ya71) (fun j => x1 = (.inr j)) (lb rfl) ?_ ?_
 refine .sp [0, 1] ?_
 refine .block ?_
 refine .loopG 0 (fun (j : Nat) => ya70 a0 Ka1 ca1 j) (fun j => j <= a0.length /\ zbg a1 (a0.drop j) j  = some x1) (fun j => a0.length - j) (0) (lb rfl) ?_ ⟨Nat.zero_le _, hx1⟩ ?_
 exact .mq (zb2 hca1) (zb1 hca1) [0, 1, 7, 8] [] []
 rintro n1 ⟨hi1, hx1⟩
 simp only [ya70]
 refine .wf 7 (.int .i64 (a0.length : Int)) rfl ?_
 intro hln1
 replace hln1 := wfn hln1
 refine .sp [0, 1, 7, 8] ?_
 refine .seq (.cd (fun hc1 => ?_) (fun hc1 => ?_))
 have h1 : n1 < a0.length := by simpa using hc1
 have hwn1 := zdw h1 hln1
 have hpn1 := zdx h1 hln1
 rw [za7 h1, zbg] at hx1
 refine .skip (.seq (.block (.seq (.plx zS hwn1 [0, 1, 7, 8] ?_))))
 refine .seq ?_
 obtain ⟨v1, hv1, hx1⟩ := za2 hx1
 have e1 := zdk (D.int .i64) a0 n1 h1
 refine .rg zS [0, 1, 5, 7, 8] ?_
 refine .rnx 5 (ai e1 hwn1) ?_
 refine .call (r := .bool v1) rfl rfl rfl rfl rfl (za8 rfl (hca1 _)) (ha1 _ v1 hv1) ?_
 refine .nn ?_
 refine .cd ?_ ?_ <;> intro hc2
 replace hx1 := zaf hx1 hc2
 refine .seq (.plx zS hwn1 [5] ?_)
 have hq := sj hx1
 subst x1
 try dsimp only at h
 obtain rfl := sj h
 exact .rr
 replace hx1 := zao hx1 hc2
 refine .skip (.plx zS hwn1 [0, 1, 7, 8] ?_)
 refine ⟨n1 + 1, ?_, ⟨by omega, hx1⟩, by dsimp only; omega⟩
 exact .mq (zb2 hca1) (zb1 hca1) [0, 1, 7, 8] [] []
 have h2 : n1 = a0.length := by have h2b := of_decide_eq_false hc1; omega
 rw [zab (by omega), zbg] at hx1
 refine .exit ?_
 refine ⟨_, ?_, (sj hx1).symm⟩
 exact .mq (zb2 hca1) (zb1 hca1) [] [] []
 rintro ⟨⟩ hj1
 subst x1
 try dsimp only at h
 simp only [ya71]
 refine .sp [] ?_
 obtain rfl := sj h
 exact .rr
theorem zf4 (a0 : List Int) (Ka1 : Nat) (ca1 : List D) (hca1 : ∀ hp, zdm hp ca1 = (ca1, true)) (h2a1 : ∀ hp, zdb hp ca1 = (ca1, true)) (h3a1 : ∀ hp, zfx hp ca1 = []) (a1 : Int -> Option Bool) (ha1 : ∀ x0 y, a1 x0 = some y -> zb9 Tryz.prog Ka1 (.int .i64 x0 :: ca1) (.bool y)) (r : Bool) (h : zc0 a0 a1 = some r) : zb9 Tryz.prog 46 [.imm 1 (a0.map (D.int .i64)) 4, .fn (.func Ka1) ca1] (.bool r) := by
 refine zbt 2 Tryz.func46 ?_
 intro hwf
 unfold zc0 at h
 refine .sp [0, 1] ?_
 obtain ⟨v1, hv1, h⟩ := za2 h
 refine .sr [0, 1] ?_
 refine .rn 2 ?_
 refine .lcall (r := .int .i64 v1) [] rfl rfl rfl rfl rfl (za9 rfl (za9 (zfw (h2a1 _)) zap)) (by show zfx _ [.imm 1 (a0.map (D.int .i64)) 4, .fn (.func Ka1) ca1] = _; simp only [zfx, ids2, zag, zai, zal, h3a1]) (zis a0 Ka1 ca1 hca1 h2a1 h3a1 a1 ha1 v1 hv1) ?_
 refine .rn 2 ?_
 refine .nn ?_
 obtain rfl := sj h
 exact .rr
@[go_sem] def ya6v (n1 : Int) : St := ⟨[(3, .int .i64 n1)], [], 0⟩
@[go_sem] def ya6u (a0 : List Int) (n2 : Int) (n3 : Int) : St := ⟨[(0, .imm 1 (a0.map (D.int .i64)) 4), (3, .int .i64 n2), (4, .int .i64 n3)], [], 0⟩
theorem zkx (a0 : List Int) (r : Int) (h : zed a0 = some r) : zb9 Tryz.prog 100 [.imm 1 (a0.map (D.int .i64)) 4] (.int .i64 r) := by
 refine zbt 2 Tryz.func100 ?_
 intro hwf
 unfold zed at h
 refine .sp [0] ?_
 refine .seq (.seq (.pl zS [0] ?_))
 refine .cd ?_ ?_ <;> intro hc1
 replace h := zaf h hc1
 cases h
 replace h := zao h hc1
 refine .skip (.seq ?_)
 obtain ⟨k1, h⟩ := zb0 h
 have e1 := zex (D.int .i64) a0 0 k1
 refine .plx zS e1 [0] ?_
 obtain ⟨x1, hx1, h⟩ := za2 h
 refine .seqM 0 (fun (j : Int) => ya6v j) (fun j => x1 = j) (lb rfl) ?_ ?_
 refine .sp [0, 3] ?_
 refine .block ?_
 refine .loopG 0 (fun (j : Nat × Int × Int) => ya6u a0 j.2.1 j.2.2) (fun j => zbr a0 j.1 j.2.1 j.2.2 = some x1) (fun j => j.1) (a0.length + 1, (a0.getD 0 default), 1) (lb rfl) ?_ hx1 ?_
 exact .m [0, 3, 4] [] []
 rintro ⟨fu1, n2, n3⟩ hx1
 simp only [ya6u]
 try simp only at hx1
 obtain ⟨fu1, rfl⟩ : ∃ k, fu1 = k + 1 := by cases fu1 with | zero => (rw [zbr] at hx1; cases hx1) | succ k => exact ⟨k, rfl⟩
 rw [zbr] at hx1
 refine .seq (.seq (.pl zS [0, 3, 4] ?_))
 refine .cd ?_ ?_ <;> intro hc2
 replace hx1 := zaf hx1 hc2
 refine .skip (.seq (.block ?_))
 obtain ⟨k2, hx1⟩ := zb0 hx1
 have e2 := zbx (D.int .i64) a0 n3
 replace e2 := e2 k2
 refine .plx zS e2 [0, 3, 4] ?_
 refine .pl zS [0, 3, 4] ?_
 refine ⟨(fu1, _, _), ?_, hx1, by dsimp only; omega⟩
 exact .m [0, 3, 4] [] []
 replace hx1 := zao hx1 hc2
 refine .exit ?_
 refine ⟨_, ?_, (sj hx1).symm⟩
 exact .m [3] [] []
 rintro n1 hj1
 subst x1
 try dsimp only at h
 simp only [ya6v]
 refine .sp [3] ?_
 obtain rfl := sj h
 exact .rr
@[go_sem] def ya6z : St := ⟨[], [], 0⟩
@[go_sem] def ya6y (a0 : List (List Int)) (Ka1 : Nat) (ca1 : List D) (n1 : Nat) : St := ⟨[(0, .imm 1 (a0.map dL_inti64) 4), (1, .fn (.func Ka1) ca1), (7, .int .i64 (a0.length : Int)), (8, .int .i64 (n1 : Int))], [], 0⟩
theorem zhz (a0 : List (List Int)) (Ka1 : Nat) (ca1 : List D) (hca1 : ∀ hp, zdm hp ca1 = (ca1, true)) (h2a1 : ∀ hp, zdb hp ca1 = (ca1, true)) (h3a1 : ∀ hp, zfx hp ca1 = []) (a1 : (List Int) -> Option Bool) (ha1 : ∀ x0 y, a1 x0 = some y -> zb9 Tryz.prog Ka1 (.imm 1 (x0.map (D.int .i64)) 4 :: ca1) (.bool y)) (r : Int) (h : zdj a0 a1 = some r) : zb9 Tryz.prog 176 [.imm 1 (a0.map dL_inti64) 4, .fn (.func Ka1) ca1] (.int .i64 r) := by
 refine zbt 2 Tryz.func176 ?_
 intro hwf
 unfold zdj at h
 refine .sp [0, 1] ?_
 obtain ⟨x1, hx1, h⟩ := za2 h
 refine .seqM 0 (fun (j : Unit) => ya6z) (fun j => x1 = (.inr j)) (lb rfl) ?_ ?_
 refine .sp [0, 1] ?_
 refine .block ?_
 refine .loopG 0 (fun (j : Nat) => ya6y a0 Ka1 ca1 j) (fun j => j <= a0.length /\ zbc a1 (a0.drop j) j  = some x1) (fun j => a0.length - j) (0) (lb rfl) ?_ ⟨Nat.zero_le _, hx1⟩ ?_
 exact .mq (zb2 hca1) (zb1 hca1) [0, 1, 7, 8] [] []
 rintro n1 ⟨hi1, hx1⟩
 simp only [ya6y]
 refine .wf 7 (.int .i64 (a0.length : Int)) rfl ?_
 intro hln1
 replace hln1 := wfn hln1
 refine .sp [0, 1, 7, 8] ?_
 refine .seq (.cd (fun hc1 => ?_) (fun hc1 => ?_))
 have h1 : n1 < a0.length := by simpa using hc1
 have hwn1 := zdw h1 hln1
 have hpn1 := zdx h1 hln1
 rw [za7 h1, zbc] at hx1
 refine .skip (.seq (.block (.seq (.plx zS hwn1 [0, 1, 7, 8] ?_))))
 refine .seq ?_
 obtain ⟨v1, hv1, hx1⟩ := za2 hx1
 have e1 := zdk dL_inti64 a0 n1 h1
 refine .rg zS [0, 1, 5, 7, 8] ?_
 refine .rnx 5 (ai e1 hwn1) ?_
 refine .call (r := .bool v1) rfl rfl rfl rfl rfl (za8 rfl (hca1 _)) (ha1 _ v1 hv1) ?_
 refine .nn ?_
 refine .cd ?_ ?_ <;> intro hc2
 replace hx1 := zaf hx1 hc2
 refine .seq (.plx zS hwn1 [5] ?_)
 have hq := sj hx1
 subst x1
 try dsimp only at h
 obtain rfl := sj h
 exact .rr
 replace hx1 := zao hx1 hc2
 refine .skip (.plx zS hwn1 [0, 1, 7, 8] ?_)
 refine ⟨n1 + 1, ?_, ⟨by omega, hx1⟩, by dsimp only; omega⟩
 exact .mq (zb2 hca1) (zb1 hca1) [0, 1, 7, 8] [] []
 have h2 : n1 = a0.length := by have h2b := of_decide_eq_false hc1; omega
 rw [zab (by omega), zbc] at hx1
 refine .exit ?_
 refine ⟨_, ?_, (sj hx1).symm⟩
 exact .mq (zb2 hca1) (zb1 hca1) [] [] []
 rintro ⟨⟩ hj1
 subst x1
 try dsimp only at h
 simp only [ya6z]
 refine .sp [] ?_
 obtain rfl := sj h
 exact .rr
theorem zha (a0 : List (List Int)) (Ka1 : Nat) (ca1 : List D) (hca1 : ∀ hp, zdm hp ca1 = (ca1, true)) (h2a1 : ∀ hp, zdb hp ca1 = (ca1, true)) (h3a1 : ∀ hp, zfx hp ca1 = []) (a1 : (List Int) -> Option Bool) (ha1 : ∀ x0 y, a1 x0 = some y -> zb9 Tryz.prog Ka1 (.imm 1 (x0.map (D.int .i64)) 4 :: ca1) (.bool y)) (r : Bool) (h : zcb a0 a1 = some r) : zb9 Tryz.prog 150 [.imm 1 (a0.map dL_inti64) 4, .fn (.func Ka1) ca1] (.bool r) := by
 refine zbt 2 Tryz.func150 ?_
 intro hwf
 unfold zcb at h
 refine .sp [0, 1] ?_
 obtain ⟨v1, hv1, h⟩ := za2 h
 refine .sr [0, 1] ?_
 refine .rn 2 ?_
 refine .lcall (r := .int .i64 v1) [] rfl rfl rfl rfl rfl (za9 rfl (za9 (zfw (h2a1 _)) zap)) (by show zfx _ [.imm 1 (a0.map dL_inti64) 4, .fn (.func Ka1) ca1] = _; simp only [zfx, ids2, zag, zai, zal, h3a1]) (zhz a0 Ka1 ca1 hca1 h2a1 h3a1 a1 ha1 v1 hv1) ?_
 refine .rn 2 ?_
 refine .nn ?_
 obtain rfl := sj h
 exact .rr
theorem zmo (a0 : Int) (r : Bool) (h : zfh a0 = some r) : zb9 Tryz.prog 149 [.int .i64 a0] (.bool r) := by
 refine zbt 2 Tryz.func149 ?_
 intro hwf
 unfold zfh at h
 refine .sp [0] ?_
 refine .sp [0] ?_
 obtain rfl := sj h
 exact .rr
theorem zmn (a0 : List Int) (r : Bool) (h : zek a0 = some r) : zb9 Tryz.prog 151 [.imm 1 (a0.map (D.int .i64)) 4, .iptr 0 [.fn (.func 149) []]] (.bool r) := by
 refine zbt 2 Tryz.func151 ?_
 intro hwf
 unfold zek at h
 refine .sp [0, 1] ?_
 obtain ⟨v1, hv1, h⟩ := za2 h
 refine .sr [0, 1] ?_
 refine .rn 6 ?_
 refine .glcall (r := .bool v1) [] rfl rfl rfl rfl rfl (fun hg => ⟨[], [.imm 1 (a0.map (D.int .i64)) 4, .fn (.func 149) []], _, rfl, gd hg, (za9 rfl (za9 (zfw zap) zap)), rfl, (zf4 a0 149 [] (fun _ => rfl) (fun _ => rfl) (fun _ => rfl) zfh (fun x0 y hy => zmo x0 y hy) v1 (zaf hv1 hg))⟩) ?_
 refine .rn 2 ?_
 refine .nn ?_
 obtain rfl := sj h
 exact .rr
theorem zjy (a0 : List (List Int)) (r : Int) (h : zfi a0 = some r) : zb9 Tryz.prog 99 [.imm 1 (a0.map dL_inti64) 4] (.int .i64 r) := by
 refine zbt 3 Tryz.func99 ?_
 intro hwf
 unfold zfi at h
 refine .sp [0] ?_
 refine .sp [0] ?_
 refine .seq ?_
 obtain ⟨v1, hv1, h⟩ := za2 h
 refine .sr [0, 3] ?_
 refine .rn 6 ?_
 refine .glcall (r := .bool v1) [] rfl rfl rfl rfl rfl (fun hg => ⟨[], [.imm 1 (a0.map dL_inti64) 4, .fn (.func 151) [.ptr 0 0]], _, rfl, gd hg, (za9 rfl (za9 (zfw (za9 (zjx rfl (za8 rfl zeg)) zap)) zap)), rfl, (zha a0 151 [.iptr 0 [.fn (.func 149) []]] (fun _ => rfl) (fun _ => rfl) (fun _ => rfl) zek (fun x0 y hy => zmn x0 y hy) v1 (zaf hv1 hg))⟩) ?_
 refine .rn 1 ?_
 refine .nn ?_
 refine .cd ?_ ?_ <;> intro hc1
 replace h := zaf h hc1
 refine .sp [] ?_
 obtain rfl := sj h
 exact .rr
 replace h := zao h hc1
 refine .skip (.seq (.pl zS [] ?_))
 obtain rfl := sj h
 exact .rr
theorem znt (a0 : List (List Int)) (a1 : Int) (a2 : Int) (r : Int) (h : zgh a0 a1 a2 = some r) : zb9 Tryz.prog 208 [.imm 1 (a0.map dL_inti64) 4, .int .i64 a1, .int .i64 a2] (.int .i64 r) := by
 refine zbt 2 Tryz.func208 ?_
 intro hwf
 unfold zgh at h
 refine .sp [0, 1, 2] ?_
 refine .seq ?_
 obtain ⟨v1, hv1, h⟩ := za2 h
 refine .sr [0, 1, 2] ?_
 refine .rn 1 ?_
 refine .cl (zjy a0 v1 hv1) ?_
 refine .rn 1 ?_
 refine .nn ?_
 refine .sp [1, 2, 7] ?_
 refine .cd ?_ ?_ <;> intro hc1
 replace h := zaf h hc1
 refine .sp [7] ?_
 obtain rfl := sj h
 exact .rr
 replace h := zao h hc1
 refine .skip (.seq (.seq (.rg zS [1, 2] ?_)))
 refine .rn 6 ?_
 refine .rn 8 ?_
 refine .nn ?_
 refine .cd ?_ ?_ <;> intro hc2
 replace h := zaf h hc2
 refine .sp [] ?_
 obtain rfl := sj h
 exact .rr
 replace h := zao h hc2
 refine .skip (.seq (.pl zS [] ?_))
 obtain rfl := sj h
 exact .rr
attribute [local go_sem] Nat.min_self List.drop_replicate Nat.sub_self List.replicate_zero List.take_zero
@[go_sem] def st59 (l1 : List (List Int)) : St := ⟨[(3, .ref 0 1 0 l1.length (some uC))], [(0, .arr 30 1 true (l1.map zbw))], 1⟩
@[go_sem] def st60 (a0 : List (List Int)) (n1 : Nat) (l2 : List (List Int)) : St := ⟨[(3, .ref 0 1 0 l2.length (some uC)), (7, .imm 1 (a0.map dL_inti64) 4), (8, .int .i64 (a0.length : Int)), (9, .int .i64 (n1 : Int))], [(0, .arr 30 1 true (l2.map zbw))], 1⟩
@[go_sem] def st8 (r : (List (List Int))) : St := ⟨[(2, .ref 0 1 0 r.length (some uC))], [(0, .arr 30 1 true (r.map zbw))], 1⟩
theorem zoz (a0 : List (List Int)) (r : (List (List Int))) (h : zdn a0 = some r) : zby Tryz.prog 85 [.imm 1 (a0.map dL_inti64) 4] [] (.ref 0 1 0 r.length (some uC)) [(0, some (.arr 30 1 true (r.map zbw)))] (0, 6) := by
 refine zcu Tryz.func85 ?_
 intro hwf
 unfold zdn at h
 refine .ends 0 (za4 _) ?_
 refine .sp [0] ?_
 refine .sp [0] ?_
 obtain ⟨x1, hx1, h⟩ := za2 h
 refine .seqM 0 (fun (j : (List (List Int))) => st59 j) (fun j => x1 = j) (lb rfl) ?_ ?_
 refine .sp [0, 3] ?_
 refine .block ?_
 refine .loopG 0 (fun (j : Nat × (List (List Int))) => st60 a0 j.1 j.2) (fun j => j.1 <= a0.length /\ zca (a0.drop j.1) j.2 = some x1) (fun j => a0.length - j.1) (0, []) (lb rfl) ?_ ⟨Nat.zero_le _, hx1⟩ ?_
 refine .n0 1 30 ?_
 refine .w0 3 0 1 ?_
 exact .m [3, 7, 8, 9] [0] []
 rintro ⟨n1, l2⟩ ⟨hi1, hx1⟩
 simp only [st60]
 simp only at hi1 hx1
 refine .wf 8 (.int .i64 (a0.length : Int)) rfl ?_
 intro hln1
 replace hln1 := wfn hln1
 refine .sp [3, 7, 8, 9] ?_
 refine .seq (.cd (fun hc1 => ?_) (fun hc1 => ?_))
 have h1 : n1 < a0.length := by simpa using hc1
 have hwn1 := zdw h1 hln1
 have hpn1 := zdx h1 hln1
 rw [za7 h1, zes] at hx1
 refine .skip (.seq (.block (.seq ?_)))
 have e1 := zdk dL_inti64 a0 n1 h1
 refine .plx zS (ai e1 hwn1) [3, 7, 8, 9] ?_
 refine .seq ?_
 obtain ⟨k1, hx1⟩ := zb0 hx1
 refine .plx zS hwn1 [3, 5, 7, 8, 9] ?_
 refine .seq (.plx zS hwn1 [3, 5, 6, 7, 8, 9] ?_)
 refine .goes (.give 6 (.ref 1 1 0 ((a0[n1]).length) (some ((a0[n1]).length))) (.imm 1 ((a0[n1]).map (D.int .i64)) 13) [0] rfl (zcm zd1 rfl rfl) (by simp only [go_sem, D.ids, D.idsL, zag, zai, zal, List.mem_cons, List.not_mem_nil, or_false, forall_eq_or_imp, forall_eq, Nat.reduceBEq] <;> simp) .refl) ?_
 obtain ⟨k2, hx1⟩ := zb0 hx1
 refine .plx zS hwn1 [3, 6, 7, 8, 9] ?_
 refine .plx zS hwn1 [3, 7, 8, 9] ?_
 refine ⟨(n1 + 1, _), ?_, ⟨by omega, hx1⟩, by dsimp only; omega⟩
 exact .m [3, 7, 8, 9] [3] [(3, 0)]
 have h2 : n1 = a0.length := by have h2b := of_decide_eq_false hc1; omega
 rw [zab (by omega), zer] at hx1
 refine .exit ?_
 refine ⟨_, ?_, (sj hx1).symm⟩
 exact .m [3] [0] []
 rintro l1 hj1
 subst x1
 try dsimp only at h
 simp only [st59]
 refine .sp [3] ?_
 obtain rfl := sj h
 refine .ret ⟨st8 l1, ?_, .inr rfl, retH [0] ?_ ?_⟩
 exact .m [2] [0] []
 exact rsi0
 rfl
theorem zn9 (a0 : List Int) (a1 : List Int) (r : Bool) (h : zh5 a0 a1 = some r) : zb9 Tryz.prog 154 [.imm 1 (a0.map (D.int .i64)) 4, .imm 1 (a1.map (D.int .i64)) 4] (.bool r) := by
 refine zbt 2 Tryz.func154 ?_
 intro hwf
 unfold zh5 at h
 refine .sp [0, 1] ?_
 obtain ⟨v1, hv1, h⟩ := za2 h
 refine .sr [0, 1] ?_
 refine .rn 2 ?_
 refine .cl (ze1 a0 a1 v1 hv1) ?_
 refine .rn 1 ?_
 refine .nn ?_
 obtain rfl := sj h
 exact .rr
@[go_sem] def st94 : St := ⟨[], [], 0⟩
@[go_sem] def st95 (a0 : List (List Int)) (a1 : List (List Int)) (Ka2 : Nat) (ca2 : List D) (n1 : Nat) : St := ⟨[(1, .imm 1 (a1.map dL_inti64) 4), (2, .fn (.func Ka2) ca2), (15, .imm 1 (a0.map dL_inti64) 4), (16, .int .i64 (a0.length : Int)), (17, .int .i64 (n1 : Int))], [], 0⟩
theorem zgp (a0 : List (List Int)) (a1 : List (List Int)) (Ka2 : Nat) (ca2 : List D) (hca2 : ∀ hp, zdm hp ca2 = (ca2, true)) (h2a2 : ∀ hp, zdb hp ca2 = (ca2, true)) (h3a2 : ∀ hp, zfx hp ca2 = []) (a2 : (List Int) -> (List Int) -> Option Bool) (ha2 : ∀ x0 x1 y, a2 x0 x1 = some y -> zb9 Tryz.prog Ka2 (.imm 1 (x0.map (D.int .i64)) 4 :: .imm 1 (x1.map (D.int .i64)) 4 :: ca2) (.bool y)) (r : Bool) (h : zdl a0 a1 a2 = some r) : zb9 Tryz.prog 153 [.imm 1 (a0.map dL_inti64) 4, .imm 1 (a1.map dL_inti64) 4, .fn (.func Ka2) ca2] (.bool r) := by
 refine zbt 2 Tryz.func153 ?_
 intro hwf
 unfold zdl at h
 refine .sp [0, 1, 2] ?_
 refine .seq (.seq (.pl zS [0, 1, 2] ?_))
 refine .cd ?_ ?_ <;> intro hc1
 replace h := zaf h hc1
 refine .sp [] ?_
 obtain rfl := sj h
 exact .rr
 replace h := zao h hc1
 obtain ⟨x1, hx1, h⟩ := za2 h
 refine .skip ?_
 refine .seqM 0 (fun (j : Unit) => st94) (fun j => x1 = (.inr j)) (lb rfl) ?_ ?_
 refine .sp [0, 1, 2] ?_
 refine .block ?_
 refine .loopG 0 (fun (j : Nat) => st95 a0 a1 Ka2 ca2 j) (fun j => j <= a0.length /\ zbn a1 a2 (a0.drop j) j  = some x1) (fun j => a0.length - j) (0) (lb rfl) ?_ ⟨Nat.zero_le _, hx1⟩ ?_
 exact .mq (zb2 hca2) (zb1 hca2) [1, 2, 15, 16, 17] [] []
 rintro n1 ⟨hi1, hx1⟩
 simp only [st95]
 refine .wf 16 (.int .i64 (a0.length : Int)) rfl ?_
 intro hln1
 replace hln1 := wfn hln1
 refine .sp [1, 2, 15, 16, 17] ?_
 refine .seq (.cd (fun hc2 => ?_) (fun hc2 => ?_))
 have h1 : n1 < a0.length := by simpa using hc2
 have hwn1 := zdw h1 hln1
 have hpn1 := zdx h1 hln1
 rw [za7 h1, zbn] at hx1
 refine .skip (.seq (.block (.seq ?_)))
 have e1 := zdk dL_inti64 a0 n1 h1
 refine .plx zS (ai e1 hwn1) [1, 2, 15, 16, 17] ?_
 refine .seq ?_
 obtain ⟨k1, hx1⟩ := zb0 hx1
 have e2 := zex dL_inti64 a1 n1
 replace e2 := e2 k1
 refine .plx zS (ai e2 hwn1) [1, 2, 7, 8, 15, 16, 17] ?_
 refine .seq ?_
 obtain ⟨v1, hv1, hx1⟩ := za2 hx1
 refine .rg zS [1, 2, 8, 9, 15, 16, 17] ?_
 refine .rnx 3 hwn1 ?_
 refine .call (r := .bool v1) rfl rfl rfl rfl rfl (za8 rfl (za8 rfl (hca2 _))) (ha2 _ _ v1 hv1) ?_
 refine .rnx 1 hwn1 ?_
 refine .nn ?_
 refine .cd ?_ ?_ <;> intro hc3
 replace hx1 := zaf hx1 hc3
 refine .seq (.plx zS hwn1 [] ?_)
 have hq := sj hx1
 subst x1
 try dsimp only at h
 obtain rfl := sj h
 exact .rr
 replace hx1 := zao hx1 hc3
 refine .skip (.plx zS hwn1 [1, 2, 15, 16, 17] ?_)
 refine ⟨n1 + 1, ?_, ⟨by omega, hx1⟩, by dsimp only; omega⟩
 exact .mq (zb2 hca2) (zb1 hca2) [1, 2, 15, 16, 17] [] []
 have h2 : n1 = a0.length := by have h2b := of_decide_eq_false hc2; omega
 rw [zab (by omega), zbn] at hx1
 refine .exit ?_
 refine ⟨_, ?_, (sj hx1).symm⟩
 exact .mq (zb2 hca2) (zb1 hca2) [] [] []
 rintro ⟨⟩ hj1
 subst x1
 try dsimp only at h
 simp only [st94]
 refine .sp [] ?_
 obtain rfl := sj h
 exact .rr
theorem zot (a0 : List (List Int)) (a1 : List (List Int)) (r : Bool) (h : zki a0 a1 = some r) : zb9 Tryz.prog 108 [.imm 1 (a0.map dL_inti64) 4, .imm 1 (a1.map dL_inti64) 4] (.bool r) := by
 refine zbt 2 Tryz.func108 ?_
 intro hwf
 unfold zki at h
 refine .sp [0, 1] ?_
 obtain ⟨v1, hv1, h⟩ := za2 h
 refine .sr [0, 1] ?_
 refine .rn 2 ?_
 refine .lcall (r := .bool v1) [] rfl rfl rfl rfl rfl (za9 rfl (za9 rfl (za9 (zfw zap) zap))) rfl (zgp a0 a1 154 [] (fun _ => rfl) (fun _ => rfl) (fun _ => rfl) zh5 (fun x0 x1 y hy => zn9 x0 x1 y hy) v1 hv1) ?_
 refine .rn 1 ?_
 refine .nn ?_
 obtain rfl := sj h
 exact .rr
@[go_sem] def ya73 : St := ⟨[], [], 0⟩
@[go_sem] def ya72 (a0 : List TTopic) (Ka1 : Nat) (ca1 : List D) (n1 : Nat) : St := ⟨[(0, .imm 4 (a0.map TTopic.d) 4), (1, .fn (.func Ka1) ca1), (7, .int .i64 (a0.length : Int)), (8, .int .i64 (n1 : Int))], [], 0⟩
theorem zhe (a0 : List TTopic) (Ka1 : Nat) (ca1 : List D) (hca1 : ∀ hp, zdm hp ca1 = (ca1, true)) (h2a1 : ∀ hp, zdb hp ca1 = (ca1, true)) (h3a1 : ∀ hp, zfx hp ca1 = []) (a1 : TTopic -> Option Bool) (ha1 : ∀ x0 y, a1 x0 = some y -> zb9 Tryz.prog Ka1 (.agg [.int .i64 x0.Base, .int .i64 x0.Next, .int .i64 x0.Mark, .imm 4 (x0.Entries.map TEntry.d) 4] :: ca1) (.bool y)) (r : Int) (h : zd4 a0 a1 = some r) : zb9 Tryz.prog 148 [.imm 4 (a0.map TTopic.d) 4, .fn (.func Ka1) ca1] (.int .i64 r) := by
 refine zbt 2 Tryz.func148 ?_
 intro hwf
 unfold zd4 at h
 refine .sp [0, 1] ?_
 obtain ⟨x1, hx1, h⟩ := za2 h
 refine .seqM 0 (fun (j : Unit) => ya73) (fun j => x1 = (.inr j)) (lb rfl) ?_ ?_
 refine .sp [0, 1] ?_
 refine .block ?_
 refine .loopG 0 (fun (j : Nat) => ya72 a0 Ka1 ca1 j) (fun j => j <= a0.length /\ zb3 a1 (a0.drop j) j  = some x1) (fun j => a0.length - j) (0) (lb rfl) ?_ ⟨Nat.zero_le _, hx1⟩ ?_
 exact .mq (zb2 hca1) (zb1 hca1) [0, 1, 7, 8] [] []
 rintro n1 ⟨hi1, hx1⟩
 simp only [ya72]
 refine .wf 7 (.int .i64 (a0.length : Int)) rfl ?_
 intro hln1
 replace hln1 := wfn hln1
 refine .sp [0, 1, 7, 8] ?_
 refine .seq (.cd (fun hc1 => ?_) (fun hc1 => ?_))
 have h1 : n1 < a0.length := by simpa using hc1
 have hwn1 := zdw h1 hln1
 have hpn1 := zdx h1 hln1
 rw [za7 h1, zb3] at hx1
 refine .skip (.seq (.block (.seq (.plx zS hwn1 [0, 1, 7, 8] ?_))))
 refine .seq ?_
 obtain ⟨v1, hv1, hx1⟩ := za2 hx1
 have e1 := zdk TTopic.d a0 n1 h1
 refine .rg zS [0, 1, 5, 7, 8] ?_
 refine .rnx 5 (ai e1 hwn1) ?_
 refine .call (r := .bool v1) rfl rfl rfl rfl rfl (za8 rfl (hca1 _)) (ha1 _ v1 hv1) ?_
 refine .nn ?_
 refine .cd ?_ ?_ <;> intro hc2
 replace hx1 := zaf hx1 hc2
 refine .seq (.plx zS hwn1 [5] ?_)
 have hq := sj hx1
 subst x1
 try dsimp only at h
 obtain rfl := sj h
 exact .rr
 replace hx1 := zao hx1 hc2
 refine .skip (.plx zS hwn1 [0, 1, 7, 8] ?_)
 refine ⟨n1 + 1, ?_, ⟨by omega, hx1⟩, by dsimp only; omega⟩
 exact .mq (zb2 hca1) (zb1 hca1) [0, 1, 7, 8] [] []
 have h2 : n1 = a0.length := by have h2b := of_decide_eq_false hc1; omega
 rw [zab (by omega), zb3] at hx1
 refine .exit ?_
 refine ⟨_, ?_, (sj hx1).symm⟩
 exact .mq (zb2 hca1) (zb1 hca1) [] [] []
 rintro ⟨⟩ hj1
 subst x1
 try dsimp only at h
 simp only [ya73]
 refine .sp [] ?_
 obtain rfl := sj h
 exact .rr
theorem zgw (a0 : List TTopic) (Ka1 : Nat) (ca1 : List D) (hca1 : ∀ hp, zdm hp ca1 = (ca1, true)) (h2a1 : ∀ hp, zdb hp ca1 = (ca1, true)) (h3a1 : ∀ hp, zfx hp ca1 = []) (a1 : TTopic -> Option Bool) (ha1 : ∀ x0 y, a1 x0 = some y -> zb9 Tryz.prog Ka1 (.agg [.int .i64 x0.Base, .int .i64 x0.Next, .int .i64 x0.Mark, .imm 4 (x0.Entries.map TEntry.d) 4] :: ca1) (.bool y)) (r : Bool) (h : zc1 a0 a1 = some r) : zb9 Tryz.prog 98 [.imm 4 (a0.map TTopic.d) 4, .fn (.func Ka1) ca1] (.bool r) := by
 refine zbt 2 Tryz.func98 ?_
 intro hwf
 unfold zc1 at h
 refine .sp [0, 1] ?_
 obtain ⟨v1, hv1, h⟩ := za2 h
 refine .sr [0, 1] ?_
 refine .rn 2 ?_
 refine .lcall (r := .int .i64 v1) [] rfl rfl rfl rfl rfl (za9 rfl (za9 (zfw (h2a1 _)) zap)) (by show zfx _ [.imm 4 (a0.map TTopic.d) 4, .fn (.func Ka1) ca1] = _; simp only [zfx, ids2, zag, zai, zal, h3a1]) (zhe a0 Ka1 ca1 hca1 h2a1 h3a1 a1 ha1 v1 hv1) ?_
 refine .rn 2 ?_
 refine .nn ?_
 obtain rfl := sj h
 exact .rr
theorem zn8 (a0 : TTopic) (r : Bool) (h : zev a0 = some r) : zb9 Tryz.prog 96 [.agg [.int .i64 a0.Base, .int .i64 a0.Next, .int .i64 a0.Mark, .imm 4 (a0.Entries.map TEntry.d) 4]] (.bool r) := by
 refine zbt 3 Tryz.func96 ?_
 intro hwf
 unfold zev at h
 refine .sp [0] ?_
 obtain ⟨v1, hv1, h⟩ := za2 h
 refine .sr [1] ?_
 refine .rn 1 ?_
 refine .cl (zgo a0 v1 hv1) ?_
 refine .rn 2 ?_
 refine .nn ?_
 obtain rfl := sj h
 exact .rr
@[go_sem] def ya6m : St := ⟨[], [], 1⟩
@[go_sem] def ya6l (a0 : TStream) (n1 : Nat) : St := ⟨[(1, .ptr 0 0), (23, .imm 1 (a0.Commits.map dL_inti64) 4), (24, .int .i64 (a0.Commits.length : Int)), (25, .int .i64 (n1 : Int))], [(0, .box [.imm 4 (a0.Topics.map TTopic.d) 4, .imm 1 (a0.Commits.map dL_inti64) 4])], 1⟩
theorem zkd (a0 : TStream) (r : Int) (h : zg5 a0 = some r) : zb9 Tryz.prog 45 [.agg [.imm 4 (a0.Topics.map TTopic.d) 4, .imm 1 (a0.Commits.map dL_inti64) 4]] (.int .i64 r) := by
 refine zbt 3 Tryz.func45 ?_
 intro hwf
 unfold zg5 at h
 refine .sp [0] ?_
 refine .sp [1] ?_
 refine .seq ?_
 obtain ⟨v1, hv1, h⟩ := za2 h
 obtain ⟨v2, hv2, h⟩ := za2 h
 refine .sr [1, 3] ?_
 refine .rn 8 ?_
 refine .glcall (r := .bool v1) [] rfl rfl rfl rfl rfl (fun hg => ⟨[], [.imm 4 (a0.Topics.map TTopic.d) 4, .fn (.func 96) []], _, rfl, gd hg, (za9 rfl (za9 (zfw zap) zap)), rfl, (zgw a0.Topics 96 [] (fun _ => rfl) (fun _ => rfl) (fun _ => rfl) zev (fun x0 y hy => zn8 x0 y hy) v1 (zaf hv1 hg))⟩) ?_
 refine .rn 4 ?_
 refine .gcall rfl rfl rfl rfl rfl (fun hg => ⟨[], [.imm 1 (a0.Commits.map dL_inti64) 4], _, rfl, gd hg, rfl, (zjy a0.Commits v2 (zaf hv2 hg))⟩) ?_
 refine .rn 2 ?_
 refine .nn ?_
 refine .cd ?_ ?_ <;> intro hc1
 replace h := zaf h hc1
 refine .sp [] ?_
 obtain rfl := sj h
 exact .rr
 replace h := zao h hc1
 obtain ⟨x1, hx1, h⟩ := za2 h
 refine .skip ?_
 refine .seqM 1 (fun (j : Unit) => ya6m) (fun j => x1 = (.inr j)) (lb rfl) ?_ ?_
 refine .sp [1] ?_
 refine .block ?_
 refine .loopG 1 (fun (j : Nat) => ya6l a0 j) (fun j => j <= a0.Commits.length /\ zcf a0 (a0.Commits.drop j) j  = some x1) (fun j => a0.Commits.length - j) (0) (lb rfl) ?_ ⟨Nat.zero_le _, hx1⟩ ?_
 exact .m [1, 23, 24, 25] [0] []
 rintro n1 ⟨hi1, hx1⟩
 simp only [ya6l]
 refine .wf 24 (.int .i64 (a0.Commits.length : Int)) rfl ?_
 intro hln1
 replace hln1 := wfn hln1
 refine .sp [1, 23, 24, 25] ?_
 refine .seq (.cd (fun hc2 => ?_) (fun hc2 => ?_))
 have h1 : n1 < a0.Commits.length := by simpa using hc2
 have hwn1 := zdw h1 hln1
 have hpn1 := zdx h1 hln1
 rw [za7 h1, zcf] at hx1
 refine .skip (.seq (.block (.seq ?_)))
 have e1 := zdk dL_inti64 a0.Commits n1 h1
 refine .plx zS (ai e1 hwn1) [1, 23, 24, 25] ?_
 refine .seq ?_
 obtain ⟨v3, hv3, hx1⟩ := za2 hx1
 obtain ⟨k1, hx1⟩ := zb0 hx1
 have e2 := zex TTopic.d a0.Topics n1
 replace e2 := e2 k1
 refine .rg zS [1, 4, 5, 23, 24, 25] ?_
 refine .rdx 1 (ai e2 hwn1) ?_
 refine .cl (zkx (a0.Commits[n1]) v3 hv3) ?_
 refine .rdx 7 (ai e2 hwn1) ?_
 refine .nd ?_
 refine .cd ?_ ?_ <;> intro hc3
 replace hx1 := zaf hx1 hc3
 refine .seq (.plx zS hwn1 [] ?_)
 have hq := sj hx1
 subst x1
 try dsimp only at h
 obtain rfl := sj h
 exact .rr
 replace hx1 := zao hx1 hc3
 refine .skip (.plx zS hwn1 [1, 23, 24, 25] ?_)
 refine ⟨n1 + 1, ?_, ⟨by omega, hx1⟩, by dsimp only; omega⟩
 exact .m [1, 23, 24, 25] [0] []
 have h2 : n1 = a0.Commits.length := by have h2b := of_decide_eq_false hc2; omega
 rw [zab (by omega), zcf] at hx1
 refine .exit ?_
 refine ⟨_, ?_, (sj hx1).symm⟩
 exact .m [] [] []
 rintro ⟨⟩ hj1
 subst x1
 try dsimp only at h
 simp only [ya6m]
 refine .sp [] ?_
 obtain rfl := sj h
 exact .rr
theorem zht (a0 : TStream) (a1 : Int) (r : Int) (h : zf7 a0 a1 = some r) : zb9 Tryz.prog 62 [.agg [.imm 4 (a0.Topics.map TTopic.d) 4, .imm 1 (a0.Commits.map dL_inti64) 4], .int .i64 a1] (.int .i64 r) := by
 refine zbt 3 Tryz.func62 ?_
 intro hwf
 unfold zf7 at h
 refine .sp [0, 1] ?_
 refine .seq ?_
 obtain ⟨v1, hv1, h⟩ := za2 h
 refine .sr [1, 2] ?_
 refine .rn 1 ?_
 refine .cl (zkd a0 v1 hv1) ?_
 refine .rn 1 ?_
 refine .nn ?_
 refine .sp [1, 5] ?_
 refine .cd ?_ ?_ <;> intro hc1
 replace h := zaf h hc1
 refine .sp [5] ?_
 obtain rfl := sj h
 exact .rr
 replace h := zao h hc1
 refine .skip (.seq (.seq (.pl zS [1] ?_)))
 refine .cd ?_ ?_ <;> intro hc2
 replace h := zaf h hc2
 refine .sp [] ?_
 obtain rfl := sj h
 exact .rr
 replace h := zao h hc2
 refine .skip (.seq (.pl zS [] ?_))
 obtain rfl := sj h
 exact .rr
@[go_sem] def ya6i (v1 : List (List Int)) (l1 : List TTopic) : St := ⟨[(2, .ptr 1 0), (3, .ptr 12 0)], [(1, .box [.imm 0 [] 0, .imm 0 [] 0]), (6, .arr 30 1 true (v1.map zbw)), (12, .box [.ref 13 4 0 l1.length (some uC), .ref 6 1 0 v1.length (some uC)]), (13, .arr 94 4 true (l1.map TTopic.n))], 14⟩
@[go_sem] def ya6h (a0 : TStream) (v1 : List (List Int)) (n1 : Nat) (l2 : List TTopic) : St := ⟨[(2, .ptr 1 0), (3, .ptr 12 0), (11, .imm 4 (a0.Topics.map TTopic.d) 4), (12, .int .i64 (a0.Topics.length : Int)), (13, .int .i64 (n1 : Int))], [(1, .box [.imm 0 [] 0, .imm 0 [] 0]), (6, .arr 30 1 true (v1.map zbw)), (12, .box [.ref 13 4 0 l2.length (some uC), .ref 6 1 0 v1.length (some uC)]), (13, .arr 94 4 true (l2.map TTopic.n))], 14⟩
@[go_sem] def st38 (r : TStream) : St := ⟨[(2, .ptr 2 0)], [(0, .arr 94 4 true (r.Topics.map TTopic.n)), (1, .arr 30 1 true (r.Commits.map zbw)), (2, .box [.ref 0 4 0 r.Topics.length (some uC), .ref 1 1 0 r.Commits.length (some uC)])], 3⟩
theorem zid (a0 : TStream) (r : TStream) (h : zez a0 = some r) : zby Tryz.prog 39 [.agg [.imm 4 (a0.Topics.map TTopic.d) 4, .imm 1 (a0.Commits.map dL_inti64) 4]] [] (.agg [.ref 0 4 0 r.Topics.length (some uC), .ref 1 1 0 r.Commits.length (some uC)]) [(0, some (.arr 94 4 true (r.Topics.map TTopic.n))), (1, some (.arr 30 1 true (r.Commits.map zbw)))] (0, 19) := by
 refine zcu Tryz.func39 ?_
 intro hwf
 unfold zez at h
 refine .ends 0 (za4 _) ?_
 refine .sp [0] ?_
 obtain ⟨v1, hv1, h⟩ := za2 h
 refine .sr [1, 2] ?_
 refine .rn 2 ?_
 refine .ncall (r := .ref 6 1 0 v1.length (some uC)) (eff := [(6, some (.arr 30 1 true (v1.map zbw)))]) (nw := (6, 12)) [] rfl rfl rfl rfl rfl (za9 rfl zap) rfl (zdt 6 (lb rfl) (zoz a0.Commits v1 hv1)) (zc4 rfl rfl (zjw zcv _ _ _) ze8) (by intro i hi; simp [D.ids, D.idsL] at hi <;> omega) rfl ⟨lb rfl, lb rfl⟩ ?_
 refine .rn 3 ?_
 refine .nn ?_
 obtain ⟨x1, hx1, h⟩ := za2 h
 refine .seqM 13 (fun (j : (List TTopic)) => ya6i v1 j) (fun j => x1 = j) (lb rfl) ?_ ?_
 refine .sp [1, 2, 3] ?_
 refine .block ?_
 refine .loopG 13 (fun (j : Nat × (List TTopic)) => ya6h a0 v1 j.1 j.2) (fun j => j.1 <= a0.Topics.length /\ zdd (a0.Topics.drop j.1) j.2 = some x1) (fun j => a0.Topics.length - j.1) (0, []) (lb rfl) ?_ ⟨Nat.zero_le _, hx1⟩ ?_
 refine .n0 4 94 ?_
 refine .boxs 12 _ [.ref 13 4 0 0 (some uC), .ref 6 1 0 v1.length (some uC)] rfl (.cons (.own0 13 _ _ _ (by decide)) (.refl _)) ?_
 exact .m [2, 3, 11, 12, 13] [1, 6, 12, 13] []
 rintro ⟨n1, l2⟩ ⟨hi1, hx1⟩
 simp only [ya6h]
 simp only at hi1 hx1
 refine .wf 12 (.int .i64 (a0.Topics.length : Int)) rfl ?_
 intro hln1
 replace hln1 := wfn hln1
 refine .sp [2, 3, 11, 12, 13] ?_
 refine .seq (.cd (fun hc1 => ?_) (fun hc1 => ?_))
 have h1 : n1 < a0.Topics.length := by simpa using hc1
 have hwn1 := zdw h1 hln1
 have hpn1 := zdx h1 hln1
 rw [za7 h1, zil] at hx1
 refine .skip (.seq (.block (.seq ?_)))
 have e1 := zdk TTopic.d a0.Topics n1 h1
 refine .plx zS (ai e1 hwn1) [2, 3, 11, 12, 13] ?_
 obtain ⟨v2, hv2, hx1⟩ := za2 hx1
 obtain ⟨k1, hx1⟩ := zb0 hx1
 refine .rg zS [2, 3, 5, 11, 12, 13] ?_
 refine .rdx 3 hwn1 ?_
 refine .cl (zj2 (a0.Topics[n1]) v2 hv2) ?_
 refine .rdx 4 hwn1 ?_
 refine .nd ?_
 refine .plx zS hwn1 [2, 3, 11, 12, 13] ?_
 refine ⟨(n1 + 1, _), ?_, ⟨by omega, hx1⟩, by dsimp only; omega⟩
 exact .m [2, 3, 11, 12, 13] [1, 6, 12, 16] [(16, 13)]
 have h2 : n1 = a0.Topics.length := by have h2b := of_decide_eq_false hc1; omega
 rw [zab (by omega), zik] at hx1
 refine .exit ?_
 refine ⟨_, ?_, (sj hx1).symm⟩
 exact .m [2, 3] [1, 6, 12, 13] []
 rintro l1 hj1
 subst x1
 try dsimp only at h
 simp only [ya6i]
 refine .sp [2, 3] ?_
 obtain rfl := sj h
 refine .ret ⟨st38 (⟨l1, v1⟩ : TStream), ?_, .inr rfl, retH [1, 0] ?_ ?_⟩
 exact .m [2] [13, 6, 1] [(13, 0), (6, 1), (1, 2)]
 exact rsi0
 rfl
theorem zpl (a0 : TStream) (r : TStream) (h : zez a0 = some r) : zb9 Tryz.prog 39 [.agg [.imm 4 (a0.Topics.map TTopic.d) 4, .imm 1 (a0.Commits.map dL_inti64) 4]] (.agg [.imm 4 (r.Topics.map TTopic.d) 13, .imm 1 (r.Commits.map dL_inti64) 13]) :=
 ze7 (zhs (zaa (zeb zgk rfl rfl) (zaa (zeb zcv rfl rfl) zcd))) (zid a0 r h)
@[go_sem] def st40 (r : TStream) : St := ⟨[(6, .ptr 20102 0)], [(20100, .arr 94 4 true (r.Topics.map TTopic.n)), (20101, .arr 30 1 true (r.Commits.map zbw)), (20102, .box [.ref 20100 4 0 r.Topics.length (some uC), .ref 20101 1 0 r.Commits.length (some uC)])], 20103⟩
theorem zic (a0 : TStream) (a1 : Int) (a2 : TTopic) (r : TStream) (h : zfs a0 a1 a2 = some r) : zby Tryz.prog 180 [.agg [.imm 4 (a0.Topics.map TTopic.d) 4, .imm 1 (a0.Commits.map dL_inti64) 4], .int .i64 a1, .agg [.int .i64 a2.Base, .int .i64 a2.Next, .int .i64 a2.Mark, .imm 4 (a2.Entries.map TEntry.d) 13]] [] (.agg [.ref 20100 4 0 r.Topics.length (some uC), .ref 20101 1 0 r.Commits.length (some uC)]) [(20100, some (.arr 94 4 true (r.Topics.map TTopic.n))), (20101, some (.arr 30 1 true (r.Commits.map zbw)))] (20100, 20124) := by
 refine zcu Tryz.func180 ?_
 intro hwf
 unfold zfs at h
 refine .ends 20100 (za4 _) ?_
 refine .sp [0, 1, 2] ?_
 obtain ⟨v1, hv1, h⟩ := za2 h
 refine .sr [1, 3, 5, 6] ?_
 refine .rn 1 ?_
 refine .ncall (r := .agg [.ref 20103 4 0 v1.Topics.length (some uC), .ref 20104 1 0 v1.Commits.length (some uC)]) (eff := [(20103, some (.arr 94 4 true (v1.Topics.map TTopic.n))), (20104, some (.arr 30 1 true (v1.Commits.map zbw)))]) (nw := (20103, 20122)) [] rfl rfl rfl rfl rfl (za9 rfl zap) rfl (zdt 20103 (lb rfl) (zid a0 v1 hv1)) (zc4 rfl rfl (zjw zgk _ _ _) (zc4 rfl rfl (zjw zcv _ _ _) ze8)) (by intro i hi; simp [D.ids, D.idsL] at hi <;> omega) rfl ⟨lb rfl, lb rfl⟩ ?_
 refine .rn 1 ?_
 refine .nn ?_
 refine .seq ?_
 obtain ⟨k1, h⟩ := zb0 h
 have e1 := zbx TTopic.n v1.Topics a1
 have es1 := zif TTopic.n v1.Topics a1.toNat a2
 replace e1 := e1 k1
 replace es1 : setN (v1.Topics.map TTopic.n) a1.toNat (.agg [.int .i64 a2.Base, .int .i64 a2.Next, .int .i64 a2.Mark, .imm 4 (a2.Entries.map TEntry.d) 13]) = (v1.Topics.set a1.toNat a2).map TTopic.n := es1
 refine .plx zS (ai e1 es1) [1, 3, 5, 6] ?_
 refine .sp [3, 6] ?_
 obtain rfl := sj h
 refine .ret ⟨st40 (⟨(v1.Topics.set a1.toNat a2), v1.Commits⟩ : TStream), ?_, .inr rfl, retH [20101, 20100] ?_ ?_⟩
 exact .m [6] [20103, 20104, 20102] [(20103, 20100), (20104, 20101)]
 exact rsi0
 rfl
@[go_sem] def st37 (r : TStream × Int × Int) : St := ⟨[(4, .ptr 2 0), (5, .int .i64 r.2.1), (6, .int .i64 r.2.2)], [(0, .arr 94 4 true (r.1.Topics.map TTopic.n)), (1, .arr 30 1 true (r.1.Commits.map zbw)), (2, .box [.ref 0 4 0 r.1.Topics.length (some uC), .ref 1 1 0 r.1.Commits.length (some uC)])], 3⟩
theorem zqf (a0 : TStream) (a1 : TMessage) (r : TStream × Int × Int) (h : zf0 a0 a1 = some r) : zby Tryz.prog 160 [.agg [.imm 4 (a0.Topics.map TTopic.d) 4, .imm 1 (a0.Commits.map dL_inti64) 4], .agg [.int .i64 a1.Id, .imm 1 (a1.Groups.map (D.int .i64)) 4, .int .i64 a1.Topic, .str a1.Key, .str a1.Body]] [] (.tuple [.agg [.ref 0 4 0 r.1.Topics.length (some uC), .ref 1 1 0 r.1.Commits.length (some uC)], .int .i64 r.2.1, .int .i64 r.2.2]) [(0, some (.arr 94 4 true (r.1.Topics.map TTopic.n))), (1, some (.arr 30 1 true (r.1.Commits.map zbw)))] (0, 30) := by
 refine zcu Tryz.func160 ?_
 intro hwf
 unfold zf0 at h
 refine .ends 0 (za4 _) ?_
 refine .sp [0, 1] ?_
 refine .seq ?_
 obtain ⟨v1, hv1, h⟩ := za2 h
 refine .sr [2, 3, 4] ?_
 refine .rn 3 ?_
 refine .cl (zht a0 a1.Topic v1 hv1) ?_
 refine .rn 1 ?_
 refine .nn ?_
 refine .sp [2, 3, 4, 7] ?_
 refine .cd ?_ ?_ <;> intro hc1
 replace h := zaf h hc1
 refine .sp [4, 7] ?_
 obtain rfl := sj h
 refine .ret ⟨st37 ((⟨[], []⟩ : TStream), 0, v1), ?_, .inr rfl, retH [1, 0] ?_ ?_⟩
 refine .n0 4 94 ?_
 refine .n0 1 30 ?_
 refine .boxs 2 _ [.ref 3 4 0 0 (some uC), .ref 4 1 0 0 (some uC)] rfl (.cons (.own0 3 _ _ _ (by decide)) (.cons (.own0 4 _ _ _ (by decide)) (.refl _))) ?_
 exact .m [4, 5, 6] [3, 4, 2] [(3, 0), (4, 1)]
 exact rsi0
 rfl
 replace h := zao h hc1
 refine .skip (.seq ?_)
 obtain ⟨k1, h⟩ := zb0 h
 obtain ⟨v2, hv2, h⟩ := za2 h
 have e1 := zbx TTopic.d a0.Topics a1.Topic
 replace e1 := e1 k1
 refine .rg zS [2, 3, 4] ?_
 refine .rdx 6 e1 ?_
 refine .rdx 6 e1 ?_
 refine .cl (zsl (a0.Topics.getD a1.Topic.toNat default) a1.Id a1.Key a1.Body v2 hv2) ?_
 refine .rdx 8 e1 ?_
 refine .nd ?_
 refine .seq (.seq (.pl zS [2, 3, 4, 8, 9, 10] ?_))
 refine .cd ?_ ?_ <;> intro hc2
 replace h := zaf h hc2
 refine .sp [4, 10] ?_
 obtain rfl := sj h
 refine .ret ⟨st37 ((⟨[], []⟩ : TStream), 0, v2.2.2), ?_, .inr rfl, retH [1, 0] ?_ ?_⟩
 refine .n0 4 94 ?_
 refine .n0 1 30 ?_
 refine .boxs 2 _ [.ref 4 4 0 0 (some uC), .ref 5 1 0 0 (some uC)] rfl (.cons (.own0 4 _ _ _ (by decide)) (.cons (.own0 5 _ _ _ (by decide)) (.refl _))) ?_
 exact .m [4, 5, 6] [4, 5, 2] [(4, 0), (5, 1)]
 exact rsi0
 rfl
 replace h := zao h hc2
 refine .skip ?_
 obtain ⟨v3, hv3, h⟩ := za2 h
 refine .sr [2, 3, 4, 8, 9] ?_
 refine .rn 4 ?_
 refine .hcall (H := []) (eff := [(4, some (.arr 94 4 true (v3.Topics.map TTopic.n))), (5, some (.arr 30 1 true (v3.Commits.map zbw)))]) (nw := (4, 28)) (r := .agg [.ref 4 4 0 v3.Topics.length (some uC), .ref 5 1 0 v3.Commits.length (some uC)]) rfl rfl rfl rfl rfl (zfm 4 (zic a0 a1.Topic v2.1 v3 hv3)) (fun id b h => zav [] _ id b h) (by simp) (.inr ⟨lb rfl, lb rfl⟩) ?_
 refine .rn 4 ?_
 refine .nn ?_
 obtain rfl := sj h
 refine .ret ⟨st37 (v3, v2.2.1, 0), ?_, .inr rfl, retH [1, 0] ?_ ?_⟩
 exact .m [4, 5, 6] [4, 5, 2] [(4, 0), (5, 1)]
 exact rsi0
 rfl
theorem zq8 (a0 : TStream) (a1 : TMessage) (r : TStream × Int × Int) (h : zf0 a0 a1 = some r) : zb9 Tryz.prog 160 [.agg [.imm 4 (a0.Topics.map TTopic.d) 4, .imm 1 (a0.Commits.map dL_inti64) 4], .agg [.int .i64 a1.Id, .imm 1 (a1.Groups.map (D.int .i64)) 4, .int .i64 a1.Topic, .str a1.Key, .str a1.Body]] (.tuple [.agg [.imm 4 (r.1.Topics.map TTopic.d) 13, .imm 1 (r.1.Commits.map dL_inti64) 13], .int .i64 r.2.1, .int .i64 r.2.2]) :=
 ze7 (zmh (zaa (zhs (zaa (zeb zgk rfl rfl) (zaa (zeb zcv rfl rfl) zcd))) (zaa rfl (zaa rfl zcd)))) (zqf a0 a1 r h)
@[go_sem] def st90 : St := ⟨[], [], 0⟩
@[go_sem] def st91 (a0 : List TTopic) (a1 : List TTopic) (Ka2 : Nat) (ca2 : List D) (n1 : Nat) : St := ⟨[(1, .imm 4 (a1.map TTopic.d) 4), (2, .fn (.func Ka2) ca2), (15, .imm 4 (a0.map TTopic.d) 4), (16, .int .i64 (a0.length : Int)), (17, .int .i64 (n1 : Int))], [], 0⟩
theorem zfc (a0 : List TTopic) (a1 : List TTopic) (Ka2 : Nat) (ca2 : List D) (hca2 : ∀ hp, zdm hp ca2 = (ca2, true)) (h2a2 : ∀ hp, zdb hp ca2 = (ca2, true)) (h3a2 : ∀ hp, zfx hp ca2 = []) (a2 : TTopic -> TTopic -> Option Bool) (ha2 : ∀ x0 x1 y, a2 x0 x1 = some y -> zb9 Tryz.prog Ka2 (.agg [.int .i64 x0.Base, .int .i64 x0.Next, .int .i64 x0.Mark, .imm 4 (x0.Entries.map TEntry.d) 4] :: .agg [.int .i64 x1.Base, .int .i64 x1.Next, .int .i64 x1.Mark, .imm 4 (x1.Entries.map TEntry.d) 4] :: ca2) (.bool y)) (r : Bool) (h : zce a0 a1 a2 = some r) : zb9 Tryz.prog 106 [.imm 4 (a0.map TTopic.d) 4, .imm 4 (a1.map TTopic.d) 4, .fn (.func Ka2) ca2] (.bool r) := by
 refine zbt 4 Tryz.func106 ?_
 intro hwf
 unfold zce at h
 refine .sp [0, 1, 2] ?_
 refine .seq (.seq (.pl zS [0, 1, 2] ?_))
 refine .cd ?_ ?_ <;> intro hc1
 replace h := zaf h hc1
 refine .sp [] ?_
 obtain rfl := sj h
 exact .rr
 replace h := zao h hc1
 obtain ⟨x1, hx1, h⟩ := za2 h
 refine .skip ?_
 refine .seqM 0 (fun (j : Unit) => st90) (fun j => x1 = (.inr j)) (lb rfl) ?_ ?_
 refine .sp [0, 1, 2] ?_
 refine .block ?_
 refine .loopG 0 (fun (j : Nat) => st91 a0 a1 Ka2 ca2 j) (fun j => j <= a0.length /\ zaz a1 a2 (a0.drop j) j  = some x1) (fun j => a0.length - j) (0) (lb rfl) ?_ ⟨Nat.zero_le _, hx1⟩ ?_
 exact .mq (zb2 hca2) (zb1 hca2) [1, 2, 15, 16, 17] [] []
 rintro n1 ⟨hi1, hx1⟩
 simp only [st91]
 refine .wf 16 (.int .i64 (a0.length : Int)) rfl ?_
 intro hln1
 replace hln1 := wfn hln1
 refine .sp [1, 2, 15, 16, 17] ?_
 refine .seq (.cd (fun hc2 => ?_) (fun hc2 => ?_))
 have h1 : n1 < a0.length := by simpa using hc2
 have hwn1 := zdw h1 hln1
 have hpn1 := zdx h1 hln1
 rw [za7 h1, zaz] at hx1
 refine .skip (.seq (.block (.seq ?_)))
 have e1 := zdk TTopic.d a0 n1 h1
 refine .plx zS (ai e1 hwn1) [1, 2, 15, 16, 17] ?_
 refine .seq ?_
 obtain ⟨k1, hx1⟩ := zb0 hx1
 have e2 := zex TTopic.d a1 n1
 replace e2 := e2 k1
 refine .plx zS (ai e2 hwn1) [1, 2, 7, 8, 15, 16, 17] ?_
 refine .seq ?_
 obtain ⟨v1, hv1, hx1⟩ := za2 hx1
 refine .rg zS [1, 2, 8, 9, 15, 16, 17] ?_
 refine .rnx 3 hwn1 ?_
 refine .call (r := .bool v1) rfl rfl rfl rfl rfl (za8 rfl (za8 rfl (hca2 _))) (ha2 _ _ v1 hv1) ?_
 refine .rnx 1 hwn1 ?_
 refine .nn ?_
 refine .cd ?_ ?_ <;> intro hc3
 replace hx1 := zaf hx1 hc3
 refine .seq (.plx zS hwn1 [] ?_)
 have hq := sj hx1
 subst x1
 try dsimp only at h
 obtain rfl := sj h
 exact .rr
 replace hx1 := zao hx1 hc3
 refine .skip (.plx zS hwn1 [1, 2, 15, 16, 17] ?_)
 refine ⟨n1 + 1, ?_, ⟨by omega, hx1⟩, by dsimp only; omega⟩
 exact .mq (zb2 hca2) (zb1 hca2) [1, 2, 15, 16, 17] [] []
 have h2 : n1 = a0.length := by have h2b := of_decide_eq_false hc2; omega
 rw [zab (by omega), zaz] at hx1
 refine .exit ?_
 refine ⟨_, ?_, (sj hx1).symm⟩
 exact .mq (zb2 hca2) (zb1 hca2) [] [] []
 rintro ⟨⟩ hj1
 subst x1
 try dsimp only at h
 simp only [st90]
 refine .sp [] ?_
 obtain rfl := sj h
 exact .rr
theorem zpm (a0 : TStream) (a1 : TStream) (r : Bool) (h : zle a0 a1 = some r) : zb9 Tryz.prog 48 [.agg [.imm 4 (a0.Topics.map TTopic.d) 4, .imm 1 (a0.Commits.map dL_inti64) 4], .agg [.imm 4 (a1.Topics.map TTopic.d) 4, .imm 1 (a1.Commits.map dL_inti64) 4]] (.bool r) := by
 refine zbt 4 Tryz.func48 ?_
 intro hwf
 unfold zle at h
 refine .sp [0, 1] ?_
 obtain ⟨v1, hv1, h⟩ := za2 h
 obtain ⟨v2, hv2, h⟩ := za2 h
 refine .sr [2, 3] ?_
 refine .rn 4 ?_
 refine .lcall (r := .bool v1) [] rfl rfl rfl rfl rfl (za9 rfl (za9 rfl (za9 (zfw zap) zap))) rfl (zfc a0.Topics a1.Topics 107 [] (fun _ => rfl) (fun _ => rfl) (fun _ => rfl) zk8 (fun x0 x1 y hy => zq7 x0 x1 y hy) v1 hv1) ?_
 refine .rn 5 ?_
 refine .gcall rfl rfl rfl rfl rfl (fun hg => ⟨[], [.imm 1 (a0.Commits.map dL_inti64) 4, .imm 1 (a1.Commits.map dL_inti64) 4], _, rfl, gd hg, rfl, (zot a0.Commits a1.Commits v2 (zaf hv2 hg))⟩) ?_
 refine .rn 2 ?_
 refine .nn ?_
 obtain rfl := sj h
 exact .rr
end Go.Proofs
namespace Go.Tm
def mdel {α β : Type} [DecidableEq α] (k : α) : List (α × β) -> List (α × β)
 | [] => []
 | x :: l => if k = x.1 then l else x :: mdel k l
theorem ya3v {β : Type} (g : β -> D) (k : List UInt8) (l : List (List UInt8 × β)) : delD (.str k) (mapD D.str g l) = some (mapD D.str g (mdel k l)) := by
 induction l with
 | nil => rfl
 | cons x l ih =>
  simp only [mapD, zah, delD, zmf, mdel] at ih ⊢
  by_cases h : k = x.1
  simp [h]
  have : (k == x.1) = false := beq_eq_false_iff_ne.2 h
  simp only [this, h, if_false, ih, zah]
end Go.Tm
namespace Go.Proofs
open Go.Tm
set_option linter.unusedVariables false
def zhp (a0 : List (List Int)) (a1 a2 a3 : Int) : Option (List (List Int) × Int) :=
 Option.bind (zgh a0 a1 a2) fun v1 =>
 if ¬ (v1 = 0) then some ([], v1)
 else if (a3 < 0) \/ (a3 > 1073741824) then some ([], 2)
 else Option.bind (zdn a0) fun v2 =>
 if v2.length = 4 /\ (0 <= a1 /\ a1 < 4) /\ 0 <= a2 /\ a2 < ((v2.getD a1.toNat default).length : Int) then
  some (v2.set a1.toNat ((v2.getD a1.toNat default).set a2.toNat (max ((v2.getD a1.toNat default).getD a2.toNat default) a3)), 0)
 else none
def zih (e : Option (List UInt8 × Int)) : Option Int := match e with
 | none => some 0
 | some x => some x.2
def zpi (mark : Int) : List TEntry -> List (List UInt8 × Int) -> List (List UInt8 × Int)
 | [], w => w
 | y :: r, w => zpi mark r (if y.Offset < mark then mput y.Key 1 w else w)
def zur (mark : Int) : List TEntry -> List (List UInt8 × Int) -> List TEntry -> Option (List (List UInt8 × Int) × List TEntry)
 | [], w, l => some (w, l)
 | y :: r, w, l => if y.Offset < mark /\ (mget y.Key w).getD 0 = 0 then zur mark r w l
  else if l.length + 1 < 1000000 then zur mark r (if y.Offset < mark then mdel y.Key w else w) (l ++ [y])
  else none
def zfg (a0 : TTopic) (a1 : Int) : Option (TTopic × Int) :=
 Option.bind (zey a0) fun v1 =>
 if ¬ (v1 = 0) then some ((⟨0, 0, 0, []⟩ : TTopic), v1)
 else if (a1 < 0) \/ (a1 > 1073741824) then some ((⟨0, 0, 0, []⟩ : TTopic), 2)
 else Option.bind (zco a0) fun v2 =>
 Option.bind (zur (max v2.Mark (min a1 v2.Next)) v2.Entries.reverse (zpi (max v2.Mark (min a1 v2.Next)) v2.Entries []) []) fun z =>
 Option.bind (zc3 z.2) fun v3 =>
 some ((⟨v2.Base, v2.Next, max v2.Mark (min a1 v2.Next), v3⟩ : TTopic), 0)
end Go.Proofs
namespace Go.Proofs
open Go.Tm Go.RowKit Go.WideShapes
set_option maxRecDepth 100000
set_option maxHeartbeats 4000000
set_option linter.unusedSimpArgs false
set_option linter.unusedVariables false
attribute [local go_sem] ya4y Tryz.f192 Tryz.f85 Nat.min_self List.drop_replicate Nat.sub_self List.replicate_zero List.take_zero
abbrev LI := List (List Int)
def inbI (ls : LI) (k : Nat) : Blk := .arr 3 1 true ((ls.getD k []).map (D.int .i64))
def zzp (F : Nat) (ls : LI) : Blk := .arr 30 1 false (ya4y 1 F (ls.map List.length))
def st45 (l1 : LI) : St := ⟨[(3, .ref 20000 1 0 l1.length (some uC))], [(20000, zzp 20001 l1), (20001, inbI l1 0), (20002, inbI l1 1), (20003, inbI l1 2), (20004, inbI l1 3)], 20005⟩
def st46 (a0 : LI) (n1 : Nat) (l2 : LI) : St := ⟨[(3, .ref 20000 1 0 l2.length (some uC)), (7, .imm 1 (a0.map dL_inti64) 4), (8, .int .i64 (a0.length : Int)), (9, .int .i64 (n1 : Int))], [(20000, zzp 20001 l2), (20001, inbI l2 0), (20002, inbI l2 1), (20003, inbI l2 2), (20004, inbI l2 3)], 20005⟩
attribute [local go_sem] st45 st46 zzp inbI
theorem znv (a0 r : LI) (h4 : a0.length <= 4) (h : zdn a0 = some r) : zby Tryz.prog 85 [.imm 1 (a0.map dL_inti64) 4] [] (.ref 20000 1 0 r.length (some uC)) [(20000, some (zzp 20001 r)), (20001, some (inbI r 0)), (20002, some (inbI r 1)), (20003, some (inbI r 2)), (20004, some (inbI r 3))] (20000, 20060) := by
 refine zcu Tryz.func85 ?_
 intro hwf
 unfold zdn at h
 refine .ends 20000 (za4 _) ?_
 refine .sp [0] ?_
 refine .sp [0] ?_
 obtain ⟨x1, hx1, h⟩ := za2 h
 refine .seqM 20000 (fun (j : LI) => st45 j) (fun j => j.length <= a0.length /\ x1 = j) (lb rfl) ?_ ?_
 refine .sp [0, 3] ?_
 refine .block ?_
 refine .loopG 20000 (fun (j : Nat × LI) => st46 a0 j.1 j.2) (fun j => j.1 <= a0.length /\ j.2.length = j.1 /\ zca (a0.drop j.1) j.2 = some x1) (fun j => a0.length - j.1) (0, []) (lb rfl) ?_ ⟨Nat.zero_le _, rfl, hx1⟩ ?_
 refine .n0 1 30 ?_
 refine .w0 3 20000 1 ?_
 refine .pf 20000 rfl ?_
 refine .n0 1 3 ?_
 refine .n0 1 3 ?_
 refine .n0 1 3 ?_
 refine .n0 1 3 ?_
 exact .sub [3, 7, 8, 9] [20000, 20001, 20002, 20003, 20004]
 rintro ⟨n1, l2⟩ ⟨hi1, hl2, hx1⟩
 simp only [st46]
 simp only at hi1 hl2 hx1
 refine .wf 8 (.int .i64 (a0.length : Int)) rfl ?_
 intro hln1
 replace hln1 := wfn hln1
 refine .sp [3, 7, 8, 9] ?_
 refine .seq (.cd (fun hc1 => ?_) (fun hc1 => ?_))
 have h1 : n1 < a0.length := by simpa using hc1
 have hwn1 := zdw h1 hln1
 have hpn1 := zdx h1 hln1
 rw [za7 h1, zes] at hx1
 refine .skip (.seq (.block (.seq ?_)))
 have e1 := zdk dL_inti64 a0 n1 h1
 refine .plx zS (ai e1 hwn1) [3, 7, 8, 9] ?_
 obtain ⟨k1, hx1⟩ := zb0 hx1
 obtain ⟨k2, hx1⟩ := zb0 hx1
 refine .seq (.plx zS hwn1 [3, 5, 7, 8, 9] ?_)
 refine .seq (.plx zS hwn1 [3, 5, 6, 7, 8, 9] ?_)
 refine .goes (.wk 6 (.ref 20005 1 0 ((a0[n1]).length) (some ((a0[n1]).length))) (.ref 20005 1 0 ((a0[n1]).length) (some uC)) rfl (.unk _ _ _ _ _) .refl) ?_
 rcases l2 with _ | ⟨b0, _ | ⟨b1, _ | ⟨b2, _ | ⟨b3, bs⟩⟩⟩⟩
 refine .plx zS hwn1 [3, 6, 7, 8, 9] ?_
 refine .plx zS hwn1 [3, 7, 8, 9] ?_
 refine ⟨(n1 + 1, _), ?_, ⟨by omega, by dsimp only; simp at hl2 ⊢; omega, hx1⟩, by dsimp only; omega⟩
 exact .m [3, 7, 8, 9] [20007, 20005, 20002, 20003, 20004] [(20007, 20000), (20005, 20001)]
 refine .plx zS hwn1 [3, 6, 7, 8, 9] ?_
 refine .plx zS hwn1 [3, 7, 8, 9] ?_
 refine ⟨(n1 + 1, _), ?_, ⟨by omega, by dsimp only; simp at hl2 ⊢; omega, hx1⟩, by dsimp only; omega⟩
 exact .m [3, 7, 8, 9] [20007, 20001, 20005, 20003, 20004] [(20007, 20000), (20005, 20002)]
 refine .plx zS hwn1 [3, 6, 7, 8, 9] ?_
 refine .plx zS hwn1 [3, 7, 8, 9] ?_
 refine ⟨(n1 + 1, _), ?_, ⟨by omega, by dsimp only; simp at hl2 ⊢; omega, hx1⟩, by dsimp only; omega⟩
 exact .m [3, 7, 8, 9] [20007, 20001, 20002, 20005, 20004] [(20007, 20000), (20005, 20003)]
 refine .plx zS hwn1 [3, 6, 7, 8, 9] ?_
 refine .plx zS hwn1 [3, 7, 8, 9] ?_
 refine ⟨(n1 + 1, _), ?_, ⟨by omega, by dsimp only; simp at hl2 ⊢; omega, hx1⟩, by dsimp only; omega⟩
 exact .m [3, 7, 8, 9] [20007, 20001, 20002, 20003, 20005] [(20007, 20000), (20005, 20004)]
 exact absurd hl2 (by simp only [za5]; omega)
 have h2 : n1 = a0.length := by have h2b := of_decide_eq_false hc1; omega
 rw [zab (by omega), zer] at hx1
 refine .exit ?_
 refine ⟨_, ?_, by omega, (sj hx1).symm⟩
 exact .sub [3] [20000, 20001, 20002, 20003, 20004]
 rintro l1 ⟨hl1, hj1⟩
 subst x1
 try dsimp only at h
 simp only [st45]
 refine .sp [3] ?_
 obtain rfl := sj h
 refine .ret ⟨⟨[(2, .ref 20000 1 0 l1.length (some uC))], [(20000, zzp 20001 l1), (20001, inbI l1 0), (20002, inbI l1 1), (20003, inbI l1 2), (20004, inbI l1 3)], 20005⟩, ?_, .inr rfl, retH [20004, 20003, 20002, 20001, 20000] ?_ ?_⟩
 exact .sub [2] [20000, 20001, 20002, 20003, 20004]
 exact rsi0
 rfl
theorem ya7p (a b c d : D) : nth [a, b, c, d] 0 = a := by unfold nth; rfl
theorem ya7o (a b c d : D) : nth [a, b, c, d] 1 = b := by unfold nth; rfl
theorem ya7n (a b c d : D) : nth [a, b, c, d] 2 = c := by unfold nth; rfl
theorem ya7m (a b c d : D) : nth [a, b, c, d] 3 = d := by unfold nth; rfl
attribute [local go_sem] ya7p ya7o ya7n ya7m tn1 tn2 tn3 List.getD_cons_zero List.getD_cons_succ
theorem ya0l (l : LI) : ∀ (l2 : LI) {r : LI}, zca l l2 = some r -> l2 ++ l = r := by
 induction l with
 | nil => intro l2 r h; rw [zer] at h; rw [zag]; exact sj h
 | cons y ys ih =>
  intro l2 r h
  rw [zes] at h
  obtain ⟨k1, h⟩ := zb0 h
  obtain ⟨k2, h⟩ := zb0 h
  have := ih _ h
  rw [<- this]; simp
theorem ya4o {a r : LI} (h : zdn a = some r) : r = a := by
 unfold zdn at h
 obtain ⟨x, hx, h⟩ := za2 h
 rw [<- sj h, <- ya0l a [] hx]; rfl
theorem zpq (a0 : LI) (a1 a2 a3 : Int) (r : LI × Int) (h : zhp a0 a1 a2 a3 = some r) : zb9 Tryz.prog 192 [.imm 1 (a0.map dL_inti64) 4, .int .i64 a1, .int .i64 a2, .int .i64 a3] (.tuple [.imm 1 (r.1.map dL_inti64) 13, .int .i64 r.2]) := by
 refine zbt 20090 Tryz.func192 ?_
 intro hwf
 unfold zhp at h
 refine .sp [0, 1, 2, 3] ?_
 refine .seq ?_
 obtain ⟨v1, hv1, h⟩ := za2 h
 refine .sr [0, 1, 2, 3] ?_
 refine .rn 3 ?_
 refine .cl (znt a0 a1 a2 v1 hv1) ?_
 refine .rn 1 ?_
 refine .nn ?_
 refine .sp [0, 1, 2, 3, 10] ?_
 refine .cd ?_ ?_ <;> intro hc1
 replace h := zaf h hc1
 refine .sp [10] ?_
 obtain rfl := sj h
 refine .goes (.wk 8 (.imm 0 [] 0) (.imm 1 [] 13) rfl (.nil12 _ _ 0 (by decide)) .refl) ?_
 exact .rr
 replace h := zao h hc1
 refine .skip (.seq (.seq (.pl zS [0, 1, 2, 3] ?_)))
 refine .cd ?_ ?_ <;> intro hc2
 replace h := zaf h hc2
 refine .sp [] ?_
 obtain rfl := sj h
 refine .goes (.wk 8 (.imm 0 [] 0) (.imm 1 [] 13) rfl (.nil12 _ _ 0 (by decide)) .refl) ?_
 exact .rr
 replace h := zao h hc2
 refine .skip (.seq ?_)
 obtain ⟨v2, hv2, h⟩ := za2 h
 obtain ⟨⟨k1, ⟨k2, k3⟩, k4, k5⟩, h⟩ := zb0 h
 obtain ⟨b0, b1, b2, b3, rfl⟩ : ∃ b0 b1 b2 b3, v2 = [b0, b1, b2, b3] := by
  rcases v2 with _ | ⟨b0, _ | ⟨b1, _ | ⟨b2, _ | ⟨b3, _ | ⟨b4, bs⟩⟩⟩⟩⟩ <;> simp at k1
  exact ⟨b0, b1, b2, b3, rfl⟩
 have hT := ya4o hv2
 refine .rg zS [0, 1, 2, 3] ?_
 refine .rn 1 ?_
 refine .hcall (H := []) (eff := [(20000, some (zzp 20001 [b0, b1, b2, b3])), (20001, some (inbI [b0, b1, b2, b3] 0)), (20002, some (inbI [b0, b1, b2, b3] 1)), (20003, some (inbI [b0, b1, b2, b3] 2)), (20004, some (inbI [b0, b1, b2, b3] 3))]) (nw := (20000, 20060)) (r := .ref 20000 1 0 4 (some uC)) rfl rfl rfl rfl rfl (znv a0 [b0, b1, b2, b3] (by rw [<- hT]; simp) hv2) (fun id b h => zav [] _ id b h) (by simp) (.inr ⟨lb rfl, lb rfl⟩) ?_
 refine .rn 1 ?_
 refine .nn ?_
 refine .seq ?_
 rcases (by omega : a1 = 0 \/ a1 = 1 \/ a1 = 2 \/ a1 = 3) with rfl | rfl | rfl | rfl
 simp only [Int.toNat_zero, tn1, tn2, tn3, List.getD_cons_zero, List.getD_cons_succ, List.set_cons_zero, List.set_cons_succ] at k5 h
 have e1 := zbx (D.int .i64) b0 a2 ⟨k4, k5⟩
 have e2 := zif (D.int .i64) b0 a2.toNat (max (b0.getD a2.toNat default) a3)
 refine .rg zS [0, 1, 2, 3] ?_
 refine .rdx 6 (ai e1 e2) ?_
 refine .rdx 6 (ai e1 e2) ?_
 refine .rdx 4 (ai e1 e2) ?_
 refine .nd ?_
 refine .sp [0] ?_
 obtain rfl := sj h
 refine .goes (.givl 20000 _ ([b0.set a2.toNat (max (b0.getD a2.toNat default) a3), b1, b2, b3].map zbw) [20000] rfl rfl (zaa (zcm zd1 rfl (by first | rfl | simp)) (zaa (zcm zd1 rfl (by first | rfl | simp)) (zaa (zcm zd1 rfl (by first | rfl | simp)) (zaa (zcm zd1 rfl (by first | rfl | simp)) zcd)))) rfl (by intro i hi; simp [D.idsL, D.ids] at hi; rcases hi with rfl | rfl | rfl | rfl <;> rfl) .refl) ?_
 refine .goes (.give 8 (.ref 20000 1 0 4 (some uC)) (.imm 1 ([b0.set a2.toNat (max (b0.getD a2.toNat default) a3), b1, b2, b3].map dL_inti64) 13) [] rfl (zeb zcv rfl rfl) (by intro i hi; rfl) .refl) ?_
 exact .rr
 simp only [Int.toNat_zero, tn1, tn2, tn3, List.getD_cons_zero, List.getD_cons_succ, List.set_cons_zero, List.set_cons_succ] at k5 h
 have e1 := zbx (D.int .i64) b1 a2 ⟨k4, k5⟩
 have e2 := zif (D.int .i64) b1 a2.toNat (max (b1.getD a2.toNat default) a3)
 refine .rg zS [0, 1, 2, 3] ?_
 refine .rdx 6 (ai e1 e2) ?_
 refine .rdx 6 (ai e1 e2) ?_
 refine .rdx 4 (ai e1 e2) ?_
 refine .nd ?_
 refine .sp [0] ?_
 obtain rfl := sj h
 refine .goes (.givl 20000 _ ([b0, b1.set a2.toNat (max (b1.getD a2.toNat default) a3), b2, b3].map zbw) [20000] rfl rfl (zaa (zcm zd1 rfl (by first | rfl | simp)) (zaa (zcm zd1 rfl (by first | rfl | simp)) (zaa (zcm zd1 rfl (by first | rfl | simp)) (zaa (zcm zd1 rfl (by first | rfl | simp)) zcd)))) rfl (by intro i hi; simp [D.idsL, D.ids] at hi; rcases hi with rfl | rfl | rfl | rfl <;> rfl) .refl) ?_
 refine .goes (.give 8 (.ref 20000 1 0 4 (some uC)) (.imm 1 ([b0, b1.set a2.toNat (max (b1.getD a2.toNat default) a3), b2, b3].map dL_inti64) 13) [] rfl (zeb zcv rfl rfl) (by intro i hi; rfl) .refl) ?_
 exact .rr
 simp only [Int.toNat_zero, tn1, tn2, tn3, List.getD_cons_zero, List.getD_cons_succ, List.set_cons_zero, List.set_cons_succ] at k5 h
 have e1 := zbx (D.int .i64) b2 a2 ⟨k4, k5⟩
 have e2 := zif (D.int .i64) b2 a2.toNat (max (b2.getD a2.toNat default) a3)
 refine .rg zS [0, 1, 2, 3] ?_
 refine .rdx 6 (ai e1 e2) ?_
 refine .rdx 6 (ai e1 e2) ?_
 refine .rdx 4 (ai e1 e2) ?_
 refine .nd ?_
 refine .sp [0] ?_
 obtain rfl := sj h
 refine .goes (.givl 20000 _ ([b0, b1, b2.set a2.toNat (max (b2.getD a2.toNat default) a3), b3].map zbw) [20000] rfl rfl (zaa (zcm zd1 rfl (by first | rfl | simp)) (zaa (zcm zd1 rfl (by first | rfl | simp)) (zaa (zcm zd1 rfl (by first | rfl | simp)) (zaa (zcm zd1 rfl (by first | rfl | simp)) zcd)))) rfl (by intro i hi; simp [D.idsL, D.ids] at hi; rcases hi with rfl | rfl | rfl | rfl <;> rfl) .refl) ?_
 refine .goes (.give 8 (.ref 20000 1 0 4 (some uC)) (.imm 1 ([b0, b1, b2.set a2.toNat (max (b2.getD a2.toNat default) a3), b3].map dL_inti64) 13) [] rfl (zeb zcv rfl rfl) (by intro i hi; rfl) .refl) ?_
 exact .rr
 simp only [Int.toNat_zero, tn1, tn2, tn3, List.getD_cons_zero, List.getD_cons_succ, List.set_cons_zero, List.set_cons_succ] at k5 h
 have e1 := zbx (D.int .i64) b3 a2 ⟨k4, k5⟩
 have e2 := zif (D.int .i64) b3 a2.toNat (max (b3.getD a2.toNat default) a3)
 refine .rg zS [0, 1, 2, 3] ?_
 refine .rdx 6 (ai e1 e2) ?_
 refine .rdx 6 (ai e1 e2) ?_
 refine .rdx 4 (ai e1 e2) ?_
 refine .nd ?_
 refine .sp [0] ?_
 obtain rfl := sj h
 refine .goes (.givl 20000 _ ([b0, b1, b2, b3.set a2.toNat (max (b3.getD a2.toNat default) a3)].map zbw) [20000] rfl rfl (zaa (zcm zd1 rfl (by first | rfl | simp)) (zaa (zcm zd1 rfl (by first | rfl | simp)) (zaa (zcm zd1 rfl (by first | rfl | simp)) (zaa (zcm zd1 rfl (by first | rfl | simp)) zcd)))) rfl (by intro i hi; simp [D.idsL, D.ids] at hi; rcases hi with rfl | rfl | rfl | rfl <;> rfl) .refl) ?_
 refine .goes (.give 8 (.ref 20000 1 0 4 (some uC)) (.imm 1 ([b0, b1, b2, b3.set a2.toNat (max (b3.getD a2.toNat default) a3)].map dL_inti64) 13) [] rfl (zeb zcv rfl rfl) (by intro i hi; rfl) .refl) ?_
 exact .rr
end Go.Proofs
namespace Go.Tm
open Go.RowKit Go.WideShapes Go.ChangeShapes
section
variable {H : Type} {enc : TypeId × Value -> H} {P : Program}
end
end Go.Tm
namespace Go.Tm
section
variable {call : FuncId -> List D -> List (Nat × Blk) -> Nat -> Option Out} {tab : Nat -> TI} {pt : Nat -> List (Nat × Nat)} {base : Nat}
end
end Go.Tm
namespace Go.Tm
open Go.RowKit Go.WideShapes
structure Ent where
 K : FuncId
 args : List D
 heap : List (Nat × Blk)
 nx : Nat
 out : Out
section
variable {P : Program} {tab : Nat -> TI} (hT : zgy P tab) (hm : P.follows .mixedOrders = true) {ft : Nat -> Option Func} {pt : Nat -> Nat -> List (Nat × Nat)} (hft : FtOk P ft pt) {LF n : Nat} {l : List Ent}
end
end Go.Tm
