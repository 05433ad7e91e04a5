/- Texts of the proof. -/
import Derived.Test.YtafdfmkjjhimaaaGreatDoorGroupGoesOnCardPg
import Derived.Test.YtafdfmkjjhimaaaGreatDoorGroupGoesOnCardPh
import Derived.Test.YtafdfmkjjhimaaaGreatDoorGroupGoesOnCardPi
section
namespace Go.Proofs
open Go.Tm
set_option linter.unusedVariables false
def zko : Option TTopic :=
 some (⟨0, 0, 0, []⟩ : TTopic)
def zg5 (a0 : TEntry) : Option Bool :=
 some ((((decide (a0.Id >= 0)) && (decide (a0.Id < 6291456))) && (decide ((a0.Key.length : Int) <= 16))) && (decide ((a0.Body.length : Int) <= 64)))
def zc3 (a0 : TTopic) : List TEntry -> (List ((List UInt8) × Int)) -> Int -> Option (Int ⊕ Int)
 | [], m1, n2 =>
  some (.inr n2)
 | y1 :: rest1, m1, n2 =>
  Option.bind (zg5 (y1)) fun v1 =>
  if ((((¬ (v1 = true)) \/ (y1.Offset <= n2)) \/ (y1.Offset >= a0.Next)) \/ (y1.Offset > (max (wr .i64 (n2 + 1)) a0.Mark))) \/ ((y1.Offset < a0.Mark) /\ (((mget (y1.Key) m1).getD 0) > 0)) then
  some (.inl 8)
  else
  Option.bind (α := (List ((List UInt8) × Int))) (if y1.Offset < a0.Mark then
  some (mput (y1.Key) 1 m1)
  else
  some m1) fun m2 =>
  zc3 a0 rest1 m2 (y1.Offset)
def zeb (a0 : TTopic) : Option Int :=
 if ((((((a0.Next < 0) \/ (a0.Next > 1073741824)) \/ (a0.Base < 0)) \/ (a0.Base > a0.Next)) \/ (a0.Mark < 0)) \/ (a0.Mark > a0.Next)) \/ ((a0.Entries.length : Int) > 200) then
 some 8
 else
 Option.bind (α := Int ⊕ Int) (zc3 a0 a0.Entries [] (wr .i64 (a0.Base - 1))) fun z => match z with
 | (.inl r) => some r
 | (.inr n1) =>
 if ¬ ((max (wr .i64 (n1 + 1)) a0.Mark) = a0.Next) then
 some 8
 else
 some 0
def zb0 (a0 : List TEntry) : Option ((List TEntry)) :=
 if a0.length * 48 <= 140737488355328 then
 some a0
 else none
def zc2 (a0 : TTopic) : Option TTopic :=
 Option.bind (zb0 a0.Entries) fun v1 =>
 some (⟨a0.Base, a0.Next, a0.Mark, v1⟩ : TTopic)
def zho (a0 : TTopic) (a1 : Int) (a2 : List UInt8) (a3 : List UInt8) : Option (TTopic × Int × Int) :=
 Option.bind (zeb a0) fun v1 =>
 if ¬ (v1 = 0) then
 some ((⟨0, 0, 0, []⟩ : TTopic), 0, 8)
 else
 Option.bind (α := Bool) (if a1 < 0 then
 some (decide (a1 < 0))
 else
 some (decide (a1 >= 6291456))) fun b1 =>
 if b1 = true then
 some ((⟨0, 0, 0, []⟩ : TTopic), 0, 2)
 else
 Option.bind (zg5 (⟨a0.Next, a1, a2, a3⟩ : TEntry)) fun v2 =>
 if ¬ (v2 = true) then
 some ((⟨0, 0, 0, []⟩ : TTopic), 0, 3)
 else
 Option.bind (α := Bool) (if a0.Next = 1073741824 then
 some (a0.Next == 1073741824)
 else
 some ((a0.Entries.length : Int) == 200)) fun b2 =>
 if b2 = true then
 some ((⟨0, 0, 0, []⟩ : TTopic), 0, 9)
 else
 Option.bind (zc2 a0) fun v3 =>
 if v3.Entries.length + [(⟨a0.Next, a1, a2, a3⟩ : TEntry)].length < 1000000 then
 some ((⟨v3.Base, (wr .i64 (v3.Next + 1)), v3.Mark, (v3.Entries ++ [(⟨a0.Next, a1, a2, a3⟩ : TEntry)])⟩ : TTopic), a0.Next, 0)
 else none
def zaz (a1 : List TEntry) : List TEntry -> Nat -> Option (Bool ⊕ Unit)
 | [], n1 =>
  some (.inr ())
 | y1 :: rest1, n1 =>
  if n1 < a1.length then
  if ¬ ((y1.Offset = (a1.getD n1 default).Offset) /\ (y1.Id = (a1.getD n1 default).Id) /\ (y1.Key = (a1.getD n1 default).Key) /\ (y1.Body = (a1.getD n1 default).Body)) then
  some (.inl false)
  else
  zaz a1 rest1 (n1 + 1) 
  else none
def zdc (a0 : List TEntry) (a1 : List TEntry) : Option Bool :=
 if ¬ ((a0.length : Int) = (a1.length : Int)) then
 some false
 else
 Option.bind (α := Bool ⊕ Unit) (zaz a1 a0 0 ) fun z => match z with
 | (.inl r) => some r
 | (.inr _) =>
 some true
def zfv (a0 : TTopic) (a1 : TTopic) : Option Bool :=
 Option.bind (if ((a0.Base = a1.Base) /\ (a0.Next = a1.Next)) /\ (a0.Mark = a1.Mark) then zdc a0.Entries a1.Entries else some default) fun v1 =>
 some ((((a0.Base == a1.Base) && (a0.Next == a1.Next)) && (a0.Mark == a1.Mark)) && v1)
def zao (a1 : TEntry -> Option Bool) : List TEntry -> Nat -> Option (Int ⊕ Unit)
 | [], n1 =>
  some (.inr ())
 | y1 :: rest1, n1 =>
  Option.bind (a1 (y1)) fun v1 =>
  if v1 = true then
  some (.inl (n1 : Int))
  else
  zao a1 rest1 (n1 + 1) 
def zcj (a0 : List TEntry) (a1 : TEntry -> Option Bool) : Option Int :=
 Option.bind (α := Int ⊕ Unit) (zao a1 a0 0 ) fun z => match z with
 | (.inl r) => some r
 | (.inr _) =>
 some (-1)
def zh7 (a0 : TEntry) (c0 : TTopic) : Option Bool :=
 some (decide (a0.Offset >= c0.Base))
def zhp (a0 : TTopic) (a1 : Int) : Option (TTopic × Int) :=
 Option.bind (zeb a0) fun v1 =>
 if ¬ (v1 = 0) then
 some ((⟨0, 0, 0, []⟩ : TTopic), v1)
 else
 if (a1 < 0) \/ (a1 > 1073741824) then
 some ((⟨0, 0, 0, []⟩ : TTopic), 2)
 else
 Option.bind (zc2 a0) fun v2 =>
 Option.bind (zcj v2.Entries (fun x0 => zh7 x0 (⟨(max v2.Base (min a1 v2.Next)), v2.Next, v2.Mark, v2.Entries⟩ : TTopic))) fun v3 =>
 Option.bind (α := Int) (if v3 < 0 then
 some (v2.Entries.length : Int)
 else
 some v3) fun n1 =>
 if (0 <= n1 /\ n1 <= (v2.Entries.length : Int)) then
 Option.bind (zb0 (v2.Entries.drop n1.toNat)) fun v4 =>
 some ((⟨(max v2.Base (min a1 v2.Next)), v2.Next, v2.Mark, v4⟩ : TTopic), 0)
 else none
def zac : Nat -> (List TEntry) -> Int -> Int -> Option ((List TEntry))
 | 0, _, _, _ => none
 | fu1 + 1, l1, n1, n2 =>
  if n1 < n2 then
  if (0 <= n2 /\ n2 < (l1.length : Int)) then
  if (0 <= n1 /\ n1 < (l1.length : Int)) then
  if (0 <= n2 /\ n2 < ((l1.set n1.toNat (l1.getD n2.toNat default)).length : Int)) then
  zac fu1 ((l1.set n1.toNat (l1.getD n2.toNat default)).set n2.toNat (l1.getD n1.toNat default)) (wr .i64 (n1 + 1)) (wr .i64 (n2 - 1))
  else none
  else none
  else none
  else
  some l1
def zbj (a0 : List TEntry) : Option ((List TEntry)) :=
 zac (a0.length + 1) a0 0 (wr .i64 ((a0.length : Int) - 1))
def zax (a1 : Int -> Option Bool) : List Int -> Nat -> Option (Int ⊕ Unit)
 | [], n1 =>
  some (.inr ())
 | y1 :: rest1, n1 =>
  Option.bind (a1 (y1)) fun v1 =>
  if v1 = true then
  some (.inl (n1 : Int))
  else
  zax a1 rest1 (n1 + 1) 
def zda (a0 : List Int) (a1 : Int -> Option Bool) : Option Int :=
 Option.bind (α := Int ⊕ Unit) (zax a1 a0 0 ) fun z => match z with
 | (.inl r) => some r
 | (.inr _) =>
 some (-1)
def zbf (a0 : List Int) (a1 : Int -> Option Bool) : Option Bool :=
 Option.bind (zda a0 a1) fun v1 =>
 some (decide (v1 >= 0))
def zb8 (a0 : List Int) : Nat -> Int -> Int -> Option (Int)
 | 0, _, _ => none
 | fu1 + 1, n2, n3 =>
  if n3 < (a0.length : Int) then
  if (0 <= n3 /\ n3 < (a0.length : Int)) then
  zb8 a0 fu1 (max n2 (a0.getD n3.toNat default)) (wr .i64 (n3 + 1))
  else none
  else
  some n2
def zds (a0 : List Int) : Option Int :=
 if (a0.length : Int) < 1 then
 none
 else
 if 0 < a0.length then
 Option.bind (α := Int) (zb8 a0 (a0.length + 1) (a0.getD 0 default) 1) fun n1 =>
 some n1
 else none
def zav (a1 : (List Int) -> Option Bool) : List (List Int) -> Nat -> Option (Int ⊕ Unit)
 | [], n1 =>
  some (.inr ())
 | y1 :: rest1, n1 =>
  Option.bind (a1 (y1)) fun v1 =>
  if v1 = true then
  some (.inl (n1 : Int))
  else
  zav a1 rest1 (n1 + 1) 
def zcy (a0 : List (List Int)) (a1 : (List Int) -> Option Bool) : Option Int :=
 Option.bind (α := Int ⊕ Unit) (zav a1 a0 0 ) fun z => match z with
 | (.inl r) => some r
 | (.inr _) =>
 some (-1)
def zbp (a0 : List (List Int)) (a1 : (List Int) -> Option Bool) : Option Bool :=
 Option.bind (zcy a0 a1) fun v1 =>
 some (decide (v1 >= 0))
def zeu (a0 : Int) : Option Bool :=
 some ((decide (a0 < 0)) || (decide (a0 > 1073741824)))
def zdz (a0 : List Int) : Option Bool :=
 Option.bind (if ¬ (¬ ((a0.length : Int) = 8)) then zbf a0 zeu else some default) fun v1 =>
 some (((a0.length : Int) != 8) || v1)
def zev (a0 : List (List Int)) : Option Int :=
 Option.bind (if ¬ (¬ ((a0.length : Int) = 4)) then zbp a0 zdz else some default) fun v1 =>
 if (¬ ((a0.length : Int) = 4)) \/ (v1 = true) then
 some 8
 else
 some 0
def zg1 (a0 : List (List Int)) (a1 : Int) (a2 : Int) : Option Int :=
 Option.bind (zev a0) fun v1 =>
 if ¬ (v1 = 0) then
 some v1
 else
 if (((a1 < 0) \/ (a1 >= 4)) \/ (a2 < 0)) \/ (a2 >= 8) then
 some 2
 else
 some 0
def zbo : List (List Int) -> (List (List Int)) -> Option ((List (List Int)))
 | [], l2 =>
  some l2
 | y1 :: rest1, l2 =>
  if (0 <= ((y1).length : Int) /\ ((y1).length : Int) < 1000000) then
  if l2.length + [y1].length < 1000000 then
  zbo rest1 (l2 ++ [y1])
  else none
  else none
theorem ze5 (l2 : List (List Int)) : zbo [] l2 =
  (some l2 : Option ((List (List Int)))) := rfl
theorem ze6 (y1 : (List Int)) (rest1 : List (List Int)) (l2 : List (List Int)) : zbo (y1 :: rest1) l2 =
  (if (0 <= ((y1).length : Int) /\ ((y1).length : Int) < 1000000) then
  if l2.length + [y1].length < 1000000 then
  zbo rest1 (l2 ++ [y1])
  else none
  else none : Option ((List (List Int)))) := rfl
def zd0 (a0 : List (List Int)) : Option ((List (List Int))) :=
 Option.bind (α := (List (List Int))) (zbo a0 []) fun l1 =>
 some l1
def ze8 (a0 : List Int) (a1 : List Int) : Option Bool :=
 Option.bind (zbm a0 a1) fun v1 =>
 some v1
def zaf (a1 : List (List Int)) (a2 : (List Int) -> (List Int) -> Option Bool) : List (List Int) -> Nat -> Option (Bool ⊕ Unit)
 | [], n1 =>
  some (.inr ())
 | y1 :: rest1, n1 =>
  if n1 < a1.length then
  Option.bind (a2 (y1) (a1.getD n1 default)) fun v1 =>
  if ¬ (v1 = true) then
  some (.inl false)
  else
  zaf a1 a2 rest1 (n1 + 1) 
  else none
def zbt (a0 : List (List Int)) (a1 : List (List Int)) (a2 : (List Int) -> (List Int) -> Option Bool) : Option Bool :=
 if ¬ ((a0.length : Int) = (a1.length : Int)) then
 some false
 else
 Option.bind (α := Bool ⊕ Unit) (zaf a1 a2 a0 0 ) fun z => match z with
 | (.inl r) => some r
 | (.inr _) =>
 some true
def zgk (a0 : List (List Int)) (a1 : List (List Int)) : Option Bool :=
 Option.bind (zbt a0 a1 ze8) fun v1 =>
 some v1
def zan (a1 : TTopic -> Option Bool) : List TTopic -> Nat -> Option (Int ⊕ Unit)
 | [], n1 =>
  some (.inr ())
 | y1 :: rest1, n1 =>
  Option.bind (a1 (y1)) fun v1 =>
  if v1 = true then
  some (.inl (n1 : Int))
  else
  zan a1 rest1 (n1 + 1) 
def zch (a0 : List TTopic) (a1 : TTopic -> Option Bool) : Option Int :=
 Option.bind (α := Int ⊕ Unit) (zan a1 a0 0 ) fun z => match z with
 | (.inl r) => some r
 | (.inr _) =>
 some (-1)
def zbg (a0 : List TTopic) (a1 : TTopic -> Option Bool) : Option Bool :=
 Option.bind (zch a0 a1) fun v1 =>
 some (decide (v1 >= 0))
def ze7 (a0 : TTopic) : Option Bool :=
 Option.bind (zeb a0) fun v1 =>
 some (v1 != 0)
def zbu (a0 : TStream) : List (List Int) -> Nat -> Option (Int ⊕ Unit)
 | [], n1 =>
  some (.inr ())
 | y1 :: rest1, n1 =>
  Option.bind (zds (y1)) fun v3 =>
  if n1 < a0.Topics.length then
  if v3 > (a0.Topics.getD n1 default).Next then
  some (.inl 8)
  else
  zbu a0 rest1 (n1 + 1) 
  else none
def zfk (a0 : TStream) : Option Int :=
 Option.bind (if ¬ (¬ ((a0.Topics.length : Int) = 4)) then zbg a0.Topics ze7 else some default) fun v1 =>
 Option.bind (if ¬ ((¬ ((a0.Topics.length : Int) = 4)) \/ (v1 = true)) then zev a0.Commits else some default) fun v2 =>
 if ((¬ ((a0.Topics.length : Int) = 4)) \/ (v1 = true)) \/ (¬ (v2 = 0)) then
 some 8
 else
 Option.bind (α := Int ⊕ Unit) (zbu a0 a0.Commits 0 ) fun z => match z with
 | (.inl r) => some r
 | (.inr _) =>
 some 0
def zfj (a0 : TStream) (a1 : Int) : Option Int :=
 Option.bind (zfk a0) fun v1 =>
 if ¬ (v1 = 0) then
 some v1
 else
 if (a1 < 0) \/ (a1 >= 4) then
 some 2
 else
 some 0
def zcr : List TTopic -> (List TTopic) -> Option ((List TTopic))
 | [], l2 =>
  some l2
 | y1 :: rest1, l2 =>
  Option.bind (zc2 (y1)) fun v2 =>
  if l2.length + [v2].length < 1000000 then
  zcr rest1 (l2 ++ [v2])
  else none
theorem zhz (l2 : List TTopic) : zcr [] l2 =
  (some l2 : Option ((List TTopic))) := rfl
theorem zi0 (y1 : TTopic) (rest1 : List TTopic) (l2 : List TTopic) : zcr (y1 :: rest1) l2 =
  (Option.bind (zc2 (y1)) fun v2 =>
  if l2.length + [v2].length < 1000000 then
  zcr rest1 (l2 ++ [v2])
  else none : Option ((List TTopic))) := rfl
def zec (a0 : TStream) : Option TStream :=
 Option.bind (zd0 a0.Commits) fun v1 =>
 Option.bind (α := (List TTopic)) (zcr a0.Topics []) fun l1 =>
 some (⟨l1, v1⟩ : TStream)
def zf4 (a0 : TStream) (a1 : Int) (a2 : TTopic) : Option TStream :=
 Option.bind (zec a0) fun v1 =>
 if (0 <= a1 /\ a1 < (v1.Topics.length : Int)) then
 some (⟨(v1.Topics.set a1.toNat a2), v1.Commits⟩ : TStream)
 else none
def zfx (a0 : TStream) (a1 : TMessage) : Option (TStream × Int × Int) :=
 Option.bind (zfj a0 a1.Topic) fun v1 =>
 if ¬ (v1 = 0) then
 some ((⟨[], []⟩ : TStream), 0, v1)
 else
 if (0 <= a1.Topic /\ a1.Topic < (a0.Topics.length : Int)) then
 Option.bind (zho (a0.Topics.getD a1.Topic.toNat default) a1.Id a1.Key a1.Body) fun v2 =>
 if ¬ (v2.2.2 = 0) then
 some ((⟨[], []⟩ : TStream), 0, v2.2.2)
 else
 Option.bind (zf4 a0 a1.Topic v2.1) fun v3 =>
 some (v3, v2.2.1, 0)
 else none
def zaa (a1 : List TTopic) (a2 : TTopic -> TTopic -> Option Bool) : List TTopic -> Nat -> Option (Bool ⊕ Unit)
 | [], n1 =>
  some (.inr ())
 | y1 :: rest1, n1 =>
  if n1 < a1.length then
  Option.bind (a2 (y1) (a1.getD n1 default)) fun v1 =>
  if ¬ (v1 = true) then
  some (.inl false)
  else
  zaa a1 a2 rest1 (n1 + 1) 
  else none
def zba (a0 : List TTopic) (a1 : List TTopic) (a2 : TTopic -> TTopic -> Option Bool) : Option Bool :=
 if ¬ ((a0.length : Int) = (a1.length : Int)) then
 some false
 else
 Option.bind (α := Bool ⊕ Unit) (zaa a1 a2 a0 0 ) fun z => match z with
 | (.inl r) => some r
 | (.inr _) =>
 some true
def zh3 (a0 : TStream) (a1 : TStream) : Option Bool :=
 Option.bind (zba a0.Topics a1.Topics zfv) fun v1 =>
 Option.bind (if v1 = true then zgk a0.Commits a1.Commits else some default) fun v2 =>
 some (v1 && v2)
end Go.Proofs
end
section
namespace Go.Proofs
open Go.Tm Go.RowKit Go.WideShapes
set_option maxRecDepth 100000
set_option maxHeartbeats 4000000
set_option linter.unusedSimpArgs false
set_option linter.unusedVariables false
@[go_sem] def st39 (r : TTopic) : St := ⟨[(0, .ptr 0 0)], [(0, .box [.int .i64 r.Base, .int .i64 r.Next, .int .i64 r.Mark, .imm 4 (r.Entries.map TEntry.d) 13])], 1⟩
theorem zrx (r : TTopic) (h : zko  = some r) : zbi Tryz.prog 110 [] [] (.agg [.int .i64 r.Base, .int .i64 r.Next, .int .i64 r.Mark, .imm 4 (r.Entries.map TEntry.d) 13]) [] (0, 3) := by
 refine za6 Tryz.tmOk Tryz.func110 rfl (by decide) (lb rfl) (by simp) ?_
 intro hwf
 unfold zko at h
 refine .ends 0 (Nat.le_refl _) ?_
 refine .seq (.pl zS [] ?_)
 refine .seq (.pl zS [0] ?_)
 obtain rfl := sj h
 refine .ret ⟨st39 (⟨0, 0, 0, []⟩ : TTopic), ?_, .inr rfl, retH [] ?_ ?_⟩
 refine Goes.boxs 0 _ [.int .i64 0, .int .i64 0, .int .i64 0, .imm 4 [] 13] rfl (.keep (.keep (.keep (.cons (.nil12 _ _ 0 (by decide)) (.refl _))))) ?_
 exact .m [0] [0] []
 exact rsi0
 rfl
theorem zrr (r : TTopic) (h : zko  = some r) : zap Tryz.prog 110 [] (.agg [.int .i64 r.Base, .int .i64 r.Next, .int .i64 r.Mark, .imm 4 (r.Entries.map TEntry.d) 13]) :=
 zdf (zgt (za0 rfl (za0 rfl (za0 rfl (za0 rfl zbr))))) (zrx  r h)
theorem zka (a0 : TEntry) (r : Bool) (h : zg5 a0 = some r) : zap Tryz.prog 147 [.agg [.int .i64 a0.Offset, .int .i64 a0.Id, .str a0.Key, .str a0.Body]] (.bool r) := by
 refine za3 Tryz.tmOk 3 Tryz.func147 rfl (by decide) rfl rfl (lb rfl) ?_
 intro hwf
 unfold zg5 at h
 refine .seq (.pl zS [0] ?_)
 refine .seq (.rg zS [1] ?_)
 refine .rn 6 ?_
 refine .rn 6 ?_
 refine .rn 6 ?_
 refine .rn 3 ?_
 refine .nn ?_
 obtain rfl := sj h
 exact .rr
@[go_sem] def ya59 (a0 : TTopic) (n1 : Int) : St := ⟨[(1, .ptr 0 0), (4, .int .i64 n1)], [(0, .box [.int .i64 a0.Base, .int .i64 a0.Next, .int .i64 a0.Mark, .imm 4 (a0.Entries.map TEntry.d) 4])], 2⟩
@[go_sem] def ya58 (a0 : TTopic) (n3 : Nat) (m1 : List ((List UInt8) × Int)) (n2 : Int) : St := ⟨[(1, .ptr 0 0), (3, .mref 1), (4, .int .i64 n2), (50, .imm 4 (a0.Entries.map TEntry.d) 4), (51, .int .i64 (a0.Entries.length : Int)), (52, .int .i64 (n3 : Int))], [(0, .box [.int .i64 a0.Base, .int .i64 a0.Next, .int .i64 a0.Mark, .imm 4 (a0.Entries.map TEntry.d) 4]), (1, .map (mapD D.str (D.int .i64) m1))], 2⟩
@[go_sem] def ya57 (a0 : TTopic) (n3 : Nat) (yq0 : TEntry) (m2 : List ((List UInt8) × Int)) : St := ⟨[(1, .ptr 0 0), (3, .mref 1), (6, .ptr 2 0), (50, .imm 4 (a0.Entries.map TEntry.d) 4), (51, .int .i64 (a0.Entries.length : Int)), (52, .int .i64 (n3 : Int))], [(0, .box [.int .i64 a0.Base, .int .i64 a0.Next, .int .i64 a0.Mark, .imm 4 (a0.Entries.map TEntry.d) 4]), (1, .map (mapD D.str (D.int .i64) m2)), (2, .box [.int .i64 (yq0.Offset), .int .i64 (yq0.Id), .str (yq0.Key), .str (yq0.Body)])], 3⟩
theorem zg7 (a0 : TTopic) (r : Int) (h : zeb a0 = some r) : zap Tryz.prog 97 [.agg [.int .i64 a0.Base, .int .i64 a0.Next, .int .i64 a0.Mark, .imm 4 (a0.Entries.map TEntry.d) 4]] (.int .i64 r) := by
 refine za3 Tryz.tmOk 5 Tryz.func97 rfl (by decide) rfl rfl (lb rfl) ?_
 intro hwf
 unfold zeb at h
 refine .seq (.pl zS [0] ?_)
 refine .seq (.seq (.rg zS [1] ?_))
 refine .rn 6 ?_
 refine .rn 6 ?_
 refine .rn 6 ?_
 refine .rn 6 ?_
 refine .rn 6 ?_
 refine .rn 8 ?_
 refine .nn ?_
 refine .cd (fun hc1 => ?_) (fun hc1 => ?_)
 replace h := za4 h hc1
 refine .seq (.pl zS [] ?_)
 obtain rfl := sj h
 exact .rr
 replace h := za7 h hc1
 refine .skip (.seq (.pl zS [1] ?_))
 refine .seq (.pl zS [1, 3] ?_)
 obtain ⟨x1, hx1, h⟩ := bind_some h
 refine .seqM 2 (fun (j : Int) => ya59 a0 j) (fun j => x1 = (.inr j)) (lb rfl) ?_ ?_
 refine .seq (.pl zS [1, 3, 4] ?_)
 refine .block ?_
 refine .loopG 2 (fun (j : Nat × (List ((List UInt8) × Int)) × Int) => ya58 a0 j.1 j.2.1 j.2.2) (fun j => j.1 <= a0.Entries.length /\ zc3 a0 (a0.Entries.drop j.1) j.2.1 j.2.2 = some x1) (fun j => a0.Entries.length - j.1) (0, [], (wr .i64 (a0.Base - 1))) (lb rfl) ?_ ⟨Nat.zero_le _, hx1⟩ ?_
 exact .mp [1, 3, 4, 50, 51, 52] [0, 1] [] ⟨rfl, trivial⟩
 rintro ⟨n3, m1, n2⟩ ⟨hi1, hx1⟩
 simp only [ya58]
 simp only at hi1 hx1
 refine .wf 51 (.int .i64 (a0.Entries.length : Int)) rfl ?_
 intro hln3
 replace hln3 := wfn hln3
 refine .seq (.pl zS [1, 3, 4, 50, 51, 52] ?_)
 refine .seq (.cd (fun hc2 => ?_) (fun hc2 => ?_))
 have h1 : n3 < a0.Entries.length := by simpa using hc2
 have hwn3 := zdg h1 hln3
 have hpn3 := zdh h1 hln3
 rw [List.drop_eq_getElem_cons h1, zc3] at hx1
 refine .skip (.seq (.block (.seq ?_)))
 have e1 := zd3 TEntry.d a0.Entries n3 h1
 refine .plx zS (ai e1 hwn3) [1, 3, 4, 50, 51, 52] ?_
 refine .seq (.seq ?_)
 obtain ⟨v1, hv1, hx1⟩ := bind_some hx1
 refine .rg zS [1, 3, 4, 6, 50, 51, 52] ?_
 refine .rnx 1 hwn3 ?_
 refine .cl (zka (a0.Entries[n3]) v1 hv1) ?_
 refine .rnx 6 hwn3 ?_
 refine .rnx 6 hwn3 ?_
 refine .rnx 6 hwn3 ?_
 refine .rnx 6 hwn3 ?_
 refine .rnx 6 hwn3 ?_
 refine .rnx 8 hwn3 ?_
 refine .nn ?_
 refine .cd (fun hc3 => ?_) (fun hc3 => ?_)
 replace hx1 := za4 hx1 hc3
 refine .seq (.plx zS hwn3 [] ?_)
 have hq := sj hx1
 subst x1
 try dsimp only at h
 obtain rfl := sj h
 exact .rr
 replace hx1 := za7 hx1 hc3
 refine .skip ?_
 obtain ⟨x2, hx2, hx1⟩ := bind_some hx1
 refine .seqM 3 (fun (j : (List ((List UInt8) × Int))) => ya57 a0 n3 (a0.Entries[n3]) j) (fun j => x2 = j) (lb rfl) ?_ ?_
 refine .seq (.plx zS hwn3 [1, 3, 6, 50, 51, 52] ?_)
 refine .cd (fun hc4 => ?_) (fun hc4 => ?_)
 replace hx2 := za4 hx2 hc4
 have em1 : updD (.str (a0.Entries[n3].Key)) (.int .i64 1) (mapD D.str (D.int .i64) m1) = some (mapD D.str (D.int .i64) (mput (a0.Entries[n3].Key) 1 m1)) := zwu (D.int .i64) (a0.Entries[n3].Key) 1 _ rfl m1
 refine .plx zS (ai em1 hwn3) [1, 3, 6, 50, 51, 52] ?_
 refine ⟨_, ?_, (sj hx2).symm⟩
 exact .mp [1, 3, 6, 50, 51, 52] [0, 1, 2] [] ⟨zdq (fun _ => rfl) (fun _ => rfl) _, trivial⟩
 replace hx2 := za7 hx2 hc4
 refine .skip ?_
 refine ⟨_, ?_, (sj hx2).symm⟩
 exact .mp [1, 3, 6, 50, 51, 52] [0, 1, 2] [] ⟨zdq (fun _ => rfl) (fun _ => rfl) _, trivial⟩
 rintro m2 hj1
 subst x2
 try dsimp only at hx1
 simp only [ya57]
 refine .plx zS hwn3 [1, 3, 6, 50, 51, 52] ?_
 refine .plx zS hwn3 [1, 3, 4, 50, 51, 52] ?_
 refine ⟨(n3 + 1, _, _), ?_, ⟨by omega, hx1⟩, by dsimp only; omega⟩
 exact .mp [1, 3, 4, 50, 51, 52] [0, 1] [] ⟨zdq (fun _ => rfl) (fun _ => rfl) _, trivial⟩
 have h2 : n3 = a0.Entries.length := by have h2b := of_decide_eq_false hc2; omega
 rw [List.drop_of_length_le (by omega), zc3] at hx1
 refine .exit ?_
 refine ⟨_, ?_, (sj hx1).symm⟩
 exact .m [1, 4] [0] []
 rintro n1 hj2
 subst x1
 try dsimp only at h
 simp only [ya59]
 refine .seq (.seq (.pl zS [1, 4] ?_))
 refine .cd (fun hc5 => ?_) (fun hc5 => ?_)
 replace h := za4 h hc5
 refine .seq (.pl zS [] ?_)
 obtain rfl := sj h
 exact .rr
 replace h := za7 h hc5
 refine .skip (.seq (.pl zS [] ?_))
 obtain rfl := sj h
 exact .rr
@[go_sem] def st26 (r : (List TEntry)) : St := ⟨[(2, .ref 0 4 0 r.length (some uC))], [(0, .arr 96 4 true (r.map TEntry.d))], 1⟩
theorem zf2 (a0 : List TEntry) (r : (List TEntry)) (h : zb0 a0 = some r) : zbi Tryz.prog 141 [.imm 4 (a0.map TEntry.d) 4] [] (.ref 0 4 0 r.length (some uC)) [(0, some (.arr 96 4 true (r.map TEntry.d)))] (0, 3) := by
 refine za6 Tryz.tmOk Tryz.func141 rfl (by decide) (lb rfl) (by simp) ?_
 intro hwf
 unfold zb0 at h
 refine .ends 0 (Nat.le_refl _) ?_
 refine .nil4 0 4 (a0.map TEntry.d) rfl ?_ (fun hl => ?_)
 refine .seq (.pl zS [0] ?_)
 refine .seq (.seq (.pl zS [0] ?_))
 refine .cond rfl rfl (fun hc => by cases hc) (fun hc => ?_)
 obtain ⟨k1, h⟩ := zat h
 refine .skip ?_
 refine .seqM 0 (fun (_ : Unit) => ⟨[(2, .ref 0 4 0 a0.length (some uC))], [(0, .arr 96 4 true (a0.map TEntry.d))], 1⟩) (fun _ => True) (lb rfl) ?_ (fun _ _ => ?_)
 rcases zly a0 with hE1 | ⟨y, ys, hE1⟩
 have hM1 : a0.map TEntry.d = [] := by rw [hE1]; simp
 refine .px zS (apn hM1) [0] ?_
 refine ⟨(), ?_, trivial⟩
 refine Goes.new0 4 96 (lb rfl) ?_
 refine Goes.wk 2 _ (.ref 0 4 0 0 (some uC)) rfl (.own0 0 _ _ _ (by decide)) ?_
 exact .mx hE1 [2] [0] []
 have hM1 : a0.map TEntry.d ≠ [] := by rw [hE1]; simp
 refine .px zS (apc hM1) [0] ?_
 refine ⟨(), ?_, trivial⟩
 refine Goes.wk 2 _ (.ref 0 4 0 a0.length (some uC)) rfl (.unk _ _ _ _ _) ?_
 exact .mx hE1 [2] [0] []
 obtain rfl := sj h
 refine .ret ⟨st26 a0, ?_, .inr rfl, retH [0] ?_ ?_⟩
 exact .m [2] [0] []
 exact rsi0
 rfl
 have hE0 : a0 = [] := by simpa using hl
 obtain ⟨k1, h⟩ := zat h
 refine .seq (.pl zS [0] ?_)
 refine .seq (.seq (.pl zS [0] ?_))
 refine .cond rfl rfl (fun hc => ?_) (fun hc => by cases hc)
 refine .seq (.pl zS [] ?_)
 obtain rfl := sj h
 refine .ret ⟨st26 a0, ?_, .inr rfl, retH [0] ?_ ?_⟩
 refine Goes.new0 4 96 (lb rfl) ?_
 refine Goes.wk 2 _ (.ref 0 4 0 0 (some uC)) rfl (.own0 0 _ _ _ (by decide)) ?_
 exact .mx hE0 [2] [0] []
 exact rsi0
 rfl
@[go_sem] def st40 (r : TTopic) : St := ⟨[(2, .ptr 1 0)], [(0, .arr 96 4 true (r.Entries.map TEntry.d)), (1, .box [.int .i64 r.Base, .int .i64 r.Next, .int .i64 r.Mark, .ref 0 4 0 r.Entries.length (some uC)])], 2⟩
theorem zl0 (a0 : TTopic) (r : TTopic) (h : zc2 a0 = some r) : zbi Tryz.prog 86 [.agg [.int .i64 a0.Base, .int .i64 a0.Next, .int .i64 a0.Mark, .imm 4 (a0.Entries.map TEntry.d) 4]] [] (.agg [.int .i64 r.Base, .int .i64 r.Next, .int .i64 r.Mark, .ref 0 4 0 r.Entries.length (some uC)]) [(0, some (.arr 96 4 true (r.Entries.map TEntry.d)))] (0, 8) := by
 refine za6 Tryz.tmOk Tryz.func86 rfl (by decide) (lb rfl) (by simp) ?_
 intro hwf
 unfold zc2 at h
 refine .ends 0 (Nat.le_refl _) ?_
 refine .seq (.pl zS [0] ?_)
 obtain ⟨v1, hv1, h⟩ := bind_some h
 refine .seq (.rg zS [1, 2] ?_)
 refine .rn 2 ?_
 refine .ncall (r := .ref 3 4 0 v1.length (some uC)) (eff := [(3, some (.arr 96 4 true (v1.map TEntry.d)))]) (nw := (3, 6)) [] rfl rfl rfl rfl rfl (za2 rfl za8) rfl (zd8 3 (lb rfl) (zf2 a0.Entries v1 hv1)) (zbl rfl rfl (zdk zhn _ _ _) zdo) (by intro i hi; simp [D.ids, D.idsL] at hi <;> omega) rfl ⟨lb rfl, lb rfl⟩ ?_
 refine .rn 2 ?_
 refine .nn ?_
 refine .seq (.pl zS [1, 2] ?_)
 obtain rfl := sj h
 refine .ret ⟨st40 (⟨a0.Base, a0.Next, a0.Mark, v1⟩ : TTopic), ?_, .inr rfl, retH [0] ?_ ?_⟩
 exact .m [2] [3, 1] [(3, 0)]
 exact rsi0
 rfl
theorem zie (a0 : TTopic) (r : TTopic) (h : zc2 a0 = some r) : zap Tryz.prog 86 [.agg [.int .i64 a0.Base, .int .i64 a0.Next, .int .i64 a0.Mark, .imm 4 (a0.Entries.map TEntry.d) 4]] (.agg [.int .i64 r.Base, .int .i64 r.Next, .int .i64 r.Mark, .imm 4 (r.Entries.map TEntry.d) 13]) :=
 zdf (zgt (za0 rfl (za0 rfl (za0 rfl (za0 (zbs zhn rfl rfl) zbr))))) (zl0 a0 r h)
@[go_sem] def ya5b (a0 : TTopic) (a1 : Int) (a2 : List UInt8) (a3 : List UInt8) (b1 : Bool) : St := ⟨[(4, .ptr 0 0), (8, .ptr 1 0), (11, .ptr 2 0), (23, .bool b1)], [(0, .box [.int .i64 a0.Base, .int .i64 a0.Next, .int .i64 a0.Mark, .imm 4 (a0.Entries.map TEntry.d) 4]), (1, .box [.int .i64 0, .int .i64 0, .int .i64 0, .imm 0 [] 0]), (2, .box [.int .i64 a0.Next, .int .i64 a1, .str a2, .str a3])], 3⟩
@[go_sem] def ya5a (a0 : TTopic) (a1 : Int) (a2 : List UInt8) (a3 : List UInt8) (b2 : Bool) : St := ⟨[(4, .ptr 0 0), (8, .ptr 1 0), (11, .ptr 2 0), (34, .bool b2)], [(0, .box [.int .i64 a0.Base, .int .i64 a0.Next, .int .i64 a0.Mark, .imm 4 (a0.Entries.map TEntry.d) 4]), (1, .box [.int .i64 0, .int .i64 0, .int .i64 0, .imm 0 [] 0]), (2, .box [.int .i64 a0.Next, .int .i64 a1, .str a2, .str a3])], 3⟩
@[go_sem] def st38 (r : TTopic × Int × Int) : St := ⟨[(8, .ptr 1 0), (9, .int .i64 r.2.1), (10, .int .i64 r.2.2)], [(0, .arr 96 4 true (r.1.Entries.map TEntry.d)), (1, .box [.int .i64 r.1.Base, .int .i64 r.1.Next, .int .i64 r.1.Mark, .ref 0 4 0 r.1.Entries.length (some uC)])], 2⟩
theorem zry (a0 : TTopic) (a1 : Int) (a2 : List UInt8) (a3 : List UInt8) (r : TTopic × Int × Int) (h : zho a0 a1 a2 a3 = some r) : zbi Tryz.prog 186 [.agg [.int .i64 a0.Base, .int .i64 a0.Next, .int .i64 a0.Mark, .imm 4 (a0.Entries.map TEntry.d) 4], .int .i64 a1, .str a2, .str a3] [] (.tuple [.agg [.int .i64 r.1.Base, .int .i64 r.1.Next, .int .i64 r.1.Mark, .ref 0 4 0 r.1.Entries.length (some uC)], .int .i64 r.2.1, .int .i64 r.2.2]) [(0, some (.arr 96 4 true (r.1.Entries.map TEntry.d)))] (0, 20) := by
 refine za6 Tryz.tmOk Tryz.func186 rfl (by decide) (lb rfl) (by simp) ?_
 intro hwf
 unfold zho at h
 refine .ends 0 (Nat.le_refl _) ?_
 refine .seq (.pl zS [0, 1, 2, 3] ?_)
 refine .seq (.pl zS [1, 2, 3, 4, 8] ?_)
 refine .seq (.block ?_)
 obtain ⟨v1, hv1, h⟩ := bind_some h
 refine .seq (.rg zS [1, 4, 8, 11] ?_)
 refine .rn 1 ?_
 refine .cl (zg7 a0 v1 hv1) ?_
 refine .rn 2 ?_
 refine .nn ?_
 refine .cd (fun hc1 => ?_) (fun hc1 => ?_)
 replace h := za4 h hc1
 refine .seq (.pl zS [8] ?_)
 obtain rfl := sj h
 refine .ret ⟨st38 ((⟨0, 0, 0, []⟩ : TTopic), 0, 8), ?_, .inr rfl, retH [0] ?_ ?_⟩
 refine Goes.new0 4 96 (lb rfl) ?_
 refine Goes.boxs 1 _ [.int .i64 0, .int .i64 0, .int .i64 0, .ref 3 4 0 0 (some uC)] rfl (.keep (.keep (.keep (.cons (.own0 3 _ _ _ (by decide)) (.refl _))))) ?_
 exact .m [8, 9, 10] [3, 1] [(3, 0)]
 exact rsi0
 rfl
 replace h := za7 h hc1
 obtain ⟨x1, hx1, h⟩ := bind_some h
 refine .seqM 3 (fun (j : Bool) => ya5b a0 a1 a2 a3 j) (fun j => x1 = j) (lb rfl) ?_ ?_
 refine .seq (.pl zS [1, 4, 8, 11] ?_)
 refine .cd (fun hc2 => ?_) (fun hc2 => ?_)
 replace hx1 := za4 hx1 hc2
 refine .skip ?_
 refine ⟨_, ?_, (sj hx1).symm⟩
 exact .m [4, 8, 11, 23] [0, 1, 2] []
 replace hx1 := za7 hx1 hc2
 refine .pl zS [1, 4, 8, 11] ?_
 refine ⟨_, ?_, (sj hx1).symm⟩
 exact .m [4, 8, 11, 23] [0, 1, 2] []
 rintro b1 hj1
 subst x1
 try dsimp only at h
 simp only [ya5b]
 refine .cd (fun hc3 => ?_) (fun hc3 => ?_)
 replace h := za4 h hc3
 refine .seq (.pl zS [8] ?_)
 obtain rfl := sj h
 refine .ret ⟨st38 ((⟨0, 0, 0, []⟩ : TTopic), 0, 2), ?_, .inr rfl, retH [0] ?_ ?_⟩
 refine Goes.new0 4 96 (lb rfl) ?_
 refine Goes.boxs 1 _ [.int .i64 0, .int .i64 0, .int .i64 0, .ref 3 4 0 0 (some uC)] rfl (.keep (.keep (.keep (.cons (.own0 3 _ _ _ (by decide)) (.refl _))))) ?_
 exact .m [8, 9, 10] [3, 1] [(3, 0)]
 exact rsi0
 rfl
 replace h := za7 h hc3
 obtain ⟨v2, hv2, h⟩ := bind_some h
 refine .seq (.rg zS [4, 8, 11] ?_)
 refine .rn 1 ?_
 refine .cl (zka (⟨a0.Next, a1, a2, a3⟩ : TEntry) v2 hv2) ?_
 refine .rn 2 ?_
 refine .nn ?_
 refine .cd (fun hc4 => ?_) (fun hc4 => ?_)
 replace h := za4 h hc4
 refine .seq (.pl zS [8] ?_)
 obtain rfl := sj h
 refine .ret ⟨st38 ((⟨0, 0, 0, []⟩ : TTopic), 0, 3), ?_, .inr rfl, retH [0] ?_ ?_⟩
 refine Goes.new0 4 96 (lb rfl) ?_
 refine Goes.boxs 1 _ [.int .i64 0, .int .i64 0, .int .i64 0, .ref 3 4 0 0 (some uC)] rfl (.keep (.keep (.keep (.cons (.own0 3 _ _ _ (by decide)) (.refl _))))) ?_
 exact .m [8, 9, 10] [3, 1] [(3, 0)]
 exact rsi0
 rfl
 replace h := za7 h hc4
 obtain ⟨x2, hx2, h⟩ := bind_some h
 refine .seqM 3 (fun (j : Bool) => ya5a a0 a1 a2 a3 j) (fun j => x2 = j) (lb rfl) ?_ ?_
 refine .seq (.pl zS [4, 8, 11] ?_)
 refine .cd (fun hc5 => ?_) (fun hc5 => ?_)
 replace hx2 := za4 hx2 hc5
 refine .skip ?_
 refine ⟨_, ?_, (sj hx2).symm⟩
 exact .m [4, 8, 11, 34] [0, 1, 2] []
 replace hx2 := za7 hx2 hc5
 refine .pl zS [4, 8, 11] ?_
 refine ⟨_, ?_, (sj hx2).symm⟩
 exact .m [4, 8, 11, 34] [0, 1, 2] []
 rintro b2 hj2
 subst x2
 try dsimp only at h
 simp only [ya5a]
 refine .cd (fun hc6 => ?_) (fun hc6 => ?_)
 replace h := za4 h hc6
 refine .seq (.pl zS [8] ?_)
 obtain rfl := sj h
 refine .ret ⟨st38 ((⟨0, 0, 0, []⟩ : TTopic), 0, 9), ?_, .inr rfl, retH [0] ?_ ?_⟩
 refine Goes.new0 4 96 (lb rfl) ?_
 refine Goes.boxs 1 _ [.int .i64 0, .int .i64 0, .int .i64 0, .ref 3 4 0 0 (some uC)] rfl (.keep (.keep (.keep (.cons (.own0 3 _ _ _ (by decide)) (.refl _))))) ?_
 exact .m [8, 9, 10] [3, 1] [(3, 0)]
 exact rsi0
 rfl
 replace h := za7 h hc6
 refine .skip ?_
 obtain ⟨v3, hv3, h⟩ := bind_some h
 refine .seq (.rg zS [4, 8, 11] ?_)
 refine .rn 1 ?_
 refine .ncall (r := .agg [.int .i64 v3.Base, .int .i64 v3.Next, .int .i64 v3.Mark, .ref 8 4 0 v3.Entries.length (some uC)]) (eff := [(8, some (.arr 96 4 true (v3.Entries.map TEntry.d)))]) (nw := (8, 16)) [] rfl rfl rfl rfl rfl (za2 rfl za8) rfl (zd8 8 (lb rfl) (zl0 a0 v3 hv3)) (zbl rfl rfl (zdk zhn _ _ _) zdo) (by intro i hi; simp [D.ids, D.idsL] at hi <;> omega) rfl ⟨lb rfl, lb rfl⟩ ?_
 refine .rn 1 ?_
 refine .nn ?_
 obtain ⟨k1, h⟩ := zat h
 refine .seq (.pl zS [4, 8, 11] ?_)
 refine .seq (.pl zS [4, 8, 11] ?_)
 refine .seq ?_
 refine .dr zS [4, 8, 11] ?_
 obtain rfl := sj h
 refine .ret ⟨st38 ((⟨v3.Base, (wr .i64 (v3.Next + 1)), v3.Mark, (v3.Entries ++ [(⟨a0.Next, a1, a2, a3⟩ : TEntry)])⟩ : TTopic), a0.Next, 0), ?_, .inr rfl, retH [0] ?_ ?_⟩
 exact .m [8, 9, 10] [17, 1] [(17, 0)]
 exact rsi0
 rfl
theorem zrs (a0 : TTopic) (a1 : Int) (a2 : List UInt8) (a3 : List UInt8) (r : TTopic × Int × Int) (h : zho a0 a1 a2 a3 = some r) : zap Tryz.prog 186 [.agg [.int .i64 a0.Base, .int .i64 a0.Next, .int .i64 a0.Mark, .imm 4 (a0.Entries.map TEntry.d) 4], .int .i64 a1, .str a2, .str a3] (.tuple [.agg [.int .i64 r.1.Base, .int .i64 r.1.Next, .int .i64 r.1.Mark, .imm 4 (r.1.Entries.map TEntry.d) 13], .int .i64 r.2.1, .int .i64 r.2.2]) :=
 zdf (zlm (za0 (zgt (za0 rfl (za0 rfl (za0 rfl (za0 (zbs zhn rfl rfl) zbr))))) (za0 rfl (za0 rfl zbr)))) (zry a0 a1 a2 a3 r h)
@[go_sem] def st90 : St := ⟨[], [], 0⟩
@[go_sem] def st91 (a0 : List TEntry) (a1 : List TEntry) (n1 : Nat) : St := ⟨[(0, .imm 4 (a0.map TEntry.d) 4), (1, .imm 4 (a1.map TEntry.d) 4), (12, .int .i64 (a0.length : Int)), (13, .int .i64 (n1 : Int))], [], 0⟩
theorem zi7 (a0 : List TEntry) (a1 : List TEntry) (r : Bool) (h : zdc a0 a1 = some r) : zap Tryz.prog 152 [.imm 4 (a0.map TEntry.d) 4, .imm 4 (a1.map TEntry.d) 4] (.bool r) := by
 refine za3 Tryz.tmOk 2 Tryz.func152 rfl (by decide) rfl rfl (lb rfl) ?_
 intro hwf
 unfold zdc at h
 refine .seq (.pl zS [0, 1] ?_)
 refine .seq (.seq (.pl zS [0, 1] ?_))
 refine .cd (fun hc1 => ?_) (fun hc1 => ?_)
 replace h := za4 h hc1
 refine .seq (.pl zS [] ?_)
 obtain rfl := sj h
 exact .rr
 replace h := za7 h hc1
 obtain ⟨x1, hx1, h⟩ := bind_some h
 refine .skip ?_
 refine .seqM 0 (fun (j : Unit) => st90) (fun j => x1 = (.inr j)) (lb rfl) ?_ ?_
 refine .seq (.pl zS [0, 1] ?_)
 refine .block ?_
 refine .loopG 0 (fun (j : Nat) => st91 a0 a1 j) (fun j => j <= a0.length /\ zaz a1 (a0.drop j) j  = some x1) (fun j => a0.length - j) (0) (lb rfl) ?_ ⟨Nat.zero_le _, hx1⟩ ?_
 exact .m [0, 1, 12, 13] [] []
 rintro n1 ⟨hi1, hx1⟩
 simp only [st91]
 refine .wf 12 (.int .i64 (a0.length : Int)) rfl ?_
 intro hln1
 replace hln1 := wfn hln1
 refine .seq (.pl zS [0, 1, 12, 13] ?_)
 refine .seq (.cd (fun hc2 => ?_) (fun hc2 => ?_))
 have h1 : n1 < a0.length := by simpa using hc2
 have hwn1 := zdg h1 hln1
 have hpn1 := zdh h1 hln1
 rw [List.drop_eq_getElem_cons h1, zaz] at hx1
 refine .skip (.seq (.block (.seq (.plx zS hwn1 [0, 1, 12, 13] ?_))))
 refine .seq ?_
 obtain ⟨k1, hx1⟩ := zat hx1
 have e1 := zd3 TEntry.d a0 n1 h1
 have e2 := zea TEntry.d a1 n1
 replace e2 := e2 k1
 refine .rg zS [0, 1, 5, 12, 13] ?_
 refine .rdx 6 (ai e1 (ai e2 hwn1)) ?_
 refine .rdx 3 (ai e1 (ai e2 hwn1)) ?_
 refine .nd ?_
 refine .cd (fun hc3 => ?_) (fun hc3 => ?_)
 replace hx1 := za4 hx1 hc3
 refine .seq (.plx zS hwn1 [] ?_)
 have hq := sj hx1
 subst x1
 try dsimp only at h
 obtain rfl := sj h
 exact .rr
 replace hx1 := za7 hx1 hc3
 refine .skip (.plx zS hwn1 [0, 1, 12, 13] ?_)
 refine ⟨n1 + 1, ?_, ⟨by omega, hx1⟩, by dsimp only; omega⟩
 exact .m [0, 1, 12, 13] [] []
 have h2 : n1 = a0.length := by have h2b := of_decide_eq_false hc2; omega
 rw [List.drop_of_length_le (by omega), zaz] at hx1
 refine .exit ?_
 refine ⟨_, ?_, (sj hx1).symm⟩
 exact .m [] [] []
 rintro ⟨⟩ hj1
 subst x1
 try dsimp only at h
 simp only [st90]
 refine .seq (.pl zS [] ?_)
 obtain rfl := sj h
 exact .rr
theorem zpc (a0 : TTopic) (a1 : TTopic) (r : Bool) (h : zfv a0 a1 = some r) : zap Tryz.prog 107 [.agg [.int .i64 a0.Base, .int .i64 a0.Next, .int .i64 a0.Mark, .imm 4 (a0.Entries.map TEntry.d) 4], .agg [.int .i64 a1.Base, .int .i64 a1.Next, .int .i64 a1.Mark, .imm 4 (a1.Entries.map TEntry.d) 4]] (.bool r) := by
 refine za3 Tryz.tmOk 4 Tryz.func107 rfl (by decide) rfl rfl (lb rfl) ?_
 intro hwf
 unfold zfv at h
 refine .seq (.pl zS [0, 1] ?_)
 obtain ⟨v1, hv1, h⟩ := bind_some h
 refine .seq (.rg zS [2, 3] ?_)
 refine .rn 6 ?_
 refine .rn 6 ?_
 refine .rn 6 ?_
 refine .rn 6 ?_
 refine .gcall rfl rfl rfl rfl rfl (fun hg => ⟨[], [.imm 4 (a0.Entries.map TEntry.d) 4, .imm 4 (a1.Entries.map TEntry.d) 4], _, rfl, gd hg, rfl, (zi7 a0.Entries a1.Entries v1 (za4 hv1 hg))⟩) ?_
 refine .rn 2 ?_
 refine .nn ?_
 obtain rfl := sj h
 exact .rr
@[go_sem] def st96 : St := ⟨[], [], 0⟩
@[go_sem] def st97 (a0 : List TEntry) (Ka1 : Nat) (ca1 : List D) (n1 : Nat) : St := ⟨[(0, .imm 4 (a0.map TEntry.d) 4), (1, .fn (.func Ka1) ca1), (7, .int .i64 (a0.length : Int)), (8, .int .i64 (n1 : Int))], [], 0⟩
theorem zh0 (a0 : List TEntry) (Ka1 : Nat) (ca1 : List D) (hca1 : ∀ hp, zcz hp ca1 = (ca1, true)) (h2a1 : ∀ hp, zcp hp ca1 = (ca1, true)) (h3a1 : ∀ hp, zfa hp ca1 = []) (a1 : TEntry -> Option Bool) (ha1 : ∀ x0 y, a1 x0 = some y -> zap Tryz.prog Ka1 (.agg [.int .i64 x0.Offset, .int .i64 x0.Id, .str x0.Key, .str x0.Body] :: ca1) (.bool y)) (r : Int) (h : zcj a0 a1 = some r) : zap Tryz.prog 193 [.imm 4 (a0.map TEntry.d) 4, .fn (.func Ka1) ca1] (.int .i64 r) := by
 refine za3 Tryz.tmOk 2 Tryz.func193 rfl (by decide) rfl rfl (lb rfl) ?_
 intro hwf
 unfold zcj at h
 refine .seq (.pl zS [0, 1] ?_)
 obtain ⟨x1, hx1, h⟩ := bind_some h
 refine .seqM 0 (fun (j : Unit) => st96) (fun j => x1 = (.inr j)) (lb rfl) ?_ ?_
 refine .seq (.pl zS [0, 1] ?_)
 refine .block ?_
 refine .loopG 0 (fun (j : Nat) => st97 a0 Ka1 ca1 j) (fun j => j <= a0.length /\ zao a1 (a0.drop j) j  = some x1) (fun j => a0.length - j) (0) (lb rfl) ?_ ⟨Nat.zero_le _, hx1⟩ ?_
 refine Goes.mv [0, 1, 7, 8] [] [] ?_ (lb rfl) (lb rfl) (by first | rfl | (simp only [idsV, idsH, zb4, getL, D.ids, Blk.ids, zc8, Nat.reduceBEq, cond_true, cond_false, List.append_nil, List.nil_append, List.cons_append, zal hca1] <;> rfl))
 first | rfl | simp only [go_sem, Nat.reduceBEq, Nat.reduceAdd, zam hca1] <;> rfl
 rintro n1 ⟨hi1, hx1⟩
 simp only [st97]
 refine .wf 7 (.int .i64 (a0.length : Int)) rfl ?_
 intro hln1
 replace hln1 := wfn hln1
 refine .seq (.pl zS [0, 1, 7, 8] ?_)
 refine .seq (.cd (fun hc1 => ?_) (fun hc1 => ?_))
 have h1 : n1 < a0.length := by simpa using hc1
 have hwn1 := zdg h1 hln1
 have hpn1 := zdh h1 hln1
 rw [List.drop_eq_getElem_cons h1, zao] at hx1
 refine .skip (.seq (.block (.seq (.plx zS hwn1 [0, 1, 7, 8] ?_))))
 refine .seq ?_
 obtain ⟨v1, hv1, hx1⟩ := bind_some hx1
 have e1 := zd3 TEntry.d a0 n1 h1
 refine .rg zS [0, 1, 5, 7, 8] ?_
 refine .rnx 5 (ai e1 hwn1) ?_
 refine .call (r := .bool v1) rfl rfl rfl rfl rfl (za1 rfl (hca1 _)) (ha1 _ v1 hv1) ?_
 refine .nn ?_
 refine .cd (fun hc2 => ?_) (fun hc2 => ?_)
 replace hx1 := za4 hx1 hc2
 refine .seq (.plx zS hwn1 [5] ?_)
 have hq := sj hx1
 subst x1
 try dsimp only at h
 obtain rfl := sj h
 exact .rr
 replace hx1 := za7 hx1 hc2
 refine .skip (.plx zS hwn1 [0, 1, 7, 8] ?_)
 refine ⟨n1 + 1, ?_, ⟨by omega, hx1⟩, by dsimp only; omega⟩
 refine Goes.mv [0, 1, 7, 8] [] [] ?_ (lb rfl) (lb rfl) (by first | rfl | (simp only [idsV, idsH, zb4, getL, D.ids, Blk.ids, zc8, Nat.reduceBEq, cond_true, cond_false, List.append_nil, List.nil_append, List.cons_append, zal hca1] <;> rfl))
 first | rfl | simp only [go_sem, Nat.reduceBEq, Nat.reduceAdd, zam hca1] <;> rfl
 have h2 : n1 = a0.length := by have h2b := of_decide_eq_false hc1; omega
 rw [List.drop_of_length_le (by omega), zao] at hx1
 refine .exit ?_
 refine ⟨_, ?_, (sj hx1).symm⟩
 refine Goes.mv [] [] [] ?_ (lb rfl) (lb rfl) (by first | rfl | (simp only [idsV, idsH, zb4, getL, D.ids, Blk.ids, zc8, Nat.reduceBEq, cond_true, cond_false, List.append_nil, List.nil_append, List.cons_append, zal hca1] <;> rfl))
 first | rfl | simp only [go_sem, Nat.reduceBEq, Nat.reduceAdd, zam hca1] <;> rfl
 rintro ⟨⟩ hj1
 subst x1
 try dsimp only at h
 simp only [st96]
 refine .seq (.pl zS [] ?_)
 obtain rfl := sj h
 exact .rr
theorem zou (a0 : TEntry) (c0 : TTopic) (r : Bool) (h : zh7 a0 c0 = some r) : zap Tryz.prog 194 [.agg [.int .i64 a0.Offset, .int .i64 a0.Id, .str a0.Key, .str a0.Body], .iptr 0 [.int .i64 c0.Base, .int .i64 c0.Next, .int .i64 c0.Mark, .imm 4 (c0.Entries.map TEntry.d) 4]] (.bool r) := by
 refine za3 Tryz.tmOk 3 Tryz.func194 rfl (by decide) rfl rfl (lb rfl) ?_
 intro hwf
 unfold zh7 at h
 refine .seq (.pl zS [0, 1] ?_)
 refine .seq (.pl zS [1, 2] ?_)
 obtain rfl := sj h
 exact .rr
@[go_sem] def st64 (a1 : Int) (v2 : TTopic) (n1 : Int) : St := ⟨[(2, .ptr 0 0), (4, .ptr 1 0), (7, .int .i64 n1)], [(0, .box [.int .i64 (max v2.Base (min a1 v2.Next)), .int .i64 v2.Next, .int .i64 v2.Mark, .imm 4 (v2.Entries.map TEntry.d) 13]), (1, .box [.int .i64 0, .int .i64 0, .int .i64 0, .imm 0 [] 0])], 2⟩
@[go_sem] def st17 (r : TTopic × Int) : St := ⟨[(4, .ptr 1 0), (5, .int .i64 r.2)], [(0, .arr 96 4 true (r.1.Entries.map TEntry.d)), (1, .box [.int .i64 r.1.Base, .int .i64 r.1.Next, .int .i64 r.1.Mark, .ref 0 4 0 r.1.Entries.length (some uC)])], 2⟩
theorem zs0 (a0 : TTopic) (a1 : Int) (r : TTopic × Int) (h : zhp a0 a1 = some r) : zbi Tryz.prog 178 [.agg [.int .i64 a0.Base, .int .i64 a0.Next, .int .i64 a0.Mark, .imm 4 (a0.Entries.map TEntry.d) 4], .int .i64 a1] [] (.tuple [.agg [.int .i64 r.1.Base, .int .i64 r.1.Next, .int .i64 r.1.Mark, .ref 0 4 0 r.1.Entries.length (some uC)], .int .i64 r.2]) [(0, some (.arr 96 4 true (r.1.Entries.map TEntry.d)))] (0, 8) := by
 refine za6 Tryz.tmOk Tryz.func178 rfl (by decide) (lb rfl) (by simp) ?_
 intro hwf
 unfold zhp at h
 refine .ends 0 (Nat.le_refl _) ?_
 refine .seq (.pl zS [0, 1] ?_)
 refine .seq ?_
 obtain ⟨v1, hv1, h⟩ := bind_some h
 refine .seq (.rg zS [1, 2, 4] ?_)
 refine .rn 1 ?_
 refine .cl (zg7 a0 v1 hv1) ?_
 refine .rn 1 ?_
 refine .nn ?_
 refine .seq (.pl zS [1, 2, 4, 6] ?_)
 refine .cd (fun hc1 => ?_) (fun hc1 => ?_)
 replace h := za4 h hc1
 refine .seq (.pl zS [4, 6] ?_)
 obtain rfl := sj h
 refine .ret ⟨st17 ((⟨0, 0, 0, []⟩ : TTopic), v1), ?_, .inr rfl, retH [0] ?_ ?_⟩
 refine Goes.new0 4 96 (lb rfl) ?_
 refine Goes.boxs 1 _ [.int .i64 0, .int .i64 0, .int .i64 0, .ref 2 4 0 0 (some uC)] rfl (.keep (.keep (.keep (.cons (.own0 2 _ _ _ (by decide)) (.refl _))))) ?_
 exact .m [4, 5] [2, 1] [(2, 0)]
 exact rsi0
 rfl
 replace h := za7 h hc1
 refine .skip (.seq (.seq (.pl zS [1, 2, 4] ?_)))
 refine .cd (fun hc2 => ?_) (fun hc2 => ?_)
 replace h := za4 h hc2
 refine .seq (.pl zS [4] ?_)
 obtain rfl := sj h
 refine .ret ⟨st17 ((⟨0, 0, 0, []⟩ : TTopic), 2), ?_, .inr rfl, retH [0] ?_ ?_⟩
 refine Goes.new0 4 96 (lb rfl) ?_
 refine Goes.boxs 1 _ [.int .i64 0, .int .i64 0, .int .i64 0, .ref 2 4 0 0 (some uC)] rfl (.keep (.keep (.keep (.cons (.own0 2 _ _ _ (by decide)) (.refl _))))) ?_
 exact .m [4, 5] [2, 1] [(2, 0)]
 exact rsi0
 rfl
 replace h := za7 h hc2
 refine .skip ?_
 obtain ⟨v2, hv2, h⟩ := bind_some h
 refine .seq (.rg zS [1, 2, 4] ?_)
 refine .rn 1 ?_
 refine .cl (zie a0 v2 hv2) ?_
 refine .rn 1 ?_
 refine .nn ?_
 refine .seq (.rg zS [1, 2, 4] ?_)
 refine .rn 6 ?_
 refine .rn 3 ?_
 refine .nn ?_
 obtain ⟨v3, hv3, h⟩ := bind_some h
 refine .seq (.rg zS [2, 4] ?_)
 refine .rn 3 ?_
 refine .lcall (r := .int .i64 v3) [] rfl rfl rfl rfl rfl (za2 rfl (za2 (zf9 (za2 (zje rfl (za1 rfl (za1 rfl (za1 rfl (za1 rfl zdu))))) za8)) za8)) rfl (zha (WkL.cons Wk.iz (WkL.cons (Wk.refl _) (WkL.refl _))) (zh0 v2.Entries 194 [.iptr 0 [.int .i64 ((⟨(max v2.Base (min a1 v2.Next)), v2.Next, v2.Mark, v2.Entries⟩ : TTopic).Base), .int .i64 ((⟨(max v2.Base (min a1 v2.Next)), v2.Next, v2.Mark, v2.Entries⟩ : TTopic).Next), .int .i64 ((⟨(max v2.Base (min a1 v2.Next)), v2.Next, v2.Mark, v2.Entries⟩ : TTopic).Mark), .imm 4 (((⟨(max v2.Base (min a1 v2.Next)), v2.Next, v2.Mark, v2.Entries⟩ : TTopic).Entries).map TEntry.d) 4]] (fun _ => rfl) (fun _ => rfl) (fun _ => rfl) (fun x0 => zh7 x0 (⟨(max v2.Base (min a1 v2.Next)), v2.Next, v2.Mark, v2.Entries⟩ : TTopic)) (fun x0 y hy => zou x0 (⟨(max v2.Base (min a1 v2.Next)), v2.Next, v2.Mark, v2.Entries⟩ : TTopic) y hy) v3 hv3)) ?_
 refine .rn 1 ?_
 refine .nn ?_
 obtain ⟨x1, hx1, h⟩ := bind_some h
 refine .seqM 2 (fun (j : Int) => st64 a1 v2 j) (fun j => x1 = j) (lb rfl) ?_ ?_
 refine .seq (.pl zS [2, 4, 7] ?_)
 refine .cd (fun hc3 => ?_) (fun hc3 => ?_)
 replace hx1 := za4 hx1 hc3
 refine .pl zS [2, 4] ?_
 refine ⟨_, ?_, (sj hx1).symm⟩
 exact .m [2, 4, 7] [0, 1] []
 replace hx1 := za7 hx1 hc3
 refine .skip ?_
 refine ⟨_, ?_, (sj hx1).symm⟩
 exact .m [2, 4, 7] [0, 1] []
 rintro n1 hj1
 subst x1
 try dsimp only at h
 simp only [st64]
 obtain ⟨k1, h⟩ := zat h
 obtain ⟨v4, hv4, h⟩ := bind_some h
 refine .seq (.rg zS [2, 4, 7] ?_)
 refine .rn 4 ?_
 refine .ncall (r := .ref 3 4 0 v4.length (some uC)) (eff := [(3, some (.arr 96 4 true (v4.map TEntry.d)))]) (nw := (3, 6)) [] rfl rfl rfl rfl rfl (za2 rfl za8) rfl (zd8 3 (lb rfl) (zf2 (v2.Entries.drop n1.toNat) v4 hv4)) (zbl rfl rfl (zdk zhn _ _ _) zdo) (by intro i hi; simp [D.ids, D.idsL] at hi <;> omega) rfl ⟨lb rfl, lb rfl⟩ ?_
 refine .rn 2 ?_
 refine .nn ?_
 refine .seq (.pl zS [2, 4] ?_)
 obtain rfl := sj h
 refine .ret ⟨st17 ((⟨(max v2.Base (min a1 v2.Next)), v2.Next, v2.Mark, v4⟩ : TTopic), 0), ?_, .inr rfl, retH [0] ?_ ?_⟩
 exact .m [4, 5] [3, 1] [(3, 0)]
 exact rsi0
 rfl
theorem zrv (a0 : TTopic) (a1 : Int) (r : TTopic × Int) (h : zhp a0 a1 = some r) : zap Tryz.prog 178 [.agg [.int .i64 a0.Base, .int .i64 a0.Next, .int .i64 a0.Mark, .imm 4 (a0.Entries.map TEntry.d) 4], .int .i64 a1] (.tuple [.agg [.int .i64 r.1.Base, .int .i64 r.1.Next, .int .i64 r.1.Mark, .imm 4 (r.1.Entries.map TEntry.d) 13], .int .i64 r.2]) :=
 zdf (zlm (za0 (zgt (za0 rfl (za0 rfl (za0 rfl (za0 (zbs zhn rfl rfl) zbr))))) (za0 rfl zbr))) (zs0 a0 a1 r h)
@[go_sem] def ya5i (l1 : List TEntry) (n1 : Int) (n2 : Int) : St := ⟨[(0, .ref 20000 4 0 l1.length (some uC)), (2, .int .i64 n1), (3, .int .i64 n2)], [(20000, .arr 96 4 true (l1.map TEntry.d))], 20100⟩
@[go_sem] def st32 (r : (List TEntry)) : St := ⟨[(0, .ref 20000 4 0 r.length (some uC))], [(20000, .arr 96 4 true (r.map TEntry.d))], 20100⟩
theorem zhi (a0 : List TEntry) (r : (List TEntry)) (h : zbj a0 = some r) : zbi Tryz.prog 196 [.ref 20000 4 0 a0.length (some uC)] [(20000, .arr 96 4 true (a0.map TEntry.d))] (.tuple []) [(20000, some (.arr 96 4 true (r.map TEntry.d)))] (20100, 20102) := by
 refine za6 Tryz.tmOk Tryz.func196 rfl (by decide) (lb rfl) (by simp) ?_
 intro hwf
 unfold zbj at h
 refine .ends 20100 (Nat.le_refl _) ?_
 refine .seq (.pl zS [0] ?_)
 refine .block ?_
 refine .loopG 20100 (fun (j : Nat × (List TEntry) × Int × Int) => ya5i j.2.1 j.2.2.1 j.2.2.2) (fun j => zac j.1 j.2.1 j.2.2.1 j.2.2.2 = some r) (fun j => j.1) (a0.length + 1, a0, 0, (wr .i64 ((a0.length : Int) - 1))) (lb rfl) ?_ h ?_
 exact .m [0, 2, 3] [20000] []
 rintro ⟨fu1, l1, n1, n2⟩ h
 simp only [ya5i]
 try simp only at h
 obtain ⟨fu1, rfl⟩ : ∃ k, fu1 = k + 1 := by cases fu1 with | zero => (rw [zac] at h; cases h) | succ k => exact ⟨k, rfl⟩
 rw [zac] at h
 refine .seq (.seq (.pl zS [0, 2, 3] ?_))
 refine .cd (fun hc1 => ?_) (fun hc1 => ?_)
 replace h := za4 h hc1
 refine .skip (.seq (.block ?_))
 obtain ⟨k1, h⟩ := zat h
 obtain ⟨k2, h⟩ := zat h
 obtain ⟨k3, h⟩ := zat h
 have e1 := zbq TEntry.d l1 n2
 have e2 := zbq TEntry.d l1 n1
 have e3 := zbq TEntry.d l1 n1
 have es1 := zhw TEntry.d l1 n1.toNat (l1.getD n2.toNat default)
 have e4 := zbq TEntry.d (l1.set n1.toNat (l1.getD n2.toNat default)) n2
 have es2 := zhw TEntry.d (l1.set n1.toNat (l1.getD n2.toNat default)) n2.toNat (l1.getD n1.toNat default)
 replace e1 := e1 k1
 replace e2 := e2 k2
 replace e3 := e3 k2
 replace es1 : setN (l1.map TEntry.d) n1.toNat (.agg [.int .i64 ((l1.getD n2.toNat default).Offset), .int .i64 ((l1.getD n2.toNat default).Id), .str ((l1.getD n2.toNat default).Key), .str ((l1.getD n2.toNat default).Body)]) = (l1.set n1.toNat (l1.getD n2.toNat default)).map TEntry.d := es1
 replace e4 := e4 k3
 replace es2 : setN ((l1.set n1.toNat (l1.getD n2.toNat default)).map TEntry.d) n2.toNat (.agg [.int .i64 ((l1.getD n1.toNat default).Offset), .int .i64 ((l1.getD n1.toNat default).Id), .str ((l1.getD n1.toNat default).Key), .str ((l1.getD n1.toNat default).Body)]) = ((l1.set n1.toNat (l1.getD n2.toNat default)).set n2.toNat (l1.getD n1.toNat default)).map TEntry.d := es2
 refine .rg zS [0, 2, 3] ?_
 refine .rdx 6 (ai e1 (ai e2 (ai e3 (ai es1 (ai e4 es2))))) ?_
 refine .rdx 6 (ai e1 (ai e2 (ai e3 (ai es1 (ai e4 es2))))) ?_
 refine .rdx 4 (ai e1 (ai e2 (ai e3 (ai es1 (ai e4 es2))))) ?_
 refine .nd ?_
 refine .pl zS [0, 2, 3] ?_
 refine ⟨(fu1, _, _, _), ?_, h, by dsimp only; omega⟩
 exact .m [0, 2, 3] [20000] []
 replace h := za7 h hc1
 refine .exit ?_
 obtain rfl := sj h
 refine ⟨st32 l1, ?_, .inl rfl, retH [20000] ?_ ?_⟩
 exact .m [0] [20000] []
 exact rsi0
 rfl
@[go_sem] def ya5w : St := ⟨[], [], 0⟩
@[go_sem] def ya5v (a0 : List Int) (Ka1 : Nat) (ca1 : List D) (n1 : Nat) : St := ⟨[(0, .imm 1 (a0.map (D.int .i64)) 4), (1, .fn (.func Ka1) ca1), (7, .int .i64 (a0.length : Int)), (8, .int .i64 (n1 : Int))], [], 0⟩
theorem zi5 (a0 : List Int) (Ka1 : Nat) (ca1 : List D) (hca1 : ∀ hp, zcz hp ca1 = (ca1, true)) (h2a1 : ∀ hp, zcp hp ca1 = (ca1, true)) (h3a1 : ∀ hp, zfa hp ca1 = []) (a1 : Int -> Option Bool) (ha1 : ∀ x0 y, a1 x0 = some y -> zap Tryz.prog Ka1 (.int .i64 x0 :: ca1) (.bool y)) (r : Int) (h : zda a0 a1 = some r) : zap Tryz.prog 101 [.imm 1 (a0.map (D.int .i64)) 4, .fn (.func Ka1) ca1] (.int .i64 r) := by
 refine za3 Tryz.tmOk 2 Tryz.func101 rfl (by decide) rfl rfl (lb rfl) ?_
 intro hwf
 unfold zda at h
 refine .seq (.pl zS [0, 1] ?_)
 obtain ⟨x1, hx1, h⟩ := bind_some h
 refine .seqM 0 (fun (j : Unit) => ya5w) (fun j => x1 = (.inr j)) (lb rfl) ?_ ?_
 refine .seq (.pl zS [0, 1] ?_)
 refine .block ?_
 refine .loopG 0 (fun (j : Nat) => ya5v a0 Ka1 ca1 j) (fun j => j <= a0.length /\ zax a1 (a0.drop j) j  = some x1) (fun j => a0.length - j) (0) (lb rfl) ?_ ⟨Nat.zero_le _, hx1⟩ ?_
 refine Goes.mv [0, 1, 7, 8] [] [] ?_ (lb rfl) (lb rfl) (by first | rfl | (simp only [idsV, idsH, zb4, getL, D.ids, Blk.ids, zc8, Nat.reduceBEq, cond_true, cond_false, List.append_nil, List.nil_append, List.cons_append, zal hca1] <;> rfl))
 first | rfl | simp only [go_sem, Nat.reduceBEq, Nat.reduceAdd, zam hca1] <;> rfl
 rintro n1 ⟨hi1, hx1⟩
 simp only [ya5v]
 refine .wf 7 (.int .i64 (a0.length : Int)) rfl ?_
 intro hln1
 replace hln1 := wfn hln1
 refine .seq (.pl zS [0, 1, 7, 8] ?_)
 refine .seq (.cd (fun hc1 => ?_) (fun hc1 => ?_))
 have h1 : n1 < a0.length := by simpa using hc1
 have hwn1 := zdg h1 hln1
 have hpn1 := zdh h1 hln1
 rw [List.drop_eq_getElem_cons h1, zax] at hx1
 refine .skip (.seq (.block (.seq (.plx zS hwn1 [0, 1, 7, 8] ?_))))
 refine .seq ?_
 obtain ⟨v1, hv1, hx1⟩ := bind_some hx1
 have e1 := zd3 (D.int .i64) a0 n1 h1
 refine .rg zS [0, 1, 5, 7, 8] ?_
 refine .rnx 5 (ai e1 hwn1) ?_
 refine .call (r := .bool v1) rfl rfl rfl rfl rfl (za1 rfl (hca1 _)) (ha1 _ v1 hv1) ?_
 refine .nn ?_
 refine .cd (fun hc2 => ?_) (fun hc2 => ?_)
 replace hx1 := za4 hx1 hc2
 refine .seq (.plx zS hwn1 [5] ?_)
 have hq := sj hx1
 subst x1
 try dsimp only at h
 obtain rfl := sj h
 exact .rr
 replace hx1 := za7 hx1 hc2
 refine .skip (.plx zS hwn1 [0, 1, 7, 8] ?_)
 refine ⟨n1 + 1, ?_, ⟨by omega, hx1⟩, by dsimp only; omega⟩
 refine Goes.mv [0, 1, 7, 8] [] [] ?_ (lb rfl) (lb rfl) (by first | rfl | (simp only [idsV, idsH, zb4, getL, D.ids, Blk.ids, zc8, Nat.reduceBEq, cond_true, cond_false, List.append_nil, List.nil_append, List.cons_append, zal hca1] <;> rfl))
 first | rfl | simp only [go_sem, Nat.reduceBEq, Nat.reduceAdd, zam hca1] <;> rfl
 have h2 : n1 = a0.length := by have h2b := of_decide_eq_false hc1; omega
 rw [List.drop_of_length_le (by omega), zax] at hx1
 refine .exit ?_
 refine ⟨_, ?_, (sj hx1).symm⟩
 refine Goes.mv [] [] [] ?_ (lb rfl) (lb rfl) (by first | rfl | (simp only [idsV, idsH, zb4, getL, D.ids, Blk.ids, zc8, Nat.reduceBEq, cond_true, cond_false, List.append_nil, List.nil_append, List.cons_append, zal hca1] <;> rfl))
 first | rfl | simp only [go_sem, Nat.reduceBEq, Nat.reduceAdd, zam hca1] <;> rfl
 rintro ⟨⟩ hj1
 subst x1
 try dsimp only at h
 simp only [ya5w]
 refine .seq (.pl zS [] ?_)
 obtain rfl := sj h
 exact .rr
theorem zeh (a0 : List Int) (Ka1 : Nat) (ca1 : List D) (hca1 : ∀ hp, zcz hp ca1 = (ca1, true)) (h2a1 : ∀ hp, zcp hp ca1 = (ca1, true)) (h3a1 : ∀ hp, zfa hp ca1 = []) (a1 : Int -> Option Bool) (ha1 : ∀ x0 y, a1 x0 = some y -> zap Tryz.prog Ka1 (.int .i64 x0 :: ca1) (.bool y)) (r : Bool) (h : zbf a0 a1 = some r) : zap Tryz.prog 46 [.imm 1 (a0.map (D.int .i64)) 4, .fn (.func Ka1) ca1] (.bool r) := by
 refine za3 Tryz.tmOk 2 Tryz.func46 rfl (by decide) rfl rfl (lb rfl) ?_
 intro hwf
 unfold zbf at h
 refine .seq (.pl zS [0, 1] ?_)
 obtain ⟨v1, hv1, h⟩ := bind_some h
 refine .seq (.rg zS [0, 1] ?_)
 refine .rn 2 ?_
 refine .lcall (r := .int .i64 v1) [] rfl rfl rfl rfl rfl (za2 rfl (za2 (zf9 (h2a1 _)) za8)) (by show zfa _ [.imm 1 (a0.map (D.int .i64)) 4, .fn (.func Ka1) ca1] = _; simp only [zfa, ids2, List.append_nil, List.nil_append, List.cons_append, h3a1]) (zi5 a0 Ka1 ca1 hca1 h2a1 h3a1 a1 ha1 v1 hv1) ?_
 refine .rn 2 ?_
 refine .nn ?_
 obtain rfl := sj h
 exact .rr
@[go_sem] def ya5q (n1 : Int) : St := ⟨[(3, .int .i64 n1)], [], 0⟩
@[go_sem] def ya5p (a0 : List Int) (n2 : Int) (n3 : Int) : St := ⟨[(0, .imm 1 (a0.map (D.int .i64)) 4), (3, .int .i64 n2), (4, .int .i64 n3)], [], 0⟩
theorem zkb (a0 : List Int) (r : Int) (h : zds a0 = some r) : zap Tryz.prog 100 [.imm 1 (a0.map (D.int .i64)) 4] (.int .i64 r) := by
 refine za3 Tryz.tmOk 2 Tryz.func100 rfl (by decide) rfl rfl (lb rfl) ?_
 intro hwf
 unfold zds at h
 refine .seq (.pl zS [0] ?_)
 refine .seq (.seq (.pl zS [0] ?_))
 refine .cd (fun hc1 => ?_) (fun hc1 => ?_)
 replace h := za4 h hc1
 cases h
 replace h := za7 h hc1
 refine .skip (.seq ?_)
 obtain ⟨k1, h⟩ := zat h
 have e1 := zea (D.int .i64) a0 0 k1
 refine .plx zS e1 [0] ?_
 obtain ⟨x1, hx1, h⟩ := bind_some h
 refine .seqM 0 (fun (j : Int) => ya5q j) (fun j => x1 = j) (lb rfl) ?_ ?_
 refine .seq (.pl zS [0, 3] ?_)
 refine .block ?_
 refine .loopG 0 (fun (j : Nat × Int × Int) => ya5p a0 j.2.1 j.2.2) (fun j => zb8 a0 j.1 j.2.1 j.2.2 = some x1) (fun j => j.1) (a0.length + 1, (a0.getD 0 default), 1) (lb rfl) ?_ hx1 ?_
 exact .m [0, 3, 4] [] []
 rintro ⟨fu1, n2, n3⟩ hx1
 simp only [ya5p]
 try simp only at hx1
 obtain ⟨fu1, rfl⟩ : ∃ k, fu1 = k + 1 := by cases fu1 with | zero => (rw [zb8] at hx1; cases hx1) | succ k => exact ⟨k, rfl⟩
 rw [zb8] at hx1
 refine .seq (.seq (.pl zS [0, 3, 4] ?_))
 refine .cd (fun hc2 => ?_) (fun hc2 => ?_)
 replace hx1 := za4 hx1 hc2
 refine .skip (.seq (.block ?_))
 obtain ⟨k2, hx1⟩ := zat hx1
 have e2 := zbq (D.int .i64) a0 n3
 replace e2 := e2 k2
 refine .plx zS e2 [0, 3, 4] ?_
 refine .pl zS [0, 3, 4] ?_
 refine ⟨(fu1, _, _), ?_, hx1, by dsimp only; omega⟩
 exact .m [0, 3, 4] [] []
 replace hx1 := za7 hx1 hc2
 refine .exit ?_
 refine ⟨_, ?_, (sj hx1).symm⟩
 exact .m [3] [] []
 rintro n1 hj1
 subst x1
 try dsimp only at h
 simp only [ya5q]
 refine .seq (.pl zS [3] ?_)
 obtain rfl := sj h
 exact .rr
@[go_sem] def ya5u : St := ⟨[], [], 0⟩
@[go_sem] def ya5t (a0 : List (List Int)) (Ka1 : Nat) (ca1 : List D) (n1 : Nat) : St := ⟨[(0, .imm 1 (a0.map dL_inti64) 4), (1, .fn (.func Ka1) ca1), (7, .int .i64 (a0.length : Int)), (8, .int .i64 (n1 : Int))], [], 0⟩
theorem zhh (a0 : List (List Int)) (Ka1 : Nat) (ca1 : List D) (hca1 : ∀ hp, zcz hp ca1 = (ca1, true)) (h2a1 : ∀ hp, zcp hp ca1 = (ca1, true)) (h3a1 : ∀ hp, zfa hp ca1 = []) (a1 : (List Int) -> Option Bool) (ha1 : ∀ x0 y, a1 x0 = some y -> zap Tryz.prog Ka1 (.imm 1 (x0.map (D.int .i64)) 4 :: ca1) (.bool y)) (r : Int) (h : zcy a0 a1 = some r) : zap Tryz.prog 176 [.imm 1 (a0.map dL_inti64) 4, .fn (.func Ka1) ca1] (.int .i64 r) := by
 refine za3 Tryz.tmOk 2 Tryz.func176 rfl (by decide) rfl rfl (lb rfl) ?_
 intro hwf
 unfold zcy at h
 refine .seq (.pl zS [0, 1] ?_)
 obtain ⟨x1, hx1, h⟩ := bind_some h
 refine .seqM 0 (fun (j : Unit) => ya5u) (fun j => x1 = (.inr j)) (lb rfl) ?_ ?_
 refine .seq (.pl zS [0, 1] ?_)
 refine .block ?_
 refine .loopG 0 (fun (j : Nat) => ya5t a0 Ka1 ca1 j) (fun j => j <= a0.length /\ zav a1 (a0.drop j) j  = some x1) (fun j => a0.length - j) (0) (lb rfl) ?_ ⟨Nat.zero_le _, hx1⟩ ?_
 refine Goes.mv [0, 1, 7, 8] [] [] ?_ (lb rfl) (lb rfl) (by first | rfl | (simp only [idsV, idsH, zb4, getL, D.ids, Blk.ids, zc8, Nat.reduceBEq, cond_true, cond_false, List.append_nil, List.nil_append, List.cons_append, zal hca1] <;> rfl))
 first | rfl | simp only [go_sem, Nat.reduceBEq, Nat.reduceAdd, zam hca1] <;> rfl
 rintro n1 ⟨hi1, hx1⟩
 simp only [ya5t]
 refine .wf 7 (.int .i64 (a0.length : Int)) rfl ?_
 intro hln1
 replace hln1 := wfn hln1
 refine .seq (.pl zS [0, 1, 7, 8] ?_)
 refine .seq (.cd (fun hc1 => ?_) (fun hc1 => ?_))
 have h1 : n1 < a0.length := by simpa using hc1
 have hwn1 := zdg h1 hln1
 have hpn1 := zdh h1 hln1
 rw [List.drop_eq_getElem_cons h1, zav] at hx1
 refine .skip (.seq (.block (.seq (.plx zS hwn1 [0, 1, 7, 8] ?_))))
 refine .seq ?_
 obtain ⟨v1, hv1, hx1⟩ := bind_some hx1
 have e1 := zd3 dL_inti64 a0 n1 h1
 refine .rg zS [0, 1, 5, 7, 8] ?_
 refine .rnx 5 (ai e1 hwn1) ?_
 refine .call (r := .bool v1) rfl rfl rfl rfl rfl (za1 rfl (hca1 _)) (ha1 _ v1 hv1) ?_
 refine .nn ?_
 refine .cd (fun hc2 => ?_) (fun hc2 => ?_)
 replace hx1 := za4 hx1 hc2
 refine .seq (.plx zS hwn1 [5] ?_)
 have hq := sj hx1
 subst x1
 try dsimp only at h
 obtain rfl := sj h
 exact .rr
 replace hx1 := za7 hx1 hc2
 refine .skip (.plx zS hwn1 [0, 1, 7, 8] ?_)
 refine ⟨n1 + 1, ?_, ⟨by omega, hx1⟩, by dsimp only; omega⟩
 refine Goes.mv [0, 1, 7, 8] [] [] ?_ (lb rfl) (lb rfl) (by first | rfl | (simp only [idsV, idsH, zb4, getL, D.ids, Blk.ids, zc8, Nat.reduceBEq, cond_true, cond_false, List.append_nil, List.nil_append, List.cons_append, zal hca1] <;> rfl))
 first | rfl | simp only [go_sem, Nat.reduceBEq, Nat.reduceAdd, zam hca1] <;> rfl
 have h2 : n1 = a0.length := by have h2b := of_decide_eq_false hc1; omega
 rw [List.drop_of_length_le (by omega), zav] at hx1
 refine .exit ?_
 refine ⟨_, ?_, (sj hx1).symm⟩
 refine Goes.mv [] [] [] ?_ (lb rfl) (lb rfl) (by first | rfl | (simp only [idsV, idsH, zb4, getL, D.ids, Blk.ids, zc8, Nat.reduceBEq, cond_true, cond_false, List.append_nil, List.nil_append, List.cons_append, zal hca1] <;> rfl))
 first | rfl | simp only [go_sem, Nat.reduceBEq, Nat.reduceAdd, zam hca1] <;> rfl
 rintro ⟨⟩ hj1
 subst x1
 try dsimp only at h
 simp only [ya5u]
 refine .seq (.pl zS [] ?_)
 obtain rfl := sj h
 exact .rr
theorem zgu (a0 : List (List Int)) (Ka1 : Nat) (ca1 : List D) (hca1 : ∀ hp, zcz hp ca1 = (ca1, true)) (h2a1 : ∀ hp, zcp hp ca1 = (ca1, true)) (h3a1 : ∀ hp, zfa hp ca1 = []) (a1 : (List Int) -> Option Bool) (ha1 : ∀ x0 y, a1 x0 = some y -> zap Tryz.prog Ka1 (.imm 1 (x0.map (D.int .i64)) 4 :: ca1) (.bool y)) (r : Bool) (h : zbp a0 a1 = some r) : zap Tryz.prog 150 [.imm 1 (a0.map dL_inti64) 4, .fn (.func Ka1) ca1] (.bool r) := by
 refine za3 Tryz.tmOk 2 Tryz.func150 rfl (by decide) rfl rfl (lb rfl) ?_
 intro hwf
 unfold zbp at h
 refine .seq (.pl zS [0, 1] ?_)
 obtain ⟨v1, hv1, h⟩ := bind_some h
 refine .seq (.rg zS [0, 1] ?_)
 refine .rn 2 ?_
 refine .lcall (r := .int .i64 v1) [] rfl rfl rfl rfl rfl (za2 rfl (za2 (zf9 (h2a1 _)) za8)) (by show zfa _ [.imm 1 (a0.map dL_inti64) 4, .fn (.func Ka1) ca1] = _; simp only [zfa, ids2, List.append_nil, List.nil_append, List.cons_append, h3a1]) (zhh a0 Ka1 ca1 hca1 h2a1 h3a1 a1 ha1 v1 hv1) ?_
 refine .rn 2 ?_
 refine .nn ?_
 obtain rfl := sj h
 exact .rr
theorem zlt (a0 : Int) (r : Bool) (h : zeu a0 = some r) : zap Tryz.prog 149 [.int .i64 a0] (.bool r) := by
 refine za3 Tryz.tmOk 2 Tryz.func149 rfl (by decide) rfl rfl (lb rfl) ?_
 intro hwf
 unfold zeu at h
 refine .seq (.pl zS [0] ?_)
 refine .seq (.pl zS [0] ?_)
 obtain rfl := sj h
 exact .rr
theorem zls (a0 : List Int) (r : Bool) (h : zdz a0 = some r) : zap Tryz.prog 151 [.imm 1 (a0.map (D.int .i64)) 4, .iptr 0 [.fn (.func 149) []]] (.bool r) := by
 refine za3 Tryz.tmOk 2 Tryz.func151 rfl (by decide) rfl rfl (lb rfl) ?_
 intro hwf
 unfold zdz at h
 refine .seq (.pl zS [0, 1] ?_)
 obtain ⟨v1, hv1, h⟩ := bind_some h
 refine .seq (.rg zS [0, 1] ?_)
 refine .rn 6 ?_
 refine .glcall (r := .bool v1) [] rfl rfl rfl rfl rfl (fun hg => ⟨[], [.imm 1 (a0.map (D.int .i64)) 4, .fn (.func 149) []], _, rfl, gd hg, (za2 rfl (za2 (zf9 za8) za8)), rfl, (zeh a0 149 [] (fun _ => rfl) (fun _ => rfl) (fun _ => rfl) zeu (fun x0 y hy => zlt x0 y hy) v1 (za4 hv1 hg))⟩) ?_
 refine .rn 2 ?_
 refine .nn ?_
 obtain rfl := sj h
 exact .rr
theorem zjf (a0 : List (List Int)) (r : Int) (h : zev a0 = some r) : zap Tryz.prog 99 [.imm 1 (a0.map dL_inti64) 4] (.int .i64 r) := by
 refine za3 Tryz.tmOk 3 Tryz.func99 rfl (by decide) rfl rfl (lb rfl) ?_
 intro hwf
 unfold zev at h
 refine .seq (.pl zS [0] ?_)
 refine .seq (.pl zS [0] ?_)
 refine .seq ?_
 obtain ⟨v1, hv1, h⟩ := bind_some h
 refine .seq (.rg zS [0, 3] ?_)
 refine .rn 6 ?_
 refine .glcall (r := .bool v1) [] rfl rfl rfl rfl rfl (fun hg => ⟨[], [.imm 1 (a0.map dL_inti64) 4, .fn (.func 151) [.ptr 0 0]], _, rfl, gd hg, (za2 rfl (za2 (zf9 (za2 (zje rfl (za1 rfl zdu)) za8)) za8)), rfl, (zgu a0 151 [.iptr 0 [.fn (.func 149) []]] (fun _ => rfl) (fun _ => rfl) (fun _ => rfl) zdz (fun x0 y hy => zls x0 y hy) v1 (za4 hv1 hg))⟩) ?_
 refine .rn 1 ?_
 refine .nn ?_
 refine .cd (fun hc1 => ?_) (fun hc1 => ?_)
 replace h := za4 h hc1
 refine .seq (.pl zS [] ?_)
 obtain rfl := sj h
 exact .rr
 replace h := za7 h hc1
 refine .skip (.seq (.pl zS [] ?_))
 obtain rfl := sj h
 exact .rr
theorem zmx (a0 : List (List Int)) (a1 : Int) (a2 : Int) (r : Int) (h : zg1 a0 a1 a2 = some r) : zap Tryz.prog 208 [.imm 1 (a0.map dL_inti64) 4, .int .i64 a1, .int .i64 a2] (.int .i64 r) := by
 refine za3 Tryz.tmOk 2 Tryz.func208 rfl (by decide) rfl rfl (lb rfl) ?_
 intro hwf
 unfold zg1 at h
 refine .seq (.pl zS [0, 1, 2] ?_)
 refine .seq ?_
 obtain ⟨v1, hv1, h⟩ := bind_some h
 refine .seq (.rg zS [0, 1, 2] ?_)
 refine .rn 1 ?_
 refine .cl (zjf a0 v1 hv1) ?_
 refine .rn 1 ?_
 refine .nn ?_
 refine .seq (.pl zS [1, 2, 7] ?_)
 refine .cd (fun hc1 => ?_) (fun hc1 => ?_)
 replace h := za4 h hc1
 refine .seq (.pl zS [7] ?_)
 obtain rfl := sj h
 exact .rr
 replace h := za7 h hc1
 refine .skip (.seq (.seq (.rg zS [1, 2] ?_)))
 refine .rn 6 ?_
 refine .rn 8 ?_
 refine .nn ?_
 refine .cd (fun hc2 => ?_) (fun hc2 => ?_)
 replace h := za4 h hc2
 refine .seq (.pl zS [] ?_)
 obtain rfl := sj h
 exact .rr
 replace h := za7 h hc2
 refine .skip (.seq (.pl zS [] ?_))
 obtain rfl := sj h
 exact .rr
attribute [local go_sem] Nat.min_self List.drop_replicate Nat.sub_self List.replicate_zero List.take_zero
@[go_sem] def st56 (l1 : List (List Int)) : St := ⟨[(3, .ref 0 1 0 l1.length (some uC))], [(0, .arr 30 1 true (l1.map zbb))], 1⟩
@[go_sem] def st57 (a0 : List (List Int)) (n1 : Nat) (l2 : List (List Int)) : St := ⟨[(3, .ref 0 1 0 l2.length (some uC)), (7, .imm 1 (a0.map dL_inti64) 4), (8, .int .i64 (a0.length : Int)), (9, .int .i64 (n1 : Int))], [(0, .arr 30 1 true (l2.map zbb))], 1⟩
@[go_sem] def st8 (r : (List (List Int))) : St := ⟨[(2, .ref 0 1 0 r.length (some uC))], [(0, .arr 30 1 true (r.map zbb))], 1⟩
theorem zo2 (a0 : List (List Int)) (r : (List (List Int))) (h : zd0 a0 = some r) : zbi Tryz.prog 85 [.imm 1 (a0.map dL_inti64) 4] [] (.ref 0 1 0 r.length (some uC)) [(0, some (.arr 30 1 true (r.map zbb)))] (0, 6) := by
 refine za6 Tryz.tmOk Tryz.func85 rfl (by decide) (lb rfl) (by simp) ?_
 intro hwf
 unfold zd0 at h
 refine .ends 0 (Nat.le_refl _) ?_
 refine .seq (.pl zS [0] ?_)
 refine .seq (.pl zS [0] ?_)
 obtain ⟨x1, hx1, h⟩ := bind_some h
 refine .seqM 0 (fun (j : (List (List Int))) => st56 j) (fun j => x1 = j) (lb rfl) ?_ ?_
 refine .seq (.pl zS [0, 3] ?_)
 refine .block ?_
 refine .loopG 0 (fun (j : Nat × (List (List Int))) => st57 a0 j.1 j.2) (fun j => j.1 <= a0.length /\ zbo (a0.drop j.1) j.2 = some x1) (fun j => a0.length - j.1) (0, []) (lb rfl) ?_ ⟨Nat.zero_le _, hx1⟩ ?_
 refine Goes.new0 1 30 (lb rfl) ?_
 refine Goes.wk 3 _ (.ref 0 1 0 0 (some uC)) rfl (.own0 0 _ _ _ (by decide)) ?_
 exact .m [3, 7, 8, 9] [0] []
 rintro ⟨n1, l2⟩ ⟨hi1, hx1⟩
 simp only [st57]
 simp only at hi1 hx1
 refine .wf 8 (.int .i64 (a0.length : Int)) rfl ?_
 intro hln1
 replace hln1 := wfn hln1
 refine .seq (.pl zS [3, 7, 8, 9] ?_)
 refine .seq (.cd (fun hc1 => ?_) (fun hc1 => ?_))
 have h1 : n1 < a0.length := by simpa using hc1
 have hwn1 := zdg h1 hln1
 have hpn1 := zdh h1 hln1
 rw [List.drop_eq_getElem_cons h1, ze6] at hx1
 refine .skip (.seq (.block (.seq ?_)))
 have e1 := zd3 dL_inti64 a0 n1 h1
 refine .plx zS (ai e1 hwn1) [3, 7, 8, 9] ?_
 refine .seq ?_
 obtain ⟨k1, hx1⟩ := zat hx1
 refine .plx zS hwn1 [3, 5, 7, 8, 9] ?_
 refine .seq (.plx zS hwn1 [3, 5, 6, 7, 8, 9] ?_)
 refine .goes (.give 6 (.ref 1 1 0 ((a0[n1]).length) (some ((a0[n1]).length))) (.imm 1 ((a0[n1]).map (D.int .i64)) 13) [0] rfl (zbs zc1 rfl rfl) (by simp only [go_sem, D.ids, D.idsL, List.append_nil, List.nil_append, List.cons_append, List.mem_cons, List.not_mem_nil, or_false, forall_eq_or_imp, forall_eq, Nat.reduceBEq] <;> simp) .refl) ?_
 obtain ⟨k2, hx1⟩ := zat hx1
 refine .plx zS hwn1 [3, 6, 7, 8, 9] ?_
 refine .plx zS hwn1 [3, 7, 8, 9] ?_
 refine ⟨(n1 + 1, _), ?_, ⟨by omega, hx1⟩, by dsimp only; omega⟩
 exact .m [3, 7, 8, 9] [3] [(3, 0)]
 have h2 : n1 = a0.length := by have h2b := of_decide_eq_false hc1; omega
 rw [List.drop_of_length_le (by omega), ze5] at hx1
 refine .exit ?_
 refine ⟨_, ?_, (sj hx1).symm⟩
 exact .m [3] [0] []
 rintro l1 hj1
 subst x1
 try dsimp only at h
 simp only [st56]
 refine .seq (.pl zS [3] ?_)
 obtain rfl := sj h
 refine .ret ⟨st8 l1, ?_, .inr rfl, retH [0] ?_ ?_⟩
 exact .m [2] [0] []
 exact rsi0
 rfl
theorem zme (a0 : List Int) (a1 : List Int) (r : Bool) (h : ze8 a0 a1 = some r) : zap Tryz.prog 154 [.imm 1 (a0.map (D.int .i64)) 4, .imm 1 (a1.map (D.int .i64)) 4] (.bool r) := by
 refine za3 Tryz.tmOk 2 Tryz.func154 rfl (by decide) rfl rfl (lb rfl) ?_
 intro hwf
 unfold ze8 at h
 refine .seq (.pl zS [0, 1] ?_)
 obtain ⟨v1, hv1, h⟩ := bind_some h
 refine .seq (.rg zS [0, 1] ?_)
 refine .rn 2 ?_
 refine .cl (zde a0 a1 v1 hv1) ?_
 refine .rn 1 ?_
 refine .nn ?_
 obtain rfl := sj h
 exact .rr
@[go_sem] def st88 : St := ⟨[], [], 0⟩
@[go_sem] def st89 (a0 : List (List Int)) (a1 : List (List Int)) (Ka2 : Nat) (ca2 : List D) (n1 : Nat) : St := ⟨[(1, .imm 1 (a1.map dL_inti64) 4), (2, .fn (.func Ka2) ca2), (15, .imm 1 (a0.map dL_inti64) 4), (16, .int .i64 (a0.length : Int)), (17, .int .i64 (n1 : Int))], [], 0⟩
theorem zg8 (a0 : List (List Int)) (a1 : List (List Int)) (Ka2 : Nat) (ca2 : List D) (hca2 : ∀ hp, zcz hp ca2 = (ca2, true)) (h2a2 : ∀ hp, zcp hp ca2 = (ca2, true)) (h3a2 : ∀ hp, zfa hp ca2 = []) (a2 : (List Int) -> (List Int) -> Option Bool) (ha2 : ∀ x0 x1 y, a2 x0 x1 = some y -> zap Tryz.prog Ka2 (.imm 1 (x0.map (D.int .i64)) 4 :: .imm 1 (x1.map (D.int .i64)) 4 :: ca2) (.bool y)) (r : Bool) (h : zbt a0 a1 a2 = some r) : zap Tryz.prog 153 [.imm 1 (a0.map dL_inti64) 4, .imm 1 (a1.map dL_inti64) 4, .fn (.func Ka2) ca2] (.bool r) := by
 refine za3 Tryz.tmOk 2 Tryz.func153 rfl (by decide) rfl rfl (lb rfl) ?_
 intro hwf
 unfold zbt at h
 refine .seq (.pl zS [0, 1, 2] ?_)
 refine .seq (.seq (.pl zS [0, 1, 2] ?_))
 refine .cd (fun hc1 => ?_) (fun hc1 => ?_)
 replace h := za4 h hc1
 refine .seq (.pl zS [] ?_)
 obtain rfl := sj h
 exact .rr
 replace h := za7 h hc1
 obtain ⟨x1, hx1, h⟩ := bind_some h
 refine .skip ?_
 refine .seqM 0 (fun (j : Unit) => st88) (fun j => x1 = (.inr j)) (lb rfl) ?_ ?_
 refine .seq (.pl zS [0, 1, 2] ?_)
 refine .block ?_
 refine .loopG 0 (fun (j : Nat) => st89 a0 a1 Ka2 ca2 j) (fun j => j <= a0.length /\ zaf a1 a2 (a0.drop j) j  = some x1) (fun j => a0.length - j) (0) (lb rfl) ?_ ⟨Nat.zero_le _, hx1⟩ ?_
 refine Goes.mv [1, 2, 15, 16, 17] [] [] ?_ (lb rfl) (lb rfl) (by first | rfl | (simp only [idsV, idsH, zb4, getL, D.ids, Blk.ids, zc8, Nat.reduceBEq, cond_true, cond_false, List.append_nil, List.nil_append, List.cons_append, zal hca2] <;> rfl))
 first | rfl | simp only [go_sem, Nat.reduceBEq, Nat.reduceAdd, zam hca2] <;> rfl
 rintro n1 ⟨hi1, hx1⟩
 simp only [st89]
 refine .wf 16 (.int .i64 (a0.length : Int)) rfl ?_
 intro hln1
 replace hln1 := wfn hln1
 refine .seq (.pl zS [1, 2, 15, 16, 17] ?_)
 refine .seq (.cd (fun hc2 => ?_) (fun hc2 => ?_))
 have h1 : n1 < a0.length := by simpa using hc2
 have hwn1 := zdg h1 hln1
 have hpn1 := zdh h1 hln1
 rw [List.drop_eq_getElem_cons h1, zaf] at hx1
 refine .skip (.seq (.block (.seq ?_)))
 have e1 := zd3 dL_inti64 a0 n1 h1
 refine .plx zS (ai e1 hwn1) [1, 2, 15, 16, 17] ?_
 refine .seq ?_
 obtain ⟨k1, hx1⟩ := zat hx1
 have e2 := zea dL_inti64 a1 n1
 replace e2 := e2 k1
 refine .plx zS (ai e2 hwn1) [1, 2, 7, 8, 15, 16, 17] ?_
 refine .seq ?_
 obtain ⟨v1, hv1, hx1⟩ := bind_some hx1
 refine .rg zS [1, 2, 8, 9, 15, 16, 17] ?_
 refine .rnx 3 hwn1 ?_
 refine .call (r := .bool v1) rfl rfl rfl rfl rfl (za1 rfl (za1 rfl (hca2 _))) (ha2 _ _ v1 hv1) ?_
 refine .rnx 1 hwn1 ?_
 refine .nn ?_
 refine .cd (fun hc3 => ?_) (fun hc3 => ?_)
 replace hx1 := za4 hx1 hc3
 refine .seq (.plx zS hwn1 [] ?_)
 have hq := sj hx1
 subst x1
 try dsimp only at h
 obtain rfl := sj h
 exact .rr
 replace hx1 := za7 hx1 hc3
 refine .skip (.plx zS hwn1 [1, 2, 15, 16, 17] ?_)
 refine ⟨n1 + 1, ?_, ⟨by omega, hx1⟩, by dsimp only; omega⟩
 refine Goes.mv [1, 2, 15, 16, 17] [] [] ?_ (lb rfl) (lb rfl) (by first | rfl | (simp only [idsV, idsH, zb4, getL, D.ids, Blk.ids, zc8, Nat.reduceBEq, cond_true, cond_false, List.append_nil, List.nil_append, List.cons_append, zal hca2] <;> rfl))
 first | rfl | simp only [go_sem, Nat.reduceBEq, Nat.reduceAdd, zam hca2] <;> rfl
 have h2 : n1 = a0.length := by have h2b := of_decide_eq_false hc2; omega
 rw [List.drop_of_length_le (by omega), zaf] at hx1
 refine .exit ?_
 refine ⟨_, ?_, (sj hx1).symm⟩
 refine Goes.mv [] [] [] ?_ (lb rfl) (lb rfl) (by first | rfl | (simp only [idsV, idsH, zb4, getL, D.ids, Blk.ids, zc8, Nat.reduceBEq, cond_true, cond_false, List.append_nil, List.nil_append, List.cons_append, zal hca2] <;> rfl))
 first | rfl | simp only [go_sem, Nat.reduceBEq, Nat.reduceAdd, zam hca2] <;> rfl
 rintro ⟨⟩ hj1
 subst x1
 try dsimp only at h
 simp only [st88]
 refine .seq (.pl zS [] ?_)
 obtain rfl := sj h
 exact .rr
theorem znw (a0 : List (List Int)) (a1 : List (List Int)) (r : Bool) (h : zgk a0 a1 = some r) : zap Tryz.prog 108 [.imm 1 (a0.map dL_inti64) 4, .imm 1 (a1.map dL_inti64) 4] (.bool r) := by
 refine za3 Tryz.tmOk 2 Tryz.func108 rfl (by decide) rfl rfl (lb rfl) ?_
 intro hwf
 unfold zgk at h
 refine .seq (.pl zS [0, 1] ?_)
 obtain ⟨v1, hv1, h⟩ := bind_some h
 refine .seq (.rg zS [0, 1] ?_)
 refine .rn 2 ?_
 refine .lcall (r := .bool v1) [] rfl rfl rfl rfl rfl (za2 rfl (za2 rfl (za2 (zf9 za8) za8))) rfl (zg8 a0 a1 154 [] (fun _ => rfl) (fun _ => rfl) (fun _ => rfl) ze8 (fun x0 x1 y hy => zme x0 x1 y hy) v1 hv1) ?_
 refine .rn 1 ?_
 refine .nn ?_
 obtain rfl := sj h
 exact .rr
@[go_sem] def ya5y : St := ⟨[], [], 0⟩
@[go_sem] def ya5x (a0 : List TTopic) (Ka1 : Nat) (ca1 : List D) (n1 : Nat) : St := ⟨[(0, .imm 4 (a0.map TTopic.d) 4), (1, .fn (.func Ka1) ca1), (7, .int .i64 (a0.length : Int)), (8, .int .i64 (n1 : Int))], [], 0⟩
theorem zgy (a0 : List TTopic) (Ka1 : Nat) (ca1 : List D) (hca1 : ∀ hp, zcz hp ca1 = (ca1, true)) (h2a1 : ∀ hp, zcp hp ca1 = (ca1, true)) (h3a1 : ∀ hp, zfa hp ca1 = []) (a1 : TTopic -> Option Bool) (ha1 : ∀ x0 y, a1 x0 = some y -> zap Tryz.prog Ka1 (.agg [.int .i64 x0.Base, .int .i64 x0.Next, .int .i64 x0.Mark, .imm 4 (x0.Entries.map TEntry.d) 4] :: ca1) (.bool y)) (r : Int) (h : zch a0 a1 = some r) : zap Tryz.prog 148 [.imm 4 (a0.map TTopic.d) 4, .fn (.func Ka1) ca1] (.int .i64 r) := by
 refine za3 Tryz.tmOk 2 Tryz.func148 rfl (by decide) rfl rfl (lb rfl) ?_
 intro hwf
 unfold zch at h
 refine .seq (.pl zS [0, 1] ?_)
 obtain ⟨x1, hx1, h⟩ := bind_some h
 refine .seqM 0 (fun (j : Unit) => ya5y) (fun j => x1 = (.inr j)) (lb rfl) ?_ ?_
 refine .seq (.pl zS [0, 1] ?_)
 refine .block ?_
 refine .loopG 0 (fun (j : Nat) => ya5x a0 Ka1 ca1 j) (fun j => j <= a0.length /\ zan a1 (a0.drop j) j  = some x1) (fun j => a0.length - j) (0) (lb rfl) ?_ ⟨Nat.zero_le _, hx1⟩ ?_
 refine Goes.mv [0, 1, 7, 8] [] [] ?_ (lb rfl) (lb rfl) (by first | rfl | (simp only [idsV, idsH, zb4, getL, D.ids, Blk.ids, zc8, Nat.reduceBEq, cond_true, cond_false, List.append_nil, List.nil_append, List.cons_append, zal hca1] <;> rfl))
 first | rfl | simp only [go_sem, Nat.reduceBEq, Nat.reduceAdd, zam hca1] <;> rfl
 rintro n1 ⟨hi1, hx1⟩
 simp only [ya5x]
 refine .wf 7 (.int .i64 (a0.length : Int)) rfl ?_
 intro hln1
 replace hln1 := wfn hln1
 refine .seq (.pl zS [0, 1, 7, 8] ?_)
 refine .seq (.cd (fun hc1 => ?_) (fun hc1 => ?_))
 have h1 : n1 < a0.length := by simpa using hc1
 have hwn1 := zdg h1 hln1
 have hpn1 := zdh h1 hln1
 rw [List.drop_eq_getElem_cons h1, zan] at hx1
 refine .skip (.seq (.block (.seq (.plx zS hwn1 [0, 1, 7, 8] ?_))))
 refine .seq ?_
 obtain ⟨v1, hv1, hx1⟩ := bind_some hx1
 have e1 := zd3 TTopic.d a0 n1 h1
 refine .rg zS [0, 1, 5, 7, 8] ?_
 refine .rnx 5 (ai e1 hwn1) ?_
 refine .call (r := .bool v1) rfl rfl rfl rfl rfl (za1 rfl (hca1 _)) (ha1 _ v1 hv1) ?_
 refine .nn ?_
 refine .cd (fun hc2 => ?_) (fun hc2 => ?_)
 replace hx1 := za4 hx1 hc2
 refine .seq (.plx zS hwn1 [5] ?_)
 have hq := sj hx1
 subst x1
 try dsimp only at h
 obtain rfl := sj h
 exact .rr
 replace hx1 := za7 hx1 hc2
 refine .skip (.plx zS hwn1 [0, 1, 7, 8] ?_)
 refine ⟨n1 + 1, ?_, ⟨by omega, hx1⟩, by dsimp only; omega⟩
 refine Goes.mv [0, 1, 7, 8] [] [] ?_ (lb rfl) (lb rfl) (by first | rfl | (simp only [idsV, idsH, zb4, getL, D.ids, Blk.ids, zc8, Nat.reduceBEq, cond_true, cond_false, List.append_nil, List.nil_append, List.cons_append, zal hca1] <;> rfl))
 first | rfl | simp only [go_sem, Nat.reduceBEq, Nat.reduceAdd, zam hca1] <;> rfl
 have h2 : n1 = a0.length := by have h2b := of_decide_eq_false hc1; omega
 rw [List.drop_of_length_le (by omega), zan] at hx1
 refine .exit ?_
 refine ⟨_, ?_, (sj hx1).symm⟩
 refine Goes.mv [] [] [] ?_ (lb rfl) (lb rfl) (by first | rfl | (simp only [idsV, idsH, zb4, getL, D.ids, Blk.ids, zc8, Nat.reduceBEq, cond_true, cond_false, List.append_nil, List.nil_append, List.cons_append, zal hca1] <;> rfl))
 first | rfl | simp only [go_sem, Nat.reduceBEq, Nat.reduceAdd, zam hca1] <;> rfl
 rintro ⟨⟩ hj1
 subst x1
 try dsimp only at h
 simp only [ya5y]
 refine .seq (.pl zS [] ?_)
 obtain rfl := sj h
 exact .rr
theorem zgg (a0 : List TTopic) (Ka1 : Nat) (ca1 : List D) (hca1 : ∀ hp, zcz hp ca1 = (ca1, true)) (h2a1 : ∀ hp, zcp hp ca1 = (ca1, true)) (h3a1 : ∀ hp, zfa hp ca1 = []) (a1 : TTopic -> Option Bool) (ha1 : ∀ x0 y, a1 x0 = some y -> zap Tryz.prog Ka1 (.agg [.int .i64 x0.Base, .int .i64 x0.Next, .int .i64 x0.Mark, .imm 4 (x0.Entries.map TEntry.d) 4] :: ca1) (.bool y)) (r : Bool) (h : zbg a0 a1 = some r) : zap Tryz.prog 98 [.imm 4 (a0.map TTopic.d) 4, .fn (.func Ka1) ca1] (.bool r) := by
 refine za3 Tryz.tmOk 2 Tryz.func98 rfl (by decide) rfl rfl (lb rfl) ?_
 intro hwf
 unfold zbg at h
 refine .seq (.pl zS [0, 1] ?_)
 obtain ⟨v1, hv1, h⟩ := bind_some h
 refine .seq (.rg zS [0, 1] ?_)
 refine .rn 2 ?_
 refine .lcall (r := .int .i64 v1) [] rfl rfl rfl rfl rfl (za2 rfl (za2 (zf9 (h2a1 _)) za8)) (by show zfa _ [.imm 4 (a0.map TTopic.d) 4, .fn (.func Ka1) ca1] = _; simp only [zfa, ids2, List.append_nil, List.nil_append, List.cons_append, h3a1]) (zgy a0 Ka1 ca1 hca1 h2a1 h3a1 a1 ha1 v1 hv1) ?_
 refine .rn 2 ?_
 refine .nn ?_
 obtain rfl := sj h
 exact .rr
theorem zmd (a0 : TTopic) (r : Bool) (h : ze7 a0 = some r) : zap Tryz.prog 96 [.agg [.int .i64 a0.Base, .int .i64 a0.Next, .int .i64 a0.Mark, .imm 4 (a0.Entries.map TEntry.d) 4]] (.bool r) := by
 refine za3 Tryz.tmOk 3 Tryz.func96 rfl (by decide) rfl rfl (lb rfl) ?_
 intro hwf
 unfold ze7 at h
 refine .seq (.pl zS [0] ?_)
 obtain ⟨v1, hv1, h⟩ := bind_some h
 refine .seq (.rg zS [1] ?_)
 refine .rn 1 ?_
 refine .cl (zg7 a0 v1 hv1) ?_
 refine .rn 2 ?_
 refine .nn ?_
 obtain rfl := sj h
 exact .rr
@[go_sem] def ya5h : St := ⟨[], [], 1⟩
@[go_sem] def ya5g (a0 : TStream) (n1 : Nat) : St := ⟨[(1, .ptr 0 0), (23, .imm 1 (a0.Commits.map dL_inti64) 4), (24, .int .i64 (a0.Commits.length : Int)), (25, .int .i64 (n1 : Int))], [(0, .box [.imm 4 (a0.Topics.map TTopic.d) 4, .imm 1 (a0.Commits.map dL_inti64) 4])], 1⟩
theorem zjs (a0 : TStream) (r : Int) (h : zfk a0 = some r) : zap Tryz.prog 45 [.agg [.imm 4 (a0.Topics.map TTopic.d) 4, .imm 1 (a0.Commits.map dL_inti64) 4]] (.int .i64 r) := by
 refine za3 Tryz.tmOk 3 Tryz.func45 rfl (by decide) rfl rfl (lb rfl) ?_
 intro hwf
 unfold zfk at h
 refine .seq (.pl zS [0] ?_)
 refine .seq (.pl zS [1] ?_)
 refine .seq ?_
 obtain ⟨v1, hv1, h⟩ := bind_some h
 obtain ⟨v2, hv2, h⟩ := bind_some h
 refine .seq (.rg zS [1, 3] ?_)
 refine .rn 8 ?_
 refine .glcall (r := .bool v1) [] rfl rfl rfl rfl rfl (fun hg => ⟨[], [.imm 4 (a0.Topics.map TTopic.d) 4, .fn (.func 96) []], _, rfl, gd hg, (za2 rfl (za2 (zf9 za8) za8)), rfl, (zgg a0.Topics 96 [] (fun _ => rfl) (fun _ => rfl) (fun _ => rfl) ze7 (fun x0 y hy => zmd x0 y hy) v1 (za4 hv1 hg))⟩) ?_
 refine .rn 4 ?_
 refine .gcall rfl rfl rfl rfl rfl (fun hg => ⟨[], [.imm 1 (a0.Commits.map dL_inti64) 4], _, rfl, gd hg, rfl, (zjf a0.Commits v2 (za4 hv2 hg))⟩) ?_
 refine .rn 2 ?_
 refine .nn ?_
 refine .cd (fun hc1 => ?_) (fun hc1 => ?_)
 replace h := za4 h hc1
 refine .seq (.pl zS [] ?_)
 obtain rfl := sj h
 exact .rr
 replace h := za7 h hc1
 obtain ⟨x1, hx1, h⟩ := bind_some h
 refine .skip ?_
 refine .seqM 1 (fun (j : Unit) => ya5h) (fun j => x1 = (.inr j)) (lb rfl) ?_ ?_
 refine .seq (.pl zS [1] ?_)
 refine .block ?_
 refine .loopG 1 (fun (j : Nat) => ya5g a0 j) (fun j => j <= a0.Commits.length /\ zbu a0 (a0.Commits.drop j) j  = some x1) (fun j => a0.Commits.length - j) (0) (lb rfl) ?_ ⟨Nat.zero_le _, hx1⟩ ?_
 exact .m [1, 23, 24, 25] [0] []
 rintro n1 ⟨hi1, hx1⟩
 simp only [ya5g]
 refine .wf 24 (.int .i64 (a0.Commits.length : Int)) rfl ?_
 intro hln1
 replace hln1 := wfn hln1
 refine .seq (.pl zS [1, 23, 24, 25] ?_)
 refine .seq (.cd (fun hc2 => ?_) (fun hc2 => ?_))
 have h1 : n1 < a0.Commits.length := by simpa using hc2
 have hwn1 := zdg h1 hln1
 have hpn1 := zdh h1 hln1
 rw [List.drop_eq_getElem_cons h1, zbu] at hx1
 refine .skip (.seq (.block (.seq ?_)))
 have e1 := zd3 dL_inti64 a0.Commits n1 h1
 refine .plx zS (ai e1 hwn1) [1, 23, 24, 25] ?_
 refine .seq ?_
 obtain ⟨v3, hv3, hx1⟩ := bind_some hx1
 obtain ⟨k1, hx1⟩ := zat hx1
 have e2 := zea TTopic.d a0.Topics n1
 replace e2 := e2 k1
 refine .rg zS [1, 4, 5, 23, 24, 25] ?_
 refine .rdx 1 (ai e2 hwn1) ?_
 refine .cl (zkb (a0.Commits[n1]) v3 hv3) ?_
 refine .rdx 7 (ai e2 hwn1) ?_
 refine .nd ?_
 refine .cd (fun hc3 => ?_) (fun hc3 => ?_)
 replace hx1 := za4 hx1 hc3
 refine .seq (.plx zS hwn1 [] ?_)
 have hq := sj hx1
 subst x1
 try dsimp only at h
 obtain rfl := sj h
 exact .rr
 replace hx1 := za7 hx1 hc3
 refine .skip (.plx zS hwn1 [1, 23, 24, 25] ?_)
 refine ⟨n1 + 1, ?_, ⟨by omega, hx1⟩, by dsimp only; omega⟩
 exact .m [1, 23, 24, 25] [0] []
 have h2 : n1 = a0.Commits.length := by have h2b := of_decide_eq_false hc2; omega
 rw [List.drop_of_length_le (by omega), zbu] at hx1
 refine .exit ?_
 refine ⟨_, ?_, (sj hx1).symm⟩
 exact .m [] [] []
 rintro ⟨⟩ hj1
 subst x1
 try dsimp only at h
 simp only [ya5h]
 refine .seq (.pl zS [] ?_)
 obtain rfl := sj h
 exact .rr
theorem zjr (a0 : TStream) (a1 : Int) (r : Int) (h : zfj a0 a1 = some r) : zap Tryz.prog 62 [.agg [.imm 4 (a0.Topics.map TTopic.d) 4, .imm 1 (a0.Commits.map dL_inti64) 4], .int .i64 a1] (.int .i64 r) := by
 refine za3 Tryz.tmOk 3 Tryz.func62 rfl (by decide) rfl rfl (lb rfl) ?_
 intro hwf
 unfold zfj at h
 refine .seq (.pl zS [0, 1] ?_)
 refine .seq ?_
 obtain ⟨v1, hv1, h⟩ := bind_some h
 refine .seq (.rg zS [1, 2] ?_)
 refine .rn 1 ?_
 refine .cl (zjs a0 v1 hv1) ?_
 refine .rn 1 ?_
 refine .nn ?_
 refine .seq (.pl zS [1, 5] ?_)
 refine .cd (fun hc1 => ?_) (fun hc1 => ?_)
 replace h := za4 h hc1
 refine .seq (.pl zS [5] ?_)
 obtain rfl := sj h
 exact .rr
 replace h := za7 h hc1
 refine .skip (.seq (.seq (.pl zS [1] ?_)))
 refine .cd (fun hc2 => ?_) (fun hc2 => ?_)
 replace h := za4 h hc2
 refine .seq (.pl zS [] ?_)
 obtain rfl := sj h
 exact .rr
 replace h := za7 h hc2
 refine .skip (.seq (.pl zS [] ?_))
 obtain rfl := sj h
 exact .rr
@[go_sem] def ya5d (v1 : List (List Int)) (l1 : List TTopic) : St := ⟨[(2, .ptr 1 0), (3, .ptr 12 0)], [(1, .box [.imm 0 [] 0, .imm 0 [] 0]), (6, .arr 30 1 true (v1.map zbb)), (12, .box [.ref 13 4 0 l1.length (some uC), .ref 6 1 0 v1.length (some uC)]), (13, .arr 94 4 true (l1.map TTopic.n))], 14⟩
@[go_sem] def ya5c (a0 : TStream) (v1 : List (List Int)) (n1 : Nat) (l2 : List TTopic) : St := ⟨[(2, .ptr 1 0), (3, .ptr 12 0), (11, .imm 4 (a0.Topics.map TTopic.d) 4), (12, .int .i64 (a0.Topics.length : Int)), (13, .int .i64 (n1 : Int))], [(1, .box [.imm 0 [] 0, .imm 0 [] 0]), (6, .arr 30 1 true (v1.map zbb)), (12, .box [.ref 13 4 0 l2.length (some uC), .ref 6 1 0 v1.length (some uC)]), (13, .arr 94 4 true (l2.map TTopic.n))], 14⟩
@[go_sem] def st35 (r : TStream) : St := ⟨[(2, .ptr 2 0)], [(0, .arr 94 4 true (r.Topics.map TTopic.n)), (1, .arr 30 1 true (r.Commits.map zbb)), (2, .box [.ref 0 4 0 r.Topics.length (some uC), .ref 1 1 0 r.Commits.length (some uC)])], 3⟩
theorem zhv (a0 : TStream) (r : TStream) (h : zec a0 = some r) : zbi Tryz.prog 39 [.agg [.imm 4 (a0.Topics.map TTopic.d) 4, .imm 1 (a0.Commits.map dL_inti64) 4]] [] (.agg [.ref 0 4 0 r.Topics.length (some uC), .ref 1 1 0 r.Commits.length (some uC)]) [(0, some (.arr 94 4 true (r.Topics.map TTopic.n))), (1, some (.arr 30 1 true (r.Commits.map zbb)))] (0, 19) := by
 refine za6 Tryz.tmOk Tryz.func39 rfl (by decide) (lb rfl) (by simp) ?_
 intro hwf
 unfold zec at h
 refine .ends 0 (Nat.le_refl _) ?_
 refine .seq (.pl zS [0] ?_)
 obtain ⟨v1, hv1, h⟩ := bind_some h
 refine .seq (.rg zS [1, 2] ?_)
 refine .rn 2 ?_
 refine .ncall (r := .ref 6 1 0 v1.length (some uC)) (eff := [(6, some (.arr 30 1 true (v1.map zbb)))]) (nw := (6, 12)) [] rfl rfl rfl rfl rfl (za2 rfl za8) rfl (zd8 6 (lb rfl) (zo2 a0.Commits v1 hv1)) (zbl rfl rfl (zjc zc9 _ _ _) zdo) (by intro i hi; simp [D.ids, D.idsL] at hi <;> omega) rfl ⟨lb rfl, lb rfl⟩ ?_
 refine .rn 3 ?_
 refine .nn ?_
 obtain ⟨x1, hx1, h⟩ := bind_some h
 refine .seqM 13 (fun (j : (List TTopic)) => ya5d v1 j) (fun j => x1 = j) (lb rfl) ?_ ?_
 refine .seq (.pl zS [1, 2, 3] ?_)
 refine .block ?_
 refine .loopG 13 (fun (j : Nat × (List TTopic)) => ya5c a0 v1 j.1 j.2) (fun j => j.1 <= a0.Topics.length /\ zcr (a0.Topics.drop j.1) j.2 = some x1) (fun j => a0.Topics.length - j.1) (0, []) (lb rfl) ?_ ⟨Nat.zero_le _, hx1⟩ ?_
 refine Goes.new0 4 94 (lb rfl) ?_
 refine Goes.boxs 12 _ [.ref 13 4 0 0 (some uC), .ref 6 1 0 v1.length (some uC)] rfl (.cons (.own0 13 _ _ _ (by decide)) (.refl _)) ?_
 exact .m [2, 3, 11, 12, 13] [1, 6, 12, 13] []
 rintro ⟨n1, l2⟩ ⟨hi1, hx1⟩
 simp only [ya5c]
 simp only at hi1 hx1
 refine .wf 12 (.int .i64 (a0.Topics.length : Int)) rfl ?_
 intro hln1
 replace hln1 := wfn hln1
 refine .seq (.pl zS [2, 3, 11, 12, 13] ?_)
 refine .seq (.cd (fun hc1 => ?_) (fun hc1 => ?_))
 have h1 : n1 < a0.Topics.length := by simpa using hc1
 have hwn1 := zdg h1 hln1
 have hpn1 := zdh h1 hln1
 rw [List.drop_eq_getElem_cons h1, zi0] at hx1
 refine .skip (.seq (.block (.seq ?_)))
 have e1 := zd3 TTopic.d a0.Topics n1 h1
 refine .plx zS (ai e1 hwn1) [2, 3, 11, 12, 13] ?_
 obtain ⟨v2, hv2, hx1⟩ := bind_some hx1
 obtain ⟨k1, hx1⟩ := zat hx1
 refine .rg zS [2, 3, 5, 11, 12, 13] ?_
 refine .rdx 3 hwn1 ?_
 refine .cl (zie (a0.Topics[n1]) v2 hv2) ?_
 refine .rdx 4 hwn1 ?_
 refine .nd ?_
 refine .plx zS hwn1 [2, 3, 11, 12, 13] ?_
 refine ⟨(n1 + 1, _), ?_, ⟨by omega, hx1⟩, by dsimp only; omega⟩
 exact .m [2, 3, 11, 12, 13] [1, 6, 12, 16] [(16, 13)]
 have h2 : n1 = a0.Topics.length := by have h2b := of_decide_eq_false hc1; omega
 rw [List.drop_of_length_le (by omega), zhz] at hx1
 refine .exit ?_
 refine ⟨_, ?_, (sj hx1).symm⟩
 exact .m [2, 3] [1, 6, 12, 13] []
 rintro l1 hj1
 subst x1
 try dsimp only at h
 simp only [ya5d]
 refine .seq (.pl zS [2, 3] ?_)
 obtain rfl := sj h
 refine .ret ⟨st35 (⟨l1, v1⟩ : TStream), ?_, .inr rfl, retH [1, 0] ?_ ?_⟩
 exact .m [2] [13, 6, 1] [(13, 0), (6, 1), (1, 2)]
 exact rsi0
 rfl
theorem zop (a0 : TStream) (r : TStream) (h : zec a0 = some r) : zap Tryz.prog 39 [.agg [.imm 4 (a0.Topics.map TTopic.d) 4, .imm 1 (a0.Commits.map dL_inti64) 4]] (.agg [.imm 4 (r.Topics.map TTopic.d) 13, .imm 1 (r.Commits.map dL_inti64) 13]) :=
 zdf (zgt (za0 (zdx zg4 rfl rfl) (za0 (zdx zc9 rfl rfl) zbr))) (zhv a0 r h)
@[go_sem] def st37 (r : TStream) : St := ⟨[(6, .ptr 20102 0)], [(20100, .arr 94 4 true (r.Topics.map TTopic.n)), (20101, .arr 30 1 true (r.Commits.map zbb)), (20102, .box [.ref 20100 4 0 r.Topics.length (some uC), .ref 20101 1 0 r.Commits.length (some uC)])], 20103⟩
theorem zhu (a0 : TStream) (a1 : Int) (a2 : TTopic) (r : TStream) (h : zf4 a0 a1 a2 = some r) : zbi Tryz.prog 180 [.agg [.imm 4 (a0.Topics.map TTopic.d) 4, .imm 1 (a0.Commits.map dL_inti64) 4], .int .i64 a1, .agg [.int .i64 a2.Base, .int .i64 a2.Next, .int .i64 a2.Mark, .imm 4 (a2.Entries.map TEntry.d) 13]] [] (.agg [.ref 20100 4 0 r.Topics.length (some uC), .ref 20101 1 0 r.Commits.length (some uC)]) [(20100, some (.arr 94 4 true (r.Topics.map TTopic.n))), (20101, some (.arr 30 1 true (r.Commits.map zbb)))] (20100, 20124) := by
 refine za6 Tryz.tmOk Tryz.func180 rfl (by decide) (lb rfl) (by simp) ?_
 intro hwf
 unfold zf4 at h
 refine .ends 20100 (Nat.le_refl _) ?_
 refine .seq (.pl zS [0, 1, 2] ?_)
 obtain ⟨v1, hv1, h⟩ := bind_some h
 refine .seq (.rg zS [1, 3, 5, 6] ?_)
 refine .rn 1 ?_
 refine .ncall (r := .agg [.ref 20103 4 0 v1.Topics.length (some uC), .ref 20104 1 0 v1.Commits.length (some uC)]) (eff := [(20103, some (.arr 94 4 true (v1.Topics.map TTopic.n))), (20104, some (.arr 30 1 true (v1.Commits.map zbb)))]) (nw := (20103, 20122)) [] rfl rfl rfl rfl rfl (za2 rfl za8) rfl (zd8 20103 (lb rfl) (zhv a0 v1 hv1)) (zbl rfl rfl (zjc zg4 _ _ _) (zbl rfl rfl (zjc zc9 _ _ _) zdo)) (by intro i hi; simp [D.ids, D.idsL] at hi <;> omega) rfl ⟨lb rfl, lb rfl⟩ ?_
 refine .rn 1 ?_
 refine .nn ?_
 refine .seq ?_
 obtain ⟨k1, h⟩ := zat h
 have e1 := zbq TTopic.n v1.Topics a1
 have es1 := zhw TTopic.n v1.Topics a1.toNat a2
 replace e1 := e1 k1
 replace es1 : setN (v1.Topics.map TTopic.n) a1.toNat (.agg [.int .i64 a2.Base, .int .i64 a2.Next, .int .i64 a2.Mark, .imm 4 (a2.Entries.map TEntry.d) 13]) = (v1.Topics.set a1.toNat a2).map TTopic.n := es1
 refine .plx zS (ai e1 es1) [1, 3, 5, 6] ?_
 refine .seq (.pl zS [3, 6] ?_)
 obtain rfl := sj h
 refine .ret ⟨st37 (⟨(v1.Topics.set a1.toNat a2), v1.Commits⟩ : TStream), ?_, .inr rfl, retH [20101, 20100] ?_ ?_⟩
 exact .m [6] [20103, 20104, 20102] [(20103, 20100), (20104, 20101)]
 exact rsi0
 rfl
@[go_sem] def st34 (r : TStream × Int × Int) : St := ⟨[(4, .ptr 2 0), (5, .int .i64 r.2.1), (6, .int .i64 r.2.2)], [(0, .arr 94 4 true (r.1.Topics.map TTopic.n)), (1, .arr 30 1 true (r.1.Commits.map zbb)), (2, .box [.ref 0 4 0 r.1.Topics.length (some uC), .ref 1 1 0 r.1.Commits.length (some uC)])], 3⟩
theorem zpj (a0 : TStream) (a1 : TMessage) (r : TStream × Int × Int) (h : zfx a0 a1 = some r) : zbi Tryz.prog 160 [.agg [.imm 4 (a0.Topics.map TTopic.d) 4, .imm 1 (a0.Commits.map dL_inti64) 4], .agg [.int .i64 a1.Id, .imm 1 (a1.Groups.map (D.int .i64)) 4, .int .i64 a1.Topic, .str a1.Key, .str a1.Body]] [] (.tuple [.agg [.ref 0 4 0 r.1.Topics.length (some uC), .ref 1 1 0 r.1.Commits.length (some uC)], .int .i64 r.2.1, .int .i64 r.2.2]) [(0, some (.arr 94 4 true (r.1.Topics.map TTopic.n))), (1, some (.arr 30 1 true (r.1.Commits.map zbb)))] (0, 30) := by
 refine za6 Tryz.tmOk Tryz.func160 rfl (by decide) (lb rfl) (by simp) ?_
 intro hwf
 unfold zfx at h
 refine .ends 0 (Nat.le_refl _) ?_
 refine .seq (.pl zS [0, 1] ?_)
 refine .seq ?_
 obtain ⟨v1, hv1, h⟩ := bind_some h
 refine .seq (.rg zS [2, 3, 4] ?_)
 refine .rn 3 ?_
 refine .cl (zjr a0 a1.Topic v1 hv1) ?_
 refine .rn 1 ?_
 refine .nn ?_
 refine .seq (.pl zS [2, 3, 4, 7] ?_)
 refine .cd (fun hc1 => ?_) (fun hc1 => ?_)
 replace h := za4 h hc1
 refine .seq (.pl zS [4, 7] ?_)
 obtain rfl := sj h
 refine .ret ⟨st34 ((⟨[], []⟩ : TStream), 0, v1), ?_, .inr rfl, retH [1, 0] ?_ ?_⟩
 refine Goes.new0 4 94 (lb rfl) ?_
 refine Goes.new0 1 30 (lb rfl) ?_
 refine Goes.boxs 2 _ [.ref 3 4 0 0 (some uC), .ref 4 1 0 0 (some uC)] rfl (.cons (.own0 3 _ _ _ (by decide)) (.cons (.own0 4 _ _ _ (by decide)) (.refl _))) ?_
 exact .m [4, 5, 6] [3, 4, 2] [(3, 0), (4, 1)]
 exact rsi0
 rfl
 replace h := za7 h hc1
 refine .skip (.seq ?_)
 obtain ⟨k1, h⟩ := zat h
 obtain ⟨v2, hv2, h⟩ := bind_some h
 have e1 := zbq TTopic.d a0.Topics a1.Topic
 replace e1 := e1 k1
 refine .rg zS [2, 3, 4] ?_
 refine .rdx 6 e1 ?_
 refine .rdx 6 e1 ?_
 refine .cl (zrs (a0.Topics.getD a1.Topic.toNat default) a1.Id a1.Key a1.Body v2 hv2) ?_
 refine .rdx 8 e1 ?_
 refine .nd ?_
 refine .seq (.seq (.pl zS [2, 3, 4, 8, 9, 10] ?_))
 refine .cd (fun hc2 => ?_) (fun hc2 => ?_)
 replace h := za4 h hc2
 refine .seq (.pl zS [4, 10] ?_)
 obtain rfl := sj h
 refine .ret ⟨st34 ((⟨[], []⟩ : TStream), 0, v2.2.2), ?_, .inr rfl, retH [1, 0] ?_ ?_⟩
 refine Goes.new0 4 94 (lb rfl) ?_
 refine Goes.new0 1 30 (lb rfl) ?_
 refine Goes.boxs 2 _ [.ref 4 4 0 0 (some uC), .ref 5 1 0 0 (some uC)] rfl (.cons (.own0 4 _ _ _ (by decide)) (.cons (.own0 5 _ _ _ (by decide)) (.refl _))) ?_
 exact .m [4, 5, 6] [4, 5, 2] [(4, 0), (5, 1)]
 exact rsi0
 rfl
 replace h := za7 h hc2
 refine .skip ?_
 obtain ⟨v3, hv3, h⟩ := bind_some h
 refine .seq (.rg zS [2, 3, 4, 8, 9] ?_)
 refine .rn 4 ?_
 refine .hcall (H := []) (eff := [(4, some (.arr 94 4 true (v3.Topics.map TTopic.n))), (5, some (.arr 30 1 true (v3.Commits.map zbb)))]) (nw := (4, 28)) (r := .agg [.ref 4 4 0 v3.Topics.length (some uC), .ref 5 1 0 v3.Commits.length (some uC)]) rfl rfl rfl rfl rfl (zff 4 (zhu a0 a1.Topic v2.1 v3 hv3)) (fun id b h => zah [] _ id b h) (by simp) (.inr ⟨lb rfl, lb rfl⟩) ?_
 refine .rn 4 ?_
 refine .nn ?_
 obtain rfl := sj h
 refine .ret ⟨st34 (v3, v2.2.1, 0), ?_, .inr rfl, retH [1, 0] ?_ ?_⟩
 exact .m [4, 5, 6] [4, 5, 2] [(4, 0), (5, 1)]
 exact rsi0
 rfl
theorem zpd (a0 : TStream) (a1 : TMessage) (r : TStream × Int × Int) (h : zfx a0 a1 = some r) : zap Tryz.prog 160 [.agg [.imm 4 (a0.Topics.map TTopic.d) 4, .imm 1 (a0.Commits.map dL_inti64) 4], .agg [.int .i64 a1.Id, .imm 1 (a1.Groups.map (D.int .i64)) 4, .int .i64 a1.Topic, .str a1.Key, .str a1.Body]] (.tuple [.agg [.imm 4 (r.1.Topics.map TTopic.d) 13, .imm 1 (r.1.Commits.map dL_inti64) 13], .int .i64 r.2.1, .int .i64 r.2.2]) :=
 zdf (zlm (za0 (zgt (za0 (zdx zg4 rfl rfl) (za0 (zdx zc9 rfl rfl) zbr))) (za0 rfl (za0 rfl zbr)))) (zpj a0 a1 r h)
@[go_sem] def st84 : St := ⟨[], [], 0⟩
@[go_sem] def st85 (a0 : List TTopic) (a1 : List TTopic) (Ka2 : Nat) (ca2 : List D) (n1 : Nat) : St := ⟨[(1, .imm 4 (a1.map TTopic.d) 4), (2, .fn (.func Ka2) ca2), (15, .imm 4 (a0.map TTopic.d) 4), (16, .int .i64 (a0.length : Int)), (17, .int .i64 (n1 : Int))], [], 0⟩
theorem zen (a0 : List TTopic) (a1 : List TTopic) (Ka2 : Nat) (ca2 : List D) (hca2 : ∀ hp, zcz hp ca2 = (ca2, true)) (h2a2 : ∀ hp, zcp hp ca2 = (ca2, true)) (h3a2 : ∀ hp, zfa hp ca2 = []) (a2 : TTopic -> TTopic -> Option Bool) (ha2 : ∀ x0 x1 y, a2 x0 x1 = some y -> zap Tryz.prog Ka2 (.agg [.int .i64 x0.Base, .int .i64 x0.Next, .int .i64 x0.Mark, .imm 4 (x0.Entries.map TEntry.d) 4] :: .agg [.int .i64 x1.Base, .int .i64 x1.Next, .int .i64 x1.Mark, .imm 4 (x1.Entries.map TEntry.d) 4] :: ca2) (.bool y)) (r : Bool) (h : zba a0 a1 a2 = some r) : zap Tryz.prog 106 [.imm 4 (a0.map TTopic.d) 4, .imm 4 (a1.map TTopic.d) 4, .fn (.func Ka2) ca2] (.bool r) := by
 refine za3 Tryz.tmOk 4 Tryz.func106 rfl (by decide) rfl rfl (lb rfl) ?_
 intro hwf
 unfold zba at h
 refine .seq (.pl zS [0, 1, 2] ?_)
 refine .seq (.seq (.pl zS [0, 1, 2] ?_))
 refine .cd (fun hc1 => ?_) (fun hc1 => ?_)
 replace h := za4 h hc1
 refine .seq (.pl zS [] ?_)
 obtain rfl := sj h
 exact .rr
 replace h := za7 h hc1
 obtain ⟨x1, hx1, h⟩ := bind_some h
 refine .skip ?_
 refine .seqM 0 (fun (j : Unit) => st84) (fun j => x1 = (.inr j)) (lb rfl) ?_ ?_
 refine .seq (.pl zS [0, 1, 2] ?_)
 refine .block ?_
 refine .loopG 0 (fun (j : Nat) => st85 a0 a1 Ka2 ca2 j) (fun j => j <= a0.length /\ zaa a1 a2 (a0.drop j) j  = some x1) (fun j => a0.length - j) (0) (lb rfl) ?_ ⟨Nat.zero_le _, hx1⟩ ?_
 refine Goes.mv [1, 2, 15, 16, 17] [] [] ?_ (lb rfl) (lb rfl) (by first | rfl | (simp only [idsV, idsH, zb4, getL, D.ids, Blk.ids, zc8, Nat.reduceBEq, cond_true, cond_false, List.append_nil, List.nil_append, List.cons_append, zal hca2] <;> rfl))
 first | rfl | simp only [go_sem, Nat.reduceBEq, Nat.reduceAdd, zam hca2] <;> rfl
 rintro n1 ⟨hi1, hx1⟩
 simp only [st85]
 refine .wf 16 (.int .i64 (a0.length : Int)) rfl ?_
 intro hln1
 replace hln1 := wfn hln1
 refine .seq (.pl zS [1, 2, 15, 16, 17] ?_)
 refine .seq (.cd (fun hc2 => ?_) (fun hc2 => ?_))
 have h1 : n1 < a0.length := by simpa using hc2
 have hwn1 := zdg h1 hln1
 have hpn1 := zdh h1 hln1
 rw [List.drop_eq_getElem_cons h1, zaa] at hx1
 refine .skip (.seq (.block (.seq ?_)))
 have e1 := zd3 TTopic.d a0 n1 h1
 refine .plx zS (ai e1 hwn1) [1, 2, 15, 16, 17] ?_
 refine .seq ?_
 obtain ⟨k1, hx1⟩ := zat hx1
 have e2 := zea TTopic.d a1 n1
 replace e2 := e2 k1
 refine .plx zS (ai e2 hwn1) [1, 2, 7, 8, 15, 16, 17] ?_
 refine .seq ?_
 obtain ⟨v1, hv1, hx1⟩ := bind_some hx1
 refine .rg zS [1, 2, 8, 9, 15, 16, 17] ?_
 refine .rnx 3 hwn1 ?_
 refine .call (r := .bool v1) rfl rfl rfl rfl rfl (za1 rfl (za1 rfl (hca2 _))) (ha2 _ _ v1 hv1) ?_
 refine .rnx 1 hwn1 ?_
 refine .nn ?_
 refine .cd (fun hc3 => ?_) (fun hc3 => ?_)
 replace hx1 := za4 hx1 hc3
 refine .seq (.plx zS hwn1 [] ?_)
 have hq := sj hx1
 subst x1
 try dsimp only at h
 obtain rfl := sj h
 exact .rr
 replace hx1 := za7 hx1 hc3
 refine .skip (.plx zS hwn1 [1, 2, 15, 16, 17] ?_)
 refine ⟨n1 + 1, ?_, ⟨by omega, hx1⟩, by dsimp only; omega⟩
 refine Goes.mv [1, 2, 15, 16, 17] [] [] ?_ (lb rfl) (lb rfl) (by first | rfl | (simp only [idsV, idsH, zb4, getL, D.ids, Blk.ids, zc8, Nat.reduceBEq, cond_true, cond_false, List.append_nil, List.nil_append, List.cons_append, zal hca2] <;> rfl))
 first | rfl | simp only [go_sem, Nat.reduceBEq, Nat.reduceAdd, zam hca2] <;> rfl
 have h2 : n1 = a0.length := by have h2b := of_decide_eq_false hc2; omega
 rw [List.drop_of_length_le (by omega), zaa] at hx1
 refine .exit ?_
 refine ⟨_, ?_, (sj hx1).symm⟩
 refine Goes.mv [] [] [] ?_ (lb rfl) (lb rfl) (by first | rfl | (simp only [idsV, idsH, zb4, getL, D.ids, Blk.ids, zc8, Nat.reduceBEq, cond_true, cond_false, List.append_nil, List.nil_append, List.cons_append, zal hca2] <;> rfl))
 first | rfl | simp only [go_sem, Nat.reduceBEq, Nat.reduceAdd, zam hca2] <;> rfl
 rintro ⟨⟩ hj1
 subst x1
 try dsimp only at h
 simp only [st84]
 refine .seq (.pl zS [] ?_)
 obtain rfl := sj h
 exact .rr
theorem zoq (a0 : TStream) (a1 : TStream) (r : Bool) (h : zh3 a0 a1 = some r) : zap Tryz.prog 48 [.agg [.imm 4 (a0.Topics.map TTopic.d) 4, .imm 1 (a0.Commits.map dL_inti64) 4], .agg [.imm 4 (a1.Topics.map TTopic.d) 4, .imm 1 (a1.Commits.map dL_inti64) 4]] (.bool r) := by
 refine za3 Tryz.tmOk 4 Tryz.func48 rfl (by decide) rfl rfl (lb rfl) ?_
 intro hwf
 unfold zh3 at h
 refine .seq (.pl zS [0, 1] ?_)
 obtain ⟨v1, hv1, h⟩ := bind_some h
 obtain ⟨v2, hv2, h⟩ := bind_some h
 refine .seq (.rg zS [2, 3] ?_)
 refine .rn 4 ?_
 refine .lcall (r := .bool v1) [] rfl rfl rfl rfl rfl (za2 rfl (za2 rfl (za2 (zf9 za8) za8))) rfl (zen a0.Topics a1.Topics 107 [] (fun _ => rfl) (fun _ => rfl) (fun _ => rfl) zfv (fun x0 x1 y hy => zpc x0 x1 y hy) v1 hv1) ?_
 refine .rn 5 ?_
 refine .gcall rfl rfl rfl rfl rfl (fun hg => ⟨[], [.imm 1 (a0.Commits.map dL_inti64) 4, .imm 1 (a1.Commits.map dL_inti64) 4], _, rfl, gd hg, rfl, (znw a0.Commits a1.Commits v2 (za4 hv2 hg))⟩) ?_
 refine .rn 2 ?_
 refine .nn ?_
 obtain rfl := sj h
 exact .rr
end Go.Proofs
end
section
namespace Go.Tm
def mdel {α β : Type} [DecidableEq α] (k : α) : List (α × β) -> List (α × β)
 | [] => []
 | x :: l => if k = x.1 then l else x :: mdel k l
theorem ya2q {β : Type} (g : β -> D) (k : List UInt8) (l : List (List UInt8 × β)) : delD (.str k) (mapD D.str g l) = some (mapD D.str g (mdel k l)) := by
 induction l with
 | nil => rfl
 | cons x l ih =>
  simp only [mapD, List.map_cons, delD, zll, mdel] at ih ⊢
  by_cases h : k = x.1
  simp [h]
  have : (k == x.1) = false := beq_eq_false_iff_ne.2 h
  simp only [this, h, if_false, ih, List.map_cons]
end Go.Tm
end
section
namespace Go.Proofs
open Go.Tm
set_option linter.unusedVariables false
def zh8 (a0 : List (List Int)) (a1 a2 a3 : Int) : Option (List (List Int) × Int) :=
 Option.bind (zg1 a0 a1 a2) fun v1 =>
 if ¬ (v1 = 0) then some ([], v1)
 else if (a3 < 0) \/ (a3 > 1073741824) then some ([], 2)
 else Option.bind (zd0 a0) fun v2 =>
 if v2.length = 4 /\ (0 <= a1 /\ a1 < 4) /\ 0 <= a2 /\ a2 < ((v2.getD a1.toNat default).length : Int) then
  some (v2.set a1.toNat ((v2.getD a1.toNat default).set a2.toNat (max ((v2.getD a1.toNat default).getD a2.toNat default) a3)), 0)
 else none
def zhx (e : Option (List UInt8 × Int)) : Option Int := match e with
 | none => some 0
 | some x => some x.2
def zol (mark : Int) : List TEntry -> List (List UInt8 × Int) -> List (List UInt8 × Int)
 | [], w => w
 | y :: r, w => zol mark r (if y.Offset < mark then mput y.Key 1 w else w)
def ztx (mark : Int) : List TEntry -> List (List UInt8 × Int) -> List TEntry -> Option (List (List UInt8 × Int) × List TEntry)
 | [], w, l => some (w, l)
 | y :: r, w, l => if y.Offset < mark /\ (mget y.Key w).getD 0 = 0 then ztx mark r w l
  else if l.length + 1 < 1000000 then ztx mark r (if y.Offset < mark then mdel y.Key w else w) (l ++ [y])
  else none
def zet (a0 : TTopic) (a1 : Int) : Option (TTopic × Int) :=
 Option.bind (zeb a0) fun v1 =>
 if ¬ (v1 = 0) then some ((⟨0, 0, 0, []⟩ : TTopic), v1)
 else if (a1 < 0) \/ (a1 > 1073741824) then some ((⟨0, 0, 0, []⟩ : TTopic), 2)
 else Option.bind (zc2 a0) fun v2 =>
 Option.bind (ztx (max v2.Mark (min a1 v2.Next)) v2.Entries.reverse (zol (max v2.Mark (min a1 v2.Next)) v2.Entries []) []) fun z =>
 Option.bind (zbj z.2) fun v3 =>
 some ((⟨v2.Base, v2.Next, max v2.Mark (min a1 v2.Next), v3⟩ : TTopic), 0)
end Go.Proofs
end
