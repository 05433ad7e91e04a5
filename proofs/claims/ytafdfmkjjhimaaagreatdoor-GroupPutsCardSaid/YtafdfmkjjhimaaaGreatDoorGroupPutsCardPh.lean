/- Texts of the proof. -/
import Derived.Test.YtafdfmkjjhimaaaGreatDoorGroupPutsCardPg
namespace Go.Proofs
open Go.Tm
set_option linter.unusedVariables false
def zc8 (a0 : List Int) : Option ((List Int)) :=
 if a0.length * 8 <= 140737488355328 then
 some a0
 else none
end Go.Proofs
namespace Go.Proofs
open Go.Tm Go.RowKit Go.WideShapes
set_option maxRecDepth 100000
set_option maxHeartbeats 4000000
set_option linter.unusedSimpArgs false
set_option linter.unusedVariables false
@[go_sem] def st32 (r : (List Int)) : St := ⟨[(2, .ref 0 1 0 r.length (some uC))], [(0, .arr 3 1 true (r.map (D.int .i64)))], 1⟩
theorem zgt (a0 : List Int) (r : (List Int)) (h : zc8 a0 = some r) : zby Tryz.prog 40 [.imm 1 (a0.map (D.int .i64)) 4] [] (.ref 0 1 0 r.length (some uC)) [(0, some (.arr 3 1 true (r.map (D.int .i64))))] (0, 3) := by
 refine zcu Tryz.func40 ?_
 intro hwf
 unfold zc8 at h
 refine .ends 0 (za4 _) ?_
 refine .nil4 0 1 (a0.map (D.int .i64)) rfl ?_ (fun hl => ?_)
 refine .sp [0] ?_
 refine .seq (.seq (.pl zS [0] ?_))
 refine .cond rfl rfl (fun hc => by cases hc) (fun hc => ?_)
 obtain ⟨k1, h⟩ := zb0 h
 refine .skip ?_
 refine .seqM 0 (fun (_ : Unit) => ⟨[(2, .ref 0 1 0 a0.length (some uC))], [(0, .arr 3 1 true (a0.map (D.int .i64)))], 1⟩) (fun _ => True) (lb rfl) ?_ (fun _ _ => ?_)
 rcases zmv a0 with hE1 | ⟨y, ys, hE1⟩
 have hM1 : a0.map (D.int .i64) = [] := by rw [hE1]; simp
 refine .px zS (apn hM1) [0] ?_
 refine ⟨(), ?_, trivial⟩
 refine .n0 1 3 ?_
 refine .w0 2 0 1 ?_
 exact .mx hE1 [2] [0] []
 have hM1 : a0.map (D.int .i64) ≠ [] := by rw [hE1]; simp
 refine .px zS (apc hM1) [0] ?_
 refine ⟨(), ?_, trivial⟩
 refine .wk 2 _ (.ref 0 1 0 a0.length (some uC)) rfl (.unk _ _ _ _ _) ?_
 exact .mx hE1 [2] [0] []
 obtain rfl := sj h
 refine .ret ⟨st32 a0, ?_, .inr rfl, retH [0] ?_ ?_⟩
 exact .m [2] [0] []
 exact rsi0
 rfl
 have hE0 : a0 = [] := by simpa using hl
 obtain ⟨k1, h⟩ := zb0 h
 refine .sp [0] ?_
 refine .seq (.seq (.pl zS [0] ?_))
 refine .cond rfl rfl (fun hc => ?_) (fun hc => by cases hc)
 refine .sp [] ?_
 obtain rfl := sj h
 refine .ret ⟨st32 a0, ?_, .inr rfl, retH [0] ?_ ?_⟩
 refine .n0 1 3 ?_
 refine .w0 2 0 1 ?_
 exact .mx hE0 [2] [0] []
 exact rsi0
 rfl
theorem zgr (a0 : List Int) (r : (List Int)) (h : zc8 a0 = some r) : zb9 Tryz.prog 40 [.imm 1 (a0.map (D.int .i64)) 4] (.imm 1 (r.map (D.int .i64)) 13) :=
 ze7 (zcm zd1 rfl rfl) (zgt a0 r h)
end Go.Proofs
namespace Go.Proofs
set_option linter.unusedVariables false
open Go.Tm
theorem ya3j (i j k : Nat) (hij : i ≠ j) (hik : i ≠ k) (hjk : j ≠ k) (l : List TWait) (x : TWait) (at' : Int) (h : 0 <= at' /\ at' <= (l.length : Int)) (hl : l.length < 1000000) :
  zby Tryz.prog 184 [.ref i 7 0 l.length (some uC), .int .i64 at', .ref j 7 0 1 (some 1)] [(i, .arr 91 7 true (l.map TWait.n)), (j, .arr 91 7 true [x.n])] (.ref k 7 0 (l.take at'.toNat ++ x :: l.drop at'.toNat).length (some uC)) [(k, some (.arr 91 7 true ((l.take at'.toNat ++ x :: l.drop at'.toNat).map TWait.n))), (i, none)] (k, k + 1) := by
 have t := ya7z i j k hij hik hjk (l.map TWait.n) x.n true true at'.toNat (by rw [List.length_map]; omega) (by rw [List.length_map]; exact hl)
 rw [Int.toNat_of_nonneg h.1, List.length_map, zqk, zup, <- zah, <- List.map_append] at t
 have e : l.length + 1 = (l.take at'.toNat ++ x :: l.drop at'.toNat).length := by simp; omega
 rw [e] at t
 exact t
theorem ya3u (i k : Nat) (hik : i ≠ k) (l : List TWait) (at' : Int) (h : 0 <= at' /\ at' < (l.length : Int)) (hl : l.length < 1000000) :
  zby Tryz.prog 185 [.ref i 7 0 l.length (some uC), .int .i64 at', .int .i64 (wr .i64 (at' + 1))] [(i, .arr 91 7 true (l.map TWait.n))] (.ref k 7 0 (l.eraseIdx at'.toNat).length (some uC)) [(k, some (.arr 91 7 true ((l.eraseIdx at'.toNat).map TWait.n))), (i, none)] (k, k + 1) := by
 have t := ya87 i k hik (l.map TWait.n) true at'.toNat (by rw [List.length_map]; omega) (by rw [List.length_map]; exact hl)
 have hw : wr .i64 (at' + 1) = ((at'.toNat + 1 : Nat) : Int) := by
  rw [zl8 _ _ (by show (-9223372036854775808 : Int) <= _; omega) (by show _ <= (9223372036854775807 : Int); omega)]
  omega
 rw [Int.toNat_of_nonneg h.1, List.length_map, zqk, zup, <- List.map_append, <- List.eraseIdx_eq_take_drop_succ, <- hw] at t
 have e : l.length - 1 = (l.eraseIdx at'.toNat).length := by rw [List.length_eraseIdx_of_lt (by omega)]
 rw [e] at t
 exact t
def zks (a0 : Int) : Option (Int × Int × Int) :=
 if (a0 < 0) \/ (a0 >= 6291456) then
 some (0, 0, 2)
 else
 some ((wr .i64 (a0.tdiv 1048576)), (a0.tmod 1048576), 0)
def zhj (a0 : TStamp) : Option Int :=
 if (((a0.Time < 0) \/ (a0.Time > 1073741824)) \/ (a0.Id < 0)) \/ (a0.Id >= 6291456) then
 some 8
 else
 some 0
def zoe (a0 : Int) : Option Bool :=
 some ((decide (a0 >= 0)) && (decide (a0 <= 1099511627776)))
def zd8 (a0 : Int) (a1 : Int) (a2 : Int) : Option Bool :=
 some ((decide (a0 >= a1)) && (decide (a0 <= a2)))
def zgi (a0 : Int) : Option Bool :=
 Option.bind (zd8 a0 0 6291455) fun v1 =>
 some v1
def zba (a0 : TMessage) : List Int -> Nat -> Bool -> Option (Bool)
 | [], n1, b2 =>
  some b2
 | y1 :: rest1, n1, b2 =>
  Option.bind (if b2 = true then zd8 (y1) 0 3 else some default) fun v1 =>
  zba a0 rest1 (n1 + 1) ((b2 && v1) && (((n1 : Int) == 0) || (decide (y1 > (a0.Groups.getD (n1 - 1) default)))))
def zbj (a0 : TMessage) : Option Int :=
 Option.bind (α := Bool) (zba a0 a0.Groups 0 ((decide ((a0.Groups.length : Int) >= 1)) && (decide ((a0.Groups.length : Int) <= 4)))) fun b1 =>
 Option.bind (if ¬ (¬ (b1 = true)) then zgi a0.Id else some default) fun v2 =>
 Option.bind (if ¬ ((¬ (b1 = true)) \/ (¬ (v2 = true))) then zd8 a0.Topic 0 3 else some default) fun v3 =>
 if ((((¬ (b1 = true)) \/ (¬ (v2 = true))) \/ (¬ (v3 = true))) \/ ((a0.Key.length : Int) > 16)) \/ ((a0.Body.length : Int) > 64) then
 some 120
 else
 some 0
def zdh (a0 : TMessage) (a1 : TMessage) : Option Bool :=
 Option.bind (if a0.Id = a1.Id then zc7 a0.Groups a1.Groups else some default) fun v1 =>
 some (((((a0.Id == a1.Id) && v1) && (a0.Topic == a1.Topic)) && (a0.Key == a1.Key)) && (a0.Body == a1.Body))
def zh1 (a0 : TCommand) (a1 : TCommand) : Option Bool :=
 Option.bind (if a0.Kind = a1.Kind then zdh a0.Message a1.Message else some default) fun v1 =>
 Option.bind (if (((a0.Kind = a1.Kind) /\ (v1 = true)) /\ (a0.Id = a1.Id)) /\ (a0.Time = a1.Time) then zc7 a0.Members a1.Members else some default) fun v2 =>
 some ((((((((a0.Kind == a1.Kind) && v1) && (a0.Id == a1.Id)) && (a0.Time == a1.Time)) && v2) && (a0.Topic == a1.Topic)) && (a0.Who == a1.Who)) && (a0.N == a1.N))
def zff (a0 : TWait) : Option TStamp :=
 some (⟨a0.Time, a0.Message.Id⟩ : TStamp)
def zfk (a0 : Int) : Option Bool :=
 some (a0 != a0)
def zel (a0 : Int) (a1 : Int) : Option Int :=
 Option.bind (zfk a0) fun v1 =>
 Option.bind (zfk a1) fun v2 =>
 if v1 = true then
 if v2 = true then
 some 0
 else
 some (-1)
 else
 if v2 = true then
 some 1
 else
 if a0 < a1 then
 some (-1)
 else
 if a0 > a1 then
 some 1
 else
 some 0
def zd9 : List Int -> Option (Int ⊕ Unit)
 | [] =>
  some (.inr ())
 | y1 :: rest1 =>
  if ¬ (y1 = 0) then
  some (.inl y1)
  else
  zd9 rest1 
def zio (a0 : List Int) : Option Int :=
 Option.bind (α := Int ⊕ Unit) (zd9 a0 ) fun z => match z with
 | (.inl r) => some r
 | (.inr _) =>
 some 0
def zc5 (a1 : List TStamp) : List TStamp -> Nat -> Option (Bool ⊕ Unit)
 | [], n1 =>
  some (.inr ())
 | y1 :: rest1, n1 =>
  if n1 < a1.length then
  if ¬ ((y1.Time = (a1.getD n1 default).Time) /\ (y1.Id = (a1.getD n1 default).Id)) then
  some (.inl false)
  else
  zc5 a1 rest1 (n1 + 1) 
  else none
def zet (a0 : List TStamp) (a1 : List TStamp) : Option Bool :=
 if ¬ ((a0.length : Int) = (a1.length : Int)) then
 some false
 else
 Option.bind (α := Bool ⊕ Unit) (zc5 a1 a0 0 ) fun z => match z with
 | (.inl r) => some r
 | (.inr _) =>
 some true
def zbd (a1 : List TWait) (a2 : TWait -> TWait -> Option Bool) : List TWait -> Nat -> Option (Bool ⊕ Unit)
 | [], n1 =>
  some (.inr ())
 | y1 :: rest1, n1 =>
  if n1 < a1.length then
  Option.bind (a2 (y1) (a1.getD n1 default)) fun v1 =>
  if ¬ (v1 = true) then
  some (.inl false)
  else
  zbd a1 a2 rest1 (n1 + 1) 
  else none
def zcy (a0 : List TWait) (a1 : List TWait) (a2 : TWait -> TWait -> Option Bool) : Option Bool :=
 if ¬ ((a0.length : Int) = (a1.length : Int)) then
 some false
 else
 Option.bind (α := Bool ⊕ Unit) (zbd a1 a2 a0 0 ) fun z => match z with
 | (.inl r) => some r
 | (.inr _) =>
 some true
def zax (a0 : List TWait) (a1 : TWait -> TWait -> Option Int) : Nat -> Int -> (List Int) -> Int -> (List UInt8) -> (List UInt8) -> Int -> Bool -> Int -> Option (Int × (List Int) × Int × (List UInt8) × (List UInt8) × Int × Bool)
 | 0, _, _, _, _, _, _, _, _ => none
 | fu1 + 1, n4, l2, n5, s3, s4, n6, b2, n7 =>
  if n7 < (a0.length : Int) then
  Option.bind (α := Int × (List Int) × Int × (List UInt8) × (List UInt8) × Int × Bool) (if (0 <= n7 /\ n7 < (a0.length : Int)) then
  Option.bind (a1 (a0.getD n7.toNat default) (⟨(⟨n4, l2, n5, s3, s4⟩ : TMessage), n6, b2⟩ : TWait)) fun v1 =>
  if v1 < 0 then
  if (0 <= n7 /\ n7 < (a0.length : Int)) then
  some ((a0.getD n7.toNat default).Message.Id, (a0.getD n7.toNat default).Message.Groups, (a0.getD n7.toNat default).Message.Topic, (a0.getD n7.toNat default).Message.Key, (a0.getD n7.toNat default).Message.Body, (a0.getD n7.toNat default).Time, (a0.getD n7.toNat default).Final)
  else none
  else
  some (n4, l2, n5, s3, s4, n6, b2)
  else none) fun (n8, l3, n9, s5, s6, n10, b3) =>
  zax a0 a1 fu1 n8 l3 n9 s5 s6 n10 b3 (wr .i64 (n7 + 1))
  else
  some (n4, l2, n5, s3, s4, n6, b2)
def zbz (a0 : List TWait) (a1 : TWait -> TWait -> Option Int) : Option TWait :=
 if (a0.length : Int) < 1 then
 none
 else
 if 0 < a0.length then
 Option.bind (α := Int × (List Int) × Int × (List UInt8) × (List UInt8) × Int × Bool) (zax a0 a1 (a0.length + 1) ((a0.getD 0 default).Message.Id) ((a0.getD 0 default).Message.Groups) ((a0.getD 0 default).Message.Topic) ((a0.getD 0 default).Message.Key) ((a0.getD 0 default).Message.Body) ((a0.getD 0 default).Time) ((a0.getD 0 default).Final) 1) fun (n1, l1, n2, s1, s2, n3, b1) =>
 some (⟨(⟨n1, l1, n2, s1, s2⟩ : TMessage), n3, b1⟩ : TWait)
 else none
def zbb (a0 : List TWait) (a1 : TWait -> TWait -> Option Int) : Nat -> Int -> (List Int) -> Int -> (List UInt8) -> (List UInt8) -> Int -> Bool -> Int -> Option (Int × (List Int) × Int × (List UInt8) × (List UInt8) × Int × Bool)
 | 0, _, _, _, _, _, _, _, _ => none
 | fu1 + 1, n4, l2, n5, s3, s4, n6, b2, n7 =>
  if n7 < (a0.length : Int) then
  Option.bind (α := Int × (List Int) × Int × (List UInt8) × (List UInt8) × Int × Bool) (if (0 <= n7 /\ n7 < (a0.length : Int)) then
  Option.bind (a1 (a0.getD n7.toNat default) (⟨(⟨n4, l2, n5, s3, s4⟩ : TMessage), n6, b2⟩ : TWait)) fun v1 =>
  if v1 < 0 then
  if (0 <= n7 /\ n7 < (a0.length : Int)) then
  some ((a0.getD n7.toNat default).Message.Id, (a0.getD n7.toNat default).Message.Groups, (a0.getD n7.toNat default).Message.Topic, (a0.getD n7.toNat default).Message.Key, (a0.getD n7.toNat default).Message.Body, (a0.getD n7.toNat default).Time, (a0.getD n7.toNat default).Final)
  else none
  else
  some (n4, l2, n5, s3, s4, n6, b2)
  else none) fun (n8, l3, n9, s5, s6, n10, b3) =>
  zbb a0 a1 fu1 n8 l3 n9 s5 s6 n10 b3 (wr .i64 (n7 + 1))
  else
  some (n4, l2, n5, s3, s4, n6, b2)
def zck (a0 : List TWait) (a1 : TWait -> TWait -> Option Int) : Option TWait :=
 if (a0.length : Int) < 1 then
 none
 else
 if 0 < a0.length then
 Option.bind (α := Int × (List Int) × Int × (List UInt8) × (List UInt8) × Int × Bool) (zbb a0 a1 (a0.length + 1) ((a0.getD 0 default).Message.Id) ((a0.getD 0 default).Message.Groups) ((a0.getD 0 default).Message.Topic) ((a0.getD 0 default).Message.Key) ((a0.getD 0 default).Message.Body) ((a0.getD 0 default).Time) ((a0.getD 0 default).Final) 1) fun (n1, l1, n2, s1, s2, n3, b1) =>
 some (⟨(⟨n1, l1, n2, s1, s2⟩ : TMessage), n3, b1⟩ : TWait)
 else none
def zd2 (a0 : TWait) (a1 : Int) : Option Int :=
 some (wr .i64 (a0.Message.Id - a1))
def zaq (a0 : List TWait) (a1 : Int) (a2 : TWait -> Int -> Option Int) : Nat -> Int -> Int -> Option (Int)
 | 0, _, _ => none
 | fu1 + 1, n2, n3 =>
  if n2 < n3 then
  if (0 <= (wr .i64 (shw false .u64 (wr .u64 (wr .i64 (n2 + n3))) 1)) /\ (wr .i64 (shw false .u64 (wr .u64 (wr .i64 (n2 + n3))) 1)) < (a0.length : Int)) then
  Option.bind (a2 (a0.getD (wr .i64 (shw false .u64 (wr .u64 (wr .i64 (n2 + n3))) 1)).toNat default) a1) fun v1 =>
  if v1 < 0 then
  zaq a0 a1 a2 fu1 (wr .i64 ((wr .i64 (shw false .u64 (wr .u64 (wr .i64 (n2 + n3))) 1)) + 1)) n3
  else
  zaq a0 a1 a2 fu1 n2 (wr .i64 (shw false .u64 (wr .u64 (wr .i64 (n2 + n3))) 1))
  else none
  else
  some n2
def zc2 (a0 : List TWait) (a1 : Int) (a2 : TWait -> Int -> Option Int) : Option (Int × Bool) :=
 Option.bind (α := Int) (zaq a0 a1 a2 (a0.length + 1) 0 (a0.length : Int)) fun n1 =>
 if (n1 < (a0.length : Int)) -> (0 <= n1 /\ n1 < (a0.length : Int)) then
 Option.bind (if n1 < (a0.length : Int) then a2 (a0.getD n1.toNat default) a1 else some default) fun v2 =>
 some (n1, ((decide (n1 < (a0.length : Int))) && (v2 == 0)))
 else none
def zdr (a0 : Tskeen_clock) (a1 : Int) : Option (Int × Bool) :=
 Option.bind (zc2 a0.Skeen.Waits a1 zd2) fun v1 =>
 some (v1.1, v1.2)
def zaw (a1 : TStamp -> Option Bool) : List TStamp -> Nat -> Option (Int ⊕ Unit)
 | [], n1 =>
  some (.inr ())
 | y1 :: rest1, n1 =>
  Option.bind (a1 (y1)) fun v1 =>
  if v1 = true then
  some (.inl (n1 : Int))
  else
  zaw a1 rest1 (n1 + 1) 
def zd5 (a0 : List TStamp) (a1 : TStamp -> Option Bool) : Option Int :=
 Option.bind (α := Int ⊕ Unit) (zaw a1 a0 0 ) fun z => match z with
 | (.inl r) => some r
 | (.inr _) =>
 some (-1)
def zcl (a0 : List TStamp) (a1 : TStamp -> Option Bool) : Option Bool :=
 Option.bind (zd5 a0 a1) fun v1 =>
 some (decide (v1 >= 0))
def zee (a0 : TStamp) (c0 : Int) : Option Bool :=
 some (a0.Id == c0)
def zf2 (a0 : Tskeen_clock) (a1 : Int) : Option Bool :=
 Option.bind (zcl a0.Skeen.Done (fun x0 => zee x0 a1)) fun v1 =>
 some v1
def ze0 (a0 : List TStamp) : Option ((List TStamp)) :=
 if a0.length * 16 <= 140737488355328 then
 some a0
 else none
def ze9 (a0 : List TWait) : Option ((List TWait)) :=
 if a0.length * 88 <= 140737488355328 then
 some a0
 else none
def zcq (a0 : Tskeen_clock) (a1 : Int) (a2 : Int) : Option Tskeen_clock :=
 Option.bind (zdr a0 a1) fun v1 =>
 if (¬ (¬ (v1.2 = true))) -> (0 <= v1.1 /\ v1.1 < (a0.Skeen.Waits.length : Int)) then
 if (¬ ((¬ (v1.2 = true)) \/ ((a0.Skeen.Waits.getD v1.1.toNat default).Final = true))) -> (0 <= v1.1 /\ v1.1 < (a0.Skeen.Waits.length : Int)) then
 if ((¬ (v1.2 = true)) \/ ((a0.Skeen.Waits.getD v1.1.toNat default).Final = true)) \/ (a2 < (a0.Skeen.Waits.getD v1.1.toNat default).Time) then
 some a0
 else
 if (0 <= v1.1 /\ v1.1 < (a0.Skeen.Waits.length : Int)) then
 if (0 <= v1.1 /\ v1.1 < ((a0.Skeen.Waits.set v1.1.toNat (⟨(a0.Skeen.Waits.getD v1.1.toNat default).Message, a2, (a0.Skeen.Waits.getD v1.1.toNat default).Final⟩ : TWait)).length : Int)) then
 some (⟨(⟨(max a0.Skeen.Clock a2), ((a0.Skeen.Waits.set v1.1.toNat (⟨(a0.Skeen.Waits.getD v1.1.toNat default).Message, a2, (a0.Skeen.Waits.getD v1.1.toNat default).Final⟩ : TWait)).set v1.1.toNat (⟨((a0.Skeen.Waits.set v1.1.toNat (⟨(a0.Skeen.Waits.getD v1.1.toNat default).Message, a2, (a0.Skeen.Waits.getD v1.1.toNat default).Final⟩ : TWait)).getD v1.1.toNat default).Message, ((a0.Skeen.Waits.set v1.1.toNat (⟨(a0.Skeen.Waits.getD v1.1.toNat default).Message, a2, (a0.Skeen.Waits.getD v1.1.toNat default).Final⟩ : TWait)).getD v1.1.toNat default).Time, true⟩ : TWait)), a0.Skeen.Done⟩ : TSkeen)⟩ : Tskeen_clock)
 else none
 else none
 else none
 else none
def zcg (a0 : Tskeen_clock) (a1 : Int) (a2 : TMessage) : Option (Int × Tskeen_clock) :=
 Option.bind (zdr a0 a2.Id) fun v1 =>
 Option.bind (if ¬ (v1.2 = true) then zf2 a0 a2.Id else some default) fun v2 =>
 Option.bind (if ¬ ((v1.2 = true) \/ (v2 = true)) then zda a2.Groups a1 else some default) fun v3 =>
 if ((v1.2 = true) \/ (v2 = true)) \/ (¬ (v3 = true)) then
 some (0, a0)
 else
 if (a0.Skeen.Clock = 1073741824) \/ ((a0.Skeen.Waits.length : Int) = 200) then
 some (9, a0)
 else
 Option.bind (zc8 a2.Groups) fun v4 =>
 if 0 <= v1.1 /\ v1.1 <= (a0.Skeen.Waits.length : Int) then
 if a0.Skeen.Waits.length < 1000000 then
 some (0, (⟨(⟨(wr .i64 (a0.Skeen.Clock + 1)), ((a0.Skeen.Waits.take v1.1.toNat) ++ ((⟨(⟨a2.Id, v4, a2.Topic, a2.Key, a2.Body⟩ : TMessage), (wr .i64 (a0.Skeen.Clock + 1)), false⟩ : TWait) :: (a0.Skeen.Waits.drop v1.1.toNat))), a0.Skeen.Done⟩ : TSkeen)⟩ : Tskeen_clock))
 else none
 else none
def zd7 (v1 : (List TWait)) : Nat -> (List TWait) -> Int -> Option ((List TWait))
 | 0, _, _ => none
 | fu1 + 1, l2, n1 =>
  if n1 < (v1.length : Int) then
  if (0 <= n1 /\ n1 < (l2.length : Int)) then
  Option.bind (zc8 ((l2.getD n1.toNat default).Message.Groups)) fun v3 =>
  if l2.length < 1000000 then
  zd7 v1 fu1 (l2.set n1.toNat (⟨(⟨(l2.getD n1.toNat default).Message.Id, v3, (l2.getD n1.toNat default).Message.Topic, (l2.getD n1.toNat default).Message.Key, (l2.getD n1.toNat default).Message.Body⟩ : TMessage), (l2.getD n1.toNat default).Time, (l2.getD n1.toNat default).Final⟩ : TWait)) (wr .i64 (n1 + 1))
  else none
  else none
  else
  if l2.length <= n1.toNat then
  some l2
  else none
def zdu (a0 : TSkeen) : Option TSkeen :=
 Option.bind (ze9 a0.Waits) fun v1 =>
 Option.bind (ze0 a0.Done) fun v2 =>
 Option.bind (α := (List TWait)) (zd7 v1 (a0.Waits.length + 1) v1 0) fun l1 =>
 some (⟨a0.Clock, l1, v2⟩ : TSkeen)
def zi7 : Option TSkeen :=
 some (⟨0, [], []⟩ : TSkeen)
def zig (a0 : TWait) (a1 : TWait) : Option Bool :=
 Option.bind (zdh a0.Message a1.Message) fun v1 =>
 some ((v1 && (a0.Time == a1.Time)) && (a0.Final == a1.Final))
def zmb (a0 : TSkeen) (a1 : TSkeen) : Option Bool :=
 Option.bind (if a0.Clock = a1.Clock then zet a0.Done a1.Done else some default) fun v1 =>
 Option.bind (if (a0.Clock = a1.Clock) /\ (v1 = true) then zcy a0.Waits a1.Waits zig else some default) fun v2 =>
 some (((a0.Clock == a1.Clock) && v1) && v2)
def zfo (a0 : TStamp) (a1 : TStamp) : Option Bool :=
 Option.bind (zel a0.Time a1.Time) fun v1 =>
 Option.bind (zel a0.Id a1.Id) fun v2 =>
 Option.bind (zio [v1, v2]) fun v3 =>
 some (decide (v3 < 0))
def zfj (a0 : TCommand) : Option (TCommand × Bool) :=
 Option.bind (zgi a0.Id) fun v1 =>
 Option.bind (if v1 = true then zd8 a0.Topic 0 3 else some default) fun v2 =>
 Option.bind (if (v1 = true) /\ (v2 = true) then zd8 a0.N 0 1073741824 else some default) fun v3 =>
 Option.bind (α := Bool ⊕ ((TCommand × Bool) ⊕ (Int × Bool))) (if a0.Kind = 0 then
 some (.inr (.inl ((⟨a0.Kind, (⟨0, [], 0, [], []⟩ : TMessage), 0, 0, [], 0, 0, 0⟩ : TCommand), true)))
 else
 if a0.Kind = 1 then
 Option.bind (zbj a0.Message) fun v4 =>
 some (.inr (.inl ((⟨a0.Kind, a0.Message, 0, 0, [], 0, 0, 0⟩ : TCommand), (v4 == 0))))
 else
 if a0.Kind = 2 then
 Option.bind (zgi a0.Id) fun v5 =>
 Option.bind (if v5 = true then zd8 a0.Time 1 1073741824 else some default) fun v6 =>
 some (.inr (.inl ((⟨a0.Kind, (⟨0, [], 0, [], []⟩ : TMessage), a0.Id, a0.Time, [], 0, 0, 0⟩ : TCommand), (v5 && v6))))
 else
 if a0.Kind = 3 then
 Option.bind (zgz a0.Members) fun v7 =>
 some (.inr (.inl ((⟨a0.Kind, (⟨0, [], 0, [], []⟩ : TMessage), 0, 0, a0.Members, 0, 0, 0⟩ : TCommand), (v7 == 0))))
 else
 if a0.Kind = 4 then
 Option.bind (if ((v1 = true) /\ (v2 = true)) /\ (v3 = true) then zd8 a0.Who 0 7 else some default) fun v8 =>
 some (.inr (.inr (a0.Who, (((v1 && v2) && v3) && v8))))
 else
 Option.bind (α := Bool) (if a0.Kind = 5 then
 some (a0.Kind == 5)
 else
 some (a0.Kind == 6)) fun b3 =>
 if b3 = true then
 some (.inr (.inr (0, ((v1 && v2) && v3))))
 else
 some (.inl b3)) fun z => match z with
 | (.inl b2) => some ((⟨a0.Kind, (⟨0, [], 0, [], []⟩ : TMessage), 0, 0, [], 0, 0, 0⟩ : TCommand), false)
 | (.inr (.inl r)) => some r
 | (.inr (.inr (n1, b1))) =>
 some ((⟨a0.Kind, (⟨0, [], 0, [], []⟩ : TMessage), a0.Id, 0, [], a0.Topic, n1, a0.N⟩ : TCommand), b1)
def zb6 (a0 : TCommand) : Option Int :=
 Option.bind (zfj a0) fun v1 =>
 Option.bind (if ¬ (¬ (v1.2 = true)) then zh1 v1.1 a0 else some default) fun v2 =>
 if (¬ (v1.2 = true)) \/ (¬ (v2 = true)) then
 some 120
 else
 some 0
def zdq (a0 : TWait) (a1 : TWait) : Option Int :=
 Option.bind (zff a0) fun v1 =>
 Option.bind (zff a1) fun v2 =>
 Option.bind (zfo v1 v2) fun v3 =>
 if v3 = true then
 some (-1)
 else
 Option.bind (zff a1) fun v4 =>
 Option.bind (zff a0) fun v5 =>
 Option.bind (zfo v4 v5) fun v6 =>
 if v6 = true then
 some 1
 else
 some 0
def zb5 (a0 : Tskeen_clock) : Nat -> (List TWait) -> (List TStamp) -> (List TMessage) -> Option ((List TWait) × (List TStamp) × (List TMessage))
 | 0, _, _, _ => none
 | fu1 + 1, l4, l5, l6 =>
  if (l4.length : Int) > 0 then
  Option.bind (zck l4 zdq) fun v1 =>
  if ¬ (v1.Final = true) then
  some (l4, l5, l6)
  else
  Option.bind (zdr (⟨(⟨a0.Skeen.Clock, l4, l5⟩ : TSkeen)⟩ : Tskeen_clock) v1.Message.Id) fun v2 =>
  if 0 <= v2.1 /\ v2.1 < (l4.length : Int) then
  if l4.length < 1000000 then
  Option.bind (zff v1) fun v3 =>
  if l5.length + [v3].length < 1000000 then
  if l6.length + [v1.Message].length < 1000000 then
  zb5 a0 fu1 (l4.eraseIdx v2.1.toNat) (l5 ++ [v3]) (l6 ++ [v1.Message])
  else none
  else none
  else none
  else none
  else
  some (l4, l5, l6)
def zcr (a0 : Tskeen_clock) : Option ((List TMessage) × Tskeen_clock) :=
 Option.bind (α := (List TWait) × (List TStamp) × (List TMessage)) (zb5 a0 (a0.Skeen.Waits.length + 1) a0.Skeen.Waits a0.Skeen.Done []) fun (l1, l2, l3) =>
 some (l3, (⟨(⟨a0.Skeen.Clock, l1, l2⟩ : TSkeen)⟩ : Tskeen_clock))
def zbq (a0 : TSkeen) : List TStamp -> Nat -> (List (Int × Int)) -> Int -> Int -> Option (Int ⊕ ((List (Int × Int)) × Int × Int))
 | [], n5, m2, n3, n4 =>
  some (.inr (m2, n3, n4))
 | y1 :: rest1, n5, m2, n3, n4 =>
  Option.bind (zhj (y1)) fun v1 =>
  Option.bind (if (¬ (((¬ (v1 = 0)) \/ (y1.Time < 1)) \/ (y1.Time > a0.Clock))) /\ ((n5 : Int) > 0) then zfo (⟨n3, n4⟩ : TStamp) (y1) else some default) fun v2 =>
  if ((((¬ (v1 = 0)) \/ (y1.Time < 1)) \/ (y1.Time > a0.Clock)) \/ (((n5 : Int) > 0) /\ (¬ (v2 = true)))) \/ (((mget (y1.Id) m2).getD 0) > 0) then
  some (.inl 8)
  else
  zbq a0 rest1 (n5 + 1) (mput (y1.Id) 1 m2) (y1.Time) (y1.Id)
def zbp (a0 : TSkeen) (m1 : List (Int × Int)) (n1 : Int) (n2 : Int) : List TWait -> Nat -> Option (Int ⊕ Unit)
 | [], n6 =>
  some (.inr ())
 | y2 :: rest2, n6 =>
  Option.bind (zbj (y2.Message)) fun v3 =>
  Option.bind (if (¬ (((((¬ (v3 = 0)) \/ (y2.Time < 1)) \/ (y2.Time > a0.Clock)) \/ (((n6 : Int) > 0) /\ (y2.Message.Id <= (a0.Waits.getD (n6 - 1) default).Message.Id))) \/ (((mget (y2.Message.Id) m1).getD 0) > 0))) /\ ((a0.Done.length : Int) > 0) then zff (y2) else some default) fun v4 =>
  Option.bind (if (¬ (((((¬ (v3 = 0)) \/ (y2.Time < 1)) \/ (y2.Time > a0.Clock)) \/ (((n6 : Int) > 0) /\ (y2.Message.Id <= (a0.Waits.getD (n6 - 1) default).Message.Id))) \/ (((mget (y2.Message.Id) m1).getD 0) > 0))) /\ ((a0.Done.length : Int) > 0) then zfo (⟨n1, n2⟩ : TStamp) v4 else some default) fun v5 =>
  if (((((¬ (v3 = 0)) \/ (y2.Time < 1)) \/ (y2.Time > a0.Clock)) \/ (((n6 : Int) > 0) /\ (y2.Message.Id <= (a0.Waits.getD (n6 - 1) default).Message.Id))) \/ (((mget (y2.Message.Id) m1).getD 0) > 0)) \/ (((a0.Done.length : Int) > 0) /\ (¬ (v5 = true))) then
  some (.inl 8)
  else
  zbp a0 m1 n1 n2 rest2 (n6 + 1) 
def zft (a0 : TSkeen) : Option Int :=
 if (((a0.Clock < 0) \/ (a0.Clock > 1073741824)) \/ ((a0.Waits.length : Int) > 200)) \/ ((a0.Done.length : Int) > 200) then
 some 8
 else
 Option.bind (α := Int ⊕ ((List (Int × Int)) × Int × Int)) (zbq a0 a0.Done 0 [] 0 0) fun z => match z with
 | (.inl r) => some r
 | (.inr (m1, n1, n2)) =>
 Option.bind (α := Int ⊕ Unit) (zbp a0 m1 n1 n2 a0.Waits 0 ) fun z => match z with
 | (.inl r) => some r
 | (.inr _) =>
 Option.bind (if (a0.Waits.length : Int) > 0 then zbz a0.Waits zdq else some default) fun v6 =>
 if ((a0.Waits.length : Int) > 0) /\ (v6.Final = true) then
 some 8
 else
 some 0
def zcc (a0 : TSkeen) (a1 : Int) (a2 : TCommand) : Option (TSkeen × (List TMessage) × Int) :=
 Option.bind (zft a0) fun v1 =>
 if ¬ (v1 = 0) then
 some ((⟨0, [], []⟩ : TSkeen), [], v1)
 else
 if (a1 < 0) \/ (a1 >= 4) then
 some ((⟨0, [], []⟩ : TSkeen), [], 2)
 else
 Option.bind (zb6 a2) fun v2 =>
 if ¬ (v2 = 0) then
 some ((⟨0, [], []⟩ : TSkeen), [], v2)
 else
 Option.bind (zdu a0) fun v3 =>
 Option.bind (α := (TSkeen × (List TMessage) × Int) ⊕ (Int × (List TWait) × (List TStamp))) (if a2.Kind = 1 then
 Option.bind (zcg (⟨v3⟩ : Tskeen_clock) a1 a2.Message) fun v4 =>
 if ¬ (v4.1 = 0) then
 some (.inl ((⟨0, [], []⟩ : TSkeen), [], v4.1))
 else
 some (.inr (v4.2.Skeen.Clock, v4.2.Skeen.Waits, v4.2.Skeen.Done))
 else
 if a2.Kind = 2 then
 Option.bind (zcq (⟨v3⟩ : Tskeen_clock) a2.Id a2.Time) fun v5 =>
 some (.inr (v5.Skeen.Clock, v5.Skeen.Waits, v5.Skeen.Done))
 else
 some (.inr (v3.Clock, v3.Waits, v3.Done))) fun z => match z with
 | (.inl r) => some r
 | (.inr (n1, l1, l2)) =>
 Option.bind (zcr (⟨(⟨n1, l1, l2⟩ : TSkeen)⟩ : Tskeen_clock)) fun v6 =>
 if (v6.2.Skeen.Done.length : Int) > 200 then
 some ((⟨0, [], []⟩ : TSkeen), [], 9)
 else
 some (v6.2.Skeen, v6.1, 0)
end Go.Proofs
