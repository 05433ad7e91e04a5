/- Texts of the proof. -/
import Derived.Test.YtbbinddkhlmlcaaGreatDecreeRunsPg
import Derived.Test.YtbbinddkhlmlcaaGreatDecreeRunsPh
import Derived.Test.YtbbinddkhlmlcaaGreatDecreeRunsPi
import Derived.Test.YtbbinddkhlmlcaaGreatDecreeRunsPj
import Derived.Test.YtbbinddkhlmlcaaGreatDecreeRunsPk
import Derived.Test.YtbbinddkhlmlcaaGreatDecreeRunsPm
import Derived.Test.YtbbinddkhlmlcaaGreatDecreeRunsPl
import Derived.Test.YtbbinddkhlmlcaaGreatDecreeRunsPe
section
namespace Go.Proofs
open Go.Tm Go.RowKit Go.WideShapes
set_option maxRecDepth 100000
set_option maxHeartbeats 4000000
set_option linter.unusedSimpArgs false
set_option linter.unusedVariables false
theorem twin9_mail {a v : TWorld} (h : m_r09_Twin a = some v) : v.Mail = a.Mail := by
 unfold m_r09_Twin at h
 obtain ⟨_, h⟩ := zaa h
 obtain ⟨_, h⟩ := zaa h
 obtain ⟨_, h⟩ := zaa h
 obtain ⟨_, h⟩ := zaa h
 obtain ⟨l1, _, h⟩ := bind_some h
 cases h; rfl
@[go_sem] def Tryz.St_r09_Do_1 (l1 : List Int) (l2 : List TVote) (l3 : List TAttempt) (l4 : List TMail) (l5 : List TChoice) : St := ⟨[(4, .ptr 2 0), (6, .ptr 24 0)], [(2, .box [.imm 0 [] 0, .imm 0 [] 0, .imm 0 [] 0, .imm 0 [] 0, .imm 0 [] 0]), (24, .box [.ref 25 1 0 l1.length (some uC), .ref 26 3 0 l2.length (some uC), .ref 27 7 0 l3.length (some uC), .ref 28 10 0 l4.length (some uC), .ref 29 2 0 l5.length (some uC)]), (25, .arr 3 1 true (l1.map (D.int .i64))), (26, .arr 59 3 true (l2.map TVote.d)), (27, .arr 57 7 true (l3.map TAttempt.n)), (28, .arr 51 10 true (l4.map TMail.d)), (29, .arr 53 2 true (l5.map TChoice.d))], 30⟩
@[go_sem] def Tryz.St_r09_Do_3 (a0 : TWorld) (a1 : TMove) (v2 : TWorld) (l6 : List TMail) : St := ⟨[(2, .ptr 0 0), (3, .ptr 1 0), (4, .ptr 2 0), (6, .ptr 24 0)], [(0, .box [.imm 1 (a0.Members.map (D.int .i64)) 4, .imm 3 (a0.Votes.map TVote.d) 4, .imm 7 (a0.Tries.map TAttempt.d) 4, .imm 10 (a0.Mail.map TMail.d) 4, .imm 2 (a0.Chosen.map TChoice.d) 4]), (1, .box [.int .u8 a1.Kind, .int .i64 a1.Node, .int .i64 a1.At, .str a1.Value]), (2, .box [.imm 0 [] 0, .imm 0 [] 0, .imm 0 [] 0, .imm 0 [] 0, .imm 0 [] 0]), (12, .arr 3 1 true (v2.Members.map (D.int .i64))), (13, .arr 59 3 true (v2.Votes.map TVote.d)), (14, .arr 57 7 true (v2.Tries.map TAttempt.n)), (16, .arr 53 2 true (v2.Chosen.map TChoice.d)), (24, .box [.ref 12 1 0 v2.Members.length (some uC), .ref 13 3 0 v2.Votes.length (some uC), .ref 14 7 0 v2.Tries.length (some uC), .ref 25 10 0 l6.length (some uC), .ref 16 2 0 v2.Chosen.length (some uC)]), (25, .arr 51 10 true (l6.map TMail.d))], 26⟩
@[go_sem] def Tryz.Re_r09_Do (r : TWorld × Int) : St := ⟨[(4, .ptr 5 0), (5, .int .i64 r.2)], [(0, .arr 3 1 true (r.1.Members.map (D.int .i64))), (1, .arr 59 3 true (r.1.Votes.map TVote.d)), (2, .arr 57 7 true (r.1.Tries.map TAttempt.n)), (3, .arr 51 10 true (r.1.Mail.map TMail.d)), (4, .arr 53 2 true (r.1.Chosen.map TChoice.d)), (5, .box [.ref 0 1 0 r.1.Members.length (some uC), .ref 1 3 0 r.1.Votes.length (some uC), .ref 2 7 0 r.1.Tries.length (some uC), .ref 3 10 0 r.1.Mail.length (some uC), .ref 4 2 0 r.1.Chosen.length (some uC)])], 6⟩
theorem callH_r09_Do (a0 : TWorld) (a1 : TMove) (r : TWorld × Int) (h : m_r09_Do a0 a1 = some r) : CallH Tryz.prog 8 [.agg [.imm 1 (a0.Members.map (D.int .i64)) 4, .imm 3 (a0.Votes.map TVote.d) 4, .imm 7 (a0.Tries.map TAttempt.d) 4, .imm 10 (a0.Mail.map TMail.d) 4, .imm 2 (a0.Chosen.map TChoice.d) 4], .agg [.int .u8 a1.Kind, .int .i64 a1.Node, .int .i64 a1.At, .str a1.Value]] [] (.tuple [.agg [.ref 0 1 0 r.1.Members.length (some uC), .ref 1 3 0 r.1.Votes.length (some uC), .ref 2 7 0 r.1.Tries.length (some uC), .ref 3 10 0 r.1.Mail.length (some uC), .ref 4 2 0 r.1.Chosen.length (some uC)], .int .i64 r.2]) [(0, some (.arr 3 1 true (r.1.Members.map (D.int .i64)))), (1, some (.arr 59 3 true (r.1.Votes.map TVote.d))), (2, some (.arr 57 7 true (r.1.Tries.map TAttempt.n))), (3, some (.arr 51 10 true (r.1.Mail.map TMail.d))), (4, some (.arr 53 2 true (r.1.Chosen.map TChoice.d)))] (0, 84) := by
 refine za8 Tryz.tmOk Tryz.func8 rfl (by decide) (lb rfl) (by simp) ?_
 intro hwf
 unfold m_r09_Do at h
 refine .ends 0 (Nat.le_refl _) ?_
 refine .seq (.pl zS [0, 1] ?_)
 refine .seq (.seq ?_)
 obtain ⟨v1, hv1, h⟩ := bind_some h
 refine .rg zS [2, 3, 4] ?_
 refine .rn 1 ?_
 refine .call (r := .bool v1) rfl rfl rfl rfl rfl rfl (callP_r09_May a0 v1 hv1) ?_
 refine .rn 1 ?_
 refine .nil ⟨nofun, ?_⟩
 refine .cond rfl rfl (fun hc1 => ?_) (fun hc1 => ?_)
 ·replace h := za0 h hc1
  refine .seq (.pl zS [4] ?_)
  have hq := sj h
  subst r
  refine .ret ⟨Tryz.Re_r09_Do ((⟨[], [], [], [], []⟩ : TWorld), 8), ?_, .inr rfl, retH [4, 3, 2, 1, 0] ?_ ?_⟩
  ·refine Goes.new0 1 3 (lb rfl) ?_
   refine Goes.new0 3 59 (lb rfl) ?_
   refine Goes.new0 7 57 (lb rfl) ?_
   refine Goes.new0 10 51 (lb rfl) ?_
   refine Goes.new0 2 53 (lb rfl) ?_
   refine Goes.boxs 2 _ [.ref 3 1 0 0 (some uC), .ref 4 3 0 0 (some uC), .ref 5 7 0 0 (some uC), .ref 6 10 0 0 (some uC), .ref 7 2 0 0 (some uC)] rfl (.cons (.own0 3 _ _ _ (by decide)) (.cons (.own0 4 _ _ _ (by decide)) (.cons (.own0 5 _ _ _ (by decide)) (.cons (.own0 6 _ _ _ (by decide)) (.cons (.own0 7 _ _ _ (by decide)) (.refl _)))))) ?_
   exact .m [4, 5] [3, 4, 5, 6, 7, 2] [(3, 0), (4, 1), (5, 2), (6, 3), (7, 4), (2, 5)]
  ·exact rsi0
  rfl
 replace h := za3 h hc1
 refine .skip ?_
 refine .seq (.seq ?_)
 refine .pl zS [2, 3, 4] ?_
 refine .cond rfl rfl (fun hc2 => ?_) (fun hc2 => ?_)
 ·replace h := za0 h hc2
  refine .seq (.pl zS [4] ?_)
  have hq := sj h
  subst r
  refine .ret ⟨Tryz.Re_r09_Do ((⟨[], [], [], [], []⟩ : TWorld), 2), ?_, .inr rfl, retH [4, 3, 2, 1, 0] ?_ ?_⟩
  ·refine Goes.new0 1 3 (lb rfl) ?_
   refine Goes.new0 3 59 (lb rfl) ?_
   refine Goes.new0 7 57 (lb rfl) ?_
   refine Goes.new0 10 51 (lb rfl) ?_
   refine Goes.new0 2 53 (lb rfl) ?_
   refine Goes.boxs 2 _ [.ref 3 1 0 0 (some uC), .ref 4 3 0 0 (some uC), .ref 5 7 0 0 (some uC), .ref 6 10 0 0 (some uC), .ref 7 2 0 0 (some uC)] rfl (.cons (.own0 3 _ _ _ (by decide)) (.cons (.own0 4 _ _ _ (by decide)) (.cons (.own0 5 _ _ _ (by decide)) (.cons (.own0 6 _ _ _ (by decide)) (.cons (.own0 7 _ _ _ (by decide)) (.refl _)))))) ?_
   exact .m [4, 5] [3, 4, 5, 6, 7, 2] [(3, 0), (4, 1), (5, 2), (6, 3), (7, 4), (2, 5)]
  ·exact rsi0
  rfl
 replace h := za3 h hc2
 refine .skip ?_
 refine .seq ?_
 obtain ⟨v2, hv2, h⟩ := bind_some h
 refine .rg zS [2, 3, 4] ?_
 refine .rn 1 ?_
 refine .ncall (r := .agg [.ref 12 1 0 v2.Members.length (some uC), .ref 13 3 0 v2.Votes.length (some uC), .ref 14 7 0 v2.Tries.length (some uC), .ref 15 10 0 v2.Mail.length (some uC), .ref 16 2 0 v2.Chosen.length (some uC)]) (eff := [(12, some (.arr 3 1 true (v2.Members.map (D.int .i64)))), (13, some (.arr 59 3 true (v2.Votes.map TVote.d))), (14, some (.arr 57 7 true (v2.Tries.map TAttempt.n))), (15, some (.arr 51 10 true (v2.Mail.map TMail.d))), (16, some (.arr 53 2 true (v2.Chosen.map TChoice.d)))]) (nw := (12, 24)) [] rfl rfl rfl rfl rfl (za2 rfl zad) rfl (zbw 12 (lb rfl) (callH_r09_Twin a0 v2 hv2)) (zab rfl rfl (zag zar _ _ _) (zab rfl rfl (zag pl0_TVote _ _ _) (zab rfl rfl (newB_arrN zc5 _ _ _) (zab rfl rfl (zag pl0_TMail _ _ _) (zab rfl rfl (zag pl0_TChoice _ _ _) zbx))))) (by intro i hi; simp [D.ids, D.idsL] at hi <;> omega) rfl ⟨Nat.le_of_ble_eq_true rfl, Nat.le_of_ble_eq_true rfl⟩ ?_
 refine .rn 2 ?_
 refine .nil ⟨nofun, ?_⟩
 obtain ⟨x1, hx1, h⟩ := bind_some h
 refine .seqM 25 (fun (j : (List Int) × (List TVote) × (List TAttempt) × (List TMail) × (List TChoice)) => Tryz.St_r09_Do_1 j.1 j.2.1 j.2.2.1 j.2.2.2.1 j.2.2.2.2) (fun j => x1 = (.inr j)) (lb rfl) ?_ ?_
 ·refine .seq (.pl zS [2, 3, 4, 6] ?_)
  refine .cond rfl rfl (fun hc3 => ?_) (fun hc3 => ?_)
  ·replace hx1 := za0 hx1 hc3
   refine .seq (.seq ?_)
   obtain ⟨v3, hv3, hx1⟩ := bind_some hx1
   refine .rg zS [3, 4, 6] ?_
   refine .rn 2 ?_
   refine .call (r := .bool v3) rfl rfl rfl rfl rfl rfl (callP_r05_Node a1.Node v3 hv3) ?_
   refine .rn 1 ?_
   refine .nil ⟨nofun, ?_⟩
   refine .cond rfl rfl (fun hc4 => ?_) (fun hc4 => ?_)
   ·replace hx1 := za0 hx1 hc4
    refine .seq (.pl zS [4] ?_)
    have hq := sj hx1
    subst x1
    try dsimp only at h
    have hq := sj h
    subst r
    refine .ret ⟨Tryz.Re_r09_Do ((⟨[], [], [], [], []⟩ : TWorld), 2), ?_, .inr rfl, retH [4, 3, 2, 1, 0] ?_ ?_⟩
    ·refine Goes.new0 1 3 (lb rfl) ?_
     refine Goes.new0 3 59 (lb rfl) ?_
     refine Goes.new0 7 57 (lb rfl) ?_
     refine Goes.new0 10 51 (lb rfl) ?_
     refine Goes.new0 2 53 (lb rfl) ?_
     refine Goes.boxs 2 _ [.ref 25 1 0 0 (some uC), .ref 26 3 0 0 (some uC), .ref 27 7 0 0 (some uC), .ref 28 10 0 0 (some uC), .ref 29 2 0 0 (some uC)] rfl (.cons (.own0 25 _ _ _ (by decide)) (.cons (.own0 26 _ _ _ (by decide)) (.cons (.own0 27 _ _ _ (by decide)) (.cons (.own0 28 _ _ _ (by decide)) (.cons (.own0 29 _ _ _ (by decide)) (.refl _)))))) ?_
     exact .m [4, 5] [25, 26, 27, 28, 29, 2] [(25, 0), (26, 1), (27, 2), (28, 3), (29, 4), (2, 5)]
    ·exact rsi0
    rfl
   replace hx1 := za3 hx1 hc4
   refine .skip ?_
   refine .seq (.seq ?_)
   refine .pl zS [3, 4, 6] ?_
   refine .cond rfl rfl (fun hc5 => ?_) (fun hc5 => ?_)
   ·replace hx1 := za0 hx1 hc5
    refine .seq ?_
    obtain ⟨k1, hx1⟩ := zaa hx1
    have e1 := zaj TAttempt.n v2.Tries a1.Node
    replace e1 := e1 k1
    refine .plx zS e1 [3, 4, 6] ?_
    refine .arr 14 (setN (v2.Tries.map TAttempt.n) a1.Node.toNat (.agg [.int .u8 0, .int .i64 0, .imm 0 [] 0, .str [], .str [], .imm 0 [] 0, .imm 0 [] 0])) ((v2.Tries.set a1.Node.toNat (⟨0, 0, [], [], [], [], []⟩ : TAttempt)).map TAttempt.n) rfl (.set _ _ _ (.agg (.cons (.refl _) (.cons (.refl _) (.cons (.nil12 _ _ _) (.cons (.refl _) (.cons (.refl _) (.cons (.nil12 _ _ _) (.cons (.nil12 _ _ _) WkNs.nil))))))))) ?_
    refine .seq (.pl zS [4, 6] ?_)
    have hq := sj hx1
    subst x1
    try dsimp only at h
    have hq := sj h
    subst r
    refine .ret ⟨Tryz.Re_r09_Do ((⟨v2.Members, v2.Votes, (v2.Tries.set a1.Node.toNat (⟨0, 0, [], [], [], [], []⟩ : TAttempt)), v2.Mail, v2.Chosen⟩ : TWorld), 0), ?_, .inr rfl, retH [4, 3, 2, 1, 0] ?_ ?_⟩
    ·exact .m [4, 5] [12, 13, 14, 15, 16, 2] [(12, 0), (13, 1), (14, 2), (15, 3), (16, 4), (2, 5)]
    ·exact rsi0
    rfl
   replace hx1 := za3 hx1 hc5
   refine .skip ?_
   refine .seq (.seq ?_)
   refine .pl zS [3, 4, 6] ?_
   refine .cond rfl rfl (fun hc6 => ?_) (fun hc6 => ?_)
   ·replace hx1 := za0 hx1 hc6
    refine .seq (.pl zS [4] ?_)
    have hq := sj hx1
    subst x1
    try dsimp only at h
    have hq := sj h
    subst r
    refine .ret ⟨Tryz.Re_r09_Do ((⟨[], [], [], [], []⟩ : TWorld), 3), ?_, .inr rfl, retH [4, 3, 2, 1, 0] ?_ ?_⟩
    ·refine Goes.new0 1 3 (lb rfl) ?_
     refine Goes.new0 3 59 (lb rfl) ?_
     refine Goes.new0 7 57 (lb rfl) ?_
     refine Goes.new0 10 51 (lb rfl) ?_
     refine Goes.new0 2 53 (lb rfl) ?_
     refine Goes.boxs 2 _ [.ref 25 1 0 0 (some uC), .ref 26 3 0 0 (some uC), .ref 27 7 0 0 (some uC), .ref 28 10 0 0 (some uC), .ref 29 2 0 0 (some uC)] rfl (.cons (.own0 25 _ _ _ (by decide)) (.cons (.own0 26 _ _ _ (by decide)) (.cons (.own0 27 _ _ _ (by decide)) (.cons (.own0 28 _ _ _ (by decide)) (.cons (.own0 29 _ _ _ (by decide)) (.refl _)))))) ?_
     exact .m [4, 5] [25, 26, 27, 28, 29, 2] [(25, 0), (26, 1), (27, 2), (28, 3), (29, 4), (2, 5)]
    ·exact rsi0
    rfl
   replace hx1 := za3 hx1 hc6
   refine .skip ?_
   refine .seq ?_
   obtain ⟨v4, hv4, hx1⟩ := bind_some hx1
   refine .rg zS [3, 4, 6] ?_
   refine .rn 4 ?_
   refine .hcall (H := [(24, .box [.ref 12 1 0 v2.Members.length (some uC), .ref 13 3 0 v2.Votes.length (some uC), .ref 14 7 0 v2.Tries.length (some uC), .ref 15 10 0 v2.Mail.length (some uC), .ref 16 2 0 v2.Chosen.length (some uC)]), (12, .arr 3 1 true (v2.Members.map (D.int .i64))), (13, .arr 59 3 true (v2.Votes.map TVote.d)), (14, .arr 57 7 true (v2.Tries.map TAttempt.n)), (15, .arr 51 10 true (v2.Mail.map TMail.d)), (16, .arr 53 2 true (v2.Chosen.map TChoice.d))]) (eff := [(24, some (.box [.ref 25 1 0 v4.2.Members.length (some uC), .ref 26 3 0 v4.2.Votes.length (some uC), .ref 27 7 0 v4.2.Tries.length (some uC), .ref 28 10 0 v4.2.Mail.length (some uC), .ref 29 2 0 v4.2.Chosen.length (some uC)])), (12, none), (13, none), (14, none), (15, none), (16, none), (25, some (.arr 3 1 true (v4.2.Members.map (D.int .i64)))), (26, some (.arr 59 3 true (v4.2.Votes.map TVote.d))), (27, some (.arr 57 7 true (v4.2.Tries.map TAttempt.n))), (28, some (.arr 51 10 true (v4.2.Mail.map TMail.d))), (29, some (.arr 53 2 true (v4.2.Chosen.map TChoice.d)))]) (nw := (25, 77)) (r := .int .i64 v4.1) rfl rfl rfl rfl rfl (callH_bsw 25 (za4 20005 16 (za4 20004 15 (za4 20003 14 (za4 20002 13 (za4 20001 12 (za4 20000 24 (callH_r09_begins v2 a1.Node a1.Value v4 hv4)))))))) (fun id b h => zbb [24, 12, 13, 14, 15, 16] _ id b h) (by simp) (.inr ⟨Nat.le_of_ble_eq_true rfl, Nat.le_of_ble_eq_true rfl⟩) ?_
   refine .rn 1 ?_
   refine .nil ⟨nofun, ?_⟩
   refine .seq (.pl zS [4, 6, 7] ?_)
   refine .cond rfl rfl (fun hc7 => ?_) (fun hc7 => ?_)
   ·replace hx1 := za0 hx1 hc7
    refine .seq (.pl zS [4, 7] ?_)
    have hq := sj hx1
    subst x1
    try dsimp only at h
    have hq := sj h
    subst r
    refine .ret ⟨Tryz.Re_r09_Do ((⟨[], [], [], [], []⟩ : TWorld), v4.1), ?_, .inr rfl, retH [4, 3, 2, 1, 0] ?_ ?_⟩
    ·refine Goes.new0 1 3 (lb rfl) ?_
     refine Goes.new0 3 59 (lb rfl) ?_
     refine Goes.new0 7 57 (lb rfl) ?_
     refine Goes.new0 10 51 (lb rfl) ?_
     refine Goes.new0 2 53 (lb rfl) ?_
     refine Goes.boxs 2 _ [.ref 77 1 0 0 (some uC), .ref 78 3 0 0 (some uC), .ref 79 7 0 0 (some uC), .ref 80 10 0 0 (some uC), .ref 81 2 0 0 (some uC)] rfl (.cons (.own0 77 _ _ _ (by decide)) (.cons (.own0 78 _ _ _ (by decide)) (.cons (.own0 79 _ _ _ (by decide)) (.cons (.own0 80 _ _ _ (by decide)) (.cons (.own0 81 _ _ _ (by decide)) (.refl _)))))) ?_
     exact .m [4, 5] [77, 78, 79, 80, 81, 2] [(77, 0), (78, 1), (79, 2), (80, 3), (81, 4), (2, 5)]
    ·exact rsi0
    rfl
   replace hx1 := za3 hx1 hc7
   refine .skip ?_
   refine ⟨_, ?_, (sj hx1).symm⟩
   exact .m [4, 6] [2, 24, 25, 26, 27, 28, 29] []
  replace hx1 := za3 hx1 hc3
  refine .seq (.seq ?_)
  refine .rg zS [2, 3, 4, 6] ?_
  refine .rn 6 ?_
  refine .rn 5 ?_
  refine .nil ⟨nofun, ?_⟩
  refine .cond rfl rfl (fun hc8 => ?_) (fun hc8 => ?_)
  ·replace hx1 := za0 hx1 hc8
   refine .seq (.pl zS [4] ?_)
   have hq := sj hx1
   subst x1
   try dsimp only at h
   have hq := sj h
   subst r
   refine .ret ⟨Tryz.Re_r09_Do ((⟨[], [], [], [], []⟩ : TWorld), 6), ?_, .inr rfl, retH [4, 3, 2, 1, 0] ?_ ?_⟩
   ·refine Goes.new0 1 3 (lb rfl) ?_
    refine Goes.new0 3 59 (lb rfl) ?_
    refine Goes.new0 7 57 (lb rfl) ?_
    refine Goes.new0 10 51 (lb rfl) ?_
    refine Goes.new0 2 53 (lb rfl) ?_
    refine Goes.boxs 2 _ [.ref 25 1 0 0 (some uC), .ref 26 3 0 0 (some uC), .ref 27 7 0 0 (some uC), .ref 28 10 0 0 (some uC), .ref 29 2 0 0 (some uC)] rfl (.cons (.own0 25 _ _ _ (by decide)) (.cons (.own0 26 _ _ _ (by decide)) (.cons (.own0 27 _ _ _ (by decide)) (.cons (.own0 28 _ _ _ (by decide)) (.cons (.own0 29 _ _ _ (by decide)) (.refl _)))))) ?_
    exact .m [4, 5] [25, 26, 27, 28, 29, 2] [(25, 0), (26, 1), (27, 2), (28, 3), (29, 4), (2, 5)]
   ·exact rsi0
   rfl
  replace hx1 := za3 hx1 hc8
  refine .skip ?_
  obtain ⟨x2, hx2, hx1⟩ := bind_some hx1
  refine .seqM 25 (fun (j : (List TMail)) => Tryz.St_r09_Do_3 a0 a1 v2 j) (fun j => x2 = j) (lb rfl) ?_ ?_
  ·refine .seq (.pl zS [2, 3, 4, 6] ?_)
   refine .cond rfl rfl (fun hc9 => ?_) (fun hc9 => ?_)
   ·replace hx2 := za0 hx2 hc9
    obtain ⟨k2, hx2⟩ := zaa hx2
    obtain ⟨k3, hx2⟩ := zaa hx2
    obtain ⟨k4, hx2⟩ := zaa hx2
    have hM : v2.Mail = a0.Mail := twin9_mail hv2
    have hAt : 0 <= a1.At /\ a1.At < (a0.Mail.length : Int) := by simp at hc8; omega
    have t3 : a1.At - 0 = a1.At := Int.sub_zero _
    have t2 : ((a0.Mail.map TMail.d).take (a0.Mail.map TMail.d).length).drop (wr .i64 (a1.At + 1)).toNat = (a0.Mail.drop (wr .i64 (a1.At + 1)).toNat).map TMail.d := by rw [List.take_length]; exact List.map_drop.symm
    have t4 : (decide (0 <= a1.At) && decide (a1.At <= a1.At) && decide (a1.At <= (v2.Mail.length : Int))) = true := by simp; omega
    have t5 : (decide (0 <= wr .i64 (a1.At + 1)) && decide (wr .i64 (a1.At + 1) <= (a0.Mail.length : Int))) = true := by rw [Bool.and_eq_true, decide_eq_true_eq, decide_eq_true_eq]; exact k3
    have t6 : (bif decide (uC <= 9223372036854775807) then ((uC : Nat) : Int) else (v2.Mail.length : Int)) = (v2.Mail.length : Int) := by rw [show decide (uC <= 9223372036854775807) = false by decide]; rfl
    by_cases hz : a1.At = 0
    ·have hz3 : ∀ x y : D, (bif decide ((0 : Int) = a1.At) then x else y) = x := by intro x y; simp [hz]
     have hln : Nat.blt 0 v2.Mail.length = true := by rw [hM]; simp; omega
     rcases zam (a0.Mail.drop (wr .i64 (a1.At + 1)).toNat) with hE1 | ⟨y, ys, hE1⟩
     ·have hM1 : (a0.Mail.drop (wr .i64 (a1.At + 1)).toNat).map TMail.d = [] := by rw [hE1]; rfl
      refine .rg zS [2, 3, 4, 6] ?_
      refine .rd 6 ?_
      refine .rdx 1 (And.intro t3 (And.intro hz3 (And.intro hln t6))) (h := by intro x q hq; obtain ⟨x1, x2, x3, x4⟩ := x; simp only [go_sem, slice3D, roomNZ, capK, Int.toNat_zero, Nat.add_zero, Nat.zero_add, Nat.reduceSub, Int.reduceEq, Nat.reduceLT, Nat.reduceDiv, Nat.reduceAdd, Nat.reduceBEq, Nat.reduceLeDiff, reduceCtorEq, Nat.reduceEqDiff, Nat.reduceMod, Nat.reduceMul, x1, x2, x3, x4]; exact hq) ?_ (hv := by exact t4)
      refine .rd 5 ?_
      refine .rdx 1 (And.intro t2 hM1) (h := by intro x q hq; obtain ⟨x1, x2⟩ := x; simp only [go_sem, sliceD, Int.toNat_natCast, Nat.reduceSub, Int.reduceEq, Nat.reduceLT, Nat.reduceDiv, Nat.reduceAdd, Nat.reduceBEq, Nat.reduceLeDiff, reduceCtorEq, Nat.reduceEqDiff, Nat.reduceMod, Nat.reduceMul, x1, x2]; exact hq) ?_ (hv := by exact t5)
      refine .rd 3 ?_
      refine .nd ?_
      have hL : v2.Mail.take a1.At.toNat ++ a0.Mail.drop (wr .i64 (a1.At + 1)).toNat = [] := by rw [hE1, hz]; rfl
      refine ⟨_, ?_, (sj hx2).symm⟩
      refine Goes.new0 10 51 (lb rfl) ?_
      refine Goes.boxs 24 _ [.ref 12 1 0 v2.Members.length (some uC), .ref 13 3 0 v2.Votes.length (some uC), .ref 14 7 0 v2.Tries.length (some uC), .ref 25 10 0 0 (some uC), .ref 16 2 0 v2.Chosen.length (some uC)] rfl (.keep (.keep (.keep (.cons (.own0 25 _ _ _ (by decide)) (.refl _))))) ?_
      exact .mx hL [2, 3, 4, 6] [0, 1, 2, 12, 13, 14, 16, 24, 25] []
     have hM1 : (a0.Mail.drop (wr .i64 (a1.At + 1)).toNat).map TMail.d = TMail.d y :: ys.map TMail.d := by rw [hE1]; rfl
     have hyl : ys.length + 1 < 1000000 := by
      have k4' := k4
      rw [hE1] at k4'
      simp only [List.length_cons] at k4'
      omega
     refine .rg zS [2, 3, 4, 6] ?_
     refine .rd 6 ?_
     refine .rdx 1 (And.intro t3 (And.intro hz3 (And.intro hln t6))) (h := by intro x q hq; obtain ⟨x1, x2, x3, x4⟩ := x; simp only [go_sem, slice3D, roomNZ, capK, Int.toNat_zero, Nat.add_zero, Nat.zero_add, Nat.reduceSub, Int.reduceEq, Nat.reduceLT, Nat.reduceDiv, Nat.reduceAdd, Nat.reduceBEq, Nat.reduceLeDiff, reduceCtorEq, Nat.reduceEqDiff, Nat.reduceMod, Nat.reduceMul, x1, x2, x3, x4]; exact hq) ?_ (hv := by exact t4)
     refine .rd 5 ?_
     refine .rdx 1 (And.intro t2 hM1) (h := by intro x q hq; obtain ⟨x1, x2⟩ := x; simp only [go_sem, sliceD, Int.toNat_natCast, Nat.reduceSub, Int.reduceEq, Nat.reduceLT, Nat.reduceDiv, Nat.reduceAdd, Nat.reduceBEq, Nat.reduceLeDiff, reduceCtorEq, Nat.reduceEqDiff, Nat.reduceMod, Nat.reduceMul, x1, x2]; exact hq) ?_ (hv := by exact t5)
     refine .rd 3 ?_ (hv := by simp; omega)
     refine .nd ?_
     have hL : (v2.Mail.take a1.At.toNat ++ a0.Mail.drop (wr .i64 (a1.At + 1)).toNat).map TMail.d = TMail.d y :: ys.map TMail.d := by rw [hE1, hz]; rfl
     have hL2 : (v2.Mail.take a1.At.toNat ++ a0.Mail.drop (wr .i64 (a1.At + 1)).toNat).length = ys.length + 1 := by rw [hE1, hz]; rfl
     refine ⟨_, ?_, (sj hx2).symm⟩
     refine Goes.boxs 24 _ [.ref 12 1 0 v2.Members.length (some uC), .ref 13 3 0 v2.Votes.length (some uC), .ref 14 7 0 v2.Tries.length (some uC), .ref 25 10 0 (ys.length + 1) (some uC), .ref 16 2 0 v2.Chosen.length (some uC)] rfl (.keep (.keep (.keep (.cons (.unk _ _ _ _ _) (.refl _))))) ?_
     exact .mx (And.intro hL hL2) [2, 3, 4, 6] [0, 1, 2, 12, 13, 14, 16, 24, 25] []
    have hz3 : ∀ (c : Bool) (x y : D), (bif decide ((0 : Int) = a1.At) && c then x else y) = y := by intro c x y; rw [decide_eq_false (by omega)]; rfl
    rcases zam (a0.Mail.drop (wr .i64 (a1.At + 1)).toNat) with hE1 | ⟨y, ys, hE1⟩
    ·have hM1 : (a0.Mail.drop (wr .i64 (a1.At + 1)).toNat).map TMail.d = [] := by rw [hE1]; rfl
     refine .rg zS [2, 3, 4, 6] ?_
     refine .rd 6 ?_
     refine .rdx 1 (And.intro t3 (And.intro hz3 t6)) (h := by intro x q hq; obtain ⟨x1, x2, x3⟩ := x; simp only [go_sem, slice3D, roomNZ, capK, Int.toNat_zero, Nat.add_zero, Nat.zero_add, Nat.reduceSub, Int.reduceEq, Nat.reduceLT, Nat.reduceDiv, Nat.reduceAdd, Nat.reduceBEq, Nat.reduceLeDiff, reduceCtorEq, Nat.reduceEqDiff, Nat.reduceMod, Nat.reduceMul, x1, x2, x3]; exact hq) ?_ (hv := by exact t4)
     refine .rd 5 ?_
     refine .rdx 1 (And.intro t2 hM1) (h := by intro x q hq; obtain ⟨x1, x2⟩ := x; simp only [go_sem, sliceD, Int.toNat_natCast, Nat.reduceSub, Int.reduceEq, Nat.reduceLT, Nat.reduceDiv, Nat.reduceAdd, Nat.reduceBEq, Nat.reduceLeDiff, reduceCtorEq, Nat.reduceEqDiff, Nat.reduceMod, Nat.reduceMul, x1, x2]; exact hq) ?_ (hv := by exact t5)
     have hcp : a1.At.toNat <= 9223372036854775807 := by have k4' := k4; rw [List.length_take] at k4'; omega
     have hla : a1.At.toNat < v2.Mail.length := by rw [hM]; omega
     refine .rdx 1 (And.intro hcp hla) (h := by intro x q hq; obtain ⟨x1, x2⟩ := x; simp only [go_sem, za7, decide_true, decide_false, Bool.not_true, cond_true, cond_false, List.length_nil, Nat.add_zero, Nat.lt_irrefl, Nat.le_refl, Nat.reduceSub, Int.reduceEq, Nat.reduceLT, Nat.reduceDiv, Nat.reduceAdd, Nat.reduceBEq, Nat.reduceLeDiff, reduceCtorEq, Nat.reduceEqDiff, Nat.reduceMod, Nat.reduceMul, x1, x2]; exact hq) ?_ (hv := by simp; omega)
     refine .rd 2 ?_
     refine .nd ?_
     have hL : (v2.Mail.take a1.At.toNat ++ a0.Mail.drop (wr .i64 (a1.At + 1)).toNat).map TMail.d = ((v2.Mail.take a1.At.toNat).map TMail.d ++ (v2.Mail.drop a1.At.toNat).map TMail.d).take a1.At.toNat := by rw [hE1, List.append_nil, List.take_left' (by rw [List.length_map, List.length_take]; omega)]
     have hL2 : (v2.Mail.take a1.At.toNat ++ a0.Mail.drop (wr .i64 (a1.At + 1)).toNat).length = a1.At.toNat := by rw [hE1, List.append_nil, List.length_take]; omega
     refine ⟨_, ?_, (sj hx2).symm⟩
     refine Goes.pre 15 a1.At.toNat ((v2.Mail.take a1.At.toNat).map TMail.d ++ (v2.Mail.drop a1.At.toNat).map TMail.d) rfl ?_
     refine Goes.boxs 24 _ [.ref 12 1 0 v2.Members.length (some uC), .ref 13 3 0 v2.Votes.length (some uC), .ref 14 7 0 v2.Tries.length (some uC), .ref 15 10 0 a1.At.toNat (some uC), .ref 16 2 0 v2.Chosen.length (some uC)] rfl (.keep (.keep (.keep (.cons (.unk _ _ _ _ _) (.refl _))))) ?_
     exact .mx (And.intro hL hL2) [2, 3, 4, 6] [0, 1, 2, 12, 13, 14, 16, 24, 15] [(15, 25)]
    have hM1 : (a0.Mail.drop (wr .i64 (a1.At + 1)).toNat).map TMail.d = TMail.d y :: ys.map TMail.d := by rw [hE1]; rfl
    have hyl : ys.length + 1 < 1000000 := by
     have k4' := k4
     rw [hE1] at k4'
     simp only [List.length_cons] at k4'
     omega
    have hlt : a1.At.toNat < a1.At.toNat + (ys.length + 1) := by omega
    refine .rg zS [2, 3, 4, 6] ?_
    refine .rd 6 ?_
    refine .rdx 1 (And.intro t3 (And.intro hz3 t6)) (h := by intro x q hq; obtain ⟨x1, x2, x3⟩ := x; simp only [go_sem, slice3D, roomNZ, capK, Int.toNat_zero, Nat.add_zero, Nat.zero_add, Nat.reduceSub, Int.reduceEq, Nat.reduceLT, Nat.reduceDiv, Nat.reduceAdd, Nat.reduceBEq, Nat.reduceLeDiff, reduceCtorEq, Nat.reduceEqDiff, Nat.reduceMod, Nat.reduceMul, x1, x2, x3]; exact hq) ?_ (hv := by exact t4)
    refine .rd 5 ?_
    refine .rdx 1 (And.intro t2 hM1) (h := by intro x q hq; obtain ⟨x1, x2⟩ := x; simp only [go_sem, sliceD, Int.toNat_natCast, Nat.reduceSub, Int.reduceEq, Nat.reduceLT, Nat.reduceDiv, Nat.reduceAdd, Nat.reduceBEq, Nat.reduceLeDiff, reduceCtorEq, Nat.reduceEqDiff, Nat.reduceMod, Nat.reduceMul, x1, x2]; exact hq) ?_ (hv := by exact t5)
    have hcp : a1.At.toNat <= 9223372036854775807 := by have k4' := k4; rw [List.length_take] at k4'; omega
    have hla : a1.At.toNat < v2.Mail.length := by rw [hM]; omega
    have hnl : ¬ (a1.At.toNat + (ys.length + 1) <= a1.At.toNat) := by omega
    refine .rdx 1 (And.intro hcp (And.intro hla (And.intro hlt hnl))) (h := by intro x q hq; obtain ⟨x1, x2, x3, x4⟩ := x; simp only [go_sem, za7, decide_true, decide_false, Bool.not_true, Bool.and_false, cond_true, cond_false, Nat.reduceSub, Int.reduceEq, Nat.reduceLT, Nat.reduceDiv, Nat.reduceAdd, Nat.reduceBEq, Nat.reduceLeDiff, reduceCtorEq, Nat.reduceEqDiff, Nat.reduceMod, Nat.reduceMul, x1, x2, x3, x4]; exact hq) ?_ (hv := by rw [Bool.and_eq_true, decide_eq_true_eq, decide_eq_true_eq]; have k4' := k4; rw [List.length_take, hE1, List.length_cons] at k4'; omega)
    refine .rd 2 ?_
    refine .nd ?_
    have hL : (v2.Mail.take a1.At.toNat ++ a0.Mail.drop (wr .i64 (a1.At + 1)).toNat).map TMail.d = (v2.Mail.take a1.At.toNat).map TMail.d ++ TMail.d y :: ys.map TMail.d := by rw [hE1, List.map_append, List.map_cons]
    have hL2 : (v2.Mail.take a1.At.toNat ++ a0.Mail.drop (wr .i64 (a1.At + 1)).toNat).length = a1.At.toNat + (ys.length + 1) := by rw [hE1, List.length_append, List.length_take, List.length_cons]; omega
    refine ⟨_, ?_, (sj hx2).symm⟩
    refine Goes.boxs 24 _ [.ref 12 1 0 v2.Members.length (some uC), .ref 13 3 0 v2.Votes.length (some uC), .ref 14 7 0 v2.Tries.length (some uC), .ref 25 10 0 (a1.At.toNat + (ys.length + 1)) (some uC), .ref 16 2 0 v2.Chosen.length (some uC)] rfl (.keep (.keep (.keep (.cons (.unk _ _ _ _ _) (.refl _))))) ?_
    exact .mx (And.intro hL hL2) [2, 3, 4, 6] [0, 1, 2, 12, 13, 14, 16, 24, 25] []
   replace hx2 := za3 hx2 hc9
   refine .skip ?_
   refine ⟨_, ?_, (sj hx2).symm⟩
   exact .m [2, 3, 4, 6] [0, 1, 2, 12, 13, 14, 16, 24, 15] [(15, 25)]
  rintro l6 hj1
  subst x2
  try dsimp only at hx1
  simp only [Tryz.St_r09_Do_3]
  refine .seq (.pl zS [2, 3, 4, 6] ?_)
  refine .cond rfl rfl (fun hc10 => ?_) (fun hc10 => ?_)
  ·replace hx1 := za0 hx1 hc10
   obtain ⟨k5, hx1⟩ := zaa hx1
   obtain ⟨v5, hv5, hx1⟩ := bind_some hx1
   have e2 := zaj TMail.d a0.Mail a1.At
   replace e2 := e2 k5
   refine .rg zS [2, 3, 4, 6] ?_
   refine .rnx 6 e2 ?_
   refine .hcall (H := [(24, .box [.ref 12 1 0 v2.Members.length (some uC), .ref 13 3 0 v2.Votes.length (some uC), .ref 14 7 0 v2.Tries.length (some uC), .ref 25 10 0 l6.length (some uC), .ref 16 2 0 v2.Chosen.length (some uC)]), (12, .arr 3 1 true (v2.Members.map (D.int .i64))), (13, .arr 59 3 true (v2.Votes.map TVote.d)), (14, .arr 57 7 true (v2.Tries.map TAttempt.n)), (25, .arr 51 10 true (l6.map TMail.d)), (16, .arr 53 2 true (v2.Chosen.map TChoice.d))]) (eff := [(24, some (.box [.ref 26 1 0 v5.Members.length (some uC), .ref 27 3 0 v5.Votes.length (some uC), .ref 28 7 0 v5.Tries.length (some uC), .ref 29 10 0 v5.Mail.length (some uC), .ref 30 2 0 v5.Chosen.length (some uC)])), (12, none), (13, none), (14, none), (25, none), (16, none), (26, some (.arr 3 1 true (v5.Members.map (D.int .i64)))), (27, some (.arr 59 3 true (v5.Votes.map TVote.d))), (28, some (.arr 57 7 true (v5.Tries.map TAttempt.n))), (29, some (.arr 51 10 true (v5.Mail.map TMail.d))), (30, some (.arr 53 2 true (v5.Chosen.map TChoice.d)))]) (nw := (26, 78)) (r := .tuple []) rfl rfl rfl rfl rfl (callH_bsw 26 (za4 20005 16 (za4 20004 25 (za4 20003 14 (za4 20002 13 (za4 20001 12 (za4 20000 24 (callH_r09_comes (⟨v2.Members, v2.Votes, v2.Tries, l6, v2.Chosen⟩ : TWorld) (a0.Mail.getD a1.At.toNat default) v5 hv5)))))))) (fun id b h => zbb [24, 12, 13, 14, 25, 16] _ id b h) (by simp) (.inr ⟨Nat.le_of_ble_eq_true rfl, Nat.le_of_ble_eq_true rfl⟩) ?_
   refine .nil ⟨nofun, ?_⟩
   refine ⟨_, ?_, (sj hx1).symm⟩
   exact .m [4, 6] [2, 24, 26, 27, 28, 29, 30] [(26, 25), (27, 26), (28, 27), (29, 28), (30, 29)]
  replace hx1 := za3 hx1 hc10
  refine .skip ?_
  refine ⟨_, ?_, (sj hx1).symm⟩
  exact .m [4, 6] [2, 24, 12, 13, 14, 25, 16] [(12, 25), (13, 26), (14, 27), (25, 28), (16, 29)]
 rintro ⟨l1, l2, l3, l4, l5⟩ hj2
 subst x1
 try dsimp only at h
 simp only [Tryz.St_r09_Do_1]
 refine .seq (.seq ?_)
 refine .rg zS [4, 6] ?_
 refine .rn 6 ?_
 refine .rn 4 ?_
 refine .nil ⟨nofun, ?_⟩
 refine .cond rfl rfl (fun hc11 => ?_) (fun hc11 => ?_)
 ·replace h := za0 h hc11
  refine .seq (.pl zS [4] ?_)
  have hq := sj h
  subst r
  refine .ret ⟨Tryz.Re_r09_Do ((⟨[], [], [], [], []⟩ : TWorld), 9), ?_, .inr rfl, retH [4, 3, 2, 1, 0] ?_ ?_⟩
  ·refine Goes.new0 1 3 (lb rfl) ?_
   refine Goes.new0 3 59 (lb rfl) ?_
   refine Goes.new0 7 57 (lb rfl) ?_
   refine Goes.new0 10 51 (lb rfl) ?_
   refine Goes.new0 2 53 (lb rfl) ?_
   refine Goes.boxs 2 _ [.ref 30 1 0 0 (some uC), .ref 31 3 0 0 (some uC), .ref 32 7 0 0 (some uC), .ref 33 10 0 0 (some uC), .ref 34 2 0 0 (some uC)] rfl (.cons (.own0 30 _ _ _ (by decide)) (.cons (.own0 31 _ _ _ (by decide)) (.cons (.own0 32 _ _ _ (by decide)) (.cons (.own0 33 _ _ _ (by decide)) (.cons (.own0 34 _ _ _ (by decide)) (.refl _)))))) ?_
   exact .m [4, 5] [30, 31, 32, 33, 34, 2] [(30, 0), (31, 1), (32, 2), (33, 3), (34, 4), (2, 5)]
  ·exact rsi0
  rfl
 replace h := za3 h hc11
 refine .skip ?_
 refine .seq (.pl zS [4, 6] ?_)
 have hq := sj h
 subst r
 refine .ret ⟨Tryz.Re_r09_Do ((⟨l1, l2, l3, l4, l5⟩ : TWorld), 0), ?_, .inr rfl, retH [4, 3, 2, 1, 0] ?_ ?_⟩
 ·exact .m [4, 5] [25, 26, 27, 28, 29, 2] [(25, 0), (26, 1), (27, 2), (28, 3), (29, 4), (2, 5)]
 ·exact rsi0
 rfl
@[go_sem] def Tryz.St_r09_Run_1 (l1 : List Int) (l2 : List TVote) (l3 : List TAttempt) (l4 : List TMail) (l5 : List TChoice) : St := ⟨[(4, .ptr 0 0), (6, .ptr 16 0)], [(0, .box [.imm 0 [] 0, .imm 0 [] 0, .imm 0 [] 0, .imm 0 [] 0, .imm 0 [] 0]), (16, .box [.ref 17 1 0 l1.length (some uC), .ref 18 3 0 l2.length (some uC), .ref 19 7 0 l3.length (some uC), .ref 20 10 0 l4.length (some uC), .ref 21 2 0 l5.length (some uC)]), (17, .arr 3 1 true (l1.map (D.int .i64))), (18, .arr 59 3 true (l2.map TVote.d)), (19, .arr 57 7 true (l3.map TAttempt.n)), (20, .arr 51 10 true (l4.map TMail.d)), (21, .arr 53 2 true (l5.map TChoice.d))], 22⟩
@[go_sem] def Tryz.St_r09_Run_3 (a1 : List TMove) (n1 : Nat) (l6 : List Int) (l7 : List TVote) (l8 : List TAttempt) (l9 : List TMail) (l10 : List TChoice) : St := ⟨[(1, .imm 4 (a1.map TMove.d) 4), (4, .ptr 0 0), (6, .ptr 16 0), (8, .int .i64 (n1 : Int))], [(0, .box [.imm 0 [] 0, .imm 0 [] 0, .imm 0 [] 0, .imm 0 [] 0, .imm 0 [] 0]), (16, .box [.ref 17 1 0 l6.length (some uC), .ref 18 3 0 l7.length (some uC), .ref 19 7 0 l8.length (some uC), .ref 20 10 0 l9.length (some uC), .ref 21 2 0 l10.length (some uC)]), (17, .arr 3 1 true (l6.map (D.int .i64))), (18, .arr 59 3 true (l7.map TVote.d)), (19, .arr 57 7 true (l8.map TAttempt.n)), (20, .arr 51 10 true (l9.map TMail.d)), (21, .arr 53 2 true (l10.map TChoice.d))], 22⟩
@[go_sem] def Tryz.St_r09_Run_5 (a1 : List TMove) (n1 : Nat) (l11 : List Int) (l12 : List TVote) (l13 : List TAttempt) (l14 : List TMail) (l15 : List TChoice) : St := ⟨[(1, .imm 4 (a1.map TMove.d) 4), (4, .ptr 0 0), (6, .ptr 16 0), (8, .int .i64 (n1 : Int))], [(0, .box [.imm 0 [] 0, .imm 0 [] 0, .imm 0 [] 0, .imm 0 [] 0, .imm 0 [] 0]), (16, .box [.ref 22 1 0 l11.length (some uC), .ref 23 3 0 l12.length (some uC), .ref 24 7 0 l13.length (some uC), .ref 25 10 0 l14.length (some uC), .ref 26 2 0 l15.length (some uC)]), (22, .arr 3 1 true (l11.map (D.int .i64))), (23, .arr 59 3 true (l12.map TVote.d)), (24, .arr 57 7 true (l13.map TAttempt.n)), (25, .arr 51 10 true (l14.map TMail.d)), (26, .arr 53 2 true (l15.map TChoice.d))], 27⟩
@[go_sem] def Tryz.Re_r09_Run (r : TWorld × Int) : St := ⟨[(4, .ptr 5 0), (5, .int .i64 r.2)], [(0, .arr 3 1 true (r.1.Members.map (D.int .i64))), (1, .arr 59 3 true (r.1.Votes.map TVote.d)), (2, .arr 57 7 true (r.1.Tries.map TAttempt.n)), (3, .arr 51 10 true (r.1.Mail.map TMail.d)), (4, .arr 53 2 true (r.1.Chosen.map TChoice.d)), (5, .box [.ref 0 1 0 r.1.Members.length (some uC), .ref 1 3 0 r.1.Votes.length (some uC), .ref 2 7 0 r.1.Tries.length (some uC), .ref 3 10 0 r.1.Mail.length (some uC), .ref 4 2 0 r.1.Chosen.length (some uC)])], 6⟩
theorem callH_r09_Run (a0 : List Int) (a1 : List TMove) (r : TWorld × Int) (h : m_r09_Run a0 a1 = some r) : CallH Tryz.prog 19 [.imm 1 (a0.map (D.int .i64)) 4, .imm 4 (a1.map TMove.d) 4] [] (.tuple [.agg [.ref 0 1 0 r.1.Members.length (some uC), .ref 1 3 0 r.1.Votes.length (some uC), .ref 2 7 0 r.1.Tries.length (some uC), .ref 3 10 0 r.1.Mail.length (some uC), .ref 4 2 0 r.1.Chosen.length (some uC)], .int .i64 r.2]) [(0, some (.arr 3 1 true (r.1.Members.map (D.int .i64)))), (1, some (.arr 59 3 true (r.1.Votes.map TVote.d))), (2, some (.arr 57 7 true (r.1.Tries.map TAttempt.n))), (3, some (.arr 51 10 true (r.1.Mail.map TMail.d))), (4, some (.arr 53 2 true (r.1.Chosen.map TChoice.d)))] (0, 171) := by
 refine za8 Tryz.tmOk Tryz.func19 rfl (by decide) (lb rfl) (by simp) ?_
 intro hwf
 unfold m_r09_Run at h
 refine .ends 0 (Nat.le_refl _) ?_
 refine .seq (.pl zS [0, 1] ?_)
 refine .seq ?_
 obtain ⟨v1, hv1, h⟩ := bind_some h
 refine .rg zS [0, 1, 4] ?_
 refine .rn 1 ?_
 refine .ncall (r := .tuple [.agg [.ref 8 1 0 v1.1.Members.length (some uC), .ref 9 3 0 v1.1.Votes.length (some uC), .ref 10 7 0 v1.1.Tries.length (some uC), .ref 11 10 0 v1.1.Mail.length (some uC), .ref 12 2 0 v1.1.Chosen.length (some uC)], .int .i64 v1.2]) (eff := [(8, some (.arr 3 1 true (v1.1.Members.map (D.int .i64)))), (9, some (.arr 59 3 true (v1.1.Votes.map TVote.d))), (10, some (.arr 57 7 true (v1.1.Tries.map TAttempt.n))), (11, some (.arr 51 10 true (v1.1.Mail.map TMail.d))), (12, some (.arr 53 2 true (v1.1.Chosen.map TChoice.d)))]) (nw := (8, 16)) [] rfl rfl rfl rfl rfl (za2 rfl zad) rfl (zbw 8 (lb rfl) (callH_r09_New a0 v1 hv1)) (zab rfl rfl (zag zar _ _ _) (zab rfl rfl (zag pl0_TVote _ _ _) (zab rfl rfl (newB_arrN zc5 _ _ _) (zab rfl rfl (zag pl0_TMail _ _ _) (zab rfl rfl (zag pl0_TChoice _ _ _) zbx))))) (by intro i hi; simp [D.ids, D.idsL] at hi <;> omega) rfl ⟨Nat.le_of_ble_eq_true rfl, Nat.le_of_ble_eq_true rfl⟩ ?_
 refine .rn 6 ?_
 refine .nil ⟨nofun, ?_⟩
 refine .seq (.seq ?_)
 refine .pl zS [1, 4, 6, 7] ?_
 refine .cond rfl rfl (fun hc1 => ?_) (fun hc1 => ?_)
 ·replace h := za0 h hc1
  refine .seq (.pl zS [4, 7] ?_)
  have hq := sj h
  subst r
  refine .ret ⟨Tryz.Re_r09_Run ((⟨[], [], [], [], []⟩ : TWorld), v1.2), ?_, .inr rfl, retH [4, 3, 2, 1, 0] ?_ ?_⟩
  ·refine Goes.new0 1 3 (lb rfl) ?_
   refine Goes.new0 3 59 (lb rfl) ?_
   refine Goes.new0 7 57 (lb rfl) ?_
   refine Goes.new0 10 51 (lb rfl) ?_
   refine Goes.new0 2 53 (lb rfl) ?_
   refine Goes.boxs 0 _ [.ref 17 1 0 0 (some uC), .ref 18 3 0 0 (some uC), .ref 19 7 0 0 (some uC), .ref 20 10 0 0 (some uC), .ref 21 2 0 0 (some uC)] rfl (.cons (.own0 17 _ _ _ (by decide)) (.cons (.own0 18 _ _ _ (by decide)) (.cons (.own0 19 _ _ _ (by decide)) (.cons (.own0 20 _ _ _ (by decide)) (.cons (.own0 21 _ _ _ (by decide)) (.refl _)))))) ?_
   exact .m [4, 5] [17, 18, 19, 20, 21, 0] [(17, 0), (18, 1), (19, 2), (20, 3), (21, 4), (0, 5)]
  ·exact rsi0
  rfl
 replace h := za3 h hc1
 refine .skip ?_
 refine .seq (.seq ?_)
 refine .pl zS [1, 4, 6] ?_
 refine .cond rfl rfl (fun hc2 => ?_) (fun hc2 => ?_)
 ·replace h := za0 h hc2
  refine .seq (.pl zS [4] ?_)
  have hq := sj h
  subst r
  refine .ret ⟨Tryz.Re_r09_Run ((⟨[], [], [], [], []⟩ : TWorld), 4), ?_, .inr rfl, retH [4, 3, 2, 1, 0] ?_ ?_⟩
  ·refine Goes.new0 1 3 (lb rfl) ?_
   refine Goes.new0 3 59 (lb rfl) ?_
   refine Goes.new0 7 57 (lb rfl) ?_
   refine Goes.new0 10 51 (lb rfl) ?_
   refine Goes.new0 2 53 (lb rfl) ?_
   refine Goes.boxs 0 _ [.ref 17 1 0 0 (some uC), .ref 18 3 0 0 (some uC), .ref 19 7 0 0 (some uC), .ref 20 10 0 0 (some uC), .ref 21 2 0 0 (some uC)] rfl (.cons (.own0 17 _ _ _ (by decide)) (.cons (.own0 18 _ _ _ (by decide)) (.cons (.own0 19 _ _ _ (by decide)) (.cons (.own0 20 _ _ _ (by decide)) (.cons (.own0 21 _ _ _ (by decide)) (.refl _)))))) ?_
   exact .m [4, 5] [17, 18, 19, 20, 21, 0] [(17, 0), (18, 1), (19, 2), (20, 3), (21, 4), (0, 5)]
  ·exact rsi0
  rfl
 replace h := za3 h hc2
 refine .skip ?_
 obtain ⟨x1, hx1, h⟩ := bind_some h
 refine .seqM 17 (fun (j : (List Int) × (List TVote) × (List TAttempt) × (List TMail) × (List TChoice)) => Tryz.St_r09_Run_1 j.1 j.2.1 j.2.2.1 j.2.2.2.1 j.2.2.2.2) (fun j => x1 = j) (lb rfl) ?_ ?_
 ·refine .seq (.pl zS [1, 4, 6] ?_)
  refine .block ?_
  refine .loopG 17 (fun (j : Nat × (List Int) × (List TVote) × (List TAttempt) × (List TMail) × (List TChoice)) => Tryz.St_r09_Run_3 a1 j.1 j.2.1 j.2.2.1 j.2.2.2.1 j.2.2.2.2.1 j.2.2.2.2.2) (fun j => j.1 <= a1.length /\ zby (a1.drop j.1) j.2.1 j.2.2.1 j.2.2.2.1 j.2.2.2.2.1 j.2.2.2.2.2 = some x1) (fun j => a1.length - j.1) (0, v1.1.Members, v1.1.Votes, v1.1.Tries, v1.1.Mail, v1.1.Chosen) (lb rfl) ?_ ⟨Nat.zero_le _, hx1⟩ ?_
  ·exact .m [1, 4, 6, 8] [0, 16, 8, 9, 10, 11, 12] [(8, 17), (9, 18), (10, 19), (11, 20), (12, 21)]
  rintro ⟨n1, l6, l7, l8, l9, l10⟩ ⟨hi1, hx1⟩
  simp only [Tryz.St_r09_Run_3]
  simp only at hi1 hx1
  refine .wf 1 (.imm 4 (a1.map TMove.d) 4) rfl ?_
  intro hln1
  replace hln1 : (a1.length : Int) <= 9223372036854775807 := by simp only [wf, wfL, IntKind.max, IntKind.min, IntKind.signed, IntKind.bits, List.length_map] at hln1; first | exact hln1.2 | exact hln1.1 | (simp at hln1; omega)
  refine .seq (.seq ?_)
  refine .pl zS [1, 4, 6, 8] ?_
  refine .cond rfl rfl (fun hc3 => ?_) (fun hc3 => ?_)
  ·have h1 : n1 < a1.length := by simpa using hc3
   have hwn1 : wr .i64 ((n1 : Int) + 1) = ((n1 + 1 : Nat) : Int) := zbr h1 hln1
   have hpn1 : wr .i64 ((n1 : Int) - 1) = (n1 : Int) - 1 := zbs h1 hln1
   rw [List.drop_eq_getElem_cons h1, zby] at hx1
   refine .skip ?_
   obtain ⟨x2, hx2, hx1⟩ := bind_some hx1
   refine .seqM 22 (fun (j : (List Int) × (List TVote) × (List TAttempt) × (List TMail) × (List TChoice)) => Tryz.St_r09_Run_5 a1 n1 j.1 j.2.1 j.2.2.1 j.2.2.2.1 j.2.2.2.2) (fun j => x2 = j) (lb rfl) ?_ ?_
   ·refine .block ?_
    refine .seq ?_
    obtain ⟨v2, hv2, hx2⟩ := bind_some hx2
    have e1 := zb6 TMove.d a1 n1 h1
    refine .rg zS [1, 4, 6, 8] ?_
    refine .rdx 5 (And.intro e1 hwn1) ?_
    refine .ncall (r := .tuple [.agg [.ref 84 1 0 v2.1.Members.length (some uC), .ref 85 3 0 v2.1.Votes.length (some uC), .ref 86 7 0 v2.1.Tries.length (some uC), .ref 87 10 0 v2.1.Mail.length (some uC), .ref 88 2 0 v2.1.Chosen.length (some uC)], .int .i64 v2.2]) (eff := [(84, some (.arr 3 1 true (v2.1.Members.map (D.int .i64)))), (85, some (.arr 59 3 true (v2.1.Votes.map TVote.d))), (86, some (.arr 57 7 true (v2.1.Tries.map TAttempt.n))), (87, some (.arr 51 10 true (v2.1.Mail.map TMail.d))), (88, some (.arr 53 2 true (v2.1.Chosen.map TChoice.d)))]) (nw := (84, 168)) [] rfl rfl rfl rfl rfl (za2 (zc8 (lend_agg (zan (zax (pl_int .i64) (by first | rfl | (simp only [go_sem, Nat.reduceBEq]; rfl)) (by first | rfl | (simp; done) | (simp <;> omega))) (zan (zax pl_TVote (by first | rfl | (simp only [go_sem, Nat.reduceBEq]; rfl)) (by first | rfl | (simp; done) | (simp <;> omega))) (zan (lend_refN zc5 (by first | rfl | (simp only [go_sem, Nat.reduceBEq]; rfl)) (by first | rfl | (simp; done) | (simp <;> omega))) (zan (zax pl_TMail (by first | rfl | (simp only [go_sem, Nat.reduceBEq]; rfl)) (by first | rfl | (simp; done) | (simp <;> omega))) (zan (zax pl_TChoice (by first | rfl | (simp only [go_sem, Nat.reduceBEq]; rfl)) (by first | rfl | (simp; done) | (simp <;> omega))) lends_nil)))))) trivial) (za2 rfl zad)) rfl (zbw 84 (lb rfl) (callH_r09_Do (⟨l6, l7, l8, l9, l10⟩ : TWorld) (a1[n1]) v2 hv2)) (zab rfl rfl (zag zar _ _ _) (zab rfl rfl (zag pl0_TVote _ _ _) (zab rfl rfl (newB_arrN zc5 _ _ _) (zab rfl rfl (zag pl0_TMail _ _ _) (zab rfl rfl (zag pl0_TChoice _ _ _) zbx))))) (by intro i hi; simp [D.ids, D.idsL] at hi <;> omega) rfl ⟨Nat.le_of_ble_eq_true rfl, Nat.le_of_ble_eq_true rfl⟩ ?_
    refine .rdx 6 (And.intro e1 hwn1) ?_
    refine .nd ?_
    refine .seq (.plx zS hwn1 [1, 4, 6, 8, 9, 10] ?_)
    refine .cond rfl rfl (fun hc4 => ?_) (fun hc4 => ?_)
    ·replace hx2 := za0 hx2 hc4
     refine .plx zS hwn1 [1, 4, 6, 8, 9] ?_
     refine ⟨_, ?_, (sj hx2).symm⟩
     exact .m [1, 4, 6, 8] [0, 16, 84, 85, 86, 87, 88] [(84, 22), (85, 23), (86, 24), (87, 25), (88, 26)]
    replace hx2 := za3 hx2 hc4
    refine .skip ?_
    refine ⟨_, ?_, (sj hx2).symm⟩
    exact .m [1, 4, 6, 8] [0, 16, 17, 18, 19, 20, 21] [(17, 22), (18, 23), (19, 24), (20, 25), (21, 26)]
   rintro ⟨l11, l12, l13, l14, l15⟩ hj1
   subst x2
   try dsimp only at hx1
   simp only [Tryz.St_r09_Run_5]
   refine .plx zS hwn1 [1, 4, 6, 8] ?_
   refine ⟨(n1 + 1, _, _, _, _, _), ?_, ⟨by omega, hx1⟩, by dsimp only; omega⟩
   exact .m [1, 4, 6, 8] [0, 16, 22, 23, 24, 25, 26] [(22, 17), (23, 18), (24, 19), (25, 20), (26, 21)]
  have h2 : n1 = a1.length := by have h2b := of_decide_eq_false hc3; omega
  rw [List.drop_of_length_le (by omega), zby] at hx1
  refine .exit ?_
  refine ⟨_, ?_, (sj hx1).symm⟩
  exact .m [4, 6] [0, 16, 17, 18, 19, 20, 21] []
 rintro ⟨l1, l2, l3, l4, l5⟩ hj2
 subst x1
 try dsimp only at h
 simp only [Tryz.St_r09_Run_1]
 refine .seq (.pl zS [4, 6] ?_)
 have hq := sj h
 subst r
 refine .ret ⟨Tryz.Re_r09_Run ((⟨l1, l2, l3, l4, l5⟩ : TWorld), 0), ?_, .inr rfl, retH [4, 3, 2, 1, 0] ?_ ?_⟩
 ·exact .m [4, 5] [17, 18, 19, 20, 21, 0] [(17, 0), (18, 1), (19, 2), (20, 3), (21, 4), (0, 5)]
 ·exact rsi0
 rfl
theorem callP_r09_Run (a0 : List Int) (a1 : List TMove) (r : TWorld × Int) (h : m_r09_Run a0 a1 = some r) : CallP Tryz.prog 19 [.imm 1 (a0.map (D.int .i64)) 4, .imm 4 (a1.map TMove.d) 4] (.tuple [.agg [.imm 1 (r.1.Members.map (D.int .i64)) 12, .imm 3 (r.1.Votes.map TVote.d) 12, .imm 7 (r.1.Tries.map TAttempt.d) 12, .imm 10 (r.1.Mail.map TMail.d) 12, .imm 2 (r.1.Chosen.map TChoice.d) 12], .int .i64 r.2]) :=
 callP_frz (frz_tup (za1 (frz_agg (za1 (zap zar rfl rfl) (za1 (zap pl0_TVote rfl rfl) (za1 (frz_refN zc5 rfl rfl) (za1 (zap pl0_TMail rfl rfl) (za1 (zap pl0_TChoice rfl rfl) zc9)))))) (za1 rfl zc9))) (callH_r09_Run a0 a1 r h)
theorem callP_w09_DecreeRuns (a0 : List Int) (a1 : List TMove) (r : Bool) (h : m_w09_DecreeRuns a0 a1 = some r) : CallP Tryz.prog 4 [.imm 1 (a0.map (D.int .i64)) 4, .imm 4 (a1.map TMove.d) 4] (.bool r) := by
 refine za5 Tryz.tmOk 7 Tryz.func4 rfl (by decide) rfl rfl (lb rfl) ?_
 intro hwf
 unfold m_w09_DecreeRuns at h
 refine .seq (.pl zS [0, 1] ?_)
 refine .seq (.seq ?_)
 obtain ⟨v1, hv1, h⟩ := bind_some h
 refine .rg zS [0, 1] ?_
 refine .rn 6 ?_
 refine .rn 6 ?_
 refine .rn 3 ?_
 refine .gcall (r := .bool v1) rfl rfl rfl rfl rfl (fun hg => ⟨[], [.imm 4 (a1.map TMove.d) 4], _, rfl, gd hg, rfl, (callP_w09_long a1 v1 (za0 hv1 hg))⟩) ?_
 refine .rn 1 ?_
 refine .nil ⟨nofun, ?_⟩
 refine .cond rfl rfl (fun hc1 => ?_) (fun hc1 => ?_)
 ·replace h := za0 h hc1
  refine .seq (.pl zS [] ?_)
  have hq := sj h
  subst r
  exact .ret ⟨.inr rfl, rsi⟩
 replace h := za3 h hc1
 refine .skip ?_
 obtain ⟨k1, h⟩ := zaa h
 refine .seqM 0 (fun (_ : Unit) => ⟨[(0, .imm 1 (a0.map (D.int .i64)) 4), (1, .imm 4 (a1.map TMove.d) 4), (5, .ref 0 1 0 a0.length (some uC))], [(0, .arr 3 1 true (a0.map (D.int .i64)))], 1⟩) (fun _ => True) (lb rfl) ?_ (fun _ _ => ?_)
 ·rcases zam a0 with hE1 | ⟨y, ys, hE1⟩
  ·have hM1 : a0.map (D.int .i64) = [] := by rw [hE1]; simp
   refine .px zS (apn hM1) [0, 1] ?_
   refine ⟨(), ?_, trivial⟩
   refine Goes.new0 1 3 (lb rfl) ?_
   refine Goes.wk 5 _ (.ref 0 1 0 0 (some uC)) rfl (.own0 0 _ _ _ (by decide)) ?_
   exact .mx hE1 [0, 1, 5] [0] []
  have hM1 : a0.map (D.int .i64) ≠ [] := by rw [hE1]; simp
  refine .px zS (apc hM1) [0, 1] ?_
  refine ⟨(), ?_, trivial⟩
  refine Goes.wk 5 _ (.ref 0 1 0 a0.length (some uC)) rfl (.unk _ _ _ _ _) ?_
  exact .mx hE1 [0, 1, 5] [0] []
 refine .seq ?_
 obtain ⟨v2, hv2, h⟩ := bind_some h
 refine .rg zS [0, 1, 5] ?_
 refine .rn 1 ?_
 refine .lcall (r := .tuple [.agg [.imm 1 (v2.1.Members.map (D.int .i64)) 12, .imm 3 (v2.1.Votes.map TVote.d) 12, .imm 7 (v2.1.Tries.map TAttempt.d) 12, .imm 10 (v2.1.Mail.map TMail.d) 12, .imm 2 (v2.1.Chosen.map TChoice.d) 12], .int .i64 v2.2]) [] rfl rfl rfl rfl rfl (za2 (zc8 (zax (pl_int .i64) (by first | rfl | (simp only [go_sem, Nat.reduceBEq]; rfl)) (by first | rfl | (simp; done) | (simp <;> omega))) trivial) zad) rfl (callP_decree_New a0 v2 hv2) ?_
 refine .rn 6 ?_
 refine .nil ⟨nofun, ?_⟩
 refine .seq ?_
 obtain ⟨v3, hv3, h⟩ := bind_some h
 refine .rg zS [0, 1, 5, 6, 7] ?_
 refine .rn 1 ?_
 refine .call (r := .tuple [.agg [.imm 1 (v3.1.Members.map (D.int .i64)) 12, .imm 3 (v3.1.Votes.map TVote.d) 12, .imm 7 (v3.1.Tries.map TAttempt.d) 12, .imm 10 (v3.1.Mail.map TMail.d) 12, .imm 2 (v3.1.Chosen.map TChoice.d) 12], .int .i64 v3.2]) rfl rfl rfl rfl rfl rfl (callP_r09_New a0 v3 hv3) ?_
 refine .rn 6 ?_
 refine .nil ⟨nofun, ?_⟩
 refine .seq ?_
 obtain ⟨v4, hv4, h⟩ := bind_some h
 refine .rg zS [0, 1, 5, 6, 7, 8, 9] ?_
 refine .rn 2 ?_
 refine .lcall (r := .tuple [.agg [.imm 1 (v4.1.Members.map (D.int .i64)) 12, .imm 3 (v4.1.Votes.map TVote.d) 12, .imm 7 (v4.1.Tries.map TAttempt.d) 12, .imm 10 (v4.1.Mail.map TMail.d) 12, .imm 2 (v4.1.Chosen.map TChoice.d) 12], .int .i64 v4.2]) [] rfl rfl rfl rfl rfl (za2 (zc8 (zax (pl_int .i64) (by first | rfl | (simp only [go_sem, Nat.reduceBEq]; rfl)) (by first | rfl | (simp; done) | (simp <;> omega))) trivial) (za2 rfl zad)) rfl (callP_decree_Run a0 a1 v4 hv4) ?_
 refine .rn 6 ?_
 refine .nil ⟨nofun, ?_⟩
 refine .seq ?_
 obtain ⟨v5, hv5, h⟩ := bind_some h
 refine .rg zS [0, 1, 5, 6, 7, 8, 9, 10, 11] ?_
 refine .rn 2 ?_
 refine .call (r := .tuple [.agg [.imm 1 (v5.1.Members.map (D.int .i64)) 12, .imm 3 (v5.1.Votes.map TVote.d) 12, .imm 7 (v5.1.Tries.map TAttempt.d) 12, .imm 10 (v5.1.Mail.map TMail.d) 12, .imm 2 (v5.1.Chosen.map TChoice.d) 12], .int .i64 v5.2]) rfl rfl rfl rfl rfl rfl (callP_r09_Run a0 a1 v5 hv5) ?_
 refine .rn 6 ?_
 refine .nil ⟨nofun, ?_⟩
 refine .seq ?_
 obtain ⟨v6, hv6, h⟩ := bind_some h
 obtain ⟨v7, hv7, h⟩ := bind_some h
 obtain ⟨v8, hv8, h⟩ := bind_some h
 refine .rg zS [0, 5, 6, 7, 8, 9, 10, 11, 12, 13] ?_
 refine .rn 2 ?_
 refine .call (r := .bool v6) rfl rfl rfl rfl rfl rfl (callP_r09_Same v2.1 v3.1 v6 hv6) ?_
 refine .rn 8 ?_
 refine .gcall (r := .bool v7) rfl rfl rfl rfl rfl (fun hg => ⟨[], [.agg [.imm 1 (v4.1.Members.map (D.int .i64)) 12, .imm 3 (v4.1.Votes.map TVote.d) 12, .imm 7 (v4.1.Tries.map TAttempt.d) 12, .imm 10 (v4.1.Mail.map TMail.d) 12, .imm 2 (v4.1.Chosen.map TChoice.d) 12], .agg [.imm 1 (v5.1.Members.map (D.int .i64)) 12, .imm 3 (v5.1.Votes.map TVote.d) 12, .imm 7 (v5.1.Tries.map TAttempt.d) 12, .imm 10 (v5.1.Mail.map TMail.d) 12, .imm 2 (v5.1.Chosen.map TChoice.d) 12]], _, rfl, gd hg, rfl, (callP_r09_Same v4.1 v5.1 v7 (za0 hv7 hg))⟩) ?_
 refine .rn 6 ?_
 refine .rn 3 ?_
 refine .glcall (r := .bool v8) [] rfl rfl rfl rfl rfl (fun hg => ⟨[], [.ref 0 1 0 a0.length (some uC), .imm 1 (a0.map (D.int .i64)) 4], _, rfl, gd hg, (za2 (zc8 (zax (pl_int .i64) (by first | rfl | (simp only [go_sem, Nat.reduceBEq]; rfl)) (by first | rfl | (simp; done) | (simp <;> omega))) trivial) (za2 rfl zad)), rfl, (callP_r01_SameInts a0 a0 v8 (za0 hv8 hg))⟩) ?_
 refine .rn 2 ?_
 refine .nil ⟨nofun, ?_⟩
 have hq := sj h
 subst r
 exact .ret ⟨.inr rfl, rsi⟩
end Go.Proofs
end
section
namespace Go.Proofs
open Go.Tm
def zbt : Int -> List Int -> Bool
 | _, [] => true
 | last, n :: r => decide (last < n) && decide (n < 6) && zbt n r
def gen : Nat -> Int -> List (List Int)
 | 0, _ => [[]]
 | f + 1, lo => gen f (lo + 1) ++ (gen f (lo + 1)).map fun r => (lo + 1) :: r
theorem nil_gen : ∀ (f : Nat) (lo : Int), [] ∈ gen f lo
 | 0, _ => by simp [gen]
 | f + 1, lo => by simp only [gen, List.mem_append]; exact .inl (nil_gen f _)
theorem mem_gen : ∀ (f : Nat) (lo : Int) (l : List Int), 5 - lo <= f -> zbt lo l = true -> l ∈ gen f lo
 | f, lo, [], _, _ => nil_gen f lo
 | 0, lo, x :: r, hf, h => by
  simp only [zbt, Bool.and_eq_true, decide_eq_true_eq] at h
  omega
 | f + 1, lo, x :: r, hf, h => by
  have h' := h
  simp only [zbt, Bool.and_eq_true, decide_eq_true_eq] at h'
  simp only [gen, List.mem_append, List.mem_map]
  by_cases hx : x = lo + 1
  ·subst hx
   exact .inr ⟨r, mem_gen f (lo + 1) r (by omega) h'.2, rfl⟩
  ·refine .inl (mem_gen f (lo + 1) (x :: r) (by omega) ?_)
   simp only [zbt, Bool.and_eq_true, decide_eq_true_eq]
   exact ⟨⟨by omega, h'.1.2⟩, h'.2⟩
def setB (l : List Int) : Int := l.foldl (fun s n => bif decide (n >= 0) && decide (n < 6) then bitw .or .u64 s (shw true .u64 1 n) else s) 0
def hasI (l : List Int) (n : Int) : Bool := l.any fun x => x == n
def withinI (l all : List Int) : Bool := l.all fun n => hasI all n
end Go.Proofs
end
section
namespace Go.Proofs
open Go.Tm
def popI (n : Int) : Int :=
 let a := wr .u64 (bitw .and .u64 (shw false .u64 n 1) 6148914691236517205 + bitw .and .u64 n 6148914691236517205)
 let b := wr .u64 (bitw .and .u64 (shw false .u64 a 2) 3689348814741910323 + bitw .and .u64 a 3689348814741910323)
 let c := bitw .and .u64 (wr .u64 (shw false .u64 b 4 + b)) 1085102592571150095
 let d := wr .u64 (c + shw false .u64 c 8)
 let e := wr .u64 (d + shw false .u64 d 16)
 let f := wr .u64 (e + shw false .u64 e 32)
 bitw .and .i64 (wr .i64 f) 127
def mask (p : Int -> Bool) : List Int := [0, 1, 2, 3, 4, 5].filter p
theorem mask_gen (p : Int -> Bool) : mask p ∈ gen 6 (-1) := by
 refine mem_gen 6 (-1) _ (by omega) ?_
 unfold mask
 cases h0 : p 0 <;> cases h1 : p 1 <;> cases h2 : p 2 <;> cases h3 : p 3 <;> cases h4 : p 4 <;> cases h5 : p 5 <;> simp [h0, h1, h2, h3, h4, h5, zbt]
def setStep (s n : Int) : Int := bif decide (n >= 0) && decide (n < 6) then bitw .or .u64 s (shw true .u64 1 n) else s
theorem setB_snoc (l : List Int) (n : Int) : setB (l ++ [n]) = setStep (setB l) n := by
 unfold setB
 rw [List.foldl_append]
 rfl
theorem step_all : ((gen 6 (-1)).all fun k => [0, 1, 2, 3, 4, 5].all fun n => setStep (setB k) n == setB (mask fun x => hasI k x || x == n)) = true := by decide +kernel
theorem mask_congr {p q : Int -> Bool} (h : ∀ x ∈ [(0 : Int), 1, 2, 3, 4, 5], p x = q x) : mask p = mask q := by
 unfold mask
 exact List.filter_congr h
theorem hasI_mask (p : Int -> Bool) (x : Int) (hx : x ∈ [(0 : Int), 1, 2, 3, 4, 5]) : hasI (mask p) x = p x := by
 unfold hasI mask
 rw [List.any_filter]
 simp only [List.any_cons, List.any_nil]
 simp only [List.mem_cons, List.not_mem_nil, or_false] at hx
 rcases hx with rfl | rfl | rfl | rfl | rfl | rfl <;> simp
theorem hasI_snoc (l : List Int) (n x : Int) : hasI (l ++ [n]) x = (hasI l x || n == x) := by
 unfold hasI
 simp
theorem setB_mask (l : List Int) : setB l = setB (mask (hasI l)) := by
 generalize hm : l.reverse = r
 have hl : l = r.reverse := by rw [<- hm, List.reverse_reverse]
 clear hm
 subst hl
 induction r with
 | nil => decide +kernel
 | cons n r ih =>
  rw [List.reverse_cons, setB_snoc, ih]
  by_cases hn : n ∈ [(0 : Int), 1, 2, 3, 4, 5]
  ·have h := List.all_eq_true.1 (List.all_eq_true.1 step_all _ (mask_gen (hasI r.reverse))) n hn
   rw [eq_of_beq h]
   congr 1
   refine mask_congr fun x hx => ?_
   rw [hasI_mask _ x hx, hasI_snoc]
   congr 1
   rw [Bool.eq_iff_iff, beq_iff_eq, beq_iff_eq]
   exact eq_comm
  ·have h1 : setStep (setB (mask (hasI r.reverse))) n = setB (mask (hasI r.reverse)) := by
    unfold setStep
    have : (decide (n >= 0) && decide (n < 6)) = false := by
     rw [Bool.eq_false_iff]
     intro hh
     simp only [Bool.and_eq_true, decide_eq_true_eq] at hh
     exact hn (by simp only [List.mem_cons, List.not_mem_nil, or_false]; omega)
    rw [this]; rfl
   rw [h1]
   congr 1
   refine mask_congr fun x hx => ?_
   rw [hasI_snoc]
   have : (n == x) = false := by
    rw [Bool.eq_false_iff]
    intro hh
    rw [eq_of_beq hh] at hn
    exact hn hx
   rw [this, Bool.or_false]
theorem pop_all : ((gen 6 (-1)).all fun m => (gen 6 (-1)).all fun k => popI (bitw .and .u64 (setB m) (setB k)) == ((m.filter (hasI k)).length : Int)) = true := by decide +kernel
theorem rises_mem {m : List Int} (hm : zbt (-1) m = true) : ∀ x ∈ m, x ∈ [(0 : Int), 1, 2, 3, 4, 5] := by
 have key : ∀ (l : List Int) (k : Int), zbt k l = true -> ∀ x ∈ l, k < x /\ x < 6 := by
  intro l
  induction l with
  | nil => intro _ _ x hx; cases hx
  | cons y l ih =>
   intro k h x hx
   simp only [zbt, Bool.and_eq_true, decide_eq_true_eq] at h
   rcases List.mem_cons.1 hx with rfl | hx
   ·exact h.1
   ·have := ih y h.2 x hx
    omega
 intro x hx
 have := key m (-1) hm x hx
 simp only [List.mem_cons, List.not_mem_nil, or_false]
 omega
theorem pop_count {m : List Int} (hm : zbt (-1) m = true) (s : List Int) : popI (bitw .and .u64 (setB m) (setB s)) = ((m.filter (hasI s)).length : Int) := by
 rw [setB_mask s]
 have h := List.all_eq_true.1 (List.all_eq_true.1 pop_all m (mem_gen 6 (-1) m (by omega) hm)) _ (mask_gen (hasI s))
 rw [eq_of_beq h]
 congr 2
 exact List.filter_congr fun x hx => hasI_mask _ x (rises_mem hm x hx)
end Go.Proofs
end
section
namespace Go.Proofs
open Go.Tm
set_option linter.unusedSimpArgs false
theorem nodes_loop (l : List TPromise) : ∀ acc : List Int, acc.length + l.length < 1000000 -> zas l acc = some (acc ++ l.map TPromise.Node) := by
 induction l with
 | nil => intro acc _; simp [zas]
 | cons y l ih =>
  intro acc h
  simp only [List.length_cons] at h
  rw [zas, if_pos (by simp; omega), ih _ (by simp; omega)]
  simp
theorem nodes_eq (l : List TPromise) (h : l.length < 1000000) : zbp l = some (l.map TPromise.Node) := by
 rw [zbp, nodes_loop l [] (by simpa using h)]; rfl
def bestS : List TPromise -> List UInt8 -> Int -> List UInt8
 | [], s, _ => s
 | y :: l, s, n => if y.Ballot > n then bestS l y.Value y.Ballot else bestS l s n
theorem best_loop (l : List TPromise) : ∀ s n, zbj l s n = some (bestS l s n) := by
 induction l with
 | nil => intro s n; rfl
 | cons y l ih =>
  intro s n
  rw [zbj, bestS]
  split <;> simp only [Option.bind_some] <;> exact ih _ _
theorem best_eq (l : List TPromise) (w : List UInt8) : m_attempt_Best l w = some (bestS l w 0) := by
 rw [m_attempt_Best, best_loop]; rfl
theorem index_loop (v : Int) (l : List Int) : ∀ n : Nat, (v ∈ l -> ∃ k : Nat, zak v l n = some (.inl (k : Int))) /\ (v ∉ l -> zak v l n = some (.inr ())) := by
 induction l with
 | nil => intro n; exact ⟨(fun h => by cases h), fun _ => rfl⟩
 | cons y l ih =>
  intro n
  rw [zak]
  by_cases h : v = y
  ·rw [if_pos h]
   exact ⟨fun _ => ⟨n, rfl⟩, fun hn => absurd (h ▸ List.mem_cons_self) hn⟩
  ·rw [if_neg h]
   refine ⟨fun hv => (ih (n + 1)).1 ?_, fun hv => (ih (n + 1)).2 fun hh => hv (List.mem_cons_of_mem _ hh)⟩
   rcases List.mem_cons.1 hv with hv | hv
   ·exact absurd hv h
   ·exact hv
theorem has_eq (l : List Int) (v : Int) : m_quorum_Has l v = some (decide (v ∈ l)) := by
 rw [m_quorum_Has, zce, m_slices_Index_int_int]
 by_cases h : v ∈ l
 ·obtain ⟨k, hk⟩ := (index_loop v l 0).1 h
  rw [hk]
  simp [h]
 ·rw [(index_loop v l 0).2 h]
  simp [h]
end Go.Proofs
end
section
namespace Go.Proofs
open Go.Tm
set_option linter.unusedSimpArgs false
theorem rises_lt : ∀ (l : List Int) (k : Int), zbt k l = true -> ∀ x ∈ l, k < x /\ x < 6 := by
 intro l
 induction l with
 | nil => intro _ _ x hx; cases hx
 | cons y l ih =>
  intro k h x hx
  simp only [zbt, Bool.and_eq_true, decide_eq_true_eq] at h
  rcases List.mem_cons.1 hx with rfl | hx
  ·exact h.1
  ·have := ih y h.2 x hx
   omega
theorem qcheck_loop (l : List Int) : ∀ n, zb2 l n = some (if zbt n l = true then .inr (l.getLastD n) else .inl 60) := by
 induction l with
 | nil => intro n; simp [zb2, zbt]
 | cons y l ih =>
  intro n
  rw [zb2]
  by_cases h : (y <= n) \/ (y >= 6)
  ·rw [if_pos h, if_neg (by simp only [zbt, Bool.and_eq_true, decide_eq_true_eq]; omega)]
  ·rw [if_neg h, ih]
   have : zbt n (y :: l) = zbt y l := by
    simp only [zbt]
    have h1 : decide (n < y) = true := by simp; omega
    have h2 : decide (y < 6) = true := by simp; omega
    simp [h1, h2]
   rw [this, List.getLastD_cons]
def QOk (l : List Int) : Prop := l.length <= 6 /\ zbt (-1) l = true /\ l ≠ []
instance (l : List Int) : Decidable (QOk l) := by unfold QOk; infer_instance
theorem qcheck_eq (l : List Int) : zaz l = some (if l.length > 6 then 4 else if zbt (-1) l = true /\ l ≠ [] then 0 else 60) := by
 rw [zaz]
 by_cases h : (l.length : Int) > 6
 ·rw [if_pos h, if_pos (by omega)]
 ·rw [if_neg h, if_neg (by omega), qcheck_loop]
  by_cases hr : zbt (-1) l = true
  ·rw [if_pos hr]
   cases l with
   | nil => simp
   | cons y l =>
    have hl := (rises_lt (y :: l) (-1) hr ((y :: l).getLastD (-1)) (by rw [List.getLastD_eq_getLast?, List.getLast?_eq_some_getLast (by simp)]; exact List.getLast_mem (by simp))).1
    simp only [Option.bind_some, ne_eq, reduceCtorEq, not_false_eq_true, and_true, if_pos hr]
    rw [if_neg (by omega)]
  ·rw [if_neg hr]
   simp [hr]
theorem qok_iff (l : List Int) : zaz l = some 0 ↔ QOk l := by
 rw [qcheck_eq]
 unfold QOk
 by_cases h : l.length > 6
 ·rw [if_pos h]; simp; omega
 ·rw [if_neg h]
  by_cases h2 : zbt (-1) l = true /\ l ≠ []
  ·rw [if_pos h2]; simp only [true_iff]; exact ⟨by omega, h2⟩
  ·rw [if_neg h2]; simp; intro _ h3; exact Classical.byContradiction fun h4 => h2 ⟨h3, h4⟩
end Go.Proofs
end
section
namespace Go.Proofs
open Go.Tm
set_option linter.unusedSimpArgs false
def BOk (b : Int) : Prop := ¬ (wr .i64 (b.tdiv 8) < 1 \/ wr .i64 (b.tdiv 8) > 1048576) /\ b.tmod 8 >= 0 /\ b.tmod 8 < 6
instance (b : Int) : Decidable (BOk b) := by unfold BOk; infer_instance
theorem bcheck_eq (b : Int) : zbc b = some (if BOk b then 0 else 50) := by
 rw [zbc, m_ballot_Of, m_ballot_node]
 unfold BOk
 by_cases h : wr .i64 (b.tdiv 8) < 1 \/ wr .i64 (b.tdiv 8) > 1048576
 ·simp [h]
 ·by_cases h1 : b.tmod 8 >= 0 <;> by_cases h2 : b.tmod 8 < 6 <;> simp [h, h1, h2]
def MayS (p : TPromise) (b : Int) : Prop := if p.Ballot = 0 then p.Value = [] else BOk p.Ballot /\ p.Ballot < b /\ p.Value.length <= 1024
instance (p : TPromise) (b : Int) : Decidable (MayS p b) := by unfold MayS; infer_instance
theorem may_eq (p : TPromise) (b : Int) : m_attempt_may p b = some (decide (MayS p b)) := by
 rw [m_attempt_may, bcheck_eq]
 by_cases h : p.Ballot = 0
 ·have e : MayS p b ↔ p.Value = [] := by unfold MayS; rw [if_pos h]
  have e2 : decide (MayS p b) = decide (p.Value = []) := decide_eq_decide.2 e
  rw [if_pos h, e2]
  congr 1
  rw [Bool.eq_iff_iff]
  simp
 ·have e : MayS p b ↔ (BOk p.Ballot /\ p.Ballot < b /\ p.Value.length <= 1024) := by unfold MayS; rw [if_neg h]
  have e2 : decide (MayS p b) = decide (BOk p.Ballot /\ p.Ballot < b /\ p.Value.length <= 1024) := decide_eq_decide.2 e
  rw [if_neg h, e2]
  by_cases h1 : BOk p.Ballot <;> simp [h1]
  rw [Bool.eq_iff_iff]
  simp
  intro _
  omega
end Go.Proofs
end
section
namespace Go.Proofs
open Go.Tm
set_option linter.unusedSimpArgs false
def riseS (m : List Int) : Option Int -> List Int -> Bool
 | _, [] => true
 | k, y :: l => (match k with | none => true | some k => decide (k < y)) && decide (y ∈ m) && riseS m (some y) l
theorem rising_loop (m a0 : List Int) : ∀ (l : List Int) (n : Nat), a0.drop n = l -> zau a0 m l n = some (if riseS m (if n = 0 then none else some (a0.getD (n - 1) default)) l = true then .inr () else .inl false) := by
 intro l
 induction l with
 | nil => intro n _; simp [zau, riseS]
 | cons y l ih =>
  intro n h
  have hn : n < a0.length := by
   rcases Nat.lt_or_ge n a0.length with h1 | h1
   ·exact h1
   ·rw [List.drop_eq_nil_of_le h1] at h; cases h
  have hy : a0.getD n default = y := by
   have := List.drop_eq_getElem_cons hn
   rw [h] at this
   simp only [List.cons.injEq] at this
   simp [List.getD, List.getElem?_eq_getElem hn, this.1]
  have hl : a0.drop (n + 1) = l := by
   have := List.drop_eq_getElem_cons hn
   rw [h] at this
   simp only [List.cons.injEq] at this
   exact this.2.symm
  rw [zau, has_eq]
  have key := ih (n + 1) hl
  rw [if_neg (show ¬ (n + 1 = 0) by omega), show n + 1 - 1 = n from rfl, hy] at key
  by_cases h0 : n = 0
  ·subst h0
   by_cases hm : y ∈ m
   ·simp [hm, key, riseS]
   ·simp [hm, riseS]
  ·have hp : (n : Int) > 0 := by omega
   rw [if_neg h0]
   generalize a0.getD (n - 1) default = z
   by_cases hle : y <= z
   ·have : ¬ (z < y) := by omega
    have hn0 : 0 < n := by omega
    simp [hle, riseS, this, h0, hn0]
   ·have : z < y := by omega
    by_cases hm : y ∈ m
    ·simp [hle, riseS, this, hm, key]
    ·simp [hle, riseS, this, hm]
theorem rising_eq (l m : List Int) : zc7 l m = some (riseS m none l) := by
 rw [zc7, rising_loop m l l 0 (by simp)]
 rw [if_pos rfl]
 cases h : riseS m none l <;> simp
end Go.Proofs
end
section
namespace Go.Proofs
open Go.Tm
set_option linter.unusedSimpArgs false
theorem set_loop (l : List Int) : ∀ s, zc0 l s = some (l.foldl (fun s n => bif decide (n >= 0) && decide (n < 6) then bitw .or .u64 s (shw true .u64 1 n) else s) s) := by
 induction l with
 | nil => intro s; rfl
 | cons y l ih =>
  intro s
  rw [zc0, List.foldl_cons]
  by_cases h0 : y >= 0
  ·by_cases h6 : y < 6
   ·have : 0 <= y := h0
    simp [h0, h6, this, ih]
   ·simp [h0, h6, ih]
  ·simp [h0, ih]
theorem set_eq (l : List Int) : m_quorum_set l = some (setB l) := by
 rw [m_quorum_set, set_loop]; rfl
theorem ones_eq (n : Int) : m_math_bits_OnesCount n = some (popI n) := by
 rw [m_math_bits_OnesCount, m_math_bits_OnesCount64]
 rfl
def mostS (m l : List Int) : Bool := decide (((m.filter (hasI l)).length : Int) >= (m.length / 2 + 1 : Nat))
theorem most_eq (m l : List Int) (hm : QOk m) (hl : l.length <= 1000) : m_quorum_Most m l = some (mostS m l, 0) := by
 have hn : wr .i64 (wr .i64 ((m.length : Int).tdiv 2) + 1) = ((m.length / 2 + 1 : Nat) : Int) := by
  have h6 := hm.1
  generalize m.length = k at h6
  match k, h6 with
  | 0, _ => decide +kernel
  | 1, _ => decide +kernel
  | 2, _ => decide +kernel
  | 3, _ => decide +kernel
  | 4, _ => decide +kernel
  | 5, _ => decide +kernel
  | 6, _ => decide +kernel
  | k + 7, h => omega
 rw [m_quorum_Most, m_quorum_Need, (qok_iff m).2 hm]
 simp only [Option.bind_some, not_true_eq_false, if_false, hn]
 rw [if_neg (by omega), set_eq, set_eq]
 simp only [Option.bind_some, ones_eq, pop_count hm.2.1 l]
 rfl
end Go.Proofs
end
section
namespace Go.Proofs
open Go.Tm
set_option linter.unusedSimpArgs false
theorem indexFunc_loop (f : TPromise -> Option Bool) (g : TPromise -> Bool) (hf : ∀ x, f x = some (g x)) (l : List TPromise) : ∀ n : Nat, (l.any g = true -> ∃ k : Nat, zac f l n = some (.inl (k : Int))) /\ (l.any g = false -> zac f l n = some (.inr ())) := by
 induction l with
 | nil => intro n; exact ⟨(fun h => by cases h), fun _ => rfl⟩
 | cons y l ih =>
  intro n
  rw [zac, hf, List.any_cons]
  cases hg : g y with
  | true => exact ⟨fun _ => ⟨n, by simp⟩, fun h => by cases h⟩
  | false => simpa using ih (n + 1)
theorem containsFunc_eq (f : TPromise -> Option Bool) (g : TPromise -> Bool) (hf : ∀ x, f x = some (g x)) (l : List TPromise) : zai l f = some (l.any g) := by
 rw [zai, zay]
 cases h : l.any g with
 | true => obtain ⟨k, hk⟩ := (indexFunc_loop f g hf l 0).1 h; rw [hk]; simp
 | false => rw [(indexFunc_loop f g hf l 0).2 h]; simp
theorem equal_loop (b : List Int) : ∀ (l : List Int) (n : Nat), n + l.length = b.length -> zal b l n = some (if l = b.drop n then .inr () else .inl false) := by
 intro l
 induction l with
 | nil => intro n h; simp [zal]; simp at h; omega
 | cons y l ih =>
  intro n h
  simp only [List.length_cons] at h
  have hn : n < b.length := by omega
  have hg : b.getD n default = b[n] := by simp [List.getD, List.getElem?_eq_getElem hn]
  have hd := List.drop_eq_getElem_cons hn
  rw [zal, if_pos hn, hg]
  generalize b[n] = z at hd
  rw [hd]
  by_cases hy : y = z
  ·rw [if_neg (by simpa using hy), ih (n + 1) (by omega)]
   simp only [hy, List.cons.injEq, true_and]
  ·rw [if_pos hy]
   simp only [hy, List.cons.injEq, false_and, if_false]
theorem equal_eq (a b : List Int) : zat a b = some (decide (a = b)) := by
 rw [zat]
 by_cases h : (a.length : Int) = (b.length : Int)
 ·rw [if_neg (by simpa using h), equal_loop b a 0 (by omega), List.drop_zero]
  by_cases hab : a = b <;> simp [hab]
 ·rw [if_pos h]
  have : a ≠ b := fun hh => h (by rw [hh])
  simp [this]
theorem equalP_loop (b : List TPromise) : ∀ (l : List TPromise) (n : Nat), n + l.length = b.length -> zaf b l n = some (if l = b.drop n then .inr () else .inl false) := by
 intro l
 induction l with
 | nil => intro n h; simp [zaf]; simp at h; omega
 | cons y l ih =>
  intro n h
  simp only [List.length_cons] at h
  have hn : n < b.length := by omega
  have hg : b.getD n default = b[n] := by simp [List.getD, List.getElem?_eq_getElem hn]
  have hd := List.drop_eq_getElem_cons hn
  rw [zaf, if_pos hn, hg]
  generalize b[n] = z at hd
  rw [hd]
  have e : (y.Node = z.Node /\ y.Ballot = z.Ballot /\ y.Value = z.Value) ↔ y = z := by cases y; cases z; simp
  by_cases hy : y = z
  ·rw [if_neg (by simpa using e.2 hy), ih (n + 1) (by omega)]
   simp only [hy, List.cons.injEq, true_and]
  ·rw [if_pos (fun hh => hy (e.1 hh))]
   simp only [hy, List.cons.injEq, false_and, if_false]
theorem equalP_eq (a b : List TPromise) : zaw a b = some (decide (a = b)) := by
 rw [zaw]
 by_cases h : (a.length : Int) = (b.length : Int)
 ·rw [if_neg (by simpa using h), equalP_loop b a 0 (by omega), List.drop_zero]
  by_cases hab : a = b <;> simp [hab]
 ·rw [if_pos h]
  have : a ≠ b := fun hh => h (by rw [hh])
  simp [this]
theorem same_eq (a b : TAttempt) : m_attempt_Same a b = some (decide (a = b)) := by
 obtain ⟨p, bl, m, w, v, pr, ac⟩ := a
 obtain ⟨p', bl', m', w', v', pr', ac'⟩ := b
 simp only [m_attempt_Same, equal_eq, equalP_eq, TAttempt.mk.injEq]
 by_cases h1 : p = p' <;> by_cases h2 : bl = bl' <;> by_cases h3 : m = m' <;> by_cases h4 : w = w' <;> by_cases h5 : v = v' <;> by_cases h6 : pr = pr' <;> simp [h1, h2, h3, h4, h5, h6]
end Go.Proofs
end
section
namespace Go.Proofs
open Go.Tm
set_option linter.unusedSimpArgs false
structure Kept (a : TAttempt) : Prop where
 ballot : BOk a.Ballot
 members : QOk a.Members
 wish : a.Wish.length <= 1024
 nodes : riseS a.Members none (a.Promises.map TPromise.Node) = true
 accepted : riseS a.Members none a.Accepted = true
 may : ∀ p ∈ a.Promises, MayS p a.Ballot
 most : mostS a.Members (a.Promises.map TPromise.Node) = decide (a.Phase > 1)
 chosen : mostS a.Members a.Accepted = (a.Phase == 3)
 value : a.Phase = 1 \/ a.Value = bestS a.Promises a.Wish 0
def Valid (a : TAttempt) : Prop :=
 if a.Phase = 0 then a = ⟨0, 0, [], [], [], [], []⟩
 else ((a.Phase = 1 /\ a.Value = [] /\ a.Accepted = []) \/ a.Phase = 2 \/ a.Phase = 3) /\ Kept a
theorem any_may (l : List TPromise) (b : Int) : (l.any fun x => !decide (MayS x b)) = true ↔ ¬ ∀ p ∈ l, MayS p b := by
 simp
theorem risesP_len : ∀ (l : List Int) (k : Int), zbt k l = true -> k < 6 -> (l.length : Int) <= 5 - k := by
 intro l
 induction l with
 | nil => intro k _ h; simp; omega
 | cons y l ih =>
  intro k h hk
  simp only [zbt, Bool.and_eq_true, decide_eq_true_eq] at h
  have := ih y h.2 h.1.2
  simp only [List.length_cons]
  omega
theorem riseS_risesP {m : List Int} (hm : QOk m) : ∀ (l : List Int) (k : Int), riseS m (some k) l = true -> zbt k l = true := by
 intro l
 induction l with
 | nil => intro _ _; rfl
 | cons y l ih =>
  intro k h
  simp only [riseS, Bool.and_eq_true, decide_eq_true_eq] at h
  have := (rises_lt m (-1) hm.2.1 y h.1.2).2
  simp only [zbt, Bool.and_eq_true, decide_eq_true_eq]
  exact ⟨⟨h.1.1, this⟩, ih y h.2⟩
theorem riseS_none {m : List Int} (hm : QOk m) (l : List Int) (h : riseS m none l = true) : zbt (-1) l = true := by
 cases l with
 | nil => rfl
 | cons y l =>
  simp only [riseS, Bool.and_eq_true, decide_eq_true_eq, true_and] at h
  have := rises_lt m (-1) hm.2.1 y h.1
  simp only [zbt, Bool.and_eq_true, decide_eq_true_eq]
  exact ⟨this, riseS_risesP hm l y h.2⟩
theorem riseS_len {m : List Int} (hm : QOk m) (l : List Int) (h : riseS m none l = true) : l.length <= 6 := by
 have := risesP_len l (-1) (riseS_none hm l h) (by omega)
 omega
theorem amost_eq (m l : List Int) (hm : QOk m) (hl : l.length <= 1000) : zbq m l = some (mostS m l) := by
 rw [zbq, most_eq m l hm hl]; rfl
theorem check1_eq (x : TPromise) (a : TAttempt) : zcc x a = some (!decide (MayS x a.Ballot)) := by
 rw [zcc, may_eq]; rfl
theorem qcheck_ne {m : List Int} (h : ¬ QOk m) : ∃ e, zaz m = some e /\ e ≠ 0 := by
 have h2 : zaz m ≠ some 0 := fun hh => h ((qok_iff m).1 hh)
 rw [qcheck_eq] at h2 ⊢
 exact ⟨_, rfl, fun hh => h2 (by rw [hh])⟩
theorem kept_iff (a : TAttempt) : Kept a ↔ BOk a.Ballot /\ QOk a.Members /\ a.Wish.length <= 1024 /\ riseS a.Members none (a.Promises.map TPromise.Node) = true /\ riseS a.Members none a.Accepted = true /\ (∀ p ∈ a.Promises, MayS p a.Ballot) /\ mostS a.Members (a.Promises.map TPromise.Node) = decide (a.Phase > 1) /\ mostS a.Members a.Accepted = (a.Phase == 3) /\ (a.Phase = 1 \/ a.Value = bestS a.Promises a.Wish 0) :=
 ⟨fun h => ⟨h.1, h.2, h.3, h.4, h.5, h.6, h.7, h.8, h.9⟩, fun ⟨h1, h2, h3, h4, h5, h6, h7, h8, h9⟩ => ⟨h1, h2, h3, h4, h5, h6, h7, h8, h9⟩⟩
def checkTail (a0 : TAttempt) (b2 : Bool) : Option Bool :=
 Option.bind (if b2 = true then zbc a0.Ballot else some default) fun v2 =>
 Option.bind (if (b2 = true) /\ (v2 = 0) then zaz a0.Members else some default) fun v3 =>
 Option.bind (if (((b2 = true) /\ (v2 = 0)) /\ (v3 = 0)) /\ ((a0.Wish.length : Int) <= 1024) then zbp a0.Promises else some default) fun v4 =>
 Option.bind (if (((b2 = true) /\ (v2 = 0)) /\ (v3 = 0)) /\ ((a0.Wish.length : Int) <= 1024) then zc7 v4 a0.Members else some default) fun v5 =>
 Option.bind (if ((((b2 = true) /\ (v2 = 0)) /\ (v3 = 0)) /\ ((a0.Wish.length : Int) <= 1024)) /\ (v5 = true) then zc7 a0.Accepted a0.Members else some default) fun v6 =>
 Option.bind (if (((((b2 = true) /\ (v2 = 0)) /\ (v3 = 0)) /\ ((a0.Wish.length : Int) <= 1024)) /\ (v5 = true)) /\ (v6 = true) then zai a0.Promises (fun x0 => zcc x0 a0) else some default) fun v7 =>
 Option.bind (if ((((((b2 = true) /\ (v2 = 0)) /\ (v3 = 0)) /\ ((a0.Wish.length : Int) <= 1024)) /\ (v5 = true)) /\ (v6 = true)) /\ (¬ (v7 = true)) then zbp a0.Promises else some default) fun v8 =>
 Option.bind (if ((((((b2 = true) /\ (v2 = 0)) /\ (v3 = 0)) /\ ((a0.Wish.length : Int) <= 1024)) /\ (v5 = true)) /\ (v6 = true)) /\ (¬ (v7 = true)) then zbq a0.Members v8 else some default) fun v9 =>
 Option.bind (if (((((((b2 = true) /\ (v2 = 0)) /\ (v3 = 0)) /\ ((a0.Wish.length : Int) <= 1024)) /\ (v5 = true)) /\ (v6 = true)) /\ (¬ (v7 = true))) /\ ((v9 == (decide (a0.Phase > 1))) = true) then zbq a0.Members a0.Accepted else some default) fun v10 =>
 Option.bind (if (((((((((b2 = true) /\ (v2 = 0)) /\ (v3 = 0)) /\ ((a0.Wish.length : Int) <= 1024)) /\ (v5 = true)) /\ (v6 = true)) /\ (¬ (v7 = true))) /\ ((v9 == (decide (a0.Phase > 1))) = true)) /\ ((v10 == (a0.Phase == 3)) = true)) /\ (¬ (a0.Phase = 1)) then m_attempt_Best a0.Promises a0.Wish else some default) fun v11 =>
 some (((((((((b2 && (v2 == 0)) && (v3 == 0)) && (decide ((a0.Wish.length : Int) <= 1024))) && v5) && v6) && (!v7)) && (v9 == (decide (a0.Phase > 1)))) && (v10 == (a0.Phase == 3))) && ((a0.Phase == 1) || (a0.Value == v11)))
theorem tail_eq (a : TAttempt) (hl : a.Promises.length < 1000000) (b2 : Bool) : ∃ r, checkTail a b2 = some r /\ (r = true ↔ b2 = true /\ Kept a) := by
 unfold checkTail
 rw [kept_iff]
 cases b2 with
 | false => simp
 | true =>
  rw [bcheck_eq]
  by_cases hb : BOk a.Ballot
  ·by_cases hq : QOk a.Members
   ·have hq0 := (qok_iff _).2 hq
    by_cases hw : a.Wish.length <= 1024
    ·have hw' : (a.Wish.length : Int) <= 1024 := by omega
     simp only [hb, hq0, hw', if_true, and_self, Option.bind_some, nodes_eq _ hl, rising_eq]
     by_cases h5 : riseS a.Members none (a.Promises.map TPromise.Node) = true
     ·by_cases h6 : riseS a.Members none a.Accepted = true
      ·have l1 := riseS_len hq _ h5
       have l2 := riseS_len hq _ h6
       rw [containsFunc_eq _ (fun x => !decide (MayS x a.Ballot)) (fun x => check1_eq x a)]
       simp only [h5, h6, and_self, if_true, Option.bind_some]
       by_cases h7 : ∀ p ∈ a.Promises, MayS p a.Ballot
       ·have h7' : (a.Promises.any fun x => !decide (MayS x a.Ballot)) = false := by
         rw [Bool.eq_false_iff]; intro hh; exact (any_may _ _).1 hh h7
        simp only [h7', Bool.false_eq_true, not_false_eq_true, and_self, if_true, Option.bind_some, amost_eq _ _ hq (Nat.le_trans l1 (by omega)), amost_eq _ _ hq (Nat.le_trans l2 (by omega)), best_eq]
        by_cases h9 : mostS a.Members (a.Promises.map TPromise.Node) = decide (a.Phase > 1)
        ·by_cases h10 : mostS a.Members a.Accepted = (a.Phase == 3)
         ·by_cases h11 : a.Phase = 1
          ·simp [h9, h10, h11, hq, hw]
           exact h7
          ·simp [h9, h10, h11, hq, hw]
           exact fun _ => h7
         ·simp [h9, h10]
        ·simp [h9]
       ·have h7' := (any_may _ _).2 h7
        simp [h7', h7]
      ·simp [h5, h6]
     ·simp [h5]
    ·have hw' : ¬ (a.Wish.length : Int) <= 1024 := by omega
     simp [hb, hq0, hw, hw']
   ·obtain ⟨e, he, hne⟩ := qcheck_ne hq
    simp [hb, he, hne, hq]
  ·simp [hb]
theorem check_eq (a : TAttempt) (hl : a.Promises.length < 1000000) : ∃ e, m_attempt_Check a = some e /\ (e = 0 ↔ Valid a) := by
 unfold Valid
 rw [m_attempt_Check]
 by_cases h0 : a.Phase = 0
 ·rw [if_pos h0, if_pos h0, same_eq]
  by_cases hz : a = ⟨0, 0, [], [], [], [], []⟩ <;> simp [hz]
 ·rw [if_neg h0, if_neg h0]
  have key : ∀ b2 : Bool, ∃ e, (Option.bind (checkTail a b2) fun b1 => if ¬ (b1 = true) then some (8 : Int) else some 0) = some e /\ (e = 0 ↔ b2 = true /\ Kept a) := by
   intro b2
   obtain ⟨r, h1, h2⟩ := tail_eq a hl b2
   rw [h1, <- h2]
   cases r <;> simp
  by_cases h1 : a.Phase = 1
  ·rw [if_pos h1]
   obtain ⟨e, he, h2⟩ := key ((a.Value == []) && ((a.Accepted.length : Int) == 0))
   refine ⟨e, he, ?_⟩
   rw [h2]
   simp [h1]
  ·rw [if_neg h1]
   by_cases h2 : a.Phase = 2
   ·obtain ⟨e, he, h3⟩ := key true
    refine ⟨e, ?_, ?_⟩
    ·have hb : (a.Phase == 2) = true := by simp [h2]
     rw [if_pos h2, hb]
     exact he
    ·rw [h3]
     simp [h2]
   ·by_cases h3 : a.Phase = 3
    ·obtain ⟨e, he, h4⟩ := key true
     refine ⟨e, ?_, ?_⟩
     ·have hb : (a.Phase == 3) = true := by simp [h3]
      rw [if_neg h2]
      refine Eq.trans ?_ he
      show Option.bind (Option.bind (Option.bind (some (a.Phase == 3)) _) _) _ = _
      generalize hg : (a.Phase == 3) = q at hb
      subst hb
      unfold checkTail
      rw [hg]
      rfl
     ·rw [h4]
      simp [h3]
    ·exact ⟨8, by simp [h2, h3], by simp [h1, h2, h3]⟩
end Go.Proofs
end
section
namespace Go.Proofs
open Go.Tm
set_option linter.unusedSimpArgs false
theorem half_eq (i j : Nat) (h : i + j < 4000000) : wr .i64 (shw false .u64 (wr .u64 (wr .i64 ((i : Int) + (j : Int)))) 1) = (((i + j) / 2 : Nat) : Int) := by
 have e1 : wr .i64 ((i : Int) + (j : Int)) = (i : Int) + (j : Int) := wr_eq _ _ (by show (-9223372036854775808 : Int) <= _; omega) (by show _ <= (9223372036854775807 : Int); omega)
 have e2 : wr .u64 ((i : Int) + (j : Int)) = (i : Int) + (j : Int) := wr_eq _ _ (by show (0 : Int) <= _; omega) (by show _ <= (18446744073709551615 : Int); omega)
 have e3 : shw false .u64 ((i : Int) + (j : Int)) 1 = (((i + j) / 2 : Nat) : Int) := by
  unfold shw
  show Int.fdiv ((i : Int) + (j : Int)) 2 = _
  rw [Int.fdiv_eq_ediv_of_nonneg _ (by omega)]
  omega
 rw [e1, e2, e3]
 exact wr_eq _ _ (by show (-9223372036854775808 : Int) <= _; omega) (by show _ <= (9223372036854775807 : Int); omega)
theorem search_loop (f : Int -> Option Bool) (K n : Nat) (hn : n < 1000000) (hf : ∀ x : Nat, x < n -> f (x : Int) = some (decide (K <= x))) : ∀ (fu i j : Nat), j - i < fu -> i <= K -> K <= j -> j <= n -> zb9 f fu (i : Int) (j : Int) = some (K : Int) := by
 intro fu
 induction fu with
 | zero => intro i j h; omega
 | succ fu ih =>
  intro i j h h1 h2 h3
  rw [zb9]
  by_cases hij : i < j
  ·rw [if_pos (by omega), half_eq i j (by omega), hf _ (by omega)]
   simp only [Option.bind_some]
   by_cases hk : K <= (i + j) / 2
   ·rw [if_neg (by simpa using hk)]
    exact ih i ((i + j) / 2) (by omega) h1 hk (by omega)
   ·rw [if_pos (by simpa using hk)]
    have e : wr .i64 ((((i + j) / 2 : Nat) : Int) + 1) = (((i + j) / 2 + 1 : Nat) : Int) := wr_eq _ _ (by show (-9223372036854775808 : Int) <= _; omega) (by show _ <= (9223372036854775807 : Int); omega)
    rw [e]
    exact ih _ j (by omega) (by omega) h2 h3
  ·rw [if_neg (by omega)]
   congr 2
   omega
theorem search_eq (f : Int -> Option Bool) (K n : Nat) (hn : n < 1000000) (hK : K <= n) (hf : ∀ x : Nat, x < n -> f (x : Int) = some (decide (K <= x))) : m_sort_Search (n : Int) f = some (K : Int) := by
 rw [m_sort_Search]
 have h := search_loop f K n hn hf ((n : Int).toNat + 1) 0 n (by simp) (by omega) hK (by omega)
 rw [show ((0 : Nat) : Int) = 0 from rfl] at h
 rw [h]
 rfl
end Go.Proofs
end
section
namespace Go.Proofs
open Go.Tm
set_option linter.unusedSimpArgs false
section
variable {α : Type} (key : α -> Int)
def insK (p : α) : List α -> List α
 | [] => [p]
 | y :: l => if key y < key p then y :: insK p l else p :: y :: l
def plc (v : Int) : List α -> Nat
 | [] => 0
 | y :: l => if key y < v then plc v l + 1 else 0
theorem plc_le (v : Int) : ∀ l : List α, plc key v l <= l.length := by
 intro l
 induction l with
 | nil => exact Nat.le_refl _
 | cons y l ih =>
  simp only [plc, List.length_cons]
  split <;> omega
theorem plc_test [Inhabited α] (v : Int) : ∀ (l : List α), (l.map key).Pairwise (· < ·) -> ∀ x, x < l.length -> (key (l.getD x default) >= v ↔ plc key v l <= x) := by
 intro l
 induction l with
 | nil => intro _ x hx; cases hx
 | cons y l ih =>
  intro h x hx
  simp only [List.map_cons, List.pairwise_cons] at h
  simp only [plc]
  cases x with
  | zero =>
   simp only [List.getD_cons_zero]
   by_cases hy : key y < v
   ·rw [if_pos hy]
    omega
   ·rw [if_neg hy]
    omega
  | succ x =>
   simp only [List.getD_cons_succ]
   simp only [List.length_cons] at hx
   by_cases hy : key y < v
   ·rw [if_pos hy, ih h.2 x (by omega)]
    omega
   ·rw [if_neg hy]
    have hm : l.getD x default ∈ l := by
     rw [List.getD_eq_getElem?_getD, List.getElem?_eq_getElem (by omega)]
     exact List.getElem_mem _
    have := h.1 _ (List.mem_map_of_mem hm)
    omega
theorem plc_has [Inhabited α] (v : Int) : ∀ (l : List α), (l.map key).Pairwise (· < ·) -> ((plc key v l < l.length /\ key (l.getD (plc key v l) default) = v) ↔ v ∈ l.map key) := by
 intro l
 induction l with
 | nil => intro _; simp [plc]
 | cons y l ih =>
  intro h
  simp only [List.map_cons, List.pairwise_cons] at h
  simp only [plc]
  by_cases hy : key y < v
  ·rw [if_pos hy, List.getD_cons_succ, List.map_cons, List.mem_cons, <- ih h.2]
   simp only [List.length_cons]
   have : v ≠ key y := by omega
   simp only [this, false_or]
   omega
  ·rw [if_neg hy, List.getD_cons_zero, List.map_cons, List.mem_cons]
   simp only [List.length_cons]
   constructor
   ·intro hh; exact .inl hh.2.symm
   ·rintro (hh | hh)
    ·exact ⟨by omega, hh.symm⟩
    ·have := h.1 _ hh
     omega
theorem ins_take (p : α) : ∀ l : List α, l.take (plc key (key p) l) ++ p :: l.drop (plc key (key p) l) = insK key p l := by
 intro l
 induction l with
 | nil => rfl
 | cons y l ih =>
  simp only [plc, insK]
  split
  ·simp only [List.take_succ_cons, List.drop_succ_cons, List.cons_append, ih]
  ·rfl
theorem ins_mem (p : α) (x : α) : ∀ l : List α, x ∈ insK key p l ↔ x = p \/ x ∈ l := by
 intro l
 induction l with
 | nil => simp [insK]
 | cons y l ih =>
  simp only [insK]
  split
  ·simp only [List.mem_cons, ih]
   constructor
   ·rintro (h | h | h) <;> simp [h]
   ·rintro (h | h | h) <;> simp [h]
  ·simp only [List.mem_cons]
theorem ins_len (p : α) : ∀ l : List α, (insK key p l).length = l.length + 1 := by
 intro l
 induction l with
 | nil => rfl
 | cons y l ih =>
  simp only [insK]
  split <;> simp [ih]
theorem ins_keys (p : α) (v : Int) (l : List α) : v ∈ (insK key p l).map key ↔ v = key p \/ v ∈ l.map key := by
 simp only [List.mem_map, ins_mem]
 constructor
 ·rintro ⟨x, rfl | hx, rfl⟩
  ·exact .inl rfl
  ·exact .inr ⟨x, hx, rfl⟩
 ·rintro (rfl | ⟨x, hx, rfl⟩)
  ·exact ⟨p, .inl rfl, rfl⟩
  ·exact ⟨x, .inr hx, rfl⟩
theorem ins_rise (m : List Int) (p : α) (hp : key p ∈ m) : ∀ (l : List α) (k : Option Int), (match k with | none => True | some k => k < key p) -> key p ∉ l.map key -> riseS m k (l.map key) = true -> riseS m k ((insK key p l).map key) = true := by
 intro l
 induction l with
 | nil =>
  intro k hk _ _
  cases k with
  | none => simp [insK, riseS, hp]
  | some k =>
   have : k < key p := hk
   simp [insK, riseS, hp, this]
 | cons y l ih =>
  intro k hk hn h
  simp only [List.map_cons, List.mem_cons, not_or] at hn
  simp only [List.map_cons, riseS, Bool.and_eq_true] at h
  simp only [insK]
  by_cases hy : key y < key p
  ·rw [if_pos hy]
   simp only [List.map_cons, riseS, Bool.and_eq_true]
   exact ⟨h.1, ih (some (key y)) hy hn.2 h.2⟩
  ·rw [if_neg hy]
   have hlt : key p < key y := by omega
   simp only [List.map_cons, riseS, Bool.and_eq_true]
   refine ⟨⟨?_, by simpa using hp⟩, ⟨⟨by simpa using hlt, h.1.2⟩, h.2⟩⟩
   cases k with
   | none => rfl
   | some k => simpa using hk
end
theorem rise_lt {m : List Int} : ∀ (l : List Int) (k : Int), riseS m (some k) l = true -> ∀ x ∈ l, k < x := by
 intro l
 induction l with
 | nil => intro _ _ x hx; cases hx
 | cons y l ih =>
  intro k h x hx
  simp only [riseS, Bool.and_eq_true, decide_eq_true_eq] at h
  rcases List.mem_cons.1 hx with rfl | hx
  ·exact h.1.1
  ·have := ih y h.2 x hx; omega
theorem rise_pw {m : List Int} : ∀ (l : List Int) (k : Option Int), riseS m k l = true -> l.Pairwise (· < ·) := by
 intro l
 induction l with
 | nil => intro _ _; exact .nil
 | cons y l ih =>
  intro k h
  simp only [riseS, Bool.and_eq_true] at h
  exact .cons (rise_lt l y h.2) (ih _ h.2)
theorem searchK {α : Type} [Inhabited α] (key : α -> Int) (l : List α) (v : Int) (f : Int -> Option Bool) (hl : l.length < 1000000) (hs : (l.map key).Pairwise (· < ·)) (hf : ∀ x : Nat, x < l.length -> f (x : Int) = some (decide (key (l.getD x default) >= v))) : m_sort_Search (l.length : Int) f = some (plc key v l : Int) :=
 search_eq f _ _ hl (plc_le key v l) fun x hx => by rw [hf x hx, decide_eq_decide.2 (plc_test key v l hs x hx)]
theorem searchInts_eq (l : List Int) (v : Int) (hl : l.length < 1000000) (hs : l.Pairwise (· < ·)) : m_sort_SearchInts l v = some (plc (fun x => x) v l : Int) := by
 rw [m_sort_SearchInts, searchK (fun x => x) l v _ hl (by simpa using hs)]
 ·rfl
 ·intro x hx
  rw [m_sort_SearchInts_1, if_pos (by omega)]
  rfl
theorem filter_le {α : Type} (p q : α -> Bool) (h : ∀ x, p x = true -> q x = true) : ∀ l : List α, (l.filter p).length <= (l.filter q).length := by
 intro l
 induction l with
 | nil => exact Nat.le_refl _
 | cons y l ih =>
  simp only [List.filter_cons]
  cases hp : p y with
  | true => rw [h y hp]; simp only [if_true, List.length_cons]; omega
  | false => cases hq : q y <;> simp <;> omega
theorem most_mono {m l l' : List Int} (h : ∀ x, x ∈ l -> x ∈ l') (hm : mostS m l = true) : mostS m l' = true := by
 unfold mostS at hm ⊢
 simp only [decide_eq_true_eq] at hm ⊢
 have := filter_le (hasI l) (hasI l') (fun x hx => by
  unfold hasI at hx ⊢
  simp only [List.any_eq_true, beq_iff_eq, exists_eq_right] at hx ⊢
  exact h x hx) m
 omega
theorem most_nil (m : List Int) : mostS m [] = false := by
 unfold mostS
 have : m.filter (hasI []) = [] := by
  rw [List.filter_eq_nil_iff]
  intro x _; simp [hasI]
 rw [this]
 simp
 omega
end Go.Proofs
end
section
namespace Go.Proofs
open Go.Tm
set_option linter.unusedSimpArgs false
abbrev insN := insK TPromise.Node
abbrev insI := insK (fun x : Int => x)
theorem insI_keys (v x : Int) (l : List Int) : x ∈ insI v l ↔ x = v \/ x ∈ l := ins_mem _ v x l
def withP (a : TAttempt) (l : List TPromise) : TAttempt :=
 if mostS a.Members (l.map TPromise.Node) = true then { a with Phase := 2, Value := bestS l a.Wish 0, Promises := l } else { a with Promises := l }
def za9 (a : TAttempt) (p : TPromise) : TAttempt :=
 if p.Node ∈ a.Promises.map TPromise.Node then a else withP a (insN p a.Promises)
def CanP (a : TAttempt) (b : Int) (p : TPromise) : Prop := Valid a /\ a.Phase = 1 /\ b = a.Ballot /\ p.Node ∈ a.Members /\ MayS p b
theorem Valid.kept {a : TAttempt} (h : Valid a) (h0 : a.Phase ≠ 0) : Kept a := by
 unfold Valid at h
 rw [if_neg h0] at h
 exact h.2
theorem twin_eq (a : TAttempt) (h1 : a.Members.length < 1000000) (h2 : a.Promises.length < 1000000) (h3 : a.Accepted.length < 1000000) : m_attempt_Twin a = some a := by
 rw [m_attempt_Twin, zah, zbk, zah, if_pos (by omega), if_pos (by omega), if_pos (by omega)]
 rfl
theorem Kept.lens {a : TAttempt} (h : Kept a) : a.Members.length <= 6 /\ a.Promises.length <= 6 /\ a.Accepted.length <= 6 := by
 have h1 := riseS_len h.members _ h.nodes
 rw [List.length_map] at h1
 exact ⟨h.members.1, h1, riseS_len h.members _ h.accepted⟩
theorem promised1_eq (a : TAttempt) (p : TPromise) (x : Nat) (hx : x < a.Promises.length) : zc4 (x : Int) a p = some (decide ((a.Promises.getD x default).Node >= p.Node)) := by
 rw [zc4, if_pos (by omega)]
 rfl
theorem promised_eq (a : TAttempt) (b : Int) (p : TPromise) (hl : a.Promises.length < 1000000) : ∃ r, zc1 a b p = some r /\ (r.2 = 0 ↔ CanP a b p) /\ (r.2 = 0 -> r.1 = za9 a p) := by
 rw [zc1]
 obtain ⟨e, he, hv⟩ := check_eq a hl
 rw [he]
 simp only [Option.bind_some]
 by_cases hva : Valid a
 ·have h0 := hv.2 hva
  subst h0
  rw [if_neg (by simp)]
  by_cases h1 : a.Phase = 1 /\ b = a.Ballot
  ·obtain ⟨h1, h2⟩ := h1
   rw [if_pos (by simp [h1, h2]), has_eq]
   simp only [Option.bind_some]
   by_cases h3 : p.Node ∈ a.Members
   ·rw [if_neg (by simp [h1, h2, h3]), may_eq]
    simp only [Option.bind_some]
    by_cases h4 : MayS p b
    ·rw [if_neg (by simp [h4])]
     have hk := hva.kept (by omega)
     obtain ⟨l1, l2, l3⟩ := hk.lens
     rw [twin_eq a (by omega) (by omega) (by omega)]
     simp only [Option.bind_some]
     have hpw : (a.Promises.map TPromise.Node).Pairwise (· < ·) := rise_pw _ _ hk.nodes
     rw [searchK TPromise.Node a.Promises p.Node _ (by omega) hpw (fun x hx => promised1_eq a p x hx)]
     simp only [Option.bind_some, Int.toNat_natCast]
     have hle := plc_le TPromise.Node p.Node a.Promises
     have hhas := plc_has TPromise.Node p.Node a.Promises hpw
     have htake := ins_take TPromise.Node p a.Promises
     have hkeys := ins_keys TPromise.Node p
     have hlen := ins_len TPromise.Node p a.Promises
     have hrise := ins_rise TPromise.Node a.Members p h3 a.Promises none trivial
     generalize plc TPromise.Node p.Node a.Promises = K at *
     rw [if_pos (by omega)]
     have hcan : CanP a b p := ⟨hva, h1, h2, h3, h4⟩
     by_cases hin : p.Node ∈ a.Promises.map TPromise.Node
     ·rw [if_pos (by have := hhas.2 hin; exact ⟨by omega, this.2⟩)]
      refine ⟨_, rfl, by simp [hcan], fun _ => ?_⟩
      unfold za9
      rw [if_pos hin]
     ·rw [if_neg (fun hh => hin (hhas.1 ⟨by omega, hh.2⟩)), if_pos (by omega), if_pos (by omega), htake, nodes_eq _ (by omega)]
      have hr := hrise hin hk.nodes
      have hln := riseS_len hk.members _ hr
      simp only [Option.bind_some, amost_eq _ _ hk.members (Nat.le_trans hln (by omega)), best_eq]
      unfold za9
      rw [if_neg hin]
      unfold withP
      cases hm : mostS a.Members ((insK TPromise.Node p a.Promises).map TPromise.Node) with
      | true => exact ⟨_, rfl, by simp [hcan], fun _ => rfl⟩
      | false => exact ⟨_, rfl, by simp [hcan], fun _ => rfl⟩
    ·rw [if_pos (by simp [h4])]
     exact ⟨_, rfl, by simp [CanP, h4], by simp⟩
   ·rw [if_pos (by simp [h3])]
    exact ⟨_, rfl, by simp [CanP, h3], by simp⟩
  ·have h2 : (¬ (a.Phase = 1)) \/ (¬ (b = a.Ballot)) := by
    by_cases h : a.Phase = 1
    ·exact .inr fun hh => h1 ⟨h, hh⟩
    ·exact .inl h
   rw [if_neg (fun h => h h2)]
   simp only [Option.bind_some]
   rw [if_pos (.inl h2)]
   exact ⟨_, rfl, ⟨fun h => by simp at h, fun h => absurd ⟨h.2.1, h.2.2.1⟩ h1⟩, by simp⟩
 ·have h0 : e ≠ 0 := fun h => hva (hv.1 h)
  rw [if_pos h0]
  exact ⟨_, rfl, ⟨fun h => absurd h h0, fun h => absurd h.1 hva⟩, fun h => absurd h h0⟩
theorem promised_kept {a : TAttempt} {p : TPromise} (h : CanP a a.Ballot p) : Valid (za9 a p) := by
 obtain ⟨hv, h1, _, h3, h4⟩ := h
 unfold za9
 split
 ·exact hv
 ·rename_i hin
  have hk := hv.kept (by omega)
  have hacc : a.Value = [] /\ a.Accepted = [] := by
   unfold Valid at hv
   rw [if_neg (by omega)] at hv
   rcases hv.1 with h | h | h
   ·exact h.2
   ·omega
   ·omega
  have hr := ins_rise TPromise.Node a.Members p h3 a.Promises none trivial hin hk.nodes
  have hmay : ∀ q ∈ insN p a.Promises, MayS q a.Ballot := by
   intro q hq
   rcases (ins_mem TPromise.Node p q a.Promises).1 hq with rfl | hq
   ·exact h4
   ·exact hk.may q hq
  unfold withP
  split
  ·rename_i hm
   unfold Valid
   rw [if_neg (by simp)]
   exact ⟨.inr (.inl rfl), ⟨hk.ballot, hk.members, hk.wish, hr, hk.accepted, hmay, by simpa using hm, by rw [hk.chosen, h1]; rfl, .inr rfl⟩⟩
  ·rename_i hm
   unfold Valid
   rw [if_neg (by simp [h1])]
   exact ⟨.inl ⟨h1, hacc⟩, ⟨hk.ballot, hk.members, hk.wish, hr, hk.accepted, hmay, by simpa [h1] using hm, hk.chosen, .inl h1⟩⟩
def zao (a : TAttempt) (n : Int) : TAttempt :=
 let l := if n ∈ a.Accepted then a.Accepted else insI n a.Accepted
 {a with Accepted := l, Phase := if mostS a.Members l = true then 3 else a.Phase }
def CanA (a : TAttempt) (b : Int) (n : Int) : Prop := Valid a /\ 2 <= a.Phase /\ b = a.Ballot /\ n ∈ a.Members
theorem accepted_eq (a : TAttempt) (b n : Int) (hl : a.Promises.length < 1000000) : ∃ r, zc2 a b n = some r /\ (r.2 = 0 ↔ CanA a b n) /\ (r.2 = 0 -> r.1 = zao a n) := by
 rw [zc2]
 obtain ⟨e, he, hv⟩ := check_eq a hl
 rw [he]
 simp only [Option.bind_some]
 by_cases hva : Valid a
 ·have h0 := hv.2 hva
  subst h0
  rw [if_neg (by simp)]
  by_cases h1 : 2 <= a.Phase /\ b = a.Ballot
  ·obtain ⟨h1, h2⟩ := h1
   have h1' : ¬ a.Phase < 2 := by omega
   rw [if_pos (by simp [h1', h2]), has_eq]
   simp only [Option.bind_some]
   by_cases h3 : n ∈ a.Members
   ·rw [if_neg (by simp [h1', h2, h3])]
    have hk := hva.kept (by omega)
    obtain ⟨l1, l2, l3⟩ := hk.lens
    rw [twin_eq a (by omega) (by omega) (by omega)]
    simp only [Option.bind_some]
    have hpw : a.Accepted.Pairwise (· < ·) := rise_pw _ _ hk.accepted
    rw [searchInts_eq a.Accepted n (by omega) hpw]
    simp only [Option.bind_some, Int.toNat_natCast]
    have hle := plc_le (fun x : Int => x) n a.Accepted
    have hhas := plc_has (fun x : Int => x) n a.Accepted (by simpa using hpw)
    have htake := ins_take (fun x : Int => x) n a.Accepted
    have hlen := ins_len (fun x : Int => x) n a.Accepted
    have hrise := ins_rise (fun x : Int => x) a.Members n h3 a.Accepted none trivial
    simp only [List.map_id'] at hhas hrise
    generalize plc (fun x : Int => x) n a.Accepted = K at *
    rw [if_pos (by omega)]
    have hcan : CanA a b n := ⟨hva, h1, h2, h3⟩
    have hfin : ∀ l : List Int, l.length <= 6 -> (if n ∈ a.Accepted then a.Accepted else insI n a.Accepted) = l -> ∃ r, (Option.bind (α := Int) (Option.bind (zbq a.Members l) fun v5 => if v5 = true then some 3 else some a.Phase) fun n1 => some ((⟨n1, a.Ballot, a.Members, a.Wish, a.Value, a.Promises, l⟩ : TAttempt), (0 : Int))) = some r /\ (r.2 = 0 ↔ CanA a b n) /\ (r.2 = 0 -> r.1 = zao a n) := by
     intro l hl hh
     rw [amost_eq _ _ hk.members (by omega)]
     unfold zao
     rw [hh]
     simp only [Option.bind_some]
     cases hm : mostS a.Members l with
     | true => exact ⟨_, rfl, by simp [hcan], fun _ => rfl⟩
     | false => exact ⟨_, rfl, by simp [hcan], fun _ => rfl⟩
    by_cases hin : n ∈ a.Accepted
    ·have := hhas.2 hin
     rw [if_neg (by
      rintro (hh | hh)
      ·omega
      ·exact hh this.2)]
     simp only [Option.bind_some]
     exact hfin _ l3 (if_pos hin)
    ·rw [if_pos (by
      by_cases hK : K = a.Accepted.length
      ·exact .inl (by omega)
      ·exact .inr fun hh => hin (hhas.1 ⟨by omega, hh⟩)), if_pos (by omega), if_pos (by omega), htake]
     simp only [Option.bind_some]
     have hr := hrise hin hk.accepted
     exact hfin _ (riseS_len hk.members _ hr) (if_neg hin)
   ·rw [if_pos (by simp [h3])]
    exact ⟨_, rfl, by simp [CanA, h3], by simp⟩
  ·have h2 : (a.Phase < 2) \/ (¬ (b = a.Ballot)) := by
    by_cases h : a.Phase < 2
    ·exact .inl h
    ·exact .inr fun hh => h1 ⟨by omega, hh⟩
   rw [if_neg (fun h => h h2)]
   simp only [Option.bind_some]
   rw [if_pos (.inl h2)]
   exact ⟨_, rfl, ⟨fun h => by simp at h, fun h => absurd ⟨h.2.1, h.2.2.1⟩ h1⟩, by simp⟩
 ·have h0 : e ≠ 0 := fun h => hva (hv.1 h)
  rw [if_pos h0]
  exact ⟨_, rfl, ⟨fun h => absurd h h0, fun h => absurd h.1 hva⟩, fun h => absurd h h0⟩
theorem acc_mem (a : TAttempt) (n x : Int) : x ∈ (zao a n).Accepted ↔ x = n \/ x ∈ a.Accepted := by
 unfold zao
 dsimp only
 split
 ·rename_i h
  constructor
  ·exact .inr
  ·rintro (rfl | h2)
   ·exact h
   ·exact h2
 ·exact insI_keys n x _
theorem accepted_kept {a : TAttempt} {n : Int} (h : CanA a a.Ballot n) : Valid (zao a n) /\ a.Phase <= (zao a n).Phase := by
 obtain ⟨hv, h1, _, h3⟩ := h
 have hk := hv.kept (by omega)
 have hph : a.Phase = 2 \/ a.Phase = 3 := by
  unfold Valid at hv
  rw [if_neg (by omega)] at hv
  rcases hv.1 with h | h | h
  ·omega
  ·exact .inl h
  ·exact .inr h
 have hval : a.Value = bestS a.Promises a.Wish 0 := by
  rcases hk.value with h | h
  ·omega
  ·exact h
 have hmem := acc_mem a n
 have hrise : riseS a.Members none (zao a n).Accepted = true := by
  unfold zao
  dsimp only
  split
  ·exact hk.accepted
  ·rename_i hin
   have := ins_rise (fun x : Int => x) a.Members n h3 a.Accepted none trivial (by simpa using hin)
   simp only [List.map_id'] at this
   exact this hk.accepted
 have hmono : a.Phase = 3 -> mostS a.Members (zao a n).Accepted = true := by
  intro h
  refine most_mono (l := a.Accepted) (fun x hx => (hmem x).2 (.inr hx)) ?_
  rw [hk.chosen, h]; rfl
 have hphase : (zao a n).Phase = if mostS a.Members (zao a n).Accepted = true then 3 else a.Phase := rfl
 have hp2 : (zao a n).Phase = 2 \/ (zao a n).Phase = 3 := by
  rw [hphase]
  split
  ·exact .inr rfl
  ·exact hph
 have hmost : mostS a.Members (zao a n).Accepted = ((zao a n).Phase == 3) := by
  rw [hphase]
  cases hm : mostS a.Members (zao a n).Accepted with
  | true => simp
  | false =>
   have : a.Phase ≠ 3 := fun h => by rw [hmono h] at hm; cases hm
   simp [this]
 refine ⟨?_, ?_⟩
 ·unfold Valid
  rw [if_neg (by omega)]
  refine ⟨.inr hp2, ⟨hk.ballot, hk.members, hk.wish, hk.nodes, hrise, hk.may, ?_, hmost, .inr hval⟩⟩
  show mostS a.Members (a.Promises.map TPromise.Node) = _
  rw [hk.most]
  rw [decide_eq_decide]
  omega
 ·rw [hphase]
  split <;> omega
end Go.Proofs
end
section
namespace Go.Proofs
open Go.Tm
set_option linter.unusedSimpArgs false
def ownB (b : Int) : Nat := (b.tmod 8).toNat
theorem best_spec (l : List TPromise) : ∀ (s : List UInt8) (n : Int), ∃ p, n <= p /\ (∀ q ∈ l, q.Ballot <= p) /\ ((p = n /\ bestS l s n = s) \/ (n < p /\ ∃ q ∈ l, q.Ballot = p /\ bestS l s n = q.Value)) := by
 induction l with
 | nil => exact fun s n => ⟨n, Int.le_refl _, by simp, .inl ⟨rfl, rfl⟩⟩
 | cons y l ih =>
  intro s n
  by_cases e : y.Ballot > n
  ·obtain ⟨p, h1, h2, h3⟩ := ih y.Value y.Ballot
   refine ⟨p, by omega, fun q hq => ?_, .inr ⟨by omega, ?_⟩⟩
   ·rcases List.mem_cons.1 hq with rfl | hq
    ·exact h1
    ·exact h2 q hq
   ·rw [bestS, if_pos e]
    rcases h3 with ⟨rfl, h3⟩ | ⟨_, q, hq, h4, h5⟩
    ·exact ⟨y, List.mem_cons_self .., rfl, h3⟩
    ·exact ⟨q, List.mem_cons_of_mem _ hq, h4, h5⟩
  ·obtain ⟨p, h1, h2, h3⟩ := ih s n
   refine ⟨p, h1, fun q hq => ?_, ?_⟩
   ·rcases List.mem_cons.1 hq with rfl | hq
    ·omega
    ·exact h2 q hq
   ·rw [bestS, if_neg e]
    rcases h3 with h3 | ⟨h0, q, hq, h4⟩
    ·exact .inl h3
    ·exact .inr ⟨h0, q, List.mem_cons_of_mem _ hq, h4⟩
end Go.Proofs
end
section
namespace Go.Proofs
open Go.Tm
set_option linter.unusedSimpArgs false
def VOk (v : TVote) : Prop := (v.Promised = 0 \/ BOk v.Promised) /\ (if v.Ballot = 0 then v.Value = [] else BOk v.Ballot /\ v.Ballot <= v.Promised /\ v.Value.length <= 1024)
instance (v : TVote) : Decidable (VOk v) := by unfold VOk; infer_instance
def AskedS (v : TVote) (b : Int) (t : List UInt8) : Prop := VOk v /\ BOk b /\ t.length <= 1024 /\ v.Promised <= b
instance (v : TVote) (b : Int) (t : List UInt8) : Decidable (AskedS v b t) := by unfold AskedS; infer_instance
noncomputable instance (a : TAttempt) : Decidable (Valid a) := Classical.propDecidable _
noncomputable instance (a : TAttempt) (b : Int) (p : TPromise) : Decidable (CanP a b p) := Classical.propDecidable _
noncomputable instance (a : TAttempt) (b n : Int) : Decidable (CanA a b n) := Classical.propDecidable _
def tellS (w : TWorld) (m : TMail) : TWorld := { w with Mail := w.Mail ++ (w.Members.filter fun to => decide (to ≠ m.From)).map fun to => { m with To := to } }
abbrev vtW (w : TWorld) (n : Int) : TVote := w.Votes.getD n.toNat default
abbrev trW (w : TWorld) (n : Int) : TAttempt := w.Tries.getD n.toNat default
noncomputable def takenW (w : TWorld) (n b q : Int) : TWorld :=
 if CanA (trW w n) b q then { w with Chosen := if (zao (trW w n) q).Phase = 3 /\ (trW w n).Phase ≠ 3 then w.Chosen ++ [⟨n, (zao (trW w n) q).Value⟩] else w.Chosen, Tries := w.Tries.set n.toNat (zao (trW w n) q) } else w
noncomputable def ownVote (w : TWorld) (n b : Int) (v : List UInt8) : TWorld :=
 if n ∈ w.Members /\ AskedS (vtW w n) b v then takenW { w with Votes := w.Votes.set n.toNat ⟨b, b, v⟩ } n b n else w
noncomputable def promisedW (w : TWorld) (n b : Int) (p : TPromise) : TWorld :=
 if CanP (trW w n) b p then
  if (za9 (trW w n) p).Phase = 1 then { w with Tries := w.Tries.set n.toNat (za9 (trW w n) p) }
  else ownVote (tellS { w with Tries := w.Tries.set n.toNat (za9 (trW w n) p) } ⟨n, 0, 3, 0, 0, b, 0, (za9 (trW w n) p).Value, 0, 0⟩) n b (za9 (trW w n) p).Value
 else w
noncomputable def beginW (w : TWorld) (n b : Int) (t : List UInt8) : TWorld :=
 promisedW (tellS { w with Votes := w.Votes.set n.toNat { vtW w n with Promised := b }, Tries := w.Tries.set n.toNat ⟨1, b, w.Members, t, [], [], []⟩ } ⟨n, 0, 1, 0, 0, b, 0, [], 0, 0⟩) n b ⟨n, (vtW w n).Ballot, (vtW w n).Value⟩
def addMail (w : TWorld) (m : TMail) : TWorld := { w with Mail := w.Mail ++ [m] }
noncomputable def comeW (w : TWorld) (m : TMail) : TWorld :=
 if m.Kind = 2 then promisedW w m.To m.Ballot ⟨m.From, m.Prior, m.Value⟩
 else if m.Kind = 4 then takenW w m.To m.Ballot m.From
 else if m.Kind = 5 then w
 else if m.Kind = 1 then
  if AskedS (vtW w m.To) m.Ballot [] then addMail { w with Votes := w.Votes.set m.To.toNat { vtW w m.To with Promised := m.Ballot } } ⟨m.To, m.From, 2, 0, 0, m.Ballot, (vtW w m.To).Ballot, (vtW w m.To).Value, 0, 0⟩
  else addMail w ⟨m.To, m.From, 5, 0, 0, m.Ballot, (vtW w m.To).Promised, [], 0, 0⟩
 else if AskedS (vtW w m.To) m.Ballot m.Value then addMail { w with Votes := w.Votes.set m.To.toNat ⟨m.Ballot, m.Ballot, m.Value⟩ } ⟨m.To, m.From, 4, 0, 0, m.Ballot, 0, [], 0, 0⟩
 else addMail w ⟨m.To, m.From, 5, 0, 0, m.Ballot, (vtW w m.To).Promised, [], 0, 0⟩
theorem promisedS_in {a : TAttempt} {p : TPromise} (x : TPromise) (hx : x ∈ (za9 a p).Promises) : x = p \/ x ∈ a.Promises := by
 unfold za9 withP at hx
 split at hx
 ·exact .inr hx
 ·split at hx
  ·exact (ins_mem _ p x _).1 hx
  ·exact (ins_mem _ p x _).1 hx
theorem promisedS_same (a : TAttempt) (p : TPromise) : (za9 a p).Ballot = a.Ballot /\ (za9 a p).Members = a.Members /\ (za9 a p).Wish = a.Wish /\ (za9 a p).Accepted = a.Accepted := by
 unfold za9 withP
 split
 ·exact ⟨rfl, rfl, rfl, rfl⟩
 ·split <;> exact ⟨rfl, rfl, rfl, rfl⟩
end Go.Proofs
end
section
namespace Go.Proofs
open Go.Tm
set_option linter.unusedSimpArgs false
theorem vcheck_eq (v : TVote) : m_vote_Check v = some (if VOk v then 0 else 8) := by
 unfold VOk
 simp only [m_vote_Check, bcheck_eq]
 by_cases h1 : v.Promised = 0 <;> by_cases h2 : v.Ballot = 0 <;> by_cases h3 : BOk v.Promised <;> by_cases h4 : BOk v.Ballot <;> by_cases h5 : v.Value = [] <;> by_cases h6 : v.Ballot <= v.Promised <;> by_cases h7 : v.Value.length <= 1024 <;> have h8 : ((v.Value.length : Int) <= 1024) = (v.Value.length <= 1024) := propext (by omega) <;> simp_all
theorem asked_eq (v : TVote) (b : Int) (t : List UInt8) : ∃ e, m_vote_asked v b t = some e /\ (e = 0 ↔ AskedS v b t) := by
 simp only [m_vote_asked, bcheck_eq, vcheck_eq, Option.bind_some]
 unfold AskedS
 by_cases h1 : VOk v
 ·by_cases h2 : BOk b
  ·by_cases h3 : t.length <= 1024
   ·by_cases h4 : v.Promised <= b
    ·exact ⟨0, by simp [h1, h2]; rw [if_neg (by omega), if_neg (by omega)], by simp [h1, h2, h3, h4]⟩
    ·exact ⟨70, by simp [h1, h2]; rw [if_neg (by omega), if_pos (by omega)], by simp [h4]⟩
   ·exact ⟨3, by simp [h1, h2]; omega, by simp [h3]⟩
  ·exact ⟨50, by simp [h1, h2], by simp [h2]⟩
 ·exact ⟨8, by simp [h1], by simp [h1]⟩
theorem prepare_eq (v : TVote) (b : Int) : ∃ r, m_vote_Prepare v b = some r /\ (r.2 = 0 ↔ AskedS v b []) /\ (r.2 = 0 -> r.1 = { v with Promised := b }) := by
 obtain ⟨e, h1, h2⟩ := asked_eq v b []
 rw [m_vote_Prepare, h1]
 by_cases h0 : e = 0
 ·exact ⟨({ v with Promised := b }, 0), by simp [h0], ⟨fun _ => h2.1 h0, fun _ => rfl⟩, fun _ => rfl⟩
 ·exact ⟨(⟨0, 0, []⟩, e), by simp [h0], h2, fun h => absurd h h0⟩
theorem accept_eq (v : TVote) (b : Int) (t : List UInt8) : ∃ r, m_vote_Accept v b t = some r /\ (r.2 = 0 ↔ AskedS v b t) /\ (r.2 = 0 -> r.1 = ⟨b, b, t⟩) := by
 obtain ⟨e, h1, h2⟩ := asked_eq v b t
 rw [m_vote_Accept, h1]
 by_cases h0 : e = 0
 ·exact ⟨(⟨b, b, t⟩, 0), by simp [h0], ⟨fun _ => h2.1 h0, fun _ => rfl⟩, fun _ => rfl⟩
 ·exact ⟨(⟨0, 0, []⟩, e), by simp [h0], h2, fun h => absurd h h0⟩
theorem node_eq (n : Int) : m_decree_node n = some (decide (0 <= n /\ n < 6)) := by
 rw [m_decree_node]
 congr 1
 rw [Bool.eq_iff_iff]
 simp
theorem bnode_eq (n : Int) : m_ballot_node n = some (decide (0 <= n /\ n < 6)) := by
 rw [m_ballot_node]
 congr 1
 rw [Bool.eq_iff_iff]
 simp
theorem wr64 (n : Int) (h : -9223372036854775808 <= n /\ n <= 9223372036854775807) : wr .i64 n = n := wr_eq .i64 n (by simpa [IntKind.min, IntKind.max, IntKind.signed, IntKind.bits] using h.1) (by simpa [IntKind.min, IntKind.max, IntKind.signed, IntKind.bits] using h.2)
theorem next_eq (a n : Int) : ∃ r, m_ballot_Next a n = some r /\ (r.2 = 0 -> 0 <= n /\ n < 6 /\ 0 <= a /\ a < r.1 /\ 8 <= r.1 /\ BOk r.1 /\ ownB r.1 = n.toNat) := by
 rw [m_ballot_Next, bnode_eq]
 simp only [Option.bind_some]
 by_cases h : 0 <= n /\ n < 6 /\ 0 <= a /\ a <= 8388613
 ·obtain ⟨h1, h2, h3, h4⟩ := h
  rw [if_neg (by simp; omega)]
  have e1 : a.tdiv 8 = a / 8 := Int.tdiv_eq_ediv_of_nonneg h3
  have e2 : wr .i64 (a / 8) = a / 8 := wr64 _ (by omega)
  have e3 : wr .i64 (a / 8 * 8) = a / 8 * 8 := wr64 _ (by omega)
  have e4 : wr .i64 (a / 8 * 8 + n) = a / 8 * 8 + n := wr64 _ (by omega)
  have e5 : wr .i64 (a / 8 * 8 + n + 8) = a / 8 * 8 + n + 8 := wr64 _ (by omega)
  simp only [e1, e2, e3, e4, e5]
  have key : ∀ b : Int, a < b -> 8 <= b -> b <= 8388613 -> b % 8 = n -> 0 <= n /\ n < 6 /\ 0 <= a /\ a < b /\ 8 <= b /\ BOk b /\ ownB b = n.toNat := by
   intro b k1 k2 k3 k4
   refine ⟨h1, h2, h3, k1, k2, ?_, ?_⟩
   ·unfold BOk
    rw [Int.tdiv_eq_ediv_of_nonneg (by omega), Int.tmod_eq_emod_of_nonneg (by omega), wr64 _ (by omega)]
    omega
   ·unfold ownB
    rw [Int.tmod_eq_emod_of_nonneg (by omega), k4]
  split
  ·simp only [Option.bind_some]
   split
   ·exact ⟨_, rfl, fun h => by simp at h⟩
   ·exact ⟨_, rfl, fun _ => key _ (by omega) (by omega) (by dsimp only; omega) (by dsimp only; omega)⟩
  ·simp only [Option.bind_some]
   split
   ·exact ⟨_, rfl, fun h => by simp at h⟩
   ·exact ⟨_, rfl, fun _ => key _ (by dsimp only; omega) (by dsimp only; omega) (by dsimp only; omega) (by dsimp only; omega)⟩
 ·rw [if_pos (by simp; omega)]
  exact ⟨_, rfl, fun h => by simp at h⟩
def MOk (m : TMail) : Prop := (0 <= m.From /\ m.From < 6) /\ (0 <= m.To /\ m.To < 6) /\ 1 <= m.Kind /\ m.Kind <= 5 /\ BOk m.Ballot /\ 0 <= m.Prior /\ m.Value.length <= 1024 /\ m.Group = 0 /\ m.Slot = 0 /\ m.Id = 0 /\ m.Time = 0
instance (m : TMail) : Decidable (MOk m) := by unfold MOk; infer_instance
theorem mail_eq (m : TMail) : m_decree_mail m = some (decide (MOk m)) := by
 unfold MOk
 simp only [m_decree_mail, node_eq, bcheck_eq, Option.bind_some]
 by_cases h1 : 0 <= m.From /\ m.From < 6
 ·by_cases h2 : 0 <= m.To /\ m.To < 6
  ·by_cases h3 : m.Kind >= 1
   ·by_cases h4 : m.Kind <= 5
    ·by_cases h5 : BOk m.Ballot
     ·simp only [h1, h2, h3, h4, h5, decide_true, Bool.true_and, true_and, and_true, if_true, and_self, Option.bind_some]
      congr 1
      rw [Bool.eq_iff_iff]
      simp
      omega
     ·simp [h1, h2, h3, h4, h5]
    ·simp [h1, h2, h4]
   ·simp [h1, h2, show ¬ 1 <= m.Kind from h3]
  ·simp [h1, h2]
 ·simp [h1]
structure WOk (w : TWorld) : Prop where
 mem : QOk w.Members
 vts : w.Votes.length = 6
 trs : w.Tries.length = 6
 mail : w.Mail.length <= 1000
 ch : w.Chosen.length <= 1000
 vote : ∀ i : Nat, i < 6 -> VOk (w.Votes.getD i default)
 try_ : ∀ i : Nat, i < 6 -> Valid (w.Tries.getD i default) /\ ((w.Tries.getD i default).Phase ≠ 0 -> ownB (w.Tries.getD i default).Ballot = i /\ (w.Tries.getD i default).Members = w.Members)
 mails : ∀ m ∈ w.Mail, MOk m
 chs : ∀ c ∈ w.Chosen, (0 <= c.Node /\ c.Node < 6) /\ c.Value.length <= 1024
theorem cl3_eq (l : List TChoice) : ∀ b, zbi l b = some (b && decide (∀ c ∈ l, (0 <= c.Node /\ c.Node < 6) /\ c.Value.length <= 1024)) := by
 induction l with
 | nil => intro b; rw [m_decree_Check_loop3_n]; simp
 | cons y l ih =>
  intro b
  rw [m_decree_Check_loop3_c]
  simp only [node_eq]
  cases b
  ·simp [ih]
  ·simp only [if_true, Option.bind_some, ih]
   congr 1
   rw [Bool.eq_iff_iff]
   simp
   have : ((y.Value.length : Int) <= 1024) ↔ y.Value.length <= 1024 := by omega
   simp [this]
theorem cl2_eq (l : List TMail) : ∀ b, zb3 l b = some (b && decide (∀ m ∈ l, MOk m)) := by
 induction l with
 | nil => intro b; rw [zb3]; simp
 | cons y l ih =>
  intro b
  rw [zb3]
  simp only [mail_eq]
  cases b
  ·simp [ih]
  ·simp only [if_true, Option.bind_some, ih]
   congr 1
   rw [Bool.eq_iff_iff]
   simp
end Go.Proofs
end
