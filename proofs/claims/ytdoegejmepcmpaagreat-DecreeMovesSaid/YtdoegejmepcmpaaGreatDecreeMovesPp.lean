/- Texts of the proof. -/
import Derived.Test.YtdoegejmepcmpaaGreatDecreeMovesPg
import Derived.Test.YtdoegejmepcmpaaGreatDecreeMovesPf
import Derived.Test.YtdoegejmepcmpaaGreatDecreeMovesPh
import Derived.Test.YtdoegejmepcmpaaGreatDecreeMovesPi
import Derived.Test.YtdoegejmepcmpaaGreatDecreeMovesPk
import Derived.Test.YtdoegejmepcmpaaGreatDecreeMovesPm
import Derived.Test.YtdoegejmepcmpaaGreatDecreeMovesPn
import Derived.Test.YtdoegejmepcmpaaGreatDecreeMovesPo
import Derived.Test.YtdoegejmepcmpaaGreatDecreeMovesPe
import Derived.Test.YtdoegejmepcmpaaGreatDecreeMovesPj
section
namespace Go.Proofs
open Go.Tm Go.RowKit Go.WideShapes
set_option maxRecDepth 100000
set_option maxHeartbeats 4000000
set_option linter.unusedSimpArgs false
set_option linter.unusedVariables false
theorem vs1 {b : Bool} : ∀ x ∈ [((6 : Nat), D.bool b)], ∃ b', x.2 = .bool b' := fun x hx => ⟨b, by rw [List.mem_singleton.1 hx]⟩
theorem vs2 {b : Bool} {vars : List (Nat × D)} (hb : getL vars 6 = some (.bool b)) : ∀ t d, getL [((6 : Nat), D.bool b)] t = some d -> getL vars t = some d := fun t d hd => by
 simp only [getL] at hd
 cases hq : Nat.beq 6 t
 rw [hq] at hd; cases hd
 rw [hq] at hd
 have := nb hq
 subst this
 cases hd
 exact hb
theorem ya2g (d : D) : mkZ 2 d = mkM 2 d := rfl
theorem ya0m (l : List D) : mkZL 2 l = mkML 2 l := rfl
attribute [local go_sem] ya2g ya0m zfr 
theorem zyx {k : IntKind} : PlE (D.int k) (D.int k) := ⟨fun _ => rfl, fun _ => rfl, fun _ => rfl⟩
theorem zox (a0 : TWorld) (a1 : TMove) (r : TWorld × Int) (h : zgk a0 a1 = some r) : zb7 Tryz.prog 6 [.agg [.imm 1 (a0.Members.map (D.int .i64)) 4, .imm 3 (a0.Votes.map TVote.d) 4, .imm 7 (a0.Tries.map TAttempt.d) 4, .imm 10 (a0.Mail.map TMail.d) 4, .imm 2 (a0.Chosen.map TChoice.d) 4], .agg [.int .u8 a1.Kind, .int .i64 a1.Node, .int .i64 a1.At, .str a1.Value]] (.tuple [.agg [.imm 1 (r.1.Members.map (D.int .i64)) 13, .imm 3 (r.1.Votes.map TVote.d) 13, .imm 7 (r.1.Tries.map TAttempt.e) 13, .imm 10 (r.1.Mail.map TMail.d) 13, .imm 2 (r.1.Chosen.map TChoice.d) 13], .int .i64 r.2]) :=
 zs2 (ya0x (zfd (zwm (zfd (zi8 zyx rfl rfl) (zfd (zi8 zts rfl rfl) (zfd (zi8 zp8 rfl rfl) (zfd (zi8 ztt rfl rfl) (zfd (zi8 zqc rfl rfl) zqo)))))) (zfd rfl zqo))) (zr8 a0 a1 r h)
theorem znc (a0 : TWorld) (r : TWorld) (h : zew a0 = some r) : zb7 Tryz.prog 8 [.agg [.imm 1 (a0.Members.map (D.int .i64)) 4, .imm 3 (a0.Votes.map TVote.d) 4, .imm 7 (a0.Tries.map TAttempt.d) 4, .imm 10 (a0.Mail.map TMail.d) 4, .imm 2 (a0.Chosen.map TChoice.d) 4]] (.agg [.imm 1 (r.Members.map (D.int .i64)) 13, .imm 3 (r.Votes.map TVote.d) 13, .imm 7 (r.Tries.map TAttempt.e) 13, .imm 10 (r.Mail.map TMail.d) 13, .imm 2 (r.Chosen.map TChoice.d) 13]) :=
 zs2 (zwm (zfd (zi8 zyx rfl rfl) (zfd (zi8 zts rfl rfl) (zfd (zi8 zp8 rfl rfl) (zfd (zi8 ztt rfl rfl) (zfd (zi8 zqc rfl rfl) zqo)))))) (zkt a0 r h)
theorem ya2c {H : List (Nat × Blk)} {l : List (Nat × D)} (h : (l.all fun x => okH H x.2) = true) : ∀ x ∈ l, okH H x.2 = true := fun x hx => List.all_eq_true.1 h x hx
theorem zhx (a0 : TWorld) (a1 : TWorld) (a2 : TMove) (r : Bool) (h : zco a0 a1 a2 = some r) : zb7 Tryz.prog 3 [.agg [.imm 1 (a0.Members.map (D.int .i64)) 4, .imm 3 (a0.Votes.map TVote.d) 4, .imm 7 (a0.Tries.map TAttempt.d) 4, .imm 10 (a0.Mail.map TMail.d) 4, .imm 2 (a0.Chosen.map TChoice.d) 4], .agg [.imm 1 (a1.Members.map (D.int .i64)) 4, .imm 3 (a1.Votes.map TVote.d) 4, .imm 7 (a1.Tries.map TAttempt.d) 4, .imm 10 (a1.Mail.map TMail.d) 4, .imm 2 (a1.Chosen.map TChoice.d) 4], .agg [.int .u8 a2.Kind, .int .i64 a2.Node, .int .i64 a2.At, .str a2.Value]] (.bool r) := by
 refine za2 Tryz.tmOk 100 Tryz.func3 rfl (by decide) rfl rfl (lb rfl) ?_
 intro hwf
 unfold zco at h
 refine .seq (.pl zS [0, 1, 2] ?_)
 refine .seq ?_
 obtain ⟨v1, hv1, h⟩ := bind_some h
 obtain ⟨v2, hv2, h⟩ := bind_some h
 refine .seq (.rg zS [3, 4, 5] ?_)
 refine .rn 1 ?_
 refine .cl (zgw a0 v1 hv1) ?_
 refine .rn 2 ?_
 refine .gcall rfl rfl rfl rfl rfl (fun hg => ⟨[], [.agg [.imm 1 (a1.Members.map (D.int .i64)) 4, .imm 3 (a1.Votes.map TVote.d) 4, .imm 7 (a1.Tries.map TAttempt.d) 4, .imm 10 (a1.Mail.map TMail.d) 4, .imm 2 (a1.Chosen.map TChoice.d) 4]], _, rfl, gd hg, rfl, (zgw a1 v2 (za0 hv2 hg))⟩) ?_
 refine .rn 7 ?_
 refine .nn ?_
 refine .cd (fun hc1 => ?_) (fun hc1 => ?_)
 replace h := za0 h hc1
 refine .seq (.pl zS [] ?_)
 obtain rfl := sj h
 exact .rr
 ·replace h := za1 h hc1
  refine .skip ?_
  obtain ⟨v3, hv3, h⟩ := bind_some h
  refine .seq (.rg zS [3, 4, 5] ?_)
  refine .rn 1 ?_
  refine .cl (zka a0 v3 hv3) ?_
  refine .rn 2 ?_
  refine .nn ?_
  refine Ok.rebaseH [3, 4, 5, 7] (ya2c rfl) ?_
  show OkQ _ _ _ _ ⟨[(3, .iptr 2 [.imm 1 (a0.Members.map (D.int .i64)) 4, .imm 3 (a0.Votes.map TVote.d) 4, .imm 7 (a0.Tries.map TAttempt.d) 4, .imm 10 (a0.Mail.map TMail.d) 4, .imm 2 (a0.Chosen.map TChoice.d) 4]), (4, .iptr 2 [.imm 1 (a1.Members.map (D.int .i64)) 4, .imm 3 (a1.Votes.map TVote.d) 4, .imm 7 (a1.Tries.map TAttempt.d) 4, .imm 10 (a1.Mail.map TMail.d) 4, .imm 2 (a1.Chosen.map TChoice.d) 4]), (5, .iptr 2 [.int .u8 a2.Kind, .int .i64 a2.Node, .int .i64 a2.At, .str a2.Value]), (7, .iptr 2 [.imm 1 (v3.Members.map (D.int .i64)) 4, .imm 3 (v3.Votes.map TVote.d) 4, .imm 7 (v3.Tries.map TAttempt.d) 4, .imm 10 (v3.Mail.map TMail.d) 4, .imm 2 (v3.Chosen.map TChoice.d) 4])], [], _⟩ _
  refine OkQ.seq (.of ?_)
  obtain ⟨v4, hv4, h⟩ := bind_some h
  refine .rg zS [3, 4, 5, 7] ?_
  refine .rn 2 ?_
  refine .call rfl rfl rfl rfl rfl rfl (zfq (WkL.cons (Wk.agg (WkL.cons Wk.iz (WkL.cons Wk.iz (WkL.cons Wk.iz (WkL.cons Wk.iz (WkL.cons Wk.iz (WkL.refl _))))))) (WkL.cons (Wk.refl _) (WkL.refl _))) (zox v3 a2 v4 hv4)) ?_
  refine .rn 6 ?_
  refine .nn ?_
  refine OkQ.seq (.of ?_)
  obtain ⟨v5, hv5, h⟩ := bind_some h
  refine .rg zS [3, 4, 5, 7, 8, 9] ?_
  refine .rn 2 ?_
  refine .cl (zlf a0 a2 v5 hv5) ?_
  refine .rn 6 ?_
  refine .nn ?_
  refine OkQ.seq (.of ?_)
  obtain ⟨v6, hv6, h⟩ := bind_some h
  refine .rg zS [3, 4, 7, 8, 9, 10, 11] ?_
  refine .rn 1 ?_
  refine .call rfl rfl rfl rfl rfl rfl (zfq (WkL.cons (Wk.agg (WkL.cons Wk.iz (WkL.cons Wk.iz (WkL.cons Wk.iz (WkL.cons Wk.iz (WkL.cons Wk.iz (WkL.refl _))))))) (WkL.refl _)) (znc v3 v6 hv6)) ?_
  refine .rn 2 ?_
  refine .nn ?_
  refine OkQ.seq ?_
  refine OkQ.seq (.of ?_)
  obtain ⟨v7, hv7, h⟩ := bind_some h
  obtain ⟨v8, hv8, h⟩ := bind_some h
  obtain ⟨v9, hv9, h⟩ := bind_some h
  obtain ⟨v10, hv10, h⟩ := bind_some h
  obtain ⟨v11, hv11, h⟩ := bind_some h
  obtain ⟨v12, hv12, h⟩ := bind_some h
  refine .rg zS [3, 4, 7, 8, 9, 10, 11, 12] ?_
  refine .rd 2 ?_
  refine .call rfl rfl rfl rfl rfl rfl (zfq (WkL.cons (Wk.agg (WkL.cons Wk.iz (WkL.cons Wk.iz (WkL.cons (Wk.immf TAttempt.ed _ _ _) (WkL.cons Wk.iz (WkL.cons Wk.iz (WkL.refl _))))))) (WkL.cons (Wk.agg (WkL.cons Wk.iz (WkL.cons Wk.iz (WkL.cons Wk.iz (WkL.cons Wk.iz (WkL.cons Wk.iz (WkL.refl _))))))) (WkL.refl _))) (zef v4.1 v5.1 v7 hv7)) ?_
  refine .rd 6 ?_
  refine .rd 3 ?_
  refine .gcall rfl rfl rfl rfl rfl (fun hg => ⟨[], [.agg [.imm 1 (v6.Members.map (D.int .i64)) 13, .imm 3 (v6.Votes.map TVote.d) 13, .imm 7 (v6.Tries.map TAttempt.e) 13, .imm 10 (v6.Mail.map TMail.d) 13, .imm 2 (v6.Chosen.map TChoice.d) 13], .agg [.imm 1 (a0.Members.map (D.int .i64)) 20, .imm 3 (a0.Votes.map TVote.d) 20, .imm 7 (a0.Tries.map TAttempt.d) 20, .imm 10 (a0.Mail.map TMail.d) 20, .imm 2 (a0.Chosen.map TChoice.d) 20]], _, rfl, gd hg, rfl, (zfq (WkL.cons (Wk.agg (WkL.cons Wk.iz (WkL.cons Wk.iz (WkL.cons (Wk.immf TAttempt.ed _ _ _) (WkL.cons Wk.iz (WkL.cons Wk.iz (WkL.refl _))))))) (WkL.cons (Wk.refl _) (WkL.refl _))) (zef v6 a0 v8 (za0 hv8 hg)))⟩) ?_
  refine .rd 4 ?_
  refine .gcall rfl rfl rfl rfl rfl (fun hg => ⟨[], [.agg [.imm 1 (v3.Members.map (D.int .i64)) 20, .imm 3 (v3.Votes.map TVote.d) 20, .imm 7 (v3.Tries.map TAttempt.d) 20, .imm 10 (v3.Mail.map TMail.d) 20, .imm 2 (v3.Chosen.map TChoice.d) 20]], _, rfl, gd hg, rfl, (zfq (WkL.cons (Wk.agg (WkL.cons Wk.iz (WkL.cons Wk.iz (WkL.cons Wk.iz (WkL.cons Wk.iz (WkL.cons Wk.iz (WkL.refl _))))))) (WkL.refl _)) (zk2 v3 v9 (za0 hv9 hg)))⟩) ?_
  refine .rd 2 ?_
  refine .gcall rfl rfl rfl rfl rfl (fun hg => ⟨[], [.agg [.imm 1 (a0.Members.map (D.int .i64)) 20, .imm 3 (a0.Votes.map TVote.d) 20, .imm 7 (a0.Tries.map TAttempt.d) 20, .imm 10 (a0.Mail.map TMail.d) 20, .imm 2 (a0.Chosen.map TChoice.d) 20]], _, rfl, gd hg, rfl, (zhf a0 v10 (za0 hv10 hg))⟩) ?_
  refine .rd 5 ?_
  refine .gcall rfl rfl rfl rfl rfl (fun hg => ⟨[], [.agg [.imm 1 (v3.Members.map (D.int .i64)) 20, .imm 3 (v3.Votes.map TVote.d) 20, .imm 7 (v3.Tries.map TAttempt.d) 20, .imm 10 (v3.Mail.map TMail.d) 20, .imm 2 (v3.Chosen.map TChoice.d) 20], .agg [.imm 1 (a1.Members.map (D.int .i64)) 20, .imm 3 (a1.Votes.map TVote.d) 20, .imm 7 (a1.Tries.map TAttempt.d) 20, .imm 10 (a1.Mail.map TMail.d) 20, .imm 2 (a1.Chosen.map TChoice.d) 20]], _, rfl, gd hg, rfl, (zfq (WkL.cons (Wk.agg (WkL.cons Wk.iz (WkL.cons Wk.iz (WkL.cons Wk.iz (WkL.cons Wk.iz (WkL.cons Wk.iz (WkL.refl _))))))) (WkL.cons (Wk.refl _) (WkL.refl _))) (zow v3 a1 v11 (za0 hv11 hg)))⟩) ?_
  refine .rd 2 ?_
  refine .gcall rfl rfl rfl rfl rfl (fun hg => ⟨[], [.agg [.imm 1 (a0.Members.map (D.int .i64)) 20, .imm 3 (a0.Votes.map TVote.d) 20, .imm 7 (a0.Tries.map TAttempt.d) 20, .imm 10 (a0.Mail.map TMail.d) 20, .imm 2 (a0.Chosen.map TChoice.d) 20], .agg [.imm 1 (a1.Members.map (D.int .i64)) 20, .imm 3 (a1.Votes.map TVote.d) 20, .imm 7 (a1.Tries.map TAttempt.d) 20, .imm 10 (a1.Mail.map TMail.d) 20, .imm 2 (a1.Chosen.map TChoice.d) 20]], _, rfl, gd hg, rfl, (zef a0 a1 v12 (za0 hv12 hg))⟩) ?_
  refine .rd 2 ?_
  refine .nd ?_
  refine OkQ.cond rfl rfl (fun hc2 => ?_) (fun hc2 => ?_)
  replace h := za0 h hc2
  refine OkQ.seq (.of ?_)
  refine .pl zS [] ?_
  obtain rfl := sj h
  exact OkQ.ret ⟨[(6, .bool _)], vs1, vs2 rfl, .inr rfl, rsi⟩
  ·replace h := za1 h hc2
   refine OkQ.skip ?_
   refine OkQ.goes (s := ⟨[(3, .iptr 2 [.imm 1 (a0.Members.map (D.int .i64)) 4, .imm 3 (a0.Votes.map TVote.d) 4, .imm 7 (a0.Tries.map TAttempt.d) 4, .imm 10 (a0.Mail.map TMail.d) 4, .imm 2 (a0.Chosen.map TChoice.d) 4]), (7, .iptr 2 [.imm 1 (v3.Members.map (D.int .i64)) 4, .imm 3 (v3.Votes.map TVote.d) 4, .imm 7 (v3.Tries.map TAttempt.d) 4, .imm 10 (v3.Mail.map TMail.d) 4, .imm 2 (v3.Chosen.map TChoice.d) 4]), (8, .ptr 4 0), (12, .ptr 6 0)], [(4, .box [.imm 1 (scL v4.1.Members) 13, .imm 3 (v4.1.Votes.map TVote.z) 13, .imm 7 (v4.1.Tries.map TAttempt.z) 13, .imm 10 (v4.1.Mail.map TMail.z) 13, .imm 2 (v4.1.Chosen.map TChoice.z) 13]), (6, .box [.imm 1 (scL v6.Members) 13, .imm 3 (v6.Votes.map TVote.z) 13, .imm 7 (v6.Tries.map TAttempt.z) 13, .imm 10 (v6.Mail.map TMail.z) 13, .imm 2 (v6.Chosen.map TChoice.z) 13])], 7⟩) ?_ ?_
   refine Goes.boxs 4 _ [.imm 1 (scL v4.1.Members) 13, .imm 3 (v4.1.Votes.map TVote.z) 13, .imm 7 (v4.1.Tries.map TAttempt.z) 13, .imm 10 (v4.1.Mail.map TMail.z) 13, .imm 2 (v4.1.Chosen.map TChoice.z) 13] rfl (.cons (.of (Wk.immf (fun x => Wk.scI _ x) _ _ _)) (.cons (.of (Wk.immf TVote.dz _ _ _)) (.cons (.of (Wk.immf TAttempt.ez _ _ _)) (.cons (.of (Wk.immf TMail.dz _ _ _)) (.cons (.of (Wk.immf TChoice.dz _ _ _)) .nil))))) ?_
   refine Goes.boxs 6 _ [.imm 1 (scL v6.Members) 13, .imm 3 (v6.Votes.map TVote.z) 13, .imm 7 (v6.Tries.map TAttempt.z) 13, .imm 10 (v6.Mail.map TMail.z) 13, .imm 2 (v6.Chosen.map TChoice.z) 13] rfl (.cons (.of (Wk.immf (fun x => Wk.scI _ x) _ _ _)) (.cons (.of (Wk.immf TVote.dz _ _ _)) (.cons (.of (Wk.immf TAttempt.ez _ _ _)) (.cons (.of (Wk.immf TMail.dz _ _ _)) (.cons (.of (Wk.immf TChoice.dz _ _ _)) .nil))))) ?_
   exact .m [3, 7, 8, 12] [4, 6] []
   refine OkQ.seq ?_
   refine OkQ.zc Tryz.tmOk [3, 7, 8, 12] [6] 1 (zh3 v4.1) ?_ rfl (by decide +kernel)
   refine .rnx 1 trivial ?_ (.inr fun _ _ _ h => h)
   refine .nil ⟨⟨rfl, rfl, ⟨lb rfl, lb rfl⟩, fun t h => by cases h; rfl, ?v0, ?w0⟩, ?_⟩
   case v0 => exact ⟨.inl rfl, .inl rfl, trivial, trivial, ⟨.inr (zmv _), .inr (LmL.maps _ zla _), .inr (LmL.maps _ zh9 _), .inr (LmL.maps _ zlb _), .inr (LmL.maps _ zj5 _), trivial⟩, trivial⟩
   case w0 => exact ⟨⟨.inr (zmv _), .inr (LmL.maps _ zla _), .inr (LmL.maps _ zh9 _), .inr (LmL.maps _ zlb _), .inr (LmL.maps _ zj5 _), trivial⟩, ⟨.inr (zmv _), .inr (LmL.maps _ zla _), .inr (LmL.maps _ zh9 _), .inr (LmL.maps _ zlb _), .inr (LmL.maps _ zj5 _), trivial⟩, trivial⟩
   refine OkQ.seq ?_
   refine OkQ.zc Tryz.tmOk [3, 7, 12] [] 1 (zh3 v6) ?_ rfl (by decide +kernel)
   refine .rnx 1 trivial ?_ (.inr fun _ _ _ h => h)
   refine .nil ⟨⟨rfl, rfl, ⟨lb rfl, lb rfl⟩, fun t h => by cases h; rfl, ?v1, ?w1⟩, ?_⟩
   case v1 => exact ⟨.inl rfl, .inl rfl, trivial, ⟨.inr (zmv _), .inr (LmL.maps _ zla _), .inr (LmL.maps _ zh9 _), .inr (LmL.maps _ zlb _), .inr (LmL.maps _ zj5 _), trivial⟩, trivial⟩
   case w1 => exact ⟨⟨.inr (zmv _), .inr (LmL.maps _ zla _), .inr (LmL.maps _ zh9 _), .inr (LmL.maps _ zlb _), .inr (LmL.maps _ zj5 _), trivial⟩, trivial⟩
   refine OkQ.seq (.of ?_)
   obtain ⟨v13, hv13, h⟩ := bind_some h
   refine .rg zS [3, 7] ?_
   refine .rn 2 ?_
   refine .call rfl rfl rfl rfl rfl rfl (zfq (WkL.cons (Wk.agg (WkL.cons Wk.iz (WkL.cons Wk.iz (WkL.cons Wk.iz (WkL.cons Wk.iz (WkL.cons Wk.iz (WkL.refl _))))))) (WkL.cons (Wk.refl _) (WkL.refl _))) (zef v3 a0 v13 hv13)) ?_
   refine .rn 1 ?_
   refine .nn ?_
   obtain rfl := sj h
   exact OkQ.ret ⟨[(6, .bool _)], vs1, vs2 rfl, .inr rfl, rsi⟩
end Go.Proofs
end
section
namespace Go.Proofs
open Go.Tm
def zdr : Int -> List Int -> Bool
 | _, [] => true
 | last, n :: r => decide (last < n) && decide (n < 6) && zdr n r
def gen : Nat -> Int -> List (List Int)
 | 0, _ => [[]]
 | f + 1, lo => gen f (lo + 1) ++ (gen f (lo + 1)).map fun r => (lo + 1) :: r
theorem zz3 : ∀ (f : Nat) (lo : Int), [] ∈ gen f lo
 | 0, _ => by simp [gen]
 | f + 1, lo => by simp only [gen, List.mem_append]; exact .inl (zz3 f _)
theorem zsn : ∀ (f : Nat) (lo : Int) (l : List Int), 5 - lo <= f -> zdr lo l = true -> l ∈ gen f lo
 | f, lo, [], _, _ => zz3 f lo
 | 0, lo, x :: r, hf, h => by
  simp only [zdr, Bool.and_eq_true, decide_eq_true_eq] at h
  omega
 | f + 1, lo, x :: r, hf, h => by
  have h' := h
  simp only [zdr, Bool.and_eq_true, decide_eq_true_eq] at h'
  simp only [gen, List.mem_append, List.mem_map]
  by_cases hx : x = lo + 1
  ·subst hx
   exact .inr ⟨r, zsn f (lo + 1) r (by omega) h'.2, rfl⟩
  ·refine .inl (zsn f (lo + 1) (x :: r) (by omega) ?_)
   simp only [zdr, Bool.and_eq_true, decide_eq_true_eq]
   exact ⟨⟨by omega, h'.1.2⟩, h'.2⟩
def setB (l : List Int) : Int := l.foldl (fun s n => bif decide (n >= 0) && decide (n < 6) then bitw .or .u64 s (shw true .u64 1 n) else s) 0
def hasI (l : List Int) (n : Int) : Bool := l.any fun x => x == n
def zi2 (l all : List Int) : Bool := l.all fun n => hasI all n
def popI (n : Int) : Int :=
 let a := wr .u64 (bitw .and .u64 (shw false .u64 n 1) 6148914691236517205 + bitw .and .u64 n 6148914691236517205)
 let b := wr .u64 (bitw .and .u64 (shw false .u64 a 2) 3689348814741910323 + bitw .and .u64 a 3689348814741910323)
 let c := bitw .and .u64 (wr .u64 (shw false .u64 b 4 + b)) 1085102592571150095
 let d := wr .u64 (c + shw false .u64 c 8)
 let e := wr .u64 (d + shw false .u64 d 16)
 let f := wr .u64 (e + shw false .u64 e 32)
 bitw .and .i64 (wr .i64 f) 127
def mask (p : Int -> Bool) : List Int := [0, 1, 2, 3, 4, 5].filter p
theorem zwf (p : Int -> Bool) : mask p ∈ gen 6 (-1) := by
 refine zsn 6 (-1) _ (by omega) ?_
 unfold mask
 cases h0 : p 0 <;> cases h1 : p 1 <;> cases h2 : p 2 <;> cases h3 : p 3 <;> cases h4 : p 4 <;> cases h5 : p 5 <;> simp [h0, h1, h2, h3, h4, h5, zdr]
def zs9 (s n : Int) : Int := bif decide (n >= 0) && decide (n < 6) then bitw .or .u64 s (shw true .u64 1 n) else s
theorem zyc (l : List Int) (n : Int) : setB (l ++ [n]) = zs9 (setB l) n := by
 unfold setB
 rw [List.foldl_append]
 rfl
theorem ya04 : ((gen 6 (-1)).all fun k => [0, 1, 2, 3, 4, 5].all fun n => zs9 (setB k) n == setB (mask fun x => hasI k x || x == n)) = true := by decide +kernel
theorem zrr {p q : Int -> Bool} (h : ∀ x ∈ [(0 : Int), 1, 2, 3, 4, 5], p x = q x) : mask p = mask q := by
 unfold mask
 exact List.filter_congr h
theorem zu3 (p : Int -> Bool) (x : Int) (hx : x ∈ [(0 : Int), 1, 2, 3, 4, 5]) : hasI (mask p) x = p x := by
 unfold hasI mask
 rw [List.any_filter]
 simp only [List.any_cons, List.any_nil]
 simp only [List.mem_cons, List.not_mem_nil, or_false] at hx
 rcases hx with rfl | rfl | rfl | rfl | rfl | rfl <;> simp
theorem zu2 (l : List Int) (n x : Int) : hasI (l ++ [n]) x = (hasI l x || n == x) := by
 unfold hasI
 simp
theorem zyd (l : List Int) : setB l = setB (mask (hasI l)) := by
 generalize hm : l.reverse = r
 have hl : l = r.reverse := by rw [<- hm, List.reverse_reverse]
 clear hm
 subst hl
 induction r with
 | nil => decide +kernel
 | cons n r ih =>
  rw [List.reverse_cons, zyc, ih]
  by_cases hn : n ∈ [(0 : Int), 1, 2, 3, 4, 5]
  ·have h := List.all_eq_true.1 (List.all_eq_true.1 ya04 _ (zwf (hasI r.reverse))) n hn
   rw [eq_of_beq h]
   congr 1
   refine zrr fun x hx => ?_
   rw [zu3 _ x hx, zu2]
   congr 1
   rw [Bool.eq_iff_iff, beq_iff_eq, beq_iff_eq]
   exact eq_comm
  ·have h1 : zs9 (setB (mask (hasI r.reverse))) n = setB (mask (hasI r.reverse)) := by
    unfold zs9
    have : (decide (n >= 0) && decide (n < 6)) = false := by
     rw [Bool.eq_false_iff]
     intro hh
     simp only [Bool.and_eq_true, decide_eq_true_eq] at hh
     exact hn (by simp only [List.mem_cons, List.not_mem_nil, or_false]; omega)
    rw [this]; rfl
   rw [h1]
   congr 1
   refine zrr fun x hx => ?_
   rw [zu2]
   have : (n == x) = false := by
    rw [Bool.eq_false_iff]
    intro hh
    rw [eq_of_beq hh] at hn
    exact hn hx
   rw [this, Bool.or_false]
theorem ya26 : ((gen 6 (-1)).all fun m => (gen 6 (-1)).all fun k => popI (bitw .and .u64 (setB m) (setB k)) == ((m.filter (hasI k)).length : Int)) = true := by decide +kernel
theorem zyj {m : List Int} (hm : zdr (-1) m = true) : ∀ x ∈ m, x ∈ [(0 : Int), 1, 2, 3, 4, 5] := by
 have key : ∀ (l : List Int) (k : Int), zdr k l = true -> ∀ x ∈ l, k < x /\ x < 6 := by
  intro l
  induction l with
  | nil => intro _ _ x hx; cases hx
  | cons y l ih =>
   intro k h x hx
   simp only [zdr, Bool.and_eq_true, decide_eq_true_eq] at h
   rcases List.mem_cons.1 hx with rfl | hx
   ·exact h.1
   ·have := ih y h.2 x hx
    omega
 intro x hx
 have := key m (-1) hm x hx
 simp only [List.mem_cons, List.not_mem_nil, or_false]
 omega
theorem zyw {m : List Int} (hm : zdr (-1) m = true) (s : List Int) : popI (bitw .and .u64 (setB m) (setB s)) = ((m.filter (hasI s)).length : Int) := by
 rw [zyd s]
 have h := List.all_eq_true.1 (List.all_eq_true.1 ya26 m (zsn 6 (-1) m (by omega) hm)) _ (zwf (hasI s))
 rw [eq_of_beq h]
 congr 2
 exact List.filter_congr fun x hx => zu3 _ x (zyj hm x hx)
end Go.Proofs
end
section
namespace Go.Proofs
open Go.Tm
set_option linter.unusedSimpArgs false
theorem zxi (l : List TPromise) : ∀ acc : List Int, acc.length + l.length < 1000000 -> zbu l acc = some (acc ++ l.map TPromise.Node) := by
 induction l with
 | nil => intro acc _; simp [zbu]
 | cons y l ih =>
  intro acc h
  simp only [List.length_cons] at h
  rw [zbu, if_pos (by simp; omega), ih _ (by simp; omega)]
  simp
theorem zwb (l : List TPromise) (h : l.length < 1000000) : zdd l = some (l.map TPromise.Node) := by
 rw [zdd, zxi l [] (by simpa using h)]; rfl
def zmp : List TPromise -> List UInt8 -> Int -> List UInt8
 | [], s, _ => s
 | y :: l, s, n => if y.Ballot > n then zmp l y.Value y.Ballot else zmp l s n
theorem zzv (l : List TPromise) : ∀ s n, zd5 l s n = some (zmp l s n) := by
 induction l with
 | nil => intro s n; rfl
 | cons y l ih =>
  intro s n
  rw [zd5, zmp]
  split <;> simp only [Option.bind_some] <;> exact ih _ _
theorem zzw (l : List TPromise) (w : List UInt8) : zfm l w = some (zmp l w 0) := by
 rw [zfm, zzv]; rfl
theorem zru (v : Int) (l : List Int) : ∀ n : Nat, (v ∈ l -> ∃ k : Nat, zaz v l n = some (.inl (k : Int))) /\ (v ∉ l -> zaz v l n = some (.inr ())) := by
 induction l with
 | nil => intro n; exact ⟨(fun h => by cases h), fun _ => rfl⟩
 | cons y l ih =>
  intro n
  rw [zaz]
  by_cases h : v = y
  rw [if_pos h]
  exact ⟨fun _ => ⟨n, rfl⟩, fun hn => absurd (h ▸ List.mem_cons_self) hn⟩
  rw [if_neg h]
  refine ⟨fun hv => (ih (n + 1)).1 ?_, fun hv => (ih (n + 1)).2 fun hh => hv (List.mem_cons_of_mem _ hh)⟩
  rcases List.mem_cons.1 hv with hv | hv
  exact absurd hv h
  exact hv
theorem zwi (l : List Int) (v : Int) : zfg l v = some (decide (v ∈ l)) := by
 rw [zfg, zed, zfb]
 by_cases h : v ∈ l
 obtain ⟨k, hk⟩ := (zru v l 0).1 h
 rw [hk]
 simp [h]
 rw [(zru v l 0).2 h]
 simp [h]
theorem zpi : ∀ (l : List Int) (k : Int), zdr k l = true -> ∀ x ∈ l, k < x /\ x < 6 := by
 intro l
 induction l with
 | nil => intro _ _ x hx; cases hx
 | cons y l ih =>
  intro k h x hx
  simp only [zdr, Bool.and_eq_true, decide_eq_true_eq] at h
  rcases List.mem_cons.1 hx with rfl | hx
  exact h.1
  have := ih y h.2 x hx
  omega
theorem zuw (l : List Int) : ∀ n, zcj l n = some (if zdr n l = true then .inr (l.getLastD n) else .inl 60) := by
 induction l with
 | nil => intro n; simp [zcj, zdr]
 | cons y l ih =>
  intro n
  rw [zcj]
  by_cases h : (y <= n) \/ (y >= 6)
  rw [if_pos h, if_neg (by simp only [zdr, Bool.and_eq_true, decide_eq_true_eq]; omega)]
  rw [if_neg h, ih]
  have : zdr n (y :: l) = zdr y l := by
   simp only [zdr]
   have h1 : decide (n < y) = true := by simp; omega
   have h2 : decide (y < 6) = true := by simp; omega
   simp [h1, h2]
  rw [this, List.getLastD_cons]
def QOk (l : List Int) : Prop := l.length <= 6 /\ zdr (-1) l = true /\ l ≠ []
instance (l : List Int) : Decidable (QOk l) := by unfold QOk; infer_instance
theorem znp (l : List Int) : zcv l = some (if l.length > 6 then 4 else if zdr (-1) l = true /\ l ≠ [] then 0 else 60) := by
 rw [zcv]
 by_cases h : (l.length : Int) > 6
 rw [if_pos h, if_pos (by omega)]
 rw [if_neg h, if_neg (by omega), zuw]
 by_cases hr : zdr (-1) l = true
 rw [if_pos hr]
 cases l with
 | nil => simp
 | cons y l =>
  have hl := (zpi (y :: l) (-1) hr ((y :: l).getLastD (-1)) (by rw [List.getLastD_eq_getLast?, List.getLast?_eq_some_getLast (by simp)]; exact List.getLast_mem (by simp))).1
  simp only [Option.bind_some, ne_eq, reduceCtorEq, not_false_eq_true, and_true, if_pos hr]
  rw [if_neg (by omega)]
 rw [if_neg hr]
 simp [hr]
theorem zuv (l : List Int) : zcv l = some 0 ↔ QOk l := by
 rw [znp]
 unfold QOk
 by_cases h : l.length > 6
 rw [if_pos h]; simp; omega
 rw [if_neg h]
 by_cases h2 : zdr (-1) l = true /\ l ≠ []
 rw [if_pos h2]; simp only [true_iff]; exact ⟨by omega, h2⟩
 rw [if_neg h2]; simp; intro _ h3; exact Classical.byContradiction fun h4 => h2 ⟨h3, h4⟩
def BOk (b : Int) : Prop := ¬ (wr .i64 (b.tdiv 8) < 1 \/ wr .i64 (b.tdiv 8) > 1048576) /\ b.tmod 8 >= 0 /\ b.tmod 8 < 6
instance (b : Int) : Decidable (BOk b) := by unfold BOk; infer_instance
theorem zku (b : Int) : zcw b = some (if BOk b then 0 else 50) := by
 rw [zcw, zh8, zg5]
 unfold BOk
 by_cases h : wr .i64 (b.tdiv 8) < 1 \/ wr .i64 (b.tdiv 8) > 1048576
 simp [h]
 by_cases h1 : b.tmod 8 >= 0 <;> by_cases h2 : b.tmod 8 < 6 <;> simp [h, h1, h2]
def MayS (p : TPromise) (b : Int) : Prop := if p.Ballot = 0 then p.Value = [] else BOk p.Ballot /\ p.Ballot < b /\ p.Value.length <= 1024
instance (p : TPromise) (b : Int) : Decidable (MayS p b) := by unfold MayS; infer_instance
theorem ya1f (p : TPromise) (b : Int) : zgs p b = some (decide (MayS p b)) := by
 rw [zgs, zku]
 by_cases h : p.Ballot = 0
 have e : MayS p b ↔ p.Value = [] := by unfold MayS; rw [if_pos h]
 have e2 : decide (MayS p b) = decide (p.Value = []) := decide_eq_decide.2 e
 rw [if_pos h, e2]
 congr 1
 rw [Bool.eq_iff_iff]
 simp
 have e : MayS p b ↔ (BOk p.Ballot /\ p.Ballot < b /\ p.Value.length <= 1024) := by unfold MayS; rw [if_neg h]
 have e2 : decide (MayS p b) = decide (BOk p.Ballot /\ p.Ballot < b /\ p.Value.length <= 1024) := decide_eq_decide.2 e
 rw [if_neg h, e2]
 by_cases h1 : BOk p.Ballot <;> simp [h1]
 rw [Bool.eq_iff_iff]
 simp
 intro _
 omega
def zg3 (m : List Int) : Option Int -> List Int -> Bool
 | _, [] => true
 | k, y :: l => (match k with | none => true | some k => decide (k < y)) && decide (y ∈ m) && zg3 m (some y) l
theorem zuq (m a0 : List Int) : ∀ (l : List Int) (n : Nat), a0.drop n = l -> zby a0 m l n = some (if zg3 m (if n = 0 then none else some (a0.getD (n - 1) default)) l = true then .inr () else .inl false) := by
 intro l
 induction l with
 | nil => intro n _; simp [zby, zg3]
 | cons y l ih =>
  intro n h
  have hn : n < a0.length := by
   rcases Nat.lt_or_ge n a0.length with h1 | h1
   exact h1
   rw [List.drop_eq_nil_of_le h1] at h; cases h
  have hy : a0.getD n default = y := by
   have := List.drop_eq_getElem_cons hn
   rw [h] at this
   simp only [List.cons.injEq] at this
   simp [List.getD, List.getElem?_eq_getElem hn, this.1]
  have hl : a0.drop (n + 1) = l := by
   have := List.drop_eq_getElem_cons hn
   rw [h] at this
   simp only [List.cons.injEq] at this
   exact this.2.symm
  rw [zby, zwi]
  have key := ih (n + 1) hl
  rw [if_neg (show ¬ (n + 1 = 0) by omega), show n + 1 - 1 = n from rfl, hy] at key
  by_cases h0 : n = 0
  subst h0
  by_cases hm : y ∈ m
  simp [hm, key, zg3]
  simp [hm, zg3]
  have hp : (n : Int) > 0 := by omega
  rw [if_neg h0]
  generalize a0.getD (n - 1) default = z
  by_cases hle : y <= z
  have : ¬ (z < y) := by omega
  have hn0 : 0 < n := by omega
  simp [hle, zg3, this, h0, hn0]
  have : z < y := by omega
  by_cases hm : y ∈ m
  simp [hle, zg3, this, hm, key]
  simp [hle, zg3, this, hm]
theorem zyi (l m : List Int) : ze2 l m = some (zg3 m none l) := by
 rw [ze2, zuq m l l 0 (by simp)]
 rw [if_pos rfl]
 cases h : zg3 m none l <;> simp
theorem ya08 (l : List Int) : ∀ s, zdv l s = some (l.foldl (fun s n => bif decide (n >= 0) && decide (n < 6) then bitw .or .u64 s (shw true .u64 1 n) else s) s) := by
 induction l with
 | nil => intro s; rfl
 | cons y l ih =>
  intro s
  rw [zdv, List.foldl_cons]
  by_cases h0 : y >= 0
  by_cases h6 : y < 6
  have : 0 <= y := h0
  simp [h0, h6, this, ih]
  simp [h0, h6, ih]
  simp [h0, ih]
theorem ya1a (l : List Int) : zhd l = some (setB l) := by
 rw [zhd, ya08]; rfl
theorem ya2b (n : Int) : zel n = some (popI n) := by
 rw [zel, zeu]
 rfl
def zkk (m l : List Int) : Bool := decide (((m.filter (hasI l)).length : Int) >= (m.length / 2 + 1 : Nat))
theorem ya2f (m l : List Int) (hm : QOk m) (hl : l.length <= 1000) : zho m l = some (zkk m l, 0) := by
 have hn : wr .i64 (wr .i64 ((m.length : Int).tdiv 2) + 1) = ((m.length / 2 + 1 : Nat) : Int) := by
  have h6 := hm.1
  generalize m.length = k at h6
  match k, h6 with
  | 0, _ => decide +kernel
  | 1, _ => decide +kernel
  | 2, _ => decide +kernel
  | 3, _ => decide +kernel
  | 4, _ => decide +kernel
  | 5, _ => decide +kernel
  | 6, _ => decide +kernel
  | k + 7, h => omega
 rw [zho, ziu, (zuv m).2 hm]
 simp only [Option.bind_some, not_true_eq_false, if_false, hn]
 rw [if_neg (by omega), ya1a, ya1a]
 simp only [Option.bind_some, ya2b, zyw hm.2.1 l]
 rfl
theorem zmy (f : TPromise -> Option Bool) (g : TPromise -> Bool) (hf : ∀ x, f x = some (g x)) (l : List TPromise) : ∀ n : Nat, (l.any g = true -> ∃ k : Nat, zac f l n = some (.inl (k : Int))) /\ (l.any g = false -> zac f l n = some (.inr ())) := by
 induction l with
 | nil => intro n; exact ⟨(fun h => by cases h), fun _ => rfl⟩
 | cons y l ih =>
  intro n
  rw [zac, hf, List.any_cons]
  cases hg : g y with
  | true => exact ⟨fun _ => ⟨n, by simp⟩, fun h => by cases h⟩
  | false => simpa using ih (n + 1)
theorem zr4 (f : TPromise -> Option Bool) (g : TPromise -> Bool) (hf : ∀ x, f x = some (g x)) (l : List TPromise) : zas l f = some (l.any g) := by
 rw [zas, zce]
 cases h : l.any g with
 | true => obtain ⟨k, hk⟩ := (zmy f g hf l 0).1 h; rw [hk]; simp
 | false => rw [(zmy f g hf l 0).2 h]; simp
theorem zxq (b : List Int) : ∀ (l : List Int) (n : Nat), n + l.length = b.length -> zb0 b l n = some (if l = b.drop n then .inr () else .inl false) := by
 intro l
 induction l with
 | nil => intro n h; simp [zb0]; simp at h; omega
 | cons y l ih =>
  intro n h
  simp only [List.length_cons] at h
  have hn : n < b.length := by omega
  have hg : b.getD n default = b[n] := by simp [List.getD, List.getElem?_eq_getElem hn]
  have hd := List.drop_eq_getElem_cons hn
  rw [zb0, if_pos hn, hg]
  generalize b[n] = z at hd
  rw [hd]
  by_cases hy : y = z
  rw [if_neg (by simpa using hy), ih (n + 1) (by omega)]
  simp only [hy, List.cons.injEq, true_and]
  rw [if_pos hy]
  simp only [hy, List.cons.injEq, false_and, if_false]
theorem zsx (a b : List Int) : zbr a b = some (decide (a = b)) := by
 rw [zbr]
 by_cases h : (a.length : Int) = (b.length : Int)
 rw [if_neg (by simpa using h), zxq b a 0 (by omega), List.drop_zero]
 by_cases hab : a = b <;> simp [hab]
 rw [if_pos h]
 have : a ≠ b := fun hh => h (by rw [hh])
 simp [this]
theorem zvh (b : List TPromise) : ∀ (l : List TPromise) (n : Nat), n + l.length = b.length -> zag b l n = some (if l = b.drop n then .inr () else .inl false) := by
 intro l
 induction l with
 | nil => intro n h; simp [zag]; simp at h; omega
 | cons y l ih =>
  intro n h
  simp only [List.length_cons] at h
  have hn : n < b.length := by omega
  have hg : b.getD n default = b[n] := by simp [List.getD, List.getElem?_eq_getElem hn]
  have hd := List.drop_eq_getElem_cons hn
  rw [zag, if_pos hn, hg]
  generalize b[n] = z at hd
  rw [hd]
  have e : (y.Node = z.Node /\ y.Ballot = z.Ballot /\ y.Value = z.Value) ↔ y = z := by cases y; cases z; simp
  by_cases hy : y = z
  rw [if_neg (by simpa using e.2 hy), ih (n + 1) (by omega)]
  simp only [hy, List.cons.injEq, true_and]
  rw [if_pos (fun hh => hy (e.1 hh))]
  simp only [hy, List.cons.injEq, false_and, if_false]
theorem zzo (a b : List TPromise) : zc9 a b = some (decide (a = b)) := by
 rw [zc9]
 by_cases h : (a.length : Int) = (b.length : Int)
 rw [if_neg (by simpa using h), zvh b a 0 (by omega), List.drop_zero]
 by_cases hab : a = b <;> simp [hab]
 rw [if_pos h]
 have : a ≠ b := fun hh => h (by rw [hh])
 simp [this]
theorem zyg (a b : TAttempt) : zee a b = some (decide (a = b)) := by
 obtain ⟨p, bl, m, w, v, pr, ac⟩ := a
 obtain ⟨p', bl', m', w', v', pr', ac'⟩ := b
 simp only [zee, zsx, zzo, TAttempt.mk.injEq]
 by_cases h1 : p = p' <;> by_cases h2 : bl = bl' <;> by_cases h3 : m = m' <;> by_cases h4 : w = w' <;> by_cases h5 : v = v' <;> by_cases h6 : pr = pr' <;> simp [h1, h2, h3, h4, h5, h6]
structure Kept (a : TAttempt) : Prop where
 ballot : BOk a.Ballot
 members : QOk a.Members
 wish : a.Wish.length <= 1024
 nodes : zg3 a.Members none (a.Promises.map TPromise.Node) = true
 accepted : zg3 a.Members none a.Accepted = true
 may : ∀ p ∈ a.Promises, MayS p a.Ballot
 most : zkk a.Members (a.Promises.map TPromise.Node) = decide (a.Phase > 1)
 chosen : zkk a.Members a.Accepted = (a.Phase == 3)
 value : a.Phase = 1 \/ a.Value = zmp a.Promises a.Wish 0
def zfj (a : TAttempt) : Prop :=
 if a.Phase = 0 then a = ⟨0, 0, [], [], [], [], []⟩
 else ((a.Phase = 1 /\ a.Value = [] /\ a.Accepted = []) \/ a.Phase = 2 \/ a.Phase = 3) /\ Kept a
theorem zzz (l : List TPromise) (b : Int) : (l.any fun x => !decide (MayS x b)) = true ↔ ¬ ∀ p ∈ l, MayS p b := by
 simp
theorem zx8 : ∀ (l : List Int) (k : Int), zdr k l = true -> k < 6 -> (l.length : Int) <= 5 - k := by
 intro l
 induction l with
 | nil => intro k _ h; simp; omega
 | cons y l ih =>
  intro k h hk
  simp only [zdr, Bool.and_eq_true, decide_eq_true_eq] at h
  have := ih y h.2 h.1.2
  simp only [List.length_cons]
  omega
theorem ztn {m : List Int} (hm : QOk m) : ∀ (l : List Int) (k : Int), zg3 m (some k) l = true -> zdr k l = true := by
 intro l
 induction l with
 | nil => intro _ _; rfl
 | cons y l ih =>
  intro k h
  simp only [zg3, Bool.and_eq_true, decide_eq_true_eq] at h
  have := (zpi m (-1) hm.2.1 y h.1.2).2
  simp only [zdr, Bool.and_eq_true, decide_eq_true_eq]
  exact ⟨⟨h.1.1, this⟩, ih y h.2⟩
theorem zx9 {m : List Int} (hm : QOk m) (l : List Int) (h : zg3 m none l = true) : zdr (-1) l = true := by
 cases l with
 | nil => rfl
 | cons y l =>
  simp only [zg3, Bool.and_eq_true, decide_eq_true_eq, true_and] at h
  have := zpi m (-1) hm.2.1 y h.1
  simp only [zdr, Bool.and_eq_true, decide_eq_true_eq]
  exact ⟨this, ztn hm l y h.2⟩
theorem zkg {m : List Int} (hm : QOk m) (l : List Int) (h : zg3 m none l = true) : l.length <= 6 := by
 have := zx8 l (-1) (zx9 hm l h) (by omega)
 omega
theorem zpq (m l : List Int) (hm : QOk m) (hl : l.length <= 1000) : zde m l = some (zkk m l) := by
 rw [zde, ya2f m l hm hl]; rfl
theorem zzt (x : TPromise) (a : TAttempt) : zeb x a = some (!decide (MayS x a.Ballot)) := by
 rw [zeb, ya1f]; rfl
theorem zyr {m : List Int} (h : ¬ QOk m) : ∃ e, zcv m = some e /\ e ≠ 0 := by
 have h2 : zcv m ≠ some 0 := fun hh => h ((zuv m).1 hh)
 rw [znp] at h2 ⊢
 exact ⟨_, rfl, fun hh => h2 (by rw [hh])⟩
theorem zsp (a : TAttempt) : Kept a ↔ BOk a.Ballot /\ QOk a.Members /\ a.Wish.length <= 1024 /\ zg3 a.Members none (a.Promises.map TPromise.Node) = true /\ zg3 a.Members none a.Accepted = true /\ (∀ p ∈ a.Promises, MayS p a.Ballot) /\ zkk a.Members (a.Promises.map TPromise.Node) = decide (a.Phase > 1) /\ zkk a.Members a.Accepted = (a.Phase == 3) /\ (a.Phase = 1 \/ a.Value = zmp a.Promises a.Wish 0) :=
 ⟨fun h => ⟨h.1, h.2, h.3, h.4, h.5, h.6, h.7, h.8, h.9⟩, fun ⟨h1, h2, h3, h4, h5, h6, h7, h8, h9⟩ => ⟨h1, h2, h3, h4, h5, h6, h7, h8, h9⟩⟩
def zo3 (a0 : TAttempt) (b2 : Bool) : Option Bool :=
 Option.bind (if b2 = true then zcw a0.Ballot else some default) fun v2 =>
 Option.bind (if (b2 = true) /\ (v2 = 0) then zcv a0.Members else some default) fun v3 =>
 Option.bind (if (((b2 = true) /\ (v2 = 0)) /\ (v3 = 0)) /\ ((a0.Wish.length : Int) <= 1024) then zdd a0.Promises else some default) fun v4 =>
 Option.bind (if (((b2 = true) /\ (v2 = 0)) /\ (v3 = 0)) /\ ((a0.Wish.length : Int) <= 1024) then ze2 v4 a0.Members else some default) fun v5 =>
 Option.bind (if ((((b2 = true) /\ (v2 = 0)) /\ (v3 = 0)) /\ ((a0.Wish.length : Int) <= 1024)) /\ (v5 = true) then ze2 a0.Accepted a0.Members else some default) fun v6 =>
 Option.bind (if (((((b2 = true) /\ (v2 = 0)) /\ (v3 = 0)) /\ ((a0.Wish.length : Int) <= 1024)) /\ (v5 = true)) /\ (v6 = true) then zas a0.Promises (fun x0 => zeb x0 a0) else some default) fun v7 =>
 Option.bind (if ((((((b2 = true) /\ (v2 = 0)) /\ (v3 = 0)) /\ ((a0.Wish.length : Int) <= 1024)) /\ (v5 = true)) /\ (v6 = true)) /\ (¬ (v7 = true)) then zdd a0.Promises else some default) fun v8 =>
 Option.bind (if ((((((b2 = true) /\ (v2 = 0)) /\ (v3 = 0)) /\ ((a0.Wish.length : Int) <= 1024)) /\ (v5 = true)) /\ (v6 = true)) /\ (¬ (v7 = true)) then zde a0.Members v8 else some default) fun v9 =>
 Option.bind (if (((((((b2 = true) /\ (v2 = 0)) /\ (v3 = 0)) /\ ((a0.Wish.length : Int) <= 1024)) /\ (v5 = true)) /\ (v6 = true)) /\ (¬ (v7 = true))) /\ ((v9 == (decide (a0.Phase > 1))) = true) then zde a0.Members a0.Accepted else some default) fun v10 =>
 Option.bind (if (((((((((b2 = true) /\ (v2 = 0)) /\ (v3 = 0)) /\ ((a0.Wish.length : Int) <= 1024)) /\ (v5 = true)) /\ (v6 = true)) /\ (¬ (v7 = true))) /\ ((v9 == (decide (a0.Phase > 1))) = true)) /\ ((v10 == (a0.Phase == 3)) = true)) /\ (¬ (a0.Phase = 1)) then zfm a0.Promises a0.Wish else some default) fun v11 =>
 some (((((((((b2 && (v2 == 0)) && (v3 == 0)) && (decide ((a0.Wish.length : Int) <= 1024))) && v5) && v6) && (!v7)) && (v9 == (decide (a0.Phase > 1)))) && (v10 == (a0.Phase == 3))) && ((a0.Phase == 1) || (a0.Value == v11)))
theorem ya1t (a : TAttempt) (hl : a.Promises.length < 1000000) (b2 : Bool) : ∃ r, zo3 a b2 = some r /\ (r = true ↔ b2 = true /\ Kept a) := by
 unfold zo3
 rw [zsp]
 cases b2 with
 | false => simp
 | true =>
  rw [zku]
  by_cases hb : BOk a.Ballot
  by_cases hq : QOk a.Members
  have hq0 := (zuv _).2 hq
  by_cases hw : a.Wish.length <= 1024
  have hw' : (a.Wish.length : Int) <= 1024 := by omega
  simp only [hb, hq0, hw', if_true, and_self, Option.bind_some, zwb _ hl, zyi]
  by_cases h5 : zg3 a.Members none (a.Promises.map TPromise.Node) = true
  by_cases h6 : zg3 a.Members none a.Accepted = true
  have l1 := zkg hq _ h5
  have l2 := zkg hq _ h6
  rw [zr4 _ (fun x => !decide (MayS x a.Ballot)) (fun x => zzt x a)]
  simp only [h5, h6, and_self, if_true, Option.bind_some]
  by_cases h7 : ∀ p ∈ a.Promises, MayS p a.Ballot
  have h7' : (a.Promises.any fun x => !decide (MayS x a.Ballot)) = false := by
   rw [Bool.eq_false_iff]; intro hh; exact (zzz _ _).1 hh h7
  simp only [h7', Bool.false_eq_true, not_false_eq_true, and_self, if_true, Option.bind_some, zpq _ _ hq (Nat.le_trans l1 (by omega)), zpq _ _ hq (Nat.le_trans l2 (by omega)), zzw]
  by_cases h9 : zkk a.Members (a.Promises.map TPromise.Node) = decide (a.Phase > 1)
  by_cases h10 : zkk a.Members a.Accepted = (a.Phase == 3)
  by_cases h11 : a.Phase = 1
  simp [h9, h10, h11, hq, hw]
  exact h7
  simp [h9, h10, h11, hq, hw]
  exact fun _ => h7
  simp [h9, h10]
  simp [h9]
  have h7' := (zzz _ _).2 h7
  simp [h7', h7]
  simp [h5, h6]
  simp [h5]
  have hw' : ¬ (a.Wish.length : Int) <= 1024 := by omega
  simp [hb, hq0, hw, hw']
  obtain ⟨e, he, hne⟩ := zyr hq
  simp [hb, he, hne, hq]
  simp [hb]
theorem zt0 (a : TAttempt) (hl : a.Promises.length < 1000000) : ∃ e, zf6 a = some e /\ (e = 0 ↔ zfj a) := by
 unfold zfj
 rw [zf6]
 by_cases h0 : a.Phase = 0
 rw [if_pos h0, if_pos h0, zyg]
 by_cases hz : a = ⟨0, 0, [], [], [], [], []⟩ <;> simp [hz]
 rw [if_neg h0, if_neg h0]
 have key : ∀ b2 : Bool, ∃ e, (Option.bind (zo3 a b2) fun b1 => if ¬ (b1 = true) then some (8 : Int) else some 0) = some e /\ (e = 0 ↔ b2 = true /\ Kept a) := by
  intro b2
  obtain ⟨r, h1, h2⟩ := ya1t a hl b2
  rw [h1, <- h2]
  cases r <;> simp
 by_cases h1 : a.Phase = 1
 rw [if_pos h1]
 obtain ⟨e, he, h2⟩ := key ((a.Value == []) && ((a.Accepted.length : Int) == 0))
 refine ⟨e, he, ?_⟩
 rw [h2]
 simp [h1]
 rw [if_neg h1]
 by_cases h2 : a.Phase = 2
 obtain ⟨e, he, h3⟩ := key true
 refine ⟨e, ?_, ?_⟩
 have hb : (a.Phase == 2) = true := by simp [h2]
 rw [if_pos h2, hb]
 exact he
 rw [h3]
 simp [h2]
 by_cases h3 : a.Phase = 3
 obtain ⟨e, he, h4⟩ := key true
 refine ⟨e, ?_, ?_⟩
 have hb : (a.Phase == 3) = true := by simp [h3]
 rw [if_neg h2]
 refine Eq.trans ?_ he
 show Option.bind (Option.bind (Option.bind (some (a.Phase == 3)) _) _) _ = _
 generalize hg : (a.Phase == 3) = q at hb
 subst hb
 unfold zo3
 rw [hg]
 rfl
 rw [h4]
 simp [h3]
 exact ⟨8, by simp [h2, h3], by simp [h1, h2, h3]⟩
theorem ya2k (i j : Nat) (h : i + j < 4000000) : wr .i64 (shw false .u64 (wr .u64 (wr .i64 ((i : Int) + (j : Int)))) 1) = (((i + j) / 2 : Nat) : Int) := by
 have e1 : wr .i64 ((i : Int) + (j : Int)) = (i : Int) + (j : Int) := zis _ _ (by show (-9223372036854775808 : Int) <= _; omega) (by show _ <= (9223372036854775807 : Int); omega)
 have e2 : wr .u64 ((i : Int) + (j : Int)) = (i : Int) + (j : Int) := zis _ _ (by show (0 : Int) <= _; omega) (by show _ <= (18446744073709551615 : Int); omega)
 have e3 : shw false .u64 ((i : Int) + (j : Int)) 1 = (((i + j) / 2 : Nat) : Int) := by
  unfold shw
  show Int.fdiv ((i : Int) + (j : Int)) 2 = _
  rw [Int.fdiv_eq_ediv_of_nonneg _ (by omega)]
  omega
 rw [e1, e2, e3]
 exact zis _ _ (by show (-9223372036854775808 : Int) <= _; omega) (by show _ <= (9223372036854775807 : Int); omega)
theorem zun (f : Int -> Option Bool) (K n : Nat) (hn : n < 1000000) (hf : ∀ x : Nat, x < n -> f (x : Int) = some (decide (K <= x))) : ∀ (fu i j : Nat), j - i < fu -> i <= K -> K <= j -> j <= n -> zcu f fu (i : Int) (j : Int) = some (K : Int) := by
 intro fu
 induction fu with
 | zero => intro i j h; omega
 | succ fu ih =>
  intro i j h h1 h2 h3
  rw [zcu]
  by_cases hij : i < j
  rw [if_pos (by omega), ya2k i j (by omega), hf _ (by omega)]
  simp only [Option.bind_some]
  by_cases hk : K <= (i + j) / 2
  rw [if_neg (by simpa using hk)]
  exact ih i ((i + j) / 2) (by omega) h1 hk (by omega)
  rw [if_pos (by simpa using hk)]
  have e : wr .i64 ((((i + j) / 2 : Nat) : Int) + 1) = (((i + j) / 2 + 1 : Nat) : Int) := zis _ _ (by show (-9223372036854775808 : Int) <= _; omega) (by show _ <= (9223372036854775807 : Int); omega)
  rw [e]
  exact ih _ j (by omega) (by omega) h2 h3
  rw [if_neg (by omega)]
  congr 2
  omega
theorem zye (f : Int -> Option Bool) (K n : Nat) (hn : n < 1000000) (hK : K <= n) (hf : ∀ x : Nat, x < n -> f (x : Int) = some (decide (K <= x))) : zg4 (n : Int) f = some (K : Int) := by
 rw [zg4]
 have h := zun f K n hn hf ((n : Int).toNat + 1) 0 n (by simp) (by omega) hK (by omega)
 rw [show ((0 : Nat) : Int) = 0 from rfl] at h
 rw [h]
 rfl
end Go.Proofs
end
section
namespace Go.Proofs
open Go.Tm
set_option linter.unusedSimpArgs false
section
variable {α : Type} (key : α -> Int)
def insK (p : α) : List α -> List α
 | [] => [p]
 | y :: l => if key y < key p then y :: insK p l else p :: y :: l
def plc (v : Int) : List α -> Nat
 | [] => 0
 | y :: l => if key y < v then plc v l + 1 else 0
theorem ztu (v : Int) : ∀ l : List α, plc key v l <= l.length := by
 intro l
 induction l with
 | nil => exact Nat.le_refl _
 | cons y l ih =>
  simp only [plc, List.length_cons]
  split <;> omega
theorem ya0h [Inhabited α] (v : Int) : ∀ (l : List α), (l.map key).Pairwise (· < ·) -> ∀ x, x < l.length -> (key (l.getD x default) >= v ↔ plc key v l <= x) := by
 intro l
 induction l with
 | nil => intro _ x hx; cases hx
 | cons y l ih =>
  intro h x hx
  simp only [List.map_cons, List.pairwise_cons] at h
  simp only [plc]
  cases x with
  | zero =>
   simp only [List.getD_cons_zero]
   by_cases hy : key y < v
   rw [if_pos hy]
   omega
   rw [if_neg hy]
   omega
  | succ x =>
   simp only [List.getD_cons_succ]
   simp only [List.length_cons] at hx
   by_cases hy : key y < v
   rw [if_pos hy, ih h.2 x (by omega)]
   omega
   rw [if_neg hy]
   have hm : l.getD x default ∈ l := by
    rw [List.getD_eq_getElem?_getD, List.getElem?_eq_getElem (by omega)]
    exact List.getElem_mem _
   have := h.1 _ (List.mem_map_of_mem hm)
   omega
theorem zyy [Inhabited α] (v : Int) : ∀ (l : List α), (l.map key).Pairwise (· < ·) -> ((plc key v l < l.length /\ key (l.getD (plc key v l) default) = v) ↔ v ∈ l.map key) := by
 intro l
 induction l with
 | nil => intro _; simp [plc]
 | cons y l ih =>
  intro h
  simp only [List.map_cons, List.pairwise_cons] at h
  simp only [plc]
  by_cases hy : key y < v
  rw [if_pos hy, List.getD_cons_succ, List.map_cons, List.mem_cons, <- ih h.2]
  simp only [List.length_cons]
  have : v ≠ key y := by omega
  simp only [this, false_or]
  omega
  rw [if_neg hy, List.getD_cons_zero, List.map_cons, List.mem_cons]
  simp only [List.length_cons]
  constructor
  intro hh; exact .inl hh.2.symm
  rintro (hh | hh)
  exact ⟨by omega, hh.symm⟩
  have := h.1 _ hh
  omega
theorem zpn (p : α) : ∀ l : List α, l.take (plc key (key p) l) ++ p :: l.drop (plc key (key p) l) = insK key p l := by
 intro l
 induction l with
 | nil => rfl
 | cons y l ih =>
  simp only [plc, insK]
  split
  simp only [List.take_succ_cons, List.drop_succ_cons, List.cons_append, ih]
  rfl
theorem zsr (p : α) (x : α) : ∀ l : List α, x ∈ insK key p l ↔ x = p \/ x ∈ l := by
 intro l
 induction l with
 | nil => simp [insK]
 | cons y l ih =>
  simp only [insK]
  split
  simp only [List.mem_cons, ih]
  constructor
  rintro (h | h | h) <;> simp [h]
  rintro (h | h | h) <;> simp [h]
  simp only [List.mem_cons]
theorem zvd (p : α) : ∀ l : List α, (insK key p l).length = l.length + 1 := by
 intro l
 induction l with
 | nil => rfl
 | cons y l ih =>
  simp only [insK]
  split <;> simp [ih]
theorem ya0r (p : α) (v : Int) (l : List α) : v ∈ (insK key p l).map key ↔ v = key p \/ v ∈ l.map key := by
 simp only [List.mem_map, zsr]
 constructor
 rintro ⟨x, rfl | hx, rfl⟩
 exact .inl rfl
 exact .inr ⟨x, hx, rfl⟩
 rintro (rfl | ⟨x, hx, rfl⟩)
 exact ⟨p, .inl rfl, rfl⟩
 exact ⟨x, .inr hx, rfl⟩
theorem zsq (m : List Int) (p : α) (hp : key p ∈ m) : ∀ (l : List α) (k : Option Int), (match k with | none => True | some k => k < key p) -> key p ∉ l.map key -> zg3 m k (l.map key) = true -> zg3 m k ((insK key p l).map key) = true := by
 intro l
 induction l with
 | nil =>
  intro k hk _ _
  cases k with
  | none => simp [insK, zg3, hp]
  | some k =>
   have : k < key p := hk
   simp [insK, zg3, hp, this]
 | cons y l ih =>
  intro k hk hn h
  simp only [List.map_cons, List.mem_cons, not_or] at hn
  simp only [List.map_cons, zg3, Bool.and_eq_true] at h
  simp only [insK]
  by_cases hy : key y < key p
  rw [if_pos hy]
  simp only [List.map_cons, zg3, Bool.and_eq_true]
  exact ⟨h.1, ih (some (key y)) hy hn.2 h.2⟩
  rw [if_neg hy]
  have hlt : key p < key y := by omega
  simp only [List.map_cons, zg3, Bool.and_eq_true]
  refine ⟨⟨?_, by simpa using hp⟩, ⟨⟨by simpa using hlt, h.1.2⟩, h.2⟩⟩
  cases k with
  | none => rfl
  | some k => simpa using hk
end
theorem ya1u {m : List Int} : ∀ (l : List Int) (k : Int), zg3 m (some k) l = true -> ∀ x ∈ l, k < x := by
 intro l
 induction l with
 | nil => intro _ _ x hx; cases hx
 | cons y l ih =>
  intro k h x hx
  simp only [zg3, Bool.and_eq_true, decide_eq_true_eq] at h
  rcases List.mem_cons.1 hx with rfl | hx
  exact h.1.1
  have := ih y h.2 x hx; omega
theorem zyk {m : List Int} : ∀ (l : List Int) (k : Option Int), zg3 m k l = true -> l.Pairwise (· < ·) := by
 intro l
 induction l with
 | nil => intro _ _; exact .nil
 | cons y l ih =>
  intro k h
  simp only [zg3, Bool.and_eq_true] at h
  exact .cons (ya1u l y h.2) (ih _ h.2)
theorem zyf {α : Type} [Inhabited α] (key : α -> Int) (l : List α) (v : Int) (f : Int -> Option Bool) (hl : l.length < 1000000) (hs : (l.map key).Pairwise (· < ·)) (hf : ∀ x : Nat, x < l.length -> f (x : Int) = some (decide (key (l.getD x default) >= v))) : zg4 (l.length : Int) f = some (plc key v l : Int) :=
 zye f _ _ hl (ztu key v l) fun x hx => by rw [hf x hx, decide_eq_decide.2 (ya0h key v l hs x hx)]
theorem zsa (l : List Int) (v : Int) (hl : l.length < 1000000) (hs : l.Pairwise (· < ·)) : zfs l v = some (plc (fun x => x) v l : Int) := by
 rw [zfs, zyf (fun x => x) l v _ hl (by simpa using hs)]
 rfl
 intro x hx
 rw [zf4, if_pos (by omega)]
 rfl
theorem zsm (m : List Int) : zkk m [] = false := by
 unfold zkk
 have : m.filter (hasI []) = [] := by
  rw [List.filter_eq_nil_iff]
  intro x _; simp [hasI]
 rw [this]
 simp
 omega
end Go.Proofs
end
section
namespace Go.Proofs
open Go.Tm
set_option linter.unusedSimpArgs false
abbrev insN := insK TPromise.Node
abbrev insI := insK (fun x : Int => x)
def zul (a : TAttempt) (l : List TPromise) : TAttempt :=
 if zkk a.Members (l.map TPromise.Node) = true then { a with Phase := 2, Value := zmp l a.Wish 0, Promises := l } else { a with Promises := l }
def za9 (a : TAttempt) (p : TPromise) : TAttempt :=
 if p.Node ∈ a.Promises.map TPromise.Node then a else zul a (insN p a.Promises)
def CanP (a : TAttempt) (b : Int) (p : TPromise) : Prop := zfj a /\ a.Phase = 1 /\ b = a.Ballot /\ p.Node ∈ a.Members /\ MayS p b
theorem zfj.kept {a : TAttempt} (h : zfj a) (h0 : a.Phase ≠ 0) : Kept a := by
 unfold zfj at h
 rw [if_neg h0] at h
 exact h.2
theorem zs5 (a : TAttempt) (h1 : a.Members.length < 1000000) (h2 : a.Promises.length < 1000000) (h3 : a.Accepted.length < 1000000) : zf2 a = some a := by
 rw [zf2, zaw, zd6, zaw, if_pos (by omega), if_pos (by omega), if_pos (by omega)]
 rfl
theorem Kept.lens {a : TAttempt} (h : Kept a) : a.Members.length <= 6 /\ a.Promises.length <= 6 /\ a.Accepted.length <= 6 := by
 have h1 := zkg h.members _ h.nodes
 rw [List.length_map] at h1
 exact ⟨h.members.1, h1, zkg h.members _ h.accepted⟩
theorem ztr (a : TAttempt) (p : TPromise) (x : Nat) (hx : x < a.Promises.length) : ze1 (x : Int) a p = some (decide ((a.Promises.getD x default).Node >= p.Node)) := by
 rw [ze1, if_pos (by omega)]
 rfl
theorem zv1 (a : TAttempt) (b : Int) (p : TPromise) (hl : a.Promises.length < 1000000) : ∃ r, zdw a b p = some r /\ (r.2 = 0 ↔ CanP a b p) /\ (r.2 = 0 -> r.1 = za9 a p) := by
 rw [zdw]
 obtain ⟨e, he, hv⟩ := zt0 a hl
 rw [he]
 simp only [Option.bind_some]
 by_cases hva : zfj a
 have h0 := hv.2 hva
 subst h0
 rw [if_neg (by simp)]
 by_cases h1 : a.Phase = 1 /\ b = a.Ballot
 obtain ⟨h1, h2⟩ := h1
 rw [if_pos (by simp [h1, h2]), zwi]
 simp only [Option.bind_some]
 by_cases h3 : p.Node ∈ a.Members
 rw [if_neg (by simp [h1, h2, h3]), ya1f]
 simp only [Option.bind_some]
 by_cases h4 : MayS p b
 rw [if_neg (by simp [h4])]
 have hk := hva.kept (by omega)
 obtain ⟨l1, l2, l3⟩ := hk.lens
 rw [zs5 a (by omega) (by omega) (by omega)]
 simp only [Option.bind_some]
 have hpw : (a.Promises.map TPromise.Node).Pairwise (· < ·) := zyk _ _ hk.nodes
 rw [zyf TPromise.Node a.Promises p.Node _ (by omega) hpw (fun x hx => ztr a p x hx)]
 simp only [Option.bind_some, Int.toNat_natCast]
 have hle := ztu TPromise.Node p.Node a.Promises
 have hhas := zyy TPromise.Node p.Node a.Promises hpw
 have htake := zpn TPromise.Node p a.Promises
 have hkeys := ya0r TPromise.Node p
 have hlen := zvd TPromise.Node p a.Promises
 have hrise := zsq TPromise.Node a.Members p h3 a.Promises none trivial
 generalize plc TPromise.Node p.Node a.Promises = K at *
 rw [if_pos (by omega)]
 have hcan : CanP a b p := ⟨hva, h1, h2, h3, h4⟩
 by_cases hin : p.Node ∈ a.Promises.map TPromise.Node
 rw [if_pos (by have := hhas.2 hin; exact ⟨by omega, this.2⟩)]
 refine ⟨_, rfl, by simp [hcan], fun _ => ?_⟩
 unfold za9
 rw [if_pos hin]
 rw [if_neg (fun hh => hin (hhas.1 ⟨by omega, hh.2⟩)), if_pos (by omega), if_pos (by omega), htake, zwb _ (by omega)]
 have hr := hrise hin hk.nodes
 have hln := zkg hk.members _ hr
 simp only [Option.bind_some, zpq _ _ hk.members (Nat.le_trans hln (by omega)), zzw]
 unfold za9
 rw [if_neg hin]
 unfold zul
 cases hm : zkk a.Members ((insK TPromise.Node p a.Promises).map TPromise.Node) with
 | true => exact ⟨_, rfl, by simp [hcan], fun _ => rfl⟩
 | false => exact ⟨_, rfl, by simp [hcan], fun _ => rfl⟩
 rw [if_pos (by simp [h4])]
 exact ⟨_, rfl, by simp [CanP, h4], by simp⟩
 rw [if_pos (by simp [h3])]
 exact ⟨_, rfl, by simp [CanP, h3], by simp⟩
 have h2 : (¬ (a.Phase = 1)) \/ (¬ (b = a.Ballot)) := by
  by_cases h : a.Phase = 1
  exact .inr fun hh => h1 ⟨h, hh⟩
  exact .inl h
 rw [if_neg (fun h => h h2)]
 simp only [Option.bind_some]
 rw [if_pos (.inl h2)]
 exact ⟨_, rfl, ⟨fun h => by simp at h, fun h => absurd ⟨h.2.1, h.2.2.1⟩ h1⟩, by simp⟩
 have h0 : e ≠ 0 := fun h => hva (hv.1 h)
 rw [if_pos h0]
 exact ⟨_, rfl, ⟨fun h => absurd h h0, fun h => absurd h.1 hva⟩, fun h => absurd h h0⟩
theorem znq {a : TAttempt} {p : TPromise} (h : CanP a a.Ballot p) : zfj (za9 a p) := by
 obtain ⟨hv, h1, _, h3, h4⟩ := h
 unfold za9
 split
 exact hv
 rename_i hin
 have hk := hv.kept (by omega)
 have hacc : a.Value = [] /\ a.Accepted = [] := by
  unfold zfj at hv
  rw [if_neg (by omega)] at hv
  rcases hv.1 with h | h | h
  exact h.2
  omega
  omega
 have hr := zsq TPromise.Node a.Members p h3 a.Promises none trivial hin hk.nodes
 have hmay : ∀ q ∈ insN p a.Promises, MayS q a.Ballot := by
  intro q hq
  rcases (zsr TPromise.Node p q a.Promises).1 hq with rfl | hq
  exact h4
  exact hk.may q hq
 unfold zul
 split
 rename_i hm
 unfold zfj
 rw [if_neg (by simp)]
 exact ⟨.inr (.inl rfl), ⟨hk.ballot, hk.members, hk.wish, hr, hk.accepted, hmay, by simpa using hm, by rw [hk.chosen, h1]; rfl, .inr rfl⟩⟩
 rename_i hm
 unfold zfj
 rw [if_neg (by simp [h1])]
 exact ⟨.inl ⟨h1, hacc⟩, ⟨hk.ballot, hk.members, hk.wish, hr, hk.accepted, hmay, by simpa [h1] using hm, hk.chosen, .inl h1⟩⟩
def ze9 (a : TAttempt) (n : Int) : TAttempt :=
 let l := if n ∈ a.Accepted then a.Accepted else insI n a.Accepted
 {a with Accepted := l, Phase := if zkk a.Members l = true then 3 else a.Phase }
def CanA (a : TAttempt) (b : Int) (n : Int) : Prop := zfj a /\ 2 <= a.Phase /\ b = a.Ballot /\ n ∈ a.Members
theorem zvu (a : TAttempt) (b n : Int) (hl : a.Promises.length < 1000000) : ∃ r, zdx a b n = some r /\ (r.2 = 0 ↔ CanA a b n) /\ (r.2 = 0 -> r.1 = ze9 a n) := by
 rw [zdx]
 obtain ⟨e, he, hv⟩ := zt0 a hl
 rw [he]
 simp only [Option.bind_some]
 by_cases hva : zfj a
 have h0 := hv.2 hva
 subst h0
 rw [if_neg (by simp)]
 by_cases h1 : 2 <= a.Phase /\ b = a.Ballot
 obtain ⟨h1, h2⟩ := h1
 have h1' : ¬ a.Phase < 2 := by omega
 rw [if_pos (by simp [h1', h2]), zwi]
 simp only [Option.bind_some]
 by_cases h3 : n ∈ a.Members
 rw [if_neg (by simp [h1', h2, h3])]
 have hk := hva.kept (by omega)
 obtain ⟨l1, l2, l3⟩ := hk.lens
 rw [zs5 a (by omega) (by omega) (by omega)]
 simp only [Option.bind_some]
 have hpw : a.Accepted.Pairwise (· < ·) := zyk _ _ hk.accepted
 rw [zsa a.Accepted n (by omega) hpw]
 simp only [Option.bind_some, Int.toNat_natCast]
 have hle := ztu (fun x : Int => x) n a.Accepted
 have hhas := zyy (fun x : Int => x) n a.Accepted (by simpa using hpw)
 have htake := zpn (fun x : Int => x) n a.Accepted
 have hlen := zvd (fun x : Int => x) n a.Accepted
 have hrise := zsq (fun x : Int => x) a.Members n h3 a.Accepted none trivial
 simp only [List.map_id'] at hhas hrise
 generalize plc (fun x : Int => x) n a.Accepted = K at *
 rw [if_pos (by omega)]
 have hcan : CanA a b n := ⟨hva, h1, h2, h3⟩
 have hfin : ∀ l : List Int, l.length <= 6 -> (if n ∈ a.Accepted then a.Accepted else insI n a.Accepted) = l -> ∃ r, (Option.bind (α := Int) (Option.bind (zde a.Members l) fun v5 => if v5 = true then some 3 else some a.Phase) fun n1 => some ((⟨n1, a.Ballot, a.Members, a.Wish, a.Value, a.Promises, l⟩ : TAttempt), (0 : Int))) = some r /\ (r.2 = 0 ↔ CanA a b n) /\ (r.2 = 0 -> r.1 = ze9 a n) := by
  intro l hl hh
  rw [zpq _ _ hk.members (by omega)]
  unfold ze9
  rw [hh]
  simp only [Option.bind_some]
  cases hm : zkk a.Members l with
  | true => exact ⟨_, rfl, by simp [hcan], fun _ => rfl⟩
  | false => exact ⟨_, rfl, by simp [hcan], fun _ => rfl⟩
 by_cases hin : n ∈ a.Accepted
 have := hhas.2 hin
 rw [if_neg (by
  rintro (hh | hh)
  omega
  exact hh this.2)]
 simp only [Option.bind_some]
 exact hfin _ l3 (if_pos hin)
 rw [if_pos (by
  by_cases hK : K = a.Accepted.length
  exact .inl (by omega)
  exact .inr fun hh => hin (hhas.1 ⟨by omega, hh⟩)), if_pos (by omega), if_pos (by omega), htake]
 simp only [Option.bind_some]
 have hr := hrise hin hk.accepted
 exact hfin _ (zkg hk.members _ hr) (if_neg hin)
 rw [if_pos (by simp [h3])]
 exact ⟨_, rfl, by simp [CanA, h3], by simp⟩
 have h2 : (a.Phase < 2) \/ (¬ (b = a.Ballot)) := by
  by_cases h : a.Phase < 2
  exact .inl h
  exact .inr fun hh => h1 ⟨by omega, hh⟩
 rw [if_neg (fun h => h h2)]
 simp only [Option.bind_some]
 rw [if_pos (.inl h2)]
 exact ⟨_, rfl, ⟨fun h => by simp at h, fun h => absurd ⟨h.2.1, h.2.2.1⟩ h1⟩, by simp⟩
 have h0 : e ≠ 0 := fun h => hva (hv.1 h)
 rw [if_pos h0]
 exact ⟨_, rfl, ⟨fun h => absurd h h0, fun h => absurd h.1 hva⟩, fun h => absurd h h0⟩
def ownB (b : Int) : Nat := (b.tmod 8).toNat
theorem zzu (l : List TPromise) : ∀ (s : List UInt8) (n : Int), ∃ p, n <= p /\ (∀ q ∈ l, q.Ballot <= p) /\ ((p = n /\ zmp l s n = s) \/ (n < p /\ ∃ q ∈ l, q.Ballot = p /\ zmp l s n = q.Value)) := by
 induction l with
 | nil => exact fun s n => ⟨n, Int.le_refl _, by simp, .inl ⟨rfl, rfl⟩⟩
 | cons y l ih =>
  intro s n
  by_cases e : y.Ballot > n
  obtain ⟨p, h1, h2, h3⟩ := ih y.Value y.Ballot
  refine ⟨p, by omega, fun q hq => ?_, .inr ⟨by omega, ?_⟩⟩
  rcases List.mem_cons.1 hq with rfl | hq
  exact h1
  exact h2 q hq
  rw [zmp, if_pos e]
  rcases h3 with ⟨rfl, h3⟩ | ⟨_, q, hq, h4, h5⟩
  exact ⟨y, List.mem_cons_self .., rfl, h3⟩
  exact ⟨q, List.mem_cons_of_mem _ hq, h4, h5⟩
  obtain ⟨p, h1, h2, h3⟩ := ih s n
  refine ⟨p, h1, fun q hq => ?_, ?_⟩
  rcases List.mem_cons.1 hq with rfl | hq
  omega
  exact h2 q hq
  rw [zmp, if_neg e]
  rcases h3 with h3 | ⟨h0, q, hq, h4⟩
  exact .inl h3
  exact .inr ⟨h0, q, List.mem_cons_of_mem _ hq, h4⟩
def VOk (v : TVote) : Prop := (v.Promised = 0 \/ BOk v.Promised) /\ (if v.Ballot = 0 then v.Value = [] else BOk v.Ballot /\ v.Ballot <= v.Promised /\ v.Value.length <= 1024)
instance (v : TVote) : Decidable (VOk v) := by unfold VOk; infer_instance
def zkv (v : TVote) (b : Int) (t : List UInt8) : Prop := VOk v /\ BOk b /\ t.length <= 1024 /\ v.Promised <= b
instance (v : TVote) (b : Int) (t : List UInt8) : Decidable (zkv v b t) := by unfold zkv; infer_instance
noncomputable instance (a : TAttempt) : Decidable (zfj a) := Classical.propDecidable _
noncomputable instance (a : TAttempt) (b : Int) (p : TPromise) : Decidable (CanP a b p) := Classical.propDecidable _
noncomputable instance (a : TAttempt) (b n : Int) : Decidable (CanA a b n) := Classical.propDecidable _
def zlu (w : TWorld) (m : TMail) : TWorld := { w with Mail := w.Mail ++ (w.Members.filter fun to => decide (to ≠ m.From)).map fun to => { m with To := to } }
abbrev vtW (w : TWorld) (n : Int) : TVote := w.Votes.getD n.toNat default
abbrev trW (w : TWorld) (n : Int) : TAttempt := w.Tries.getD n.toNat default
noncomputable def zp2 (w : TWorld) (n b q : Int) : TWorld :=
 if CanA (trW w n) b q then { w with Chosen := if (ze9 (trW w n) q).Phase = 3 /\ (trW w n).Phase ≠ 3 then w.Chosen ++ [⟨n, (ze9 (trW w n) q).Value⟩] else w.Chosen, Tries := w.Tries.set n.toNat (ze9 (trW w n) q) } else w
noncomputable def ownVote (w : TWorld) (n b : Int) (v : List UInt8) : TWorld :=
 if n ∈ w.Members /\ zkv (vtW w n) b v then zp2 { w with Votes := w.Votes.set n.toNat ⟨b, b, v⟩ } n b n else w
noncomputable def zhn (w : TWorld) (n b : Int) (p : TPromise) : TWorld :=
 if CanP (trW w n) b p then
  if (za9 (trW w n) p).Phase = 1 then { w with Tries := w.Tries.set n.toNat (za9 (trW w n) p) }
  else ownVote (zlu { w with Tries := w.Tries.set n.toNat (za9 (trW w n) p) } ⟨n, 0, 3, 0, 0, b, 0, (za9 (trW w n) p).Value, 0, 0⟩) n b (za9 (trW w n) p).Value
 else w
noncomputable def zui (w : TWorld) (n b : Int) (t : List UInt8) : TWorld :=
 zhn (zlu { w with Votes := w.Votes.set n.toNat { vtW w n with Promised := b }, Tries := w.Tries.set n.toNat ⟨1, b, w.Members, t, [], [], []⟩ } ⟨n, 0, 1, 0, 0, b, 0, [], 0, 0⟩) n b ⟨n, (vtW w n).Ballot, (vtW w n).Value⟩
def zt9 (w : TWorld) (m : TMail) : TWorld := { w with Mail := w.Mail ++ [m] }
noncomputable def zvq (w : TWorld) (m : TMail) : TWorld :=
 if m.Kind = 2 then zhn w m.To m.Ballot ⟨m.From, m.Prior, m.Value⟩
 else if m.Kind = 4 then zp2 w m.To m.Ballot m.From
 else if m.Kind = 5 then w
 else if m.Kind = 1 then
  if zkv (vtW w m.To) m.Ballot [] then zt9 { w with Votes := w.Votes.set m.To.toNat { vtW w m.To with Promised := m.Ballot } } ⟨m.To, m.From, 2, 0, 0, m.Ballot, (vtW w m.To).Ballot, (vtW w m.To).Value, 0, 0⟩
  else zt9 w ⟨m.To, m.From, 5, 0, 0, m.Ballot, (vtW w m.To).Promised, [], 0, 0⟩
 else if zkv (vtW w m.To) m.Ballot m.Value then zt9 { w with Votes := w.Votes.set m.To.toNat ⟨m.Ballot, m.Ballot, m.Value⟩ } ⟨m.To, m.From, 4, 0, 0, m.Ballot, 0, [], 0, 0⟩
 else zt9 w ⟨m.To, m.From, 5, 0, 0, m.Ballot, (vtW w m.To).Promised, [], 0, 0⟩
theorem zp7 {a : TAttempt} {p : TPromise} (x : TPromise) (hx : x ∈ (za9 a p).Promises) : x = p \/ x ∈ a.Promises := by
 unfold za9 zul at hx
 split at hx
 exact .inr hx
 split at hx
 exact (zsr _ p x _).1 hx
 exact (zsr _ p x _).1 hx
theorem zmu (a : TAttempt) (p : TPromise) : (za9 a p).Ballot = a.Ballot /\ (za9 a p).Members = a.Members /\ (za9 a p).Wish = a.Wish /\ (za9 a p).Accepted = a.Accepted := by
 unfold za9 zul
 split
 exact ⟨rfl, rfl, rfl, rfl⟩
 split <;> exact ⟨rfl, rfl, rfl, rfl⟩
theorem zta (v : TVote) : zhc v = some (if VOk v then 0 else 8) := by
 unfold VOk
 simp only [zhc, zku]
 by_cases h1 : v.Promised = 0 <;> by_cases h2 : v.Ballot = 0 <;> by_cases h3 : BOk v.Promised <;> by_cases h4 : BOk v.Ballot <;> by_cases h5 : v.Value = [] <;> by_cases h6 : v.Ballot <= v.Promised <;> by_cases h7 : v.Value.length <= 1024 <;> have h8 : ((v.Value.length : Int) <= 1024) = (v.Value.length <= 1024) := propext (by omega) <;> simp_all
theorem zwx (v : TVote) (b : Int) (t : List UInt8) : ∃ e, zhb v b t = some e /\ (e = 0 ↔ zkv v b t) := by
 simp only [zhb, zku, zta, Option.bind_some]
 unfold zkv
 by_cases h1 : VOk v
 by_cases h2 : BOk b
 by_cases h3 : t.length <= 1024
 by_cases h4 : v.Promised <= b
 exact ⟨0, by simp [h1, h2]; rw [if_neg (by omega), if_neg (by omega)], by simp [h1, h2, h3, h4]⟩
 exact ⟨70, by simp [h1, h2]; rw [if_neg (by omega), if_pos (by omega)], by simp [h4]⟩
 exact ⟨3, by simp [h1, h2]; omega, by simp [h3]⟩
 exact ⟨50, by simp [h1, h2], by simp [h2]⟩
 exact ⟨8, by simp [h1], by simp [h1]⟩
theorem zrq (v : TVote) (b : Int) : ∃ r, zf0 v b = some r /\ (r.2 = 0 ↔ zkv v b []) /\ (r.2 = 0 -> r.1 = { v with Promised := b }) := by
 obtain ⟨e, h1, h2⟩ := zwx v b []
 rw [zf0, h1]
 by_cases h0 : e = 0
 exact ⟨({ v with Promised := b }, 0), by simp [h0], ⟨fun _ => h2.1 h0, fun _ => rfl⟩, fun _ => rfl⟩
 exact ⟨(⟨0, 0, []⟩, e), by simp [h0], h2, fun h => absurd h h0⟩
theorem zuj (v : TVote) (b : Int) (t : List UInt8) : ∃ r, zff v b t = some r /\ (r.2 = 0 ↔ zkv v b t) /\ (r.2 = 0 -> r.1 = ⟨b, b, t⟩) := by
 obtain ⟨e, h1, h2⟩ := zwx v b t
 rw [zff, h1]
 by_cases h0 : e = 0
 exact ⟨(⟨b, b, t⟩, 0), by simp [h0], ⟨fun _ => h2.1 h0, fun _ => rfl⟩, fun _ => rfl⟩
 exact ⟨(⟨0, 0, []⟩, e), by simp [h0], h2, fun h => absurd h h0⟩
theorem zv7 (n : Int) : zev n = some (decide (0 <= n /\ n < 6)) := by
 rw [zev]
 congr 1
 rw [Bool.eq_iff_iff]
 simp
theorem zt2 (n : Int) : zg5 n = some (decide (0 <= n /\ n < 6)) := by
 rw [zg5]
 congr 1
 rw [Bool.eq_iff_iff]
 simp
theorem wr64 (n : Int) (h : -9223372036854775808 <= n /\ n <= 9223372036854775807) : wr .i64 n = n := zis .i64 n (by simpa [IntKind.min, IntKind.max, IntKind.signed, IntKind.bits] using h.1) (by simpa [IntKind.min, IntKind.max, IntKind.signed, IntKind.bits] using h.2)
theorem ya2d (a n : Int) : ∃ r, zex a n = some r /\ (r.2 = 0 -> 0 <= n /\ n < 6 /\ 0 <= a /\ a < r.1 /\ 8 <= r.1 /\ BOk r.1 /\ ownB r.1 = n.toNat) := by
 rw [zex, zt2]
 simp only [Option.bind_some]
 by_cases h : 0 <= n /\ n < 6 /\ 0 <= a /\ a <= 8388613
 obtain ⟨h1, h2, h3, h4⟩ := h
 rw [if_neg (by simp; omega)]
 have e1 : a.tdiv 8 = a / 8 := Int.tdiv_eq_ediv_of_nonneg h3
 have e2 : wr .i64 (a / 8) = a / 8 := wr64 _ (by omega)
 have e3 : wr .i64 (a / 8 * 8) = a / 8 * 8 := wr64 _ (by omega)
 have e4 : wr .i64 (a / 8 * 8 + n) = a / 8 * 8 + n := wr64 _ (by omega)
 have e5 : wr .i64 (a / 8 * 8 + n + 8) = a / 8 * 8 + n + 8 := wr64 _ (by omega)
 simp only [e1, e2, e3, e4, e5]
 have key : ∀ b : Int, a < b -> 8 <= b -> b <= 8388613 -> b % 8 = n -> 0 <= n /\ n < 6 /\ 0 <= a /\ a < b /\ 8 <= b /\ BOk b /\ ownB b = n.toNat := by
  intro b k1 k2 k3 k4
  refine ⟨h1, h2, h3, k1, k2, ?_, ?_⟩
  unfold BOk
  rw [Int.tdiv_eq_ediv_of_nonneg (by omega), Int.tmod_eq_emod_of_nonneg (by omega), wr64 _ (by omega)]
  omega
  unfold ownB
  rw [Int.tmod_eq_emod_of_nonneg (by omega), k4]
 split
 simp only [Option.bind_some]
 split
 exact ⟨_, rfl, fun h => by simp at h⟩
 exact ⟨_, rfl, fun _ => key _ (by omega) (by omega) (by dsimp only; omega) (by dsimp only; omega)⟩
 simp only [Option.bind_some]
 split
 exact ⟨_, rfl, fun h => by simp at h⟩
 exact ⟨_, rfl, fun _ => key _ (by dsimp only; omega) (by dsimp only; omega) (by dsimp only; omega) (by dsimp only; omega)⟩
 rw [if_pos (by simp; omega)]
 exact ⟨_, rfl, fun h => by simp at h⟩
def MOk (m : TMail) : Prop := (0 <= m.From /\ m.From < 6) /\ (0 <= m.To /\ m.To < 6) /\ 1 <= m.Kind /\ m.Kind <= 5 /\ BOk m.Ballot /\ 0 <= m.Prior /\ m.Value.length <= 1024 /\ m.Group = 0 /\ m.Slot = 0 /\ m.Id = 0 /\ m.Time = 0
instance (m : TMail) : Decidable (MOk m) := by unfold MOk; infer_instance
theorem ya2j (m : TMail) : zhp m = some (decide (MOk m)) := by
 unfold MOk
 simp only [zhp, zv7, zku, Option.bind_some]
 by_cases h1 : 0 <= m.From /\ m.From < 6
 by_cases h2 : 0 <= m.To /\ m.To < 6
 by_cases h3 : m.Kind >= 1
 by_cases h4 : m.Kind <= 5
 by_cases h5 : BOk m.Ballot
 simp only [h1, h2, h3, h4, h5, decide_true, Bool.true_and, true_and, and_true, if_true, and_self, Option.bind_some]
 congr 1
 rw [Bool.eq_iff_iff]
 simp
 omega
 simp [h1, h2, h3, h4, h5]
 simp [h1, h2, h4]
 simp [h1, h2, show ¬ 1 <= m.Kind from h3]
 simp [h1, h2]
 simp [h1]
structure WOk (w : TWorld) : Prop where
 mem : QOk w.Members
 vts : w.Votes.length = 6
 trs : w.Tries.length = 6
 mail : w.Mail.length <= 1000
 ch : w.Chosen.length <= 1000
 vote : ∀ i : Nat, i < 6 -> VOk (w.Votes.getD i default)
 try_ : ∀ i : Nat, i < 6 -> zfj (w.Tries.getD i default) /\ ((w.Tries.getD i default).Phase ≠ 0 -> ownB (w.Tries.getD i default).Ballot = i /\ (w.Tries.getD i default).Members = w.Members)
 mails : ∀ m ∈ w.Mail, MOk m
 chs : ∀ c ∈ w.Chosen, (0 <= c.Node /\ c.Node < 6) /\ c.Value.length <= 1024
theorem ya56 (l : List TChoice) : ∀ b, zd4 l b = some (b && decide (∀ c ∈ l, (0 <= c.Node /\ c.Node < 6) /\ c.Value.length <= 1024)) := by
 induction l with
 | nil => intro b; rw [zi0]; simp
 | cons y l ih =>
  intro b
  rw [zi1]
  simp only [zv7]
  cases b
  simp [ih]
  simp only [if_true, Option.bind_some, ih]
  congr 1
  rw [Bool.eq_iff_iff]
  simp
  have : ((y.Value.length : Int) <= 1024) ↔ y.Value.length <= 1024 := by omega
  simp [this]
theorem ya57 (l : List TMail) : ∀ b, zck l b = some (b && decide (∀ m ∈ l, MOk m)) := by
 induction l with
 | nil => intro b; rw [zck]; simp
 | cons y l ih =>
  intro b
  rw [zck]
  simp only [ya2j]
  cases b
  simp [ih]
  simp only [if_true, Option.bind_some, ih]
  congr 1
  rw [Bool.eq_iff_iff]
  simp
theorem of_eq (b : Int) : ∃ r, zh8 b = some r /\ (BOk b -> r.2.1 = b.tmod 8) := by
 rw [zh8]
 simp only [zt2]
 unfold BOk
 by_cases h : wr .i64 (b.tdiv 8) < 1 \/ wr .i64 (b.tdiv 8) > 1048576
 exact ⟨(0, 0, 50), by simp [h], fun k => absurd h k.1⟩
 by_cases h1 : b.tmod 8 >= 0 <;> by_cases h2 : b.tmod 8 < 6 <;> simp [h, h1, h2]
def TOk (w : TWorld) (i : Nat) : Prop := VOk (w.Votes.getD i default) /\ zfj (w.Tries.getD i default) /\ ((w.Tries.getD i default).Phase ≠ 0 -> ownB (w.Tries.getD i default).Ballot = i /\ (w.Tries.getD i default).Members = w.Members)
theorem ya58 (w : TWorld) (hv : w.Votes.length = 6) (ht : w.Tries.length = 6) (hl : ∀ t ∈ w.Tries, t.Promises.length < 1000000) : ∀ (l : List TAttempt) (n : Nat) (b : Bool), w.Tries.drop n = l -> ∃ r, zcl w l n b = some r /\ (r = true ↔ b = true /\ ∀ i, n <= i -> i < 6 -> TOk w i) := by
 intro l
 induction l with
 | nil =>
  intro n b hd
  have hn : 6 <= n := by rw [<- ht]; exact List.drop_eq_nil_iff.1 hd
  exact ⟨b, by rw [zcl], by constructor; exact fun h => ⟨h, fun i h1 h2 => by omega⟩; exact fun h => h.1⟩
 | cons y l ih =>
  intro n b hd
  have hn : n < w.Tries.length := by
   apply Nat.lt_of_not_le
   intro h
   rw [List.drop_eq_nil_iff.2 h] at hd
   cases hd
  have hy : w.Tries.getD n default = y := by
   have h1 := List.drop_eq_getElem_cons hn
   rw [hd] at h1
   rw [List.getD_eq_getElem?_getD, List.getElem?_eq_getElem hn]
   exact (List.cons.inj h1).1.symm
  have hd2 : w.Tries.drop (n + 1) = l := by
   rw [<- List.drop_drop, hd]
   rfl
  have hym : y ∈ w.Tries := by
   have h1 : y ∈ w.Tries.drop n := by rw [hd]; exact List.mem_cons_self ..
   exact List.mem_of_mem_drop h1
  obtain ⟨e, he, hva⟩ := zt0 y (hl y hym)
  obtain ⟨r, hr, hrb⟩ := of_eq y.Ballot
  rw [zcl, if_pos (by omega)]
  simp only [zta, he, hr, Option.bind_some]
  suffices hs : ∃ b3 : Bool, (Option.bind (if b = true then some (if VOk (w.Votes.getD n default) then (0 : Int) else 8) else some default) fun v2 =>
  Option.bind (if (b = true) /\ (v2 = 0) then some e else some default) fun v3 =>
  if ¬ (y.Phase = 0) then
  Option.bind (if (((b = true) /\ (v2 = 0)) /\ (v3 = 0)) /\ (r.2.1 = (n : Int)) then zbr (y.Members) w.Members else some default) fun v5 =>
  some ((((b && (v2 == 0)) && (v3 == 0)) && (r.2.1 == (n : Int))) && v5)
  else
  some ((b && (v2 == 0)) && (v3 == 0))) = some b3 /\ (b3 = true ↔ b = true /\ TOk w n) by
   obtain ⟨b3, h1, h2⟩ := hs
   rw [h1]
   obtain ⟨q, h3, h4⟩ := ih (n + 1) b3 hd2
   refine ⟨q, h3, h4.trans ?_⟩
   rw [h2]
   constructor
   rintro ⟨⟨h5, h6⟩, h7⟩
   refine ⟨h5, fun i hi h6i => ?_⟩
   by_cases hin : i = n
   rw [hin]; exact h6
   exact h7 i (by omega) h6i
   rintro ⟨h5, h6⟩
   exact ⟨⟨h5, h6 n (Nat.le_refl _) (by omega)⟩, fun i hi h6i => h6 i (by omega) h6i⟩
  unfold TOk
  rw [hy]
  generalize w.Votes.getD n default = vt
  cases b with
  | false =>
   simp only [Bool.false_eq_true, if_false, false_and, Option.bind_some, Bool.false_and]
   by_cases hp : y.Phase = 0
   exact ⟨false, by simp [hp], by simp⟩
   exact ⟨false, by simp [hp], by simp⟩
  | true =>
   by_cases hV : VOk vt
   by_cases h0 : e = 0
   have hvy := hva.1 h0
   by_cases hp : y.Phase = 0
   exact ⟨true, by simp [hV, h0, hp], by simp [hV, hvy, hp]⟩
   have hk := hvy.kept hp
   have hrt := hrb hk.ballot
   have ho : r.2.1 = (n : Int) ↔ ownB y.Ballot = n := by
    rw [hrt]
    unfold ownB
    have := hk.ballot.2.1
    omega
   by_cases hb : r.2.1 = (n : Int)
   rw [zsx]
   refine ⟨decide (y.Members = w.Members), by simp [hV, h0, hp, hb], ?_⟩
   simp [hV, hvy, hp, ho.1 hb]
   have hb2 : ¬ ownB y.Ballot = n := fun h => hb (ho.2 h)
   exact ⟨false, by simp [hV, h0, hp, hb], by simp [hp, hb2]⟩
   have hvy : ¬ zfj y := fun h => h0 (hva.2 h)
   by_cases hp : y.Phase = 0
   exact ⟨false, by simp [hV, h0, hp], by simp [hvy]⟩
   exact ⟨false, by simp [hV, h0, hp], by simp [hvy]⟩
   by_cases hp : y.Phase = 0
   exact ⟨false, by simp [hV, hp], by simp [hV]⟩
   exact ⟨false, by simp [hV, hp], by simp [hV]⟩
theorem zue (w : TWorld) (hl : ∀ t ∈ w.Tries, t.Promises.length < 1000000) : ∃ e, zf1 w = some e /\ (e = 0 ↔ WOk w) := by
 rw [zf1, znp]
 simp only [Option.bind_some]
 by_cases hq : QOk w.Members
 have h1 : (if w.Members.length > 6 then (4 : Int) else if zdr (-1) w.Members = true /\ w.Members ≠ [] then 0 else 60) = 0 := by
  rw [if_neg (by have := hq.1; omega), if_pos hq.2]
 rw [h1]
 by_cases h : w.Votes.length = 6 /\ w.Tries.length = 6 /\ w.Mail.length <= 1000 /\ w.Chosen.length <= 1000
 obtain ⟨h2, h3, h4, h5⟩ := h
 rw [if_neg (by omega)]
 obtain ⟨r, hr, hr2⟩ := ya58 w h2 h3 hl w.Tries 0 (((((0 == (0:Int)) && ((w.Votes.length : Int) == 6)) && ((w.Tries.length : Int) == 6)) && (decide ((w.Mail.length : Int) <= 1000))) && (decide ((w.Chosen.length : Int) <= 1000))) rfl
 rw [hr]
 simp only [Option.bind_some, ya57, ya56]
 have hb : (((((0 == (0:Int)) && ((w.Votes.length : Int) == 6)) && ((w.Tries.length : Int) == 6)) && (decide ((w.Mail.length : Int) <= 1000))) && (decide ((w.Chosen.length : Int) <= 1000))) = true := by
  simp; omega
 rw [hb] at hr2
 have hw : WOk w ↔ (r && decide (∀ m ∈ w.Mail, MOk m) && decide (∀ c ∈ w.Chosen, (0 <= c.Node /\ c.Node < 6) /\ c.Value.length <= 1024)) = true := by
  rw [Bool.and_eq_true, Bool.and_eq_true, hr2, decide_eq_true_iff, decide_eq_true_iff]
  constructor
  exact fun k => ⟨⟨⟨rfl, fun i _ hi => ⟨k.vote i hi, k.try_ i hi⟩⟩, k.mails⟩, k.chs⟩
  exact fun k => ⟨hq, h2, h3, h4, h5, fun i hi => (k.1.1.2 i (Nat.zero_le _) hi).1, fun i hi => (k.1.1.2 i (Nat.zero_le _) hi).2, k.1.2, k.2⟩
 by_cases hb3 : (r && decide (∀ m ∈ w.Mail, MOk m) && decide (∀ c ∈ w.Chosen, (0 <= c.Node /\ c.Node < 6) /\ c.Value.length <= 1024)) = true
 exact ⟨0, by rw [if_neg (by rw [hb3]; simp)], ⟨fun _ => hw.2 hb3, fun _ => rfl⟩⟩
 exact ⟨8, by rw [if_pos hb3], ⟨fun h => by simp at h, fun h => absurd (hw.1 h) hb3⟩⟩
 rw [if_pos (by omega)]
 exact ⟨8, rfl, fun h => by simp at h, fun k => absurd ⟨k.vts, k.trs, k.mail, k.ch⟩ h⟩
 rw [if_pos]
 exact ⟨8, rfl, fun h => by simp at h, fun k => absurd k.mem hq⟩
 intro h
 have h1 := h.1.1.1.1
 split at h1
 simp at h1
 rename_i h2
 split at h1
 rename_i h3
 exact hq ⟨by omega, h3⟩
 simp at h1
theorem zfj.len {a : TAttempt} (h : zfj a) : a.Members.length <= 6 /\ a.Promises.length <= 6 /\ a.Accepted.length <= 6 := by
 by_cases h0 : a.Phase = 0
 unfold zfj at h
 rw [if_pos h0] at h
 subst h
 simp
 exact (h.kept h0).lens
theorem WOk.proms {w : TWorld} (h : WOk w) : ∀ t ∈ w.Tries, t.Promises.length < 1000000 := by
 intro t ht
 obtain ⟨i, hi, rfl⟩ := List.getElem_of_mem ht
 have h6 : i < 6 := by rw [<- h.trs]; exact hi
 have hv := (h.try_ i h6).1.len.2.1
 rw [List.getD_eq_getElem?_getD, List.getElem?_eq_getElem hi] at hv
 simp only [Option.getD_some] at hv
 omega
theorem zs8 {α : Type} (l : List α) (n : Nat) (d : α) : l.set n (l.getD n d) = l := by
 apply List.ext_getElem
 simp
 intro i h1 h2
 by_cases e : n = i
 subst e
 simp [List.getD, h2]
 simp [List.getElem_set_ne e]
theorem zy1 (l : List TAttempt) (hl : l.length = 6) (hv : ∀ i, i < 6 -> zfj (l.getD i default)) : ∀ (k n fu : Nat), n + k = 6 -> k < fu -> zbp l fu l (n : Int) = some l := by
 intro k
 induction k with
 | zero =>
  intro n fu hn hf
  obtain ⟨f, rfl⟩ : ∃ f, fu = f + 1 := ⟨fu - 1, by omega⟩
  rw [zbp, if_neg (by omega), if_pos (by omega)]
 | succ k ih =>
  intro n fu hn hf
  obtain ⟨f, rfl⟩ : ∃ f, fu = f + 1 := ⟨fu - 1, by omega⟩
  have h1 := (hv n (by omega)).len
  rw [zbp, if_pos (by omega), if_pos (by omega), Int.toNat_natCast, zs5 _ (by omega) (by omega) (by omega)]
  simp only [Option.bind_some]
  rw [if_pos (by omega), if_pos (by omega), zs8, wr64 _ (by omega), show (n : Int) + 1 = ((n + 1 : Nat) : Int) from rfl]
  exact ih (n + 1) f (by omega) (by omega)
theorem ya10 {w : TWorld} (h : WOk w) : zew w = some w := by
 have h6 := h.mem.1
 have h1 := h.vts
 have h2 := h.trs
 have h3 := h.mail
 have h4 := h.ch
 rw [zew, zaw, zdp, zdq, zcq, zca]
 rw [if_pos (by omega), if_pos (by omega), if_pos (by omega), if_pos (by omega), if_pos (by omega)]
 simp only [Option.bind_some]
 have := zy1 w.Tries h2 (fun i hi => (h.try_ i hi).1) 6 0 (w.Tries.length + 1) rfl (by omega)
 rw [show ((0 : Nat) : Int) = 0 from rfl] at this
 rw [this]
 rfl
theorem zy6 (w : TWorld) (m : TMail) (h6 : w.Members.length <= 6) : ∀ (k n fu : Nat) (l : List TMail) (j : Int), n + k = w.Members.length -> k < fu -> l.length + k < 1000000 -> zbi ⟨w⟩ m fu l j (n : Int) = some ⟨{ w with Mail := l ++ ((w.Members.drop n).filter fun to => decide (to ≠ m.From)).map fun to => { m with To := to } }⟩ := by
 intro k
 induction k with
 | zero =>
  intro n fu l j hn hf _
  obtain ⟨f, rfl⟩ : ∃ f, fu = f + 1 := ⟨fu - 1, by omega⟩
  rw [zbi, if_neg (by dsimp only; omega), List.drop_eq_nil_of_le (by omega)]
  simp
 | succ k ih =>
  intro n fu l j hn hf hl
  obtain ⟨f, rfl⟩ : ∃ f, fu = f + 1 := ⟨fu - 1, by omega⟩
  have hlt : n < w.Members.length := by omega
  have hd := List.drop_eq_getElem_cons hlt
  have hg : w.Members.getD n default = w.Members[n] := by
   rw [List.getD_eq_getElem?_getD, List.getElem?_eq_getElem hlt]
   rfl
  rw [zbi, if_pos (by dsimp only; omega), if_pos (by dsimp only; omega)]
  simp only [Int.toNat_natCast]
  rw [hg, hd, wr64 _ (by omega), show (n : Int) + 1 = ((n + 1 : Nat) : Int) from rfl]
  by_cases he : w.Members[n] = m.From
  rw [if_neg (by simpa using he)]
  simp only [Option.bind_some]
  rw [ih (n + 1) f l _ (by omega) (by omega) (by omega)]
  simp [he]
  rw [if_pos he, if_pos (by simp; omega)]
  simp only [Option.bind_some]
  rw [ih (n + 1) f _ _ (by omega) (by omega) (by simp; omega), List.filter_cons, if_pos (by simpa using he), List.map_cons, List.append_assoc]
  rfl
theorem zy7 (w : TWorld) (m : TMail) (h6 : w.Members.length <= 6) (hl : w.Mail.length <= 2000) : zea ⟨w⟩ m = some ⟨zlu w m⟩ := by
 rw [zea]
 have := zy6 w m h6 w.Members.length 0 (w.Members.length + 1) w.Mail m.To (by omega) (by omega) (by omega)
 rw [show ((0 : Nat) : Int) = 0 from rfl] at this
 exact this
theorem zw2 (w : TWorld) (n b q : Int) (hn : 0 <= n /\ n < 6) (ht : w.Tries.length = 6) (hc : w.Chosen.length <= 2000) (hl : (trW w n).Promises.length < 1000000) : zd3 ⟨w⟩ n b q = some ⟨zp2 w n b q⟩ := by
 rw [zd3, if_pos (by dsimp only; omega)]
 obtain ⟨r, hr, h1, h2⟩ := zvu (trW w n) b q hl
 show Option.bind (zdx (trW w n) b q) _ = _
 rw [hr]
 simp only [Option.bind_some]
 unfold zp2
 by_cases h0 : r.2 = 0
 rw [if_neg (by simpa using h0), if_pos (h1.1 h0), h2 h0, if_pos (by intro _; omega)]
 by_cases h3 : (ze9 (trW w n) q).Phase = 3 /\ ¬ (trW w n).Phase = 3
 rw [if_pos h3, if_pos (by simp; omega), if_pos (show _ /\ _ ≠ _ from h3)]
 simp only [Option.bind_some]
 rw [if_pos (by omega)]
 rw [if_neg h3, if_neg (show ¬ (_ /\ _ ≠ _) from h3)]
 simp only [Option.bind_some]
 rw [if_pos (by omega)]
 rw [if_pos h0, if_neg (fun h => h0 (h1.2 h))]
theorem zxh (w : TWorld) (n b : Int) (v : List UInt8) (hn : 0 <= n /\ n < 6) (hvt : w.Votes.length = 6) (ht : w.Tries.length = 6) (hc : w.Chosen.length <= 2000) (hl : (trW w n).Promises.length < 1000000) :
  (Option.bind (zfg w.Members n) fun v3 =>
 if ¬ (v3 = true) then
 some (⟨w⟩ : Tdecree_world)
 else
 if (0 <= n /\ n < (w.Votes.length : Int)) then
 Option.bind (zff (w.Votes.getD n.toNat default) b v) fun v4 =>
 if v4.2 = 0 then
 if (0 <= n /\ n < (w.Votes.length : Int)) then
 Option.bind (zd3 (⟨(⟨w.Members, (w.Votes.set n.toNat v4.1), w.Tries, w.Mail, w.Chosen⟩ : TWorld)⟩ : Tdecree_world) n b n) fun v5 =>
 some v5
 else none
 else
 some (⟨w⟩ : Tdecree_world)
 else none) = some ⟨ownVote w n b v⟩ := by
 rw [zwi]
 simp only [Option.bind_some]
 unfold ownVote
 by_cases hm : n ∈ w.Members
 rw [if_neg (by simpa using hm), if_pos (by omega)]
 obtain ⟨r, hr, h1, h2⟩ := zuj (vtW w n) b v
 rw [hr]
 simp only [Option.bind_some]
 by_cases h0 : r.2 = 0
 rw [if_pos h0, if_pos (by omega), if_pos ⟨hm, h1.1 h0⟩, h2 h0, zw2 { w with Votes := w.Votes.set n.toNat ⟨b, b, v⟩ } n b n hn ht hc hl]
 rfl
 rw [if_neg h0, if_neg (fun h => h0 (h1.2 h.2))]
 rw [if_pos (by simpa using hm), if_neg (fun h => hm h.1)]
structure Shape (w : TWorld) (k : Nat) : Prop where
 mem : w.Members.length <= 6
 vts : w.Votes.length = 6
 trs : w.Tries.length = 6
 mail : w.Mail.length <= k
 ch : w.Chosen.length <= 1000
theorem zey {α : Type} (l : List α) (n : Nat) (a d : α) (h : n < l.length) : (l.set n a).getD n d = a := by
 simp [List.getD, h]
theorem zy8 (w : TWorld) (m : TMail) : (zlu w m).Mail.length <= w.Mail.length + w.Members.length := by
 unfold zlu
 simp only [List.length_append, List.length_map]
 have := List.length_filter_le (fun to => decide (to ≠ m.From)) w.Members
 omega
theorem zw7 (w : TWorld) (n b : Int) (p : TPromise) (hn : 0 <= n /\ n < 6) (h : Shape w 1500) (hl : (trW w n).Promises.length < 1000000) : zd0 ⟨w⟩ n b p = some ⟨zhn w n b p⟩ := by
 have ht := h.trs
 rw [zd0, if_pos (by dsimp only; omega)]
 obtain ⟨r, hr, h1, h2⟩ := zv1 (trW w n) b p hl
 show Option.bind (zdw (trW w n) b p) _ = _
 rw [hr]
 simp only [Option.bind_some]
 unfold zhn
 by_cases h0 : r.2 = 0
 have hc := h1.1 h0
 rw [if_neg (by simpa using h0), if_pos (by omega), if_pos hc, h2 h0]
 by_cases h3 : (za9 (trW w n) p).Phase = 1
 rw [if_pos h3, if_pos h3]
 rw [if_neg h3, if_neg h3]
 have e := zy7 { w with Tries := w.Tries.set n.toNat (za9 (trW w n) p) } ⟨n, 0, 3, 0, 0, b, 0, (za9 (trW w n) p).Value, 0, 0⟩ h.mem (by have := h.mail; show w.Mail.length <= 2000; omega)
 rw [e]
 simp only [Option.bind_some]
 have hv := znq (a := trW w n) (p := p) ⟨hc.1, hc.2.1, rfl, hc.2.2.2.1, hc.2.2.1 ▸ hc.2.2.2.2⟩
 have e2 := zxh (zlu { w with Tries := w.Tries.set n.toNat (za9 (trW w n) p) } ⟨n, 0, 3, 0, 0, b, 0, (za9 (trW w n) p).Value, 0, 0⟩) n b (za9 (trW w n) p).Value hn h.vts (by show (w.Tries.set n.toNat _).length = 6; simpa using h.trs) (by have := h.ch; show w.Chosen.length <= 2000; omega) (by
  show ((w.Tries.set n.toNat (za9 (trW w n) p)).getD n.toNat default).Promises.length < 1000000
  rw [zey _ _ _ _ (by omega)]
  have := hv.len.2.1
  omega)
 exact e2
 rw [if_pos h0, if_neg (fun k => h0 (h1.2 k))]
theorem ya13 (w : TWorld) (m : TMail) (hm : MOk m) (h : Shape w 1000) (hl : ∀ t ∈ w.Tries, t.Promises.length < 1000000) : zf5 ⟨w⟩ m = some ⟨zvq w m⟩ := by
 obtain ⟨_, hto, hk1, hk2, _⟩ := hm
 have hv := h.vts
 have ht := h.trs
 have hc := h.ch
 have hml := h.mail
 have hlt : (trW w m.To).Promises.length < 1000000 := by
  have h1 : m.To.toNat < w.Tries.length := by omega
  have h2 : w.Tries.getD m.To.toNat default = w.Tries[m.To.toNat] := by
   rw [List.getD_eq_getElem?_getD, List.getElem?_eq_getElem h1]
   rfl
  show (w.Tries.getD m.To.toNat default).Promises.length < 1000000
  rw [h2]
  exact hl _ (List.getElem_mem h1)
 rw [zf5, if_pos (by dsimp only; omega)]
 unfold zvq
 by_cases c2 : m.Kind = 2
 rw [if_pos c2, if_pos c2, zw7 w m.To m.Ballot _ hto ⟨h.mem, hv, ht, by omega, hc⟩ hlt]
 rfl
 rw [if_neg c2, if_neg c2]
 by_cases c4 : m.Kind = 4
 rw [if_pos c4, if_pos c4, zw2 w m.To m.Ballot m.From hto ht (by omega) hlt]
 rfl
 rw [if_neg c4, if_neg c4]
 by_cases c5 : m.Kind = 5
 rw [if_pos c5, if_pos c5]
 rfl
 rw [if_neg c5, if_neg c5]
 by_cases c1 : m.Kind = 1
 rw [if_pos c1, if_pos c1]
 obtain ⟨r, hr, h1, h2⟩ := zrq (vtW w m.To) m.Ballot
 show Option.bind (Option.bind (zf0 (vtW w m.To) m.Ballot) _) _ = _
 rw [hr]
 simp only [Option.bind_some]
 by_cases h0 : r.2 = 0
 rw [if_pos (h1.1 h0), h2 h0, if_neg (by simpa using h0), if_pos (by omega)]
 simp only [Option.bind_some]
 rw [if_pos (by simp; omega)]
 rfl
 rw [if_neg (fun k => h0 (h1.2 k)), if_pos h0, if_pos (by omega)]
 simp only [Option.bind_some]
 rw [if_pos (by simp; omega)]
 rfl
 have c3 : m.Kind = 3 := by omega
 rw [if_neg c1, if_neg c1, if_pos c3]
 obtain ⟨r, hr, h1, h2⟩ := zuj (vtW w m.To) m.Ballot m.Value
 show Option.bind (Option.bind (zff (vtW w m.To) m.Ballot m.Value) _) _ = _
 rw [hr]
 simp only [Option.bind_some]
 by_cases h0 : r.2 = 0
 rw [if_pos (h1.1 h0), h2 h0, if_neg (by simpa using h0), if_pos (by omega)]
 simp only [Option.bind_some]
 rw [if_pos (by simp; omega)]
 rfl
 rw [if_neg (fun k => h0 (h1.2 k)), if_pos h0, if_pos (by omega)]
 simp only [Option.bind_some]
 rw [if_pos (by simp; omega)]
 rfl
theorem QOk.nodes {l : List Int} (h : QOk l) : ∀ x ∈ l, 0 <= x /\ x < 6 := fun x hx => by have := zpi l (-1) h.2.1 x hx; omega
theorem zfj.value {a : TAttempt} (h : zfj a) : a.Value.length <= 1024 /\ a.Wish.length <= 1024 := by
 by_cases h0 : a.Phase = 0
 unfold zfj at h
 rw [if_pos h0] at h
 subst h
 simp
 have k := h.kept h0
 refine ⟨?_, k.wish⟩
 rcases k.value with h1 | h1
 unfold zfj at h
 rw [if_neg h0] at h
 rcases h.1 with h2 | h2 | h2
 rw [h2.2.1]; simp
 omega
 omega
 rw [h1]
 obtain ⟨p, _, _, h4⟩ := zzu a.Promises a.Wish 0
 rcases h4 with ⟨_, h4⟩ | ⟨h5, q, hq, h6, h7⟩
 rw [h4]; exact k.wish
 rw [h7]
 have := k.may q hq
 unfold MayS at this
 rw [if_neg (by omega)] at this
 exact this.2.2
structure WG (w : TWorld) : Prop where
 mem : QOk w.Members
 vts : w.Votes.length = 6
 trs : w.Tries.length = 6
 vote : ∀ i : Nat, i < 6 -> VOk (w.Votes.getD i default) /\ 0 <= (w.Votes.getD i default).Promised /\ 0 <= (w.Votes.getD i default).Ballot
 try_ : ∀ i : Nat, i < 6 -> zfj (w.Tries.getD i default) /\ ((w.Tries.getD i default).Phase ≠ 0 -> ownB (w.Tries.getD i default).Ballot = i /\ (w.Tries.getD i default).Members = w.Members)
 mails : ∀ m ∈ w.Mail, MOk m
 chs : ∀ c ∈ w.Chosen, (0 <= c.Node /\ c.Node < 6) /\ c.Value.length <= 1024
theorem WG.ok {w : TWorld} (h : WG w) (h1 : w.Mail.length <= 1000) (h2 : w.Chosen.length <= 1000) : WOk w :=
 ⟨h.mem, h.vts, h.trs, h1, h2, fun i hi => (h.vote i hi).1, h.try_, h.mails, h.chs⟩
theorem getD_set_ne {α : Type} (l : List α) (n i : Nat) (a d : α) (h : i ≠ n) : (l.set n a).getD i d = l.getD i d := by
 simp [List.getD, List.getElem?_set_ne (Ne.symm h)]
theorem WG.setVote {w : TWorld} (h : WG w) (n : Nat) (v : TVote) (hv : VOk v) (h1 : 0 <= v.Promised) (h2 : 0 <= v.Ballot) : WG { w with Votes := w.Votes.set n v } where
 mem := h.mem
 vts := by simpa using h.vts
 trs := h.trs
 vote i hi := by
  have hl := h.vts
  by_cases e : i = n
  subst e
  show VOk ((w.Votes.set i v).getD i default) /\ 0 <= ((w.Votes.set i v).getD i default).Promised /\ 0 <= ((w.Votes.set i v).getD i default).Ballot
  rw [zey _ _ _ _ (by omega)]
  exact ⟨hv, h1, h2⟩
  show VOk ((w.Votes.set n v).getD i default) /\ 0 <= ((w.Votes.set n v).getD i default).Promised /\ 0 <= ((w.Votes.set n v).getD i default).Ballot
  rw [getD_set_ne _ _ _ _ _ e]
  exact h.vote i hi
 try_ := h.try_
 mails := h.mails
 chs := h.chs
theorem WG.setTry {w : TWorld} (h : WG w) (n : Nat) (a : TAttempt) (hv : zfj a) (h1 : a.Phase ≠ 0 -> ownB a.Ballot = n /\ a.Members = w.Members) : WG { w with Tries := w.Tries.set n a } where
 mem := h.mem
 vts := h.vts
 trs := by simpa using h.trs
 vote := h.vote
 try_ i hi := by
  have hl := h.trs
  by_cases e : i = n
  subst e
  show zfj ((w.Tries.set i a).getD i default) /\ (((w.Tries.set i a).getD i default).Phase ≠ 0 -> ownB ((w.Tries.set i a).getD i default).Ballot = i /\ ((w.Tries.set i a).getD i default).Members = w.Members)
  rw [zey _ _ _ _ (by omega)]
  exact ⟨hv, h1⟩
  show zfj ((w.Tries.set n a).getD i default) /\ (((w.Tries.set n a).getD i default).Phase ≠ 0 -> ownB ((w.Tries.set n a).getD i default).Ballot = i /\ ((w.Tries.set n a).getD i default).Members = w.Members)
  rw [getD_set_ne _ _ _ _ _ e]
  exact h.try_ i hi
 mails := h.mails
 chs := h.chs
theorem WG.setMail {w : TWorld} (h : WG w) (M : List TMail) (hM : ∀ m ∈ M, m ∈ w.Mail \/ MOk m) : WG { w with Mail := M } :=
 ⟨h.mem, h.vts, h.trs, h.vote, h.try_, fun m hm => (hM m hm).elim (h.mails m) id, h.chs⟩
theorem WG.tell {w : TWorld} (h : WG w) (m : TMail) (h1 : 0 <= m.From /\ m.From < 6) (h2 : 1 <= m.Kind /\ m.Kind <= 5) (h3 : BOk m.Ballot) (h4 : 0 <= m.Prior) (h5 : m.Value.length <= 1024) (h6 : m.Group = 0 /\ m.Slot = 0 /\ m.Id = 0 /\ m.Time = 0) : WG (zlu w m) := by
 refine h.setMail _ fun k hk => ?_
 rcases List.mem_append.1 hk with hk | hk
 exact .inl hk
 obtain ⟨to, hto, rfl⟩ := List.mem_map.1 hk
 have := h.mem.nodes to (List.mem_filter.1 hto).1
 exact .inr ⟨h1, this, h2.1, h2.2, h3, h4, h5, h6.1, h6.2.1, h6.2.2.1, h6.2.2.2⟩
theorem VOk.prep {v : TVote} (h : VOk v) {b : Int} (hb : BOk b) (hle : v.Promised <= b) : VOk { v with Promised := b } := by
 refine ⟨.inr hb, ?_⟩
 have := h.2
 show if v.Ballot = 0 then v.Value = [] else BOk v.Ballot /\ v.Ballot <= b /\ v.Value.length <= 1024
 split
 rename_i h0; rw [if_pos h0] at this; exact this
 rename_i h0; rw [if_neg h0] at this; exact ⟨this.1, by omega, this.2.2⟩
theorem WOk.shape {w : TWorld} (h : WOk w) : Shape w 1000 := ⟨h.mem.1, h.vts, h.trs, h.mail, h.ch⟩
def preW (w : TWorld) (n b : Int) (t : List UInt8) : TWorld := zlu { w with Votes := w.Votes.set n.toNat { vtW w n with Promised := b }, Tries := w.Tries.set n.toNat ⟨1, b, w.Members, t, [], [], []⟩ } ⟨n, 0, 1, 0, 0, b, 0, [], 0, 0⟩
theorem WG.pre {w : TWorld} (h : WG w) (n b : Int) (t : List UInt8) (hn : 0 <= n /\ n < 6) (ha : zkv (vtW w n) b []) (ht : t.length <= 1024) (hb : 8 <= b) (ho : ownB b = n.toNat) : WG (preW w n b t) := by
 have hv := h.vote n.toNat (by omega)
 have h1 := h.setVote n.toNat { vtW w n with Promised := b } (ha.1.prep ha.2.1 ha.2.2.2) (by show 0 <= b; omega) hv.2.2
 have hbv : zfj ⟨1, b, w.Members, t, [], [], []⟩ := by
  unfold zfj
  rw [if_neg (by simp)]
  exact ⟨.inl ⟨rfl, rfl, rfl⟩, ⟨ha.2.1, h.mem, ht, rfl, rfl, (fun p hp => by cases hp), by simpa using zsm w.Members, by simpa using zsm w.Members, .inl rfl⟩⟩
 have h2 := h1.setTry n.toNat ⟨1, b, w.Members, t, [], [], []⟩ hbv fun _ => ⟨ho, rfl⟩
 exact h2.tell ⟨n, 0, 1, 0, 0, b, 0, [], 0, 0⟩ hn ⟨by simp, by simp⟩ ha.2.1 (by simp) (by simp) ⟨rfl, rfl, rfl, rfl⟩
theorem ya25 {w : TWorld} (h : WG w) (n b : Int) (t : List UInt8) (hn : 0 <= n /\ n < 6) : trW (preW w n b t) n = ⟨1, b, w.Members, t, [], [], []⟩ := by
 show (w.Tries.set n.toNat ⟨1, b, w.Members, t, [], [], []⟩).getD n.toNat default = _
 rw [zey _ _ _ _ (by rw [h.trs]; omega)]
theorem zzg (v : Int) (l : List Int) : zbs v l = some (if v ∈ l then .inl true else .inr ()) := by
 induction l with
 | nil => rfl
 | cons y l ih =>
  rw [zbs]
  by_cases h : y = v
  rw [if_pos h, if_pos (by rw [h]; exact List.mem_cons_self)]
  rw [if_neg h, ih]
  have : (v ∈ y :: l) ↔ v ∈ l := by simp [Ne.symm h]
  simp only [this]
theorem zn6 (l : List Int) (v : Int) : zbb l v = some (decide (v ∈ l)) := by
 rw [zbb, zzg]
 by_cases h : v ∈ l <;> simp [h]
theorem zpo (l : List Int) (v : Int) : hasI l v = decide (v ∈ l) := by
 rw [Bool.eq_iff_iff]; simp [hasI]
theorem zuk (b : List Int) (l : List Int) : zb6 b l = some (if zi2 l b = true then .inr () else .inl false) := by
 induction l with
 | nil => rfl
 | cons y l ih =>
  rw [zb6, zn6]
  simp only [Option.bind_some]
  have e : zi2 (y :: l) b = (decide (y ∈ b) && zi2 l b) := by simp [zi2, zpo]
  rw [e, ih]
  by_cases h : y ∈ b <;> simp [h]
theorem zxy (l b : List Int) : zdu l b = some (zi2 l b) := by
 rw [zdu, zuk]
 by_cases h : zi2 l b = true <;> simp [h]
theorem zyq (l : List Int) : ∀ (pre : List Int) (k : Int), (pre = [] /\ k = -1 \/ 0 <= k /\ pre.getLast? = some k) -> zba (pre ++ l) l pre.length = some (if zdr k l = true then .inr () else .inl false) := by
 induction l with
 | nil => intro pre k _; simp [zba, zdr]
 | cons y l ih =>
  intro pre k hk
  rw [zba]
  have hc : (((y < 0) \/ (y >= 6)) \/ (((pre.length : Int) > 0) /\ (y <= ((pre ++ y :: l).getD (pre.length - 1) default)))) ↔ ¬ (k < y /\ y < 6) := by
   rcases hk with ⟨rfl, rfl⟩ | ⟨h0, hl⟩
   simp; omega
   have hne : pre ≠ [] := by rintro rfl; simp at hl
   have hp : 0 < pre.length := List.length_pos_iff.2 hne
   have hg : (pre ++ y :: l).getD (pre.length - 1) default = k := by
    rw [List.getD_eq_getElem?_getD, List.getElem?_append_left (by omega), <- List.getLast?_eq_getElem?, hl]; rfl
   rw [hg]; omega
  by_cases h : k < y /\ y < 6
  rw [if_neg (fun hh => hc.1 hh h)]
  have e : zdr k (y :: l) = zdr y l := by simp [zdr, h.1, h.2]
  have := ih (pre ++ [y]) y (.inr ⟨by rcases hk with ⟨_, rfl⟩ | ⟨h0, _⟩ <;> omega, by simp⟩)
  rw [List.append_assoc, List.singleton_append, List.length_append, List.length_singleton] at this
  rw [e]; exact this
  rw [if_pos (hc.2 h), if_neg]
  simp only [zdr, Bool.and_eq_true, decide_eq_true_eq]
  exact fun hh => h hh.1
theorem ya1x (l : List Int) : zci l = some (zdr (-1) l && decide (1 <= l.length) && decide (l.length <= 6)) := by
 rw [zci]
 have := zyq l [] (-1) (.inl ⟨rfl, rfl⟩)
 rw [List.nil_append, List.length_nil] at this
 rw [this]
 by_cases h : zdr (-1) l = true
 simp only [h, if_true, Option.bind_some, Bool.true_and]
 congr 1
 have e1 : decide ((l.length : Int) >= 1) = decide (1 <= l.length) := decide_eq_decide.2 (by omega)
 have e2 : decide ((l.length : Int) <= 6) = decide (l.length <= 6) := decide_eq_decide.2 (by omega)
 rw [e1, e2]
 simp [h]
def R64 (x : Int) : Prop := -9223372036854775808 <= x /\ x <= 9223372036854775807
theorem td8 (b : Int) : (0 <= b /\ b.tdiv 8 = b / 8 /\ b.tmod 8 = b % 8) \/ (b < 0 /\ b.tdiv 8 = -((-b) / 8) /\ b.tmod 8 = -((-b) % 8)) := by
 rcases Int.lt_or_le b 0 with h | h
 right
 obtain ⟨c, rfl⟩ : ∃ c, b = -c := ⟨-b, by omega⟩
 refine ⟨h, ?_, ?_⟩
 rw [Int.neg_tdiv, Int.neg_neg, Int.tdiv_eq_ediv_of_nonneg (by omega)]
 rw [Int.neg_tmod, Int.neg_neg, Int.tmod_eq_emod_of_nonneg (by omega)]
 left
 exact ⟨h, Int.tdiv_eq_ediv_of_nonneg h, Int.tmod_eq_emod_of_nonneg h⟩
theorem zjl (b : Int) (h : R64 b) : zbc b = some (decide (BOk b)) := by
 rw [zbc]
 congr 1
 have ht := td8 b
 have hw : wr .i64 (b.tdiv 8) = b.tdiv 8 := zis _ _ (by show (-9223372036854775808 : Int) <= _; have := h.1; omega) (by show _ <= (9223372036854775807 : Int); have := h.2; omega)
 rw [Bool.eq_iff_iff]
 simp only [Bool.and_eq_true, decide_eq_true_eq]
 unfold BOk
 rw [hw]
 omega
theorem zzc (p : TPromise) (b : Int) (h : R64 p.Ballot) : zc0 p b = some (decide (MayS p b)) := by
 rw [zc0, zjl _ h]
 unfold MayS
 by_cases h0 : p.Ballot = 0
 simp only [h0, if_true]
 congr 1
 rw [Bool.eq_iff_iff, beq_iff_eq, decide_eq_true_eq]
 simp only [h0, if_false, Option.bind_some]
 congr 1
 rw [Bool.eq_iff_iff]
 simp only [Bool.and_eq_true, decide_eq_true_eq]
 exact ⟨fun ⟨⟨x, y⟩, z⟩ => ⟨x, y, by omega⟩, fun ⟨x, y, z⟩ => ⟨⟨x, y⟩, by omega⟩⟩
theorem ya0f (l : List Int) : zci l = some (decide (QOk l)) := by
 rw [ya1x]
 congr 1
 rw [Bool.eq_iff_iff]
 simp only [Bool.and_eq_true, decide_eq_true_eq]
 unfold QOk
 have : 1 <= l.length ↔ l ≠ [] := by rw [<- List.length_pos_iff]; omega
 rw [this]
 constructor
 rintro ⟨⟨a, b⟩, c⟩; exact ⟨c, a, b⟩
 rintro ⟨a, b, c⟩; exact ⟨⟨b, c⟩, a⟩
def upS : Option Int -> List Int -> Bool
 | _, [] => true
 | k, y :: l => (match k with | none => true | some k => decide (k < y)) && upS (some y) l
theorem ya0d (m : List Int) : ∀ (l : List Int) (k : Option Int), zg3 m k l = (upS k l && zi2 l m) := by
 intro l
 induction l with
 | nil => intro k; simp [zg3, upS, zi2]
 | cons y l ih =>
  intro k
  have e : zi2 (y :: l) m = (decide (y ∈ m) && zi2 l m) := by simp [zi2, zpo]
  cases k with
  | none => simp only [zg3, upS, ih, e]; cases decide (y ∈ m) <;> cases upS (some y) l <;> cases zi2 l m <;> rfl
  | some k => simp only [zg3, upS, ih, e]; cases decide (k < y) <;> cases decide (y ∈ m) <;> cases upS (some y) l <;> cases zi2 l m <;> rfl
theorem ztm (l : List Int) : ∀ (pre : List Int), zau (pre ++ l) l pre.length = some (if upS pre.getLast? l = true then .inr () else .inl false) := by
 induction l with
 | nil => intro pre; simp [zau, upS]
 | cons y l ih =>
  intro pre
  rw [zau]
  have hi := ih (pre ++ [y])
  rw [List.append_assoc, List.singleton_append, List.length_append, List.length_singleton, List.getLast?_concat] at hi
  rcases List.eq_nil_or_concat pre with rfl | ⟨q, k, rfl⟩
  simp only [List.length_nil, List.getLast?_nil, upS, Bool.true_and]
  rw [if_neg (by simp)]
  simpa using hi
  rw [List.concat_eq_append] at *
  have hg : ((q ++ [k]) ++ y :: l).getD ((q ++ [k]).length - 1) default = k := by simp
  rw [hg]
  simp only [List.getLast?_append, List.getLast?_singleton, Option.some_or, upS]
  by_cases hk : k < y
  rw [if_neg (by simp; omega), hi]
  simp [hk]
  rw [if_pos ⟨by simp <;> omega, by omega⟩]
  simp [hk]
theorem zod (l m : List Int) : zcy l m = some (zg3 m none l) := by
 have h := ztm l []
 rw [List.nil_append, List.length_nil, List.getLast?_nil] at h
 rw [zcy, h, ya0d, zxy]
 by_cases hu : upS none l = true
 simp [hu]
 simp [hu]
theorem zv6 (l : List TPromise) : ∀ acc : List Int, acc.length + l.length < 1000000 -> zao l acc = some (acc ++ l.map TPromise.Node) := by
 induction l with
 | nil => intro acc _; simp [zao]
 | cons y l ih =>
  intro acc h
  simp only [List.length_cons] at h
  rw [zao, if_pos (by simp; omega), ih _ (by simp; omega)]
  simp
theorem zqg (l : List TPromise) (h : l.length < 1000000) : zbq l = some (l.map TPromise.Node) := by
 rw [zbq, zv6 l [] (by simpa using h)]; rfl
theorem zvp (b : List Int) (l : List Int) : ∀ n : Nat, n + l.length < 1000000 -> zav b l (n : Int) = some ((n + (l.filter (hasI b)).length : Nat) : Int) := by
 induction l with
 | nil => intro n _; simp [zav]
 | cons y l ih =>
  intro n h
  simp only [List.length_cons] at h
  rw [zav, zn6]
  have hw : wr .i64 ((n : Int) + 1) = ((n + 1 : Nat) : Int) := zis _ _ (by show (-9223372036854775808 : Int) <= _; omega) (by show _ <= (9223372036854775807 : Int); omega)
  by_cases hy : y ∈ b
  have hh : hasI b y = true := by rw [zpo]; simpa using hy
  simp only [Option.bind_some, hy, decide_true, if_true, hw]
  rw [ih _ (by omega), List.filter_cons, if_pos hh]
  simp; omega
  have hh : hasI b y = false := by rw [zpo]; simpa using hy
  simp only [Option.bind_some, hy, decide_false, Bool.false_eq_true, if_false]
  rw [ih _ (by omega), List.filter_cons, if_neg (by simp [hh])]
theorem zr3 (m l : List Int) (hm : m.length < 1000000) : zbt m l = some (zkk m l) := by
 have h := zvp l m 0 (by omega)
 rw [zbt]
 rw [show ((0 : Nat) : Int) = 0 from rfl, Nat.zero_add] at h
 rw [h]
 simp only [Option.bind_some]
 congr 1
 have hw : wr .i64 (wr .i64 ((m.length : Int).tdiv 2) + 1) = ((m.length / 2 + 1 : Nat) : Int) := by
  have e1 : (m.length : Int).tdiv 2 = ((m.length / 2 : Nat) : Int) := by
   rw [Int.tdiv_eq_ediv_of_nonneg (by omega)]; omega
  rw [e1, zis .i64 ((m.length / 2 : Nat) : Int) (by show (-9223372036854775808 : Int) <= _; omega) (by show _ <= (9223372036854775807 : Int); omega)]
  exact (zis _ _ (by show (-9223372036854775808 : Int) <= _; omega) (by show _ <= (9223372036854775807 : Int); omega)).trans (by omega)
 rw [hw]
 rfl
theorem zxv (l : List TPromise) : ∀ s n, zbo l n s = some (zmp l s n) := by
 induction l with
 | nil => intro s n; rfl
 | cons y l ih =>
  intro s n
  rw [zbo, zmp]
  split <;> simp only [Option.bind_some] <;> exact ih _ _
theorem zww (l : List TPromise) (w : List UInt8) : zdl l w = some (zmp l w 0) := by
 rw [zdl, zxv]; rfl
theorem zzb (a : TAttempt) (l : List TPromise) (h : ∀ p ∈ l, R64 p.Ballot) : zb9 a l = some (if (∀ p ∈ l, MayS p a.Ballot) then .inr () else .inl false) := by
 induction l with
 | nil => simp [zb9]
 | cons y l ih =>
  rw [zb9, zzc _ _ (h y List.mem_cons_self), ih fun p hp => h p (List.mem_cons_of_mem _ hp)]
  simp only [Option.bind_some]
  by_cases hy : MayS y a.Ballot
  by_cases hl : ∀ p ∈ l, MayS p a.Ballot
  have : ∀ p ∈ y :: l, MayS p a.Ballot := by
   intro p hp
   rcases List.mem_cons.1 hp with rfl | hp
   exact hy
   exact hl p hp
  rw [if_neg (by simp [hy]), if_pos hl, if_pos this]
  have : ¬ ∀ p ∈ y :: l, MayS p a.Ballot := fun hh => hl fun p hp => hh p (List.mem_cons_of_mem _ hp)
  rw [if_neg (by simp [hy]), if_neg hl, if_neg this]
  have : ¬ ∀ p ∈ y :: l, MayS p a.Ballot := fun hh => hy (hh y List.mem_cons_self)
  rw [if_pos (by simp [hy]), if_neg this]
structure Ranged (a : TAttempt) : Prop where
 phase : 0 <= a.Phase
 ballot : R64 a.Ballot
 proms : ∀ p ∈ a.Promises, R64 p.Ballot
 lp : a.Promises.length < 100000
 lm : a.Members.length < 100000
 la : a.Accepted.length < 100000
theorem zso (a : TAttempt) (h : Ranged a) : ∃ b, zd2 a = some b /\ (b = true ↔ zfj a) := by
 have lp := h.lp
 have lm := h.lm
 rw [zd2]
 by_cases h0 : a.Phase = 0
 ·rw [if_pos h0]
  refine ⟨_, rfl, ?_⟩
  unfold zfj
  rw [if_pos h0]
  simp only [Bool.and_eq_true, beq_iff_eq]
  constructor
  ·rintro ⟨⟨⟨⟨⟨h1, h2⟩, h3⟩, h4⟩, h5⟩, h6⟩
   have e2 : a.Members = [] := List.eq_nil_of_length_eq_zero (by omega)
   have e5 : a.Promises = [] := List.eq_nil_of_length_eq_zero (by omega)
   have e6 : a.Accepted = [] := List.eq_nil_of_length_eq_zero (by omega)
   cases a
   simp_all
  intro e
  rw [e]
  simp
 rw [if_neg h0]
 have hv : zfj a ↔ ((a.Phase = 1 /\ a.Value = [] /\ a.Accepted = []) \/ a.Phase = 2 \/ a.Phase = 3) /\ Kept a := by unfold zfj; rw [if_neg h0]
 by_cases h3 : a.Phase > 3
 refine ⟨false, ?_, ?_⟩
 simp [h3]
 simp only [Bool.false_eq_true, false_iff, hv]
 rintro ⟨h1, _⟩
 rcases h1 with h1 | h1 | h1 <;> omega
 rw [zjl _ h.ballot, ya0f, zqg _ (by omega)]
 by_cases c1 : BOk a.Ballot
 by_cases c2 : QOk a.Members
 by_cases c3 : (a.Wish.length : Int) > 1024
 refine ⟨false, by simp [h3, c1, c2, c3], ?_⟩
 simp only [Bool.false_eq_true, false_iff, hv]
 rintro ⟨_, k⟩
 have := k.wish
 omega
 by_cases c4 : zg3 a.Members none (a.Promises.map TPromise.Node) = true
 by_cases c5 : zg3 a.Members none a.Accepted = true
 simp only [h3, c1, c2, c3, zod, c4, c5, not_false_eq_true, if_true, Option.bind_some, decide_true, not_true_eq_false, or_self, if_false, zr3 _ _ (show a.Members.length < 1000000 by omega), zww, zzb a a.Promises h.proms]
 by_cases c6 : ∀ p ∈ a.Promises, MayS p a.Ballot
 simp only [if_pos c6, Option.bind_some]
 by_cases p1 : a.Phase = 1
 rw [if_pos p1]
 refine ⟨_, rfl, ?_⟩
 rw [hv, zsp]
 simp only [Bool.and_eq_true, Bool.not_eq_true', beq_iff_eq]
 constructor
 rintro ⟨⟨m1, m2⟩, m3⟩
 have e6 : a.Accepted = [] := List.eq_nil_of_length_eq_zero (by omega)
 exact ⟨.inl ⟨p1, m2, e6⟩, c1, c2, by omega, c4, c5, c6, by rw [m1, p1]; rfl, by rw [e6, zsm, p1]; rfl, .inl p1⟩
 rintro ⟨k1, _, _, _, _, _, _, k2, _⟩
 rcases k1 with ⟨_, k1, k3⟩ | k1 | k1
 exact ⟨⟨by rw [k2, p1]; rfl, k1⟩, by rw [k3]; rfl⟩
 omega
 omega
 rw [if_neg p1]
 have hp : a.Phase = 2 \/ a.Phase = 3 := by have := h.phase; omega
 by_cases m8 : zkk a.Members (a.Promises.map TPromise.Node) = true
 by_cases m9 : a.Value = zmp a.Promises a.Wish 0
 refine ⟨zkk a.Members a.Accepted == (a.Phase == 3), ?_, ?_⟩
 simp only [m8, if_true, Option.bind_some, <- m9, and_self, beq_self_eq_true, Bool.true_and]
 rw [hv, zsp, beq_iff_eq]
 constructor
 intro k
 exact ⟨.inr hp, c1, c2, by omega, c4, c5, c6, by rw [m8]; symm; simp; omega, k, .inr m9⟩
 rintro ⟨_, _, _, _, _, _, _, _, k, _⟩; exact k
 refine ⟨false, ?_, ?_⟩
 simp [m8, m9]
 simp only [Bool.false_eq_true, false_iff, hv]
 rintro ⟨_, k⟩
 rcases k.value with k | k
 exact p1 k
 exact m9 k
 refine ⟨false, ?_, ?_⟩
 simp [m8]
 simp only [Bool.false_eq_true, false_iff, hv]
 rintro ⟨_, k⟩
 have := k.most
 rw [show decide (a.Phase > 1) = true by simp; omega] at this
 exact m8 this
 refine ⟨false, by simp only [if_neg c6, Option.bind_some], ?_⟩
 simp only [Bool.false_eq_true, false_iff, hv]
 rintro ⟨_, k⟩
 exact c6 k.may
 refine ⟨false, by simp [h3, c1, c2, c3, zod, c4, c5], ?_⟩
 simp only [Bool.false_eq_true, false_iff, hv]
 rintro ⟨_, k⟩
 exact c5 k.accepted
 refine ⟨false, by simp [h3, c1, c2, c3, zod, c4], ?_⟩
 simp only [Bool.false_eq_true, false_iff, hv]
 rintro ⟨_, k⟩
 exact c4 k.nodes
 refine ⟨false, by simp [h3, c1, c2], ?_⟩
 simp only [Bool.false_eq_true, false_iff, hv]
 rintro ⟨_, k⟩
 exact c2 k.members
 refine ⟨false, by simp [h3, c1], ?_⟩
 simp only [Bool.false_eq_true, false_iff, hv]
 rintro ⟨_, k⟩
 exact c1 k.ballot
end Go.Proofs
end
