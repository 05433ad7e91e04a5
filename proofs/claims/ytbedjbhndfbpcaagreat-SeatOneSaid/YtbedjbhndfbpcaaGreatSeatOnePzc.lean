/- Texts of the proof. -/
import Derived.Test.YtbedjbhndfbpcaaGreatSeatOnePy
import Derived.Test.YtbedjbhndfbpcaaGreatSeatOnePza
import Derived.Test.YtbedjbhndfbpcaaGreatSeatOnePzb
import Derived.Test.YtbedjbhndfbpcaaGreatSeatOnePp
import Derived.Test.YtbedjbhndfbpcaaGreatSeatOnePo
import Derived.Test.YtbedjbhndfbpcaaGreatSeatOnePq
import Derived.Test.YtbedjbhndfbpcaaGreatSeatOnePu
import Derived.Test.YtbedjbhndfbpcaaGreatSeatOnePr
import Derived.Test.YtbedjbhndfbpcaaGreatSeatOnePs
import Derived.Test.YtbedjbhndfbpcaaGreatSeatOnePt
import Derived.Test.YtbedjbhndfbpcaaGreatSeatOnePx
import Derived.Test.YtbedjbhndfbpcaaGreatSeatOnePz
set_option linter.unusedVariables false
set_option linter.unusedSimpArgs false
namespace Go.Proofs
open Go.Tm Go.RowKit Go.WideShapes
set_option maxRecDepth 100000
set_option maxHeartbeats 40000000
set_option linter.unusedSimpArgs false
set_option linter.unusedVariables false
attribute [local go_sem, local simp] zg1 zgu zlf
@[go_sem] def st25(r:TSeat×Int):St:=⟨[(6,.ptr 5 0),(7,.int .i64 r.2)],[(0,.arr 3 1 true (r.1.Group.Roster.map (D.int .i64))),(1,.arr 3 1 true (r.1.Group.Members.map (D.int .i64))),(2,.arr 9 1 true (r.1.Log.map D.str)),(3,.arr 75 5 true (r.1.Votes.map TSeen.d)),(4,.arr 9 1 true (r.1.Wishes.map D.str)),(5,.box [.int .i64 r.1.Me,.int .i64 r.1.Number,.ref 0 1 0 r.1.Group.Roster.length (some uC),.ref 1 1 0 r.1.Group.Members.length (some uC),.ref 2 1 0 r.1.Log.length (some uC),.ref 3 5 0 r.1.Votes.length (some uC),.int .u8 r.1.Try.Phase,.int .i64 r.1.Try.Ballot,.imm 1 (r.1.Try.Members.map (D.int .i64)) 13,.str r.1.Try.Wish,.str r.1.Try.Value,.imm 3 (r.1.Try.Promises.map TPromise.d) 13,.imm 1 (r.1.Try.Accepted.map (D.int .i64)) 13,.ref 4 1 0 r.1.Wishes.length (some uC),.int .i64 r.1.Heard])],6⟩
theorem zub(a0:Int)(a1:Int)(a2:TGroup)(r:TSeat×Int)(h:zih a0 a1 a2=some r):zbv Tryz.prog 6 [.int .i64 a0,.int .i64 a1,.agg [.imm 1 (a2.Roster.map (D.int .i64)) 4,.imm 1 (a2.Members.map (D.int .i64)) 4]] [] (.tuple [.agg [.int .i64 r.1.Me,.int .i64 r.1.Number,.ref 0 1 0 r.1.Group.Roster.length (some uC),.ref 1 1 0 r.1.Group.Members.length (some uC),.ref 2 1 0 r.1.Log.length (some uC),.ref 3 5 0 r.1.Votes.length (some uC),.int .u8 r.1.Try.Phase,.int .i64 r.1.Try.Ballot,.imm 1 (r.1.Try.Members.map (D.int .i64)) 13,.str r.1.Try.Wish,.str r.1.Try.Value,.imm 3 (r.1.Try.Promises.map TPromise.d) 13,.imm 1 (r.1.Try.Accepted.map (D.int .i64)) 13,.ref 4 1 0 r.1.Wishes.length (some uC),.int .i64 r.1.Heard],.int .i64 r.2]) [(0,some (.arr 3 1 true (r.1.Group.Roster.map (D.int .i64)))),(1,some (.arr 3 1 true (r.1.Group.Members.map (D.int .i64)))),(2,some (.arr 9 1 true (r.1.Log.map D.str))),(3,some (.arr 75 5 true (r.1.Votes.map TSeen.d))),(4,some (.arr 9 1 true (r.1.Wishes.map D.str)))] (0,42):=by
 refine zct Tryz.func6 ?_
 intro hwf
 unfold zih at h
 refine .ends 0 (za4 _) ?_
 refine .sp [0,1,2] ?_
 refine .seq (.seq (.rg zS [0,1,5,6] ?_))
 refine .rn 6 ?_
 refine .rn 8 ?_
 refine .nn ?_
 refine .cd ?_ ?_<;>intro hc1
 replace h:=zab h hc1
 refine .sp [6] ?_
 obtain rfl:=sj h
 refine .ret ⟨st25 ((⟨0,0,(⟨[],[]⟩:TGroup),[],[],(⟨0,0,[],[],[],[],[]⟩:TAttempt),[],0⟩:TSeat),2),?_,.inr rfl,retH [4,3,2,1,0] ?_ ?_⟩
 refine .n0 1 3 ?_
 refine .n0 1 3 ?_
 refine .n0 1 9 ?_
 refine .n0 5 75 ?_
 refine .n0 1 9 ?_
 refine .boxs 1 _ [_,_,.ref 2 1 0 0 (some uC),.ref 3 1 0 0 (some uC),.ref 4 1 0 0 (some uC),.ref 5 5 0 0 (some uC),_,_,.imm 1 [] 13,_,_,.imm 3 [] 13,.imm 1 [] 13,.ref 6 1 0 0 (some uC),_] rfl (.keep (.keep (.cons (.own0 2 _ _ _ (by decide)) (.cons (.own0 3 _ _ _ (by decide)) (.cons (.own0 4 _ _ _ (by decide)) (.cons (.own0 5 _ _ _ (by decide)) (.keep (.keep (.cons (.nil12 _ _ 0 (by decide)) (.keep (.keep (.cons (.nil12 _ _ 0 (by decide)) (.cons (.nil12 _ _ 0 (by decide)) (.cons (.own0 6 _ _ _ (by decide)) (.refl _))))))))))))))) ?_
 exact .m [6,7] [2,3,4,5,6,1] [(2,0),(3,1),(4,2),(5,3),(6,4),(1,5)]
 exact rsi0
 rfl
 replace h:=zae h hc1
 refine .skip (.seq ?_)
 obtain⟨v1,hv1,h⟩:=za3 h
 refine .sr [0,1,5,6] ?_
 refine .rn 1 ?_
 refine .cl (zf2 a2 v1 hv1) ?_
 refine .rn 1 ?_
 refine .nn ?_
 refine .sp [0,1,5,6,8] ?_
 refine .cd ?_ ?_<;>intro hc2
 replace h:=zab h hc2
 refine .sp [6,8] ?_
 obtain rfl:=sj h
 refine .ret ⟨st25 ((⟨0,0,(⟨[],[]⟩:TGroup),[],[],(⟨0,0,[],[],[],[],[]⟩:TAttempt),[],0⟩:TSeat),v1),?_,.inr rfl,retH [4,3,2,1,0] ?_ ?_⟩
 refine .n0 1 3 ?_
 refine .n0 1 3 ?_
 refine .n0 1 9 ?_
 refine .n0 5 75 ?_
 refine .n0 1 9 ?_
 refine .boxs 1 _ [_,_,.ref 2 1 0 0 (some uC),.ref 3 1 0 0 (some uC),.ref 4 1 0 0 (some uC),.ref 5 5 0 0 (some uC),_,_,.imm 1 [] 13,_,_,.imm 3 [] 13,.imm 1 [] 13,.ref 6 1 0 0 (some uC),_] rfl (.keep (.keep (.cons (.own0 2 _ _ _ (by decide)) (.cons (.own0 3 _ _ _ (by decide)) (.cons (.own0 4 _ _ _ (by decide)) (.cons (.own0 5 _ _ _ (by decide)) (.keep (.keep (.cons (.nil12 _ _ 0 (by decide)) (.keep (.keep (.cons (.nil12 _ _ 0 (by decide)) (.cons (.nil12 _ _ 0 (by decide)) (.cons (.own0 6 _ _ _ (by decide)) (.refl _))))))))))))))) ?_
 exact .m [6,7] [2,3,4,5,6,1] [(2,0),(3,1),(4,2),(5,3),(6,4),(1,5)]
 exact rsi0
 rfl
 replace h:=zae h hc2
 refine .skip (.seq ?_)
 obtain⟨v2,hv2,h⟩:=za3 h
 refine .sr [0,1,5,6] ?_
 refine .rn 3 ?_
 refine .cl (zdg a2.Roster a0 v2 hv2) ?_
 refine .rn 1 ?_
 refine .nn ?_
 refine .cd ?_ ?_<;>intro hc3
 replace h:=zab h hc3
 refine .sp [6] ?_
 obtain rfl:=sj h
 refine .ret ⟨st25 ((⟨0,0,(⟨[],[]⟩:TGroup),[],[],(⟨0,0,[],[],[],[],[]⟩:TAttempt),[],0⟩:TSeat),6),?_,.inr rfl,retH [4,3,2,1,0] ?_ ?_⟩
 refine .n0 1 3 ?_
 refine .n0 1 3 ?_
 refine .n0 1 9 ?_
 refine .n0 5 75 ?_
 refine .n0 1 9 ?_
 refine .boxs 1 _ [_,_,.ref 2 1 0 0 (some uC),.ref 3 1 0 0 (some uC),.ref 4 1 0 0 (some uC),.ref 5 5 0 0 (some uC),_,_,.imm 1 [] 13,_,_,.imm 3 [] 13,.imm 1 [] 13,.ref 6 1 0 0 (some uC),_] rfl (.keep (.keep (.cons (.own0 2 _ _ _ (by decide)) (.cons (.own0 3 _ _ _ (by decide)) (.cons (.own0 4 _ _ _ (by decide)) (.cons (.own0 5 _ _ _ (by decide)) (.keep (.keep (.cons (.nil12 _ _ 0 (by decide)) (.keep (.keep (.cons (.nil12 _ _ 0 (by decide)) (.cons (.nil12 _ _ 0 (by decide)) (.cons (.own0 6 _ _ _ (by decide)) (.refl _))))))))))))))) ?_
 exact .m [6,7] [2,3,4,5,6,1] [(2,0),(3,1),(4,2),(5,3),(6,4),(1,5)]
 exact rsi0
 rfl
 replace h:=zae h hc3
 refine .skip ?_
 obtain⟨v3,hv3,h⟩:=za3 h
 refine .sr [0,1,5,6] ?_
 refine .rn 4 ?_
 refine .ncall (r:=.agg [.int .i64 v3.Me,.int .i64 v3.Number,.ref 20 1 0 v3.Group.Roster.length (some uC),.ref 21 1 0 v3.Group.Members.length (some uC),.ref 22 1 0 v3.Log.length (some uC),.ref 23 5 0 v3.Votes.length (some uC),.int .u8 v3.Try.Phase,.int .i64 v3.Try.Ballot,.imm 1 (v3.Try.Members.map (D.int .i64)) 13,.str v3.Try.Wish,.str v3.Try.Value,.imm 3 (v3.Try.Promises.map TPromise.d) 13,.imm 1 (v3.Try.Accepted.map (D.int .i64)) 13,.ref 24 1 0 v3.Wishes.length (some uC),.int .i64 v3.Heard]) (eff:=[(20,some (.arr 3 1 true (v3.Group.Roster.map (D.int .i64)))),(21,some (.arr 3 1 true (v3.Group.Members.map (D.int .i64)))),(22,some (.arr 9 1 true (v3.Log.map D.str))),(23,some (.arr 75 5 true (v3.Votes.map TSeen.d))),(24,some (.arr 9 1 true (v3.Wishes.map D.str)))]) (nw:=(20,40)) [] rfl rfl rfl rfl rfl (za9 rfl zaj) rfl (zcu 20 (lb rfl) (ya64 (WkL.cons (Wk.agg (WkL.cons (Wk.refl _) (WkL.cons (Wk.refl _) (WkL.cons (Wk.refl _) (WkL.cons (Wk.refl _) (WkL.cons (Wk.nil4 0 1 0 rfl) (WkL.cons (Wk.nil4 0 5 0 rfl) (WkL.cons (Wk.refl _) (WkL.cons (Wk.refl _) (WkL.cons (Wk.nil4 0 1 0 rfl) (WkL.cons (Wk.refl _) (WkL.cons (Wk.refl _) (WkL.cons (Wk.nil4 0 3 0 rfl) (WkL.cons (Wk.nil4 0 1 0 rfl) (WkL.cons (Wk.nil4 0 1 0 rfl) (WkL.cons (Wk.refl _) (WkL.refl _))))))))))))))))) (WkL.refl _)) (zhd (⟨a0,a1,a2,[],[],(⟨0,0,[],[],[],[],[]⟩:TAttempt),[],0⟩:TSeat) v3 hv3))) (zay rfl rfl (zbb zbt _ _ _) (zay rfl rfl (zbb zbt _ _ _) (zay rfl rfl (zbb zfi _ _ _) (zay rfl rfl (zbb zh7 _ _ _) (zay rfl rfl (zbb zfi _ _ _) zd5))))) (by intro i hi;simp[D.ids,D.idsL] at hi<;>omega) rfl ⟨lb rfl,lb rfl⟩ ?_
 refine .rn 2 ?_
 refine .nn ?_
 obtain rfl:=sj h
 refine .ret ⟨st25 (v3,0),?_,.inr rfl,retH [4,3,2,1,0] ?_ ?_⟩
 exact .m [6,7] [20,21,22,23,24,1] [(20,0),(21,1),(22,2),(23,3),(24,4),(1,5)]
 exact rsi0
 rfl
theorem zoj(a0:Int)(a1:Int)(a2:TGroup)(r:TSeat×Int)(h:zih a0 a1 a2=some r):zbi Tryz.prog 6 [.int .i64 a0,.int .i64 a1,.agg [.imm 1 (a2.Roster.map (D.int .i64)) 4,.imm 1 (a2.Members.map (D.int .i64)) 4]] (.tuple [.agg [.int .i64 r.1.Me,.int .i64 r.1.Number,.imm 1 (r.1.Group.Roster.map (D.int .i64)) 13,.imm 1 (r.1.Group.Members.map (D.int .i64)) 13,.imm 1 (r.1.Log.map D.str) 13,.imm 5 (r.1.Votes.map TSeen.d) 13,.int .u8 r.1.Try.Phase,.int .i64 r.1.Try.Ballot,.imm 1 (r.1.Try.Members.map (D.int .i64)) 13,.str r.1.Try.Wish,.str r.1.Try.Value,.imm 3 (r.1.Try.Promises.map TPromise.d) 13,.imm 1 (r.1.Try.Accepted.map (D.int .i64)) 13,.imm 1 (r.1.Wishes.map D.str) 13,.int .i64 r.1.Heard],.int .i64 r.2]):=
 zgb (zmj (za8 (zkp (za8 rfl (za8 rfl (za8 (zbd zbt rfl rfl) (za8 (zbd zbt rfl rfl) (za8 (zbd zfi rfl rfl) (za8 (zbd zh7 rfl rfl) (za8 rfl (za8 rfl (za8 rfl (za8 rfl (za8 rfl (za8 rfl (za8 rfl (za8 (zbd zfi rfl rfl) (za8 rfl zep)))))))))))))))) (za8 rfl zep))) (zub a0 a1 a2 r h)
@[go_sem] def st23(r:TSeat×Int):St:=⟨[(2,.ptr 8 0),(3,.int .i64 r.2)],[(0,.arr 3 1 true (r.1.Group.Roster.map (D.int .i64))),(1,.arr 3 1 true (r.1.Group.Members.map (D.int .i64))),(2,.arr 9 1 true (r.1.Log.map D.str)),(3,.arr 75 5 true (r.1.Votes.map TSeen.d)),(4,.arr 3 1 true (r.1.Try.Members.map (D.int .i64))),(5,.arr 93 3 true (r.1.Try.Promises.map TPromise.d)),(6,.arr 3 1 true (r.1.Try.Accepted.map (D.int .i64))),(7,.arr 9 1 true (r.1.Wishes.map D.str)),(8,.box [.int .i64 r.1.Me,.int .i64 r.1.Number,.ref 0 1 0 r.1.Group.Roster.length (some uC),.ref 1 1 0 r.1.Group.Members.length (some uC),.ref 2 1 0 r.1.Log.length (some uC),.ref 3 5 0 r.1.Votes.length (some uC),.int .u8 r.1.Try.Phase,.int .i64 r.1.Try.Ballot,.ref 4 1 0 r.1.Try.Members.length (some uC),.str r.1.Try.Wish,.str r.1.Try.Value,.ref 5 3 0 r.1.Try.Promises.length (some uC),.ref 6 1 0 r.1.Try.Accepted.length (some uC),.ref 7 1 0 r.1.Wishes.length (some uC),.int .i64 r.1.Heard])],9⟩
theorem zrn(a0:TSeat)(r:TSeat×Int)(h:zii a0=some r):zbv Tryz.prog 18 [.agg [.int .i64 a0.Me,.int .i64 a0.Number,.imm 1 (a0.Group.Roster.map (D.int .i64)) 4,.imm 1 (a0.Group.Members.map (D.int .i64)) 4,.imm 1 (a0.Log.map D.str) 4,.imm 5 (a0.Votes.map TSeen.d) 4,.int .u8 a0.Try.Phase,.int .i64 a0.Try.Ballot,.imm 1 (a0.Try.Members.map (D.int .i64)) 4,.str a0.Try.Wish,.str a0.Try.Value,.imm 3 (a0.Try.Promises.map TPromise.d) 4,.imm 1 (a0.Try.Accepted.map (D.int .i64)) 4,.imm 1 (a0.Wishes.map D.str) 4,.int .i64 a0.Heard]] [] (.tuple [.agg [.int .i64 r.1.Me,.int .i64 r.1.Number,.ref 0 1 0 r.1.Group.Roster.length (some uC),.ref 1 1 0 r.1.Group.Members.length (some uC),.ref 2 1 0 r.1.Log.length (some uC),.ref 3 5 0 r.1.Votes.length (some uC),.int .u8 r.1.Try.Phase,.int .i64 r.1.Try.Ballot,.ref 4 1 0 r.1.Try.Members.length (some uC),.str r.1.Try.Wish,.str r.1.Try.Value,.ref 5 3 0 r.1.Try.Promises.length (some uC),.ref 6 1 0 r.1.Try.Accepted.length (some uC),.ref 7 1 0 r.1.Wishes.length (some uC),.int .i64 r.1.Heard],.int .i64 r.2]) [(0,some (.arr 3 1 true (r.1.Group.Roster.map (D.int .i64)))),(1,some (.arr 3 1 true (r.1.Group.Members.map (D.int .i64)))),(2,some (.arr 9 1 true (r.1.Log.map D.str))),(3,some (.arr 75 5 true (r.1.Votes.map TSeen.d))),(4,some (.arr 3 1 true (r.1.Try.Members.map (D.int .i64)))),(5,some (.arr 93 3 true (r.1.Try.Promises.map TPromise.d))),(6,some (.arr 3 1 true (r.1.Try.Accepted.map (D.int .i64)))),(7,some (.arr 9 1 true (r.1.Wishes.map D.str)))] (0,46):=by
 refine zct Tryz.func18 ?_
 intro hwf
 unfold zii at h
 refine .ends 0 (za4 _) ?_
 refine .sp [0] ?_
 refine .seq ?_
 obtain⟨v1,hv1,h⟩:=za3 h
 refine .sr [1,2] ?_
 refine .rn 1 ?_
 refine .cl (zi3 a0 v1 hv1) ?_
 refine .rn 1 ?_
 refine .nn ?_
 refine .sp [1,2,4] ?_
 refine .cd ?_ ?_<;>intro hc1
 replace h:=zab h hc1
 refine .sp [2,4] ?_
 obtain rfl:=sj h
 refine .ret ⟨st23 ((⟨0,0,(⟨[],[]⟩:TGroup),[],[],(⟨0,0,[],[],[],[],[]⟩:TAttempt),[],0⟩:TSeat),v1),?_,.inr rfl,retH [7,6,5,4,3,2,1,0] ?_ ?_⟩
 refine .n0 1 3 ?_
 refine .n0 1 3 ?_
 refine .n0 1 9 ?_
 refine .n0 5 75 ?_
 refine .n0 1 3 ?_
 refine .n0 3 93 ?_
 refine .n0 1 3 ?_
 refine .n0 1 9 ?_
 refine .boxs 1 _ [_,_,.ref 2 1 0 0 (some uC),.ref 3 1 0 0 (some uC),.ref 4 1 0 0 (some uC),.ref 5 5 0 0 (some uC),_,_,.ref 6 1 0 0 (some uC),_,_,.ref 7 3 0 0 (some uC),.ref 8 1 0 0 (some uC),.ref 9 1 0 0 (some uC),_] rfl (.keep (.keep (.cons (.own0 2 _ _ _ (by decide)) (.cons (.own0 3 _ _ _ (by decide)) (.cons (.own0 4 _ _ _ (by decide)) (.cons (.own0 5 _ _ _ (by decide)) (.keep (.keep (.cons (.own0 6 _ _ _ (by decide)) (.keep (.keep (.cons (.own0 7 _ _ _ (by decide)) (.cons (.own0 8 _ _ _ (by decide)) (.cons (.own0 9 _ _ _ (by decide)) (.refl _))))))))))))))) ?_
 exact .m [2,3] [2,3,4,5,6,7,8,9,1] [(2,0),(3,1),(4,2),(5,3),(6,4),(7,5),(8,6),(9,7),(1,8)]
 exact rsi0
 rfl
 replace h:=zae h hc1
 refine .skip ?_
 obtain⟨v2,hv2,h⟩:=za3 h
 refine .sr [1,2] ?_
 refine .rn 1 ?_
 refine .ncall (r:=.agg [.int .i64 v2.Me,.int .i64 v2.Number,.ref 20 1 0 v2.Group.Roster.length (some uC),.ref 21 1 0 v2.Group.Members.length (some uC),.ref 22 1 0 v2.Log.length (some uC),.ref 23 5 0 v2.Votes.length (some uC),.int .u8 v2.Try.Phase,.int .i64 v2.Try.Ballot,.imm 1 (v2.Try.Members.map (D.int .i64)) 13,.str v2.Try.Wish,.str v2.Try.Value,.imm 3 (v2.Try.Promises.map TPromise.d) 13,.imm 1 (v2.Try.Accepted.map (D.int .i64)) 13,.ref 24 1 0 v2.Wishes.length (some uC),.int .i64 v2.Heard]) (eff:=[(20,some (.arr 3 1 true (v2.Group.Roster.map (D.int .i64)))),(21,some (.arr 3 1 true (v2.Group.Members.map (D.int .i64)))),(22,some (.arr 9 1 true (v2.Log.map D.str))),(23,some (.arr 75 5 true (v2.Votes.map TSeen.d))),(24,some (.arr 9 1 true (v2.Wishes.map D.str)))]) (nw:=(20,40)) [] rfl rfl rfl rfl rfl (za9 rfl zaj) rfl (zcu 20 (lb rfl) (zhd a0 v2 hv2)) (zay rfl rfl (zbb zbt _ _ _) (zay rfl rfl (zbb zbt _ _ _) (zay rfl rfl (zbb zfi _ _ _) (zay rfl rfl (zbb zh7 _ _ _) (zay rfl rfl (zbb zfi _ _ _) zd5))))) (by intro i hi;simp[D.ids,D.idsL] at hi<;>omega) rfl ⟨lb rfl,lb rfl⟩ ?_
 refine .rn 1 ?_
 refine .nn ?_
 refine .sp [1,2] ?_
 refine .sp [1,2] ?_
 obtain rfl:=sj h
 refine .ret ⟨st23 ((⟨v2.Me,v2.Number,v2.Group,v2.Log,v2.Votes,(⟨0,0,[],[],[],[],[]⟩:TAttempt),[],0⟩:TSeat),0),?_,.inr rfl,retH [7,6,5,4,3,2,1,0] ?_ ?_⟩
 refine .n0 1 3 ?_
 refine .n0 3 93 ?_
 refine .n0 1 3 ?_
 refine .n0 1 9 ?_
 refine .boxs 1 _ [_,_,_,_,_,_,_,_,.ref 40 1 0 0 (some uC),_,_,.ref 41 3 0 0 (some uC),.ref 42 1 0 0 (some uC),.ref 43 1 0 0 (some uC),_] rfl (.keep (.keep (.keep (.keep (.keep (.keep (.keep (.keep (.cons (.own0 40 _ _ _ (by decide)) (.keep (.keep (.cons (.own0 41 _ _ _ (by decide)) (.cons (.own0 42 _ _ _ (by decide)) (.cons (.own0 43 _ _ _ (by decide)) (.refl _))))))))))))))) ?_
 exact .m [2,3] [20,21,22,23,40,41,42,43,1] [(20,0),(21,1),(22,2),(23,3),(40,4),(41,5),(42,6),(43,7),(1,8)]
 exact rsi0
 rfl
theorem zrl(a0:TSeat)(r:TSeat×Int)(h:zii a0=some r):zbi Tryz.prog 18 [.agg [.int .i64 a0.Me,.int .i64 a0.Number,.imm 1 (a0.Group.Roster.map (D.int .i64)) 4,.imm 1 (a0.Group.Members.map (D.int .i64)) 4,.imm 1 (a0.Log.map D.str) 4,.imm 5 (a0.Votes.map TSeen.d) 4,.int .u8 a0.Try.Phase,.int .i64 a0.Try.Ballot,.imm 1 (a0.Try.Members.map (D.int .i64)) 4,.str a0.Try.Wish,.str a0.Try.Value,.imm 3 (a0.Try.Promises.map TPromise.d) 4,.imm 1 (a0.Try.Accepted.map (D.int .i64)) 4,.imm 1 (a0.Wishes.map D.str) 4,.int .i64 a0.Heard]] (.tuple [.agg [.int .i64 r.1.Me,.int .i64 r.1.Number,.imm 1 (r.1.Group.Roster.map (D.int .i64)) 13,.imm 1 (r.1.Group.Members.map (D.int .i64)) 13,.imm 1 (r.1.Log.map D.str) 13,.imm 5 (r.1.Votes.map TSeen.d) 13,.int .u8 r.1.Try.Phase,.int .i64 r.1.Try.Ballot,.imm 1 (r.1.Try.Members.map (D.int .i64)) 13,.str r.1.Try.Wish,.str r.1.Try.Value,.imm 3 (r.1.Try.Promises.map TPromise.d) 13,.imm 1 (r.1.Try.Accepted.map (D.int .i64)) 13,.imm 1 (r.1.Wishes.map D.str) 13,.int .i64 r.1.Heard],.int .i64 r.2]):=
 zgb (zmj (za8 (zkp (za8 rfl (za8 rfl (za8 (zbd zbt rfl rfl) (za8 (zbd zbt rfl rfl) (za8 (zbd zfi rfl rfl) (za8 (zbd zh7 rfl rfl) (za8 rfl (za8 rfl (za8 (zbd zbt rfl rfl) (za8 rfl (za8 rfl (za8 (zbd zgd rfl rfl) (za8 (zbd zbt rfl rfl) (za8 (zbd zfi rfl rfl) (za8 rfl zep)))))))))))))))) (za8 rfl zep))) (zrn a0 r h)
@[go_sem] def st28(r:TSeat×Int):St:=⟨[(4,.ptr 5 0),(5,.int .i64 r.2)],[(0,.arr 3 1 true (r.1.Group.Roster.map (D.int .i64))),(1,.arr 3 1 true (r.1.Group.Members.map (D.int .i64))),(2,.arr 9 1 true (r.1.Log.map D.str)),(3,.arr 75 5 true (r.1.Votes.map TSeen.d)),(4,.arr 9 1 true (r.1.Wishes.map D.str)),(5,.box [.int .i64 r.1.Me,.int .i64 r.1.Number,.ref 0 1 0 r.1.Group.Roster.length (some uC),.ref 1 1 0 r.1.Group.Members.length (some uC),.ref 2 1 0 r.1.Log.length (some uC),.ref 3 5 0 r.1.Votes.length (some uC),.int .u8 r.1.Try.Phase,.int .i64 r.1.Try.Ballot,.imm 1 (r.1.Try.Members.map (D.int .i64)) 13,.str r.1.Try.Wish,.str r.1.Try.Value,.imm 3 (r.1.Try.Promises.map TPromise.d) 13,.imm 1 (r.1.Try.Accepted.map (D.int .i64)) 13,.ref 4 1 0 r.1.Wishes.length (some uC),.int .i64 r.1.Heard])],6⟩
theorem ztr(a0:TSeat)(a1:List UInt8)(r:TSeat×Int)(h:zi5 a0 a1=some r):zbv Tryz.prog 19 [.agg [.int .i64 a0.Me,.int .i64 a0.Number,.imm 1 (a0.Group.Roster.map (D.int .i64)) 4,.imm 1 (a0.Group.Members.map (D.int .i64)) 4,.imm 1 (a0.Log.map D.str) 4,.imm 5 (a0.Votes.map TSeen.d) 4,.int .u8 a0.Try.Phase,.int .i64 a0.Try.Ballot,.imm 1 (a0.Try.Members.map (D.int .i64)) 4,.str a0.Try.Wish,.str a0.Try.Value,.imm 3 (a0.Try.Promises.map TPromise.d) 4,.imm 1 (a0.Try.Accepted.map (D.int .i64)) 4,.imm 1 (a0.Wishes.map D.str) 4,.int .i64 a0.Heard],.str a1] [] (.tuple [.agg [.int .i64 r.1.Me,.int .i64 r.1.Number,.ref 0 1 0 r.1.Group.Roster.length (some uC),.ref 1 1 0 r.1.Group.Members.length (some uC),.ref 2 1 0 r.1.Log.length (some uC),.ref 3 5 0 r.1.Votes.length (some uC),.int .u8 r.1.Try.Phase,.int .i64 r.1.Try.Ballot,.imm 1 (r.1.Try.Members.map (D.int .i64)) 13,.str r.1.Try.Wish,.str r.1.Try.Value,.imm 3 (r.1.Try.Promises.map TPromise.d) 13,.imm 1 (r.1.Try.Accepted.map (D.int .i64)) 13,.ref 4 1 0 r.1.Wishes.length (some uC),.int .i64 r.1.Heard],.int .i64 r.2]) [(0,some (.arr 3 1 true (r.1.Group.Roster.map (D.int .i64)))),(1,some (.arr 3 1 true (r.1.Group.Members.map (D.int .i64)))),(2,some (.arr 9 1 true (r.1.Log.map D.str))),(3,some (.arr 75 5 true (r.1.Votes.map TSeen.d))),(4,some (.arr 9 1 true (r.1.Wishes.map D.str)))] (0,59):=by
 refine zct Tryz.func19 ?_
 intro hwf
 unfold zi5 at h
 refine .ends 0 (za4 _) ?_
 refine .sp [0,1] ?_
 refine .seq ?_
 obtain⟨v1,hv1,h⟩:=za3 h
 refine .sr [1,2,4] ?_
 refine .rn 1 ?_
 refine .cl (zi3 a0 v1 hv1) ?_
 refine .rn 1 ?_
 refine .nn ?_
 refine .sp [1,2,4,6] ?_
 refine .cd ?_ ?_<;>intro hc1
 replace h:=zab h hc1
 refine .sp [4,6] ?_
 obtain rfl:=sj h
 refine .ret ⟨st28 ((⟨0,0,(⟨[],[]⟩:TGroup),[],[],(⟨0,0,[],[],[],[],[]⟩:TAttempt),[],0⟩:TSeat),v1),?_,.inr rfl,retH [4,3,2,1,0] ?_ ?_⟩
 refine .n0 1 3 ?_
 refine .n0 1 3 ?_
 refine .n0 1 9 ?_
 refine .n0 5 75 ?_
 refine .n0 1 9 ?_
 refine .boxs 1 _ [_,_,.ref 2 1 0 0 (some uC),.ref 3 1 0 0 (some uC),.ref 4 1 0 0 (some uC),.ref 5 5 0 0 (some uC),_,_,.imm 1 [] 13,_,_,.imm 3 [] 13,.imm 1 [] 13,.ref 6 1 0 0 (some uC),_] rfl (.keep (.keep (.cons (.own0 2 _ _ _ (by decide)) (.cons (.own0 3 _ _ _ (by decide)) (.cons (.own0 4 _ _ _ (by decide)) (.cons (.own0 5 _ _ _ (by decide)) (.keep (.keep (.cons (.nil12 _ _ 0 (by decide)) (.keep (.keep (.cons (.nil12 _ _ 0 (by decide)) (.cons (.nil12 _ _ 0 (by decide)) (.cons (.own0 6 _ _ _ (by decide)) (.refl _))))))))))))))) ?_
 exact .m [4,5] [2,3,4,5,6,1] [(2,0),(3,1),(4,2),(5,3),(6,4),(1,5)]
 exact rsi0
 rfl
 replace h:=zae h hc1
 refine .skip ?_
 obtain⟨v2,hv2,h⟩:=za3 h
 refine .sr [1,2,4] ?_
 refine .rn 1 ?_
 refine .ncall (r:=.agg [.int .i64 v2.Me,.int .i64 v2.Number,.ref 20 1 0 v2.Group.Roster.length (some uC),.ref 21 1 0 v2.Group.Members.length (some uC),.ref 22 1 0 v2.Log.length (some uC),.ref 23 5 0 v2.Votes.length (some uC),.int .u8 v2.Try.Phase,.int .i64 v2.Try.Ballot,.imm 1 (v2.Try.Members.map (D.int .i64)) 13,.str v2.Try.Wish,.str v2.Try.Value,.imm 3 (v2.Try.Promises.map TPromise.d) 13,.imm 1 (v2.Try.Accepted.map (D.int .i64)) 13,.ref 24 1 0 v2.Wishes.length (some uC),.int .i64 v2.Heard]) (eff:=[(20,some (.arr 3 1 true (v2.Group.Roster.map (D.int .i64)))),(21,some (.arr 3 1 true (v2.Group.Members.map (D.int .i64)))),(22,some (.arr 9 1 true (v2.Log.map D.str))),(23,some (.arr 75 5 true (v2.Votes.map TSeen.d))),(24,some (.arr 9 1 true (v2.Wishes.map D.str)))]) (nw:=(20,40)) [] rfl rfl rfl rfl rfl (za9 rfl zaj) rfl (zcu 20 (lb rfl) (zhd a0 v2 hv2)) (zay rfl rfl (zbb zbt _ _ _) (zay rfl rfl (zbb zbt _ _ _) (zay rfl rfl (zbb zfi _ _ _) (zay rfl rfl (zbb zh7 _ _ _) (zay rfl rfl (zbb zfi _ _ _) zd5))))) (by intro i hi;simp[D.ids,D.idsL] at hi<;>omega) rfl ⟨lb rfl,lb rfl⟩ ?_
 refine .rn 3 ?_
 refine .nn ?_
 refine .seq ?_
 refine .goes (.new0 5 53 (lb rfl) .refl) ?_
 refine .goes (.new0 10 55 (lb rfl) .refl) ?_
 refine .goes (.boxs 40 _ [_,_,_,_,_,_,_,_,_,_,_,_,_,_,_,.ref 41 5 0 0 (some uC),.ref 42 10 0 0 (some uC)] rfl (.keep (.keep (.keep (.keep (.keep (.keep (.keep (.keep (.keep (.keep (.keep (.keep (.keep (.keep (.keep (.cons (.own0 41 _ _ _ (by decide)) (.cons (.own0 42 _ _ _ (by decide)) (.refl _)))))))))))))))))) .refl) ?_
 obtain⟨v3,hv3,h⟩:=za3 h
 refine .sr [1,4,7] ?_
 refine .rn 2 ?_
 refine .hcall (H:=[(40,.box [.int .i64 v2.Me,.int .i64 v2.Number,.ref 20 1 0 v2.Group.Roster.length (some uC),.ref 21 1 0 v2.Group.Members.length (some uC),.ref 22 1 0 v2.Log.length (some uC),.ref 23 5 0 v2.Votes.length (some uC),.int .u8 v2.Try.Phase,.int .i64 v2.Try.Ballot,.imm 1 (v2.Try.Members.map (D.int .i64)) 13,.str v2.Try.Wish,.str v2.Try.Value,.imm 3 (v2.Try.Promises.map TPromise.d) 13,.imm 1 (v2.Try.Accepted.map (D.int .i64)) 13,.ref 24 1 0 v2.Wishes.length (some uC),.int .i64 v2.Heard,.ref 41 5 0 0 (some uC),.ref 42 10 0 0 (some uC)]),(20,.arr 3 1 true (v2.Group.Roster.map (D.int .i64))),(21,.arr 3 1 true (v2.Group.Members.map (D.int .i64))),(22,.arr 9 1 true (v2.Log.map D.str)),(23,.arr 75 5 true (v2.Votes.map TSeen.d)),(24,.arr 9 1 true (v2.Wishes.map D.str)),(41,.arr 53 5 true []),(42,.arr 55 10 true [])]) (eff:=(zgu v3.2 40 20 21 22 23 24 41 42 43 44 45 46 47 48 49)) (nw:=(43,52)) (r:=.int .i64 v3.1) rfl rfl rfl rfl rfl (zcg 43 (za6 20007 42 (za6 20006 41 (za6 20005 24 (za6 20004 23 (za6 20003 22 (za6 20002 21 (za6 20001 20 (za6 20000 40 (zjt (⟨v2,[],[]⟩:Tseat_seat) a1 v3 hv3)))))))))) (fun id b h=>zam [40,20,21,22,23,24,41,42] _ id b h) (by simp) (.inr ⟨lb rfl,lb rfl⟩) ?_
 refine .rn 1 ?_
 refine .nn ?_
 refine .sp [4,7,8] ?_
 refine .cd ?_ ?_<;>intro hc2
 replace h:=zab h hc2
 refine .sp [4,8] ?_
 obtain rfl:=sj h
 refine .ret ⟨st28 ((⟨0,0,(⟨[],[]⟩:TGroup),[],[],(⟨0,0,[],[],[],[],[]⟩:TAttempt),[],0⟩:TSeat),v3.1),?_,.inr rfl,retH [4,3,2,1,0] ?_ ?_⟩
 refine .n0 1 3 ?_
 refine .n0 1 3 ?_
 refine .n0 1 9 ?_
 refine .n0 5 75 ?_
 refine .n0 1 9 ?_
 refine .boxs 1 _ [_,_,.ref 52 1 0 0 (some uC),.ref 53 1 0 0 (some uC),.ref 54 1 0 0 (some uC),.ref 55 5 0 0 (some uC),_,_,.imm 1 [] 13,_,_,.imm 3 [] 13,.imm 1 [] 13,.ref 56 1 0 0 (some uC),_] rfl (.keep (.keep (.cons (.own0 52 _ _ _ (by decide)) (.cons (.own0 53 _ _ _ (by decide)) (.cons (.own0 54 _ _ _ (by decide)) (.cons (.own0 55 _ _ _ (by decide)) (.keep (.keep (.cons (.nil12 _ _ 0 (by decide)) (.keep (.keep (.cons (.nil12 _ _ 0 (by decide)) (.cons (.nil12 _ _ 0 (by decide)) (.cons (.own0 56 _ _ _ (by decide)) (.refl _))))))))))))))) ?_
 exact .m [4,5] [52,53,54,55,56,1] [(52,0),(53,1),(54,2),(55,3),(56,4),(1,5)]
 exact rsi0
 rfl
 replace h:=zae h hc2
 refine .skip (.seq (.pl zS [4,7] ?_))
 obtain rfl:=sj h
 refine .ret ⟨st28 (v3.2.Seat,0),?_,.inr rfl,retH [4,3,2,1,0] ?_ ?_⟩
 exact .m [4,5] [43,44,45,46,47,1] [(43,0),(44,1),(45,2),(46,3),(47,4),(1,5)]
 exact rsi0
 rfl
theorem znm(a0:TSeat)(a1:List UInt8)(r:TSeat×Int)(h:zi5 a0 a1=some r):zbi Tryz.prog 19 [.agg [.int .i64 a0.Me,.int .i64 a0.Number,.imm 1 (a0.Group.Roster.map (D.int .i64)) 4,.imm 1 (a0.Group.Members.map (D.int .i64)) 4,.imm 1 (a0.Log.map D.str) 4,.imm 5 (a0.Votes.map TSeen.d) 4,.int .u8 a0.Try.Phase,.int .i64 a0.Try.Ballot,.imm 1 (a0.Try.Members.map (D.int .i64)) 4,.str a0.Try.Wish,.str a0.Try.Value,.imm 3 (a0.Try.Promises.map TPromise.d) 4,.imm 1 (a0.Try.Accepted.map (D.int .i64)) 4,.imm 1 (a0.Wishes.map D.str) 4,.int .i64 a0.Heard],.str a1] (.tuple [.agg [.int .i64 r.1.Me,.int .i64 r.1.Number,.imm 1 (r.1.Group.Roster.map (D.int .i64)) 13,.imm 1 (r.1.Group.Members.map (D.int .i64)) 13,.imm 1 (r.1.Log.map D.str) 13,.imm 5 (r.1.Votes.map TSeen.d) 13,.int .u8 r.1.Try.Phase,.int .i64 r.1.Try.Ballot,.imm 1 (r.1.Try.Members.map (D.int .i64)) 13,.str r.1.Try.Wish,.str r.1.Try.Value,.imm 3 (r.1.Try.Promises.map TPromise.d) 13,.imm 1 (r.1.Try.Accepted.map (D.int .i64)) 13,.imm 1 (r.1.Wishes.map D.str) 13,.int .i64 r.1.Heard],.int .i64 r.2]):=
 zgb (zmj (za8 (zkp (za8 rfl (za8 rfl (za8 (zbd zbt rfl rfl) (za8 (zbd zbt rfl rfl) (za8 (zbd zfi rfl rfl) (za8 (zbd zh7 rfl rfl) (za8 rfl (za8 rfl (za8 rfl (za8 rfl (za8 rfl (za8 rfl (za8 rfl (za8 (zbd zfi rfl rfl) (za8 rfl zep)))))))))))))))) (za8 rfl zep))) (ztr a0 a1 r h)
@[go_sem] def st26(r:TSeat×(List TRecord)×(List TMail)×Int):St:=⟨[(2,.ptr 7 0),(3,.ref 5 5 0 r.2.1.length (some uC)),(4,.ref 6 10 0 r.2.2.1.length (some uC)),(5,.int .i64 r.2.2.2)],[(0,.arr 3 1 true (r.1.Group.Roster.map (D.int .i64))),(1,.arr 3 1 true (r.1.Group.Members.map (D.int .i64))),(2,.arr 9 1 true (r.1.Log.map D.str)),(3,.arr 75 5 true (r.1.Votes.map TSeen.d)),(4,.arr 9 1 true (r.1.Wishes.map D.str)),(5,.arr 53 5 true (r.2.1.map TRecord.d)),(6,.arr 55 10 true (r.2.2.1.map TMail.d)),(7,.box [.int .i64 r.1.Me,.int .i64 r.1.Number,.ref 0 1 0 r.1.Group.Roster.length (some uC),.ref 1 1 0 r.1.Group.Members.length (some uC),.ref 2 1 0 r.1.Log.length (some uC),.ref 3 5 0 r.1.Votes.length (some uC),.int .u8 r.1.Try.Phase,.int .i64 r.1.Try.Ballot,.imm 1 (r.1.Try.Members.map (D.int .i64)) 13,.str r.1.Try.Wish,.str r.1.Try.Value,.imm 3 (r.1.Try.Promises.map TPromise.d) 13,.imm 1 (r.1.Try.Accepted.map (D.int .i64)) 13,.ref 4 1 0 r.1.Wishes.length (some uC),.int .i64 r.1.Heard])],8⟩
theorem zts(a0:TSeat)(r:TSeat×(List TRecord)×(List TMail)×Int)(h:zi6 a0=some r):zbv Tryz.prog 17 [.agg [.int .i64 a0.Me,.int .i64 a0.Number,.imm 1 (a0.Group.Roster.map (D.int .i64)) 4,.imm 1 (a0.Group.Members.map (D.int .i64)) 4,.imm 1 (a0.Log.map D.str) 4,.imm 5 (a0.Votes.map TSeen.d) 4,.int .u8 a0.Try.Phase,.int .i64 a0.Try.Ballot,.imm 1 (a0.Try.Members.map (D.int .i64)) 4,.str a0.Try.Wish,.str a0.Try.Value,.imm 3 (a0.Try.Promises.map TPromise.d) 4,.imm 1 (a0.Try.Accepted.map (D.int .i64)) 4,.imm 1 (a0.Wishes.map D.str) 4,.int .i64 a0.Heard]] [] (.tuple [.agg [.int .i64 r.1.Me,.int .i64 r.1.Number,.ref 0 1 0 r.1.Group.Roster.length (some uC),.ref 1 1 0 r.1.Group.Members.length (some uC),.ref 2 1 0 r.1.Log.length (some uC),.ref 3 5 0 r.1.Votes.length (some uC),.int .u8 r.1.Try.Phase,.int .i64 r.1.Try.Ballot,.imm 1 (r.1.Try.Members.map (D.int .i64)) 13,.str r.1.Try.Wish,.str r.1.Try.Value,.imm 3 (r.1.Try.Promises.map TPromise.d) 13,.imm 1 (r.1.Try.Accepted.map (D.int .i64)) 13,.ref 4 1 0 r.1.Wishes.length (some uC),.int .i64 r.1.Heard],.ref 5 5 0 r.2.1.length (some uC),.ref 6 10 0 r.2.2.1.length (some uC),.int .i64 r.2.2.2]) [(0,some (.arr 3 1 true (r.1.Group.Roster.map (D.int .i64)))),(1,some (.arr 3 1 true (r.1.Group.Members.map (D.int .i64)))),(2,some (.arr 9 1 true (r.1.Log.map D.str))),(3,some (.arr 75 5 true (r.1.Votes.map TSeen.d))),(4,some (.arr 9 1 true (r.1.Wishes.map D.str))),(5,some (.arr 53 5 true (r.2.1.map TRecord.d))),(6,some (.arr 55 10 true (r.2.2.1.map TMail.d)))] (0,167):=by
 refine zct Tryz.func17 ?_
 intro hwf
 unfold zi6 at h
 refine .ends 0 (za4 _) ?_
 refine .sp [0] ?_
 refine .seq ?_
 obtain⟨v1,hv1,h⟩:=za3 h
 refine .sr [1,2] ?_
 refine .rn 1 ?_
 refine .cl (zi3 a0 v1 hv1) ?_
 refine .rn 1 ?_
 refine .nn ?_
 refine .sp [1,2,6] ?_
 refine .cd ?_ ?_<;>intro hc1
 replace h:=zab h hc1
 refine .sp [2,6] ?_
 obtain rfl:=sj h
 refine .ret ⟨st26 ((⟨0,0,(⟨[],[]⟩:TGroup),[],[],(⟨0,0,[],[],[],[],[]⟩:TAttempt),[],0⟩:TSeat),[],[],v1),?_,.inr rfl,retH [6,5,4,3,2,1,0] ?_ ?_⟩
 refine .n0 1 3 ?_
 refine .n0 1 3 ?_
 refine .n0 1 9 ?_
 refine .n0 5 75 ?_
 refine .n0 1 9 ?_
 refine .n0 5 53 ?_
 refine .n0 10 55 ?_
 refine .boxs 1 _ [_,_,.ref 2 1 0 0 (some uC),.ref 3 1 0 0 (some uC),.ref 4 1 0 0 (some uC),.ref 5 5 0 0 (some uC),_,_,.imm 1 [] 13,_,_,.imm 3 [] 13,.imm 1 [] 13,.ref 6 1 0 0 (some uC),_] rfl (.keep (.keep (.cons (.own0 2 _ _ _ (by decide)) (.cons (.own0 3 _ _ _ (by decide)) (.cons (.own0 4 _ _ _ (by decide)) (.cons (.own0 5 _ _ _ (by decide)) (.keep (.keep (.cons (.nil12 _ _ 0 (by decide)) (.keep (.keep (.cons (.nil12 _ _ 0 (by decide)) (.cons (.nil12 _ _ 0 (by decide)) (.cons (.own0 6 _ _ _ (by decide)) (.refl _))))))))))))))) ?_
 refine .w0 3 7 5 ?_
 refine .w0 4 8 10 ?_
 exact .m [2,3,4,5] [2,3,4,5,6,7,8,1] [(2,0),(3,1),(4,2),(5,3),(6,4),(7,5),(8,6),(1,7)]
 exact rsi0
 rfl
 replace h:=zae h hc1
 refine .skip ?_
 obtain⟨v2,hv2,h⟩:=za3 h
 refine .sr [1,2] ?_
 refine .rn 1 ?_
 refine .ncall (r:=.agg [.int .i64 v2.Me,.int .i64 v2.Number,.ref 20 1 0 v2.Group.Roster.length (some uC),.ref 21 1 0 v2.Group.Members.length (some uC),.ref 22 1 0 v2.Log.length (some uC),.ref 23 5 0 v2.Votes.length (some uC),.int .u8 v2.Try.Phase,.int .i64 v2.Try.Ballot,.imm 1 (v2.Try.Members.map (D.int .i64)) 13,.str v2.Try.Wish,.str v2.Try.Value,.imm 3 (v2.Try.Promises.map TPromise.d) 13,.imm 1 (v2.Try.Accepted.map (D.int .i64)) 13,.ref 24 1 0 v2.Wishes.length (some uC),.int .i64 v2.Heard]) (eff:=[(20,some (.arr 3 1 true (v2.Group.Roster.map (D.int .i64)))),(21,some (.arr 3 1 true (v2.Group.Members.map (D.int .i64)))),(22,some (.arr 9 1 true (v2.Log.map D.str))),(23,some (.arr 75 5 true (v2.Votes.map TSeen.d))),(24,some (.arr 9 1 true (v2.Wishes.map D.str)))]) (nw:=(20,40)) [] rfl rfl rfl rfl rfl (za9 rfl zaj) rfl (zcu 20 (lb rfl) (zhd a0 v2 hv2)) (zay rfl rfl (zbb zbt _ _ _) (zay rfl rfl (zbb zbt _ _ _) (zay rfl rfl (zbb zfi _ _ _) (zay rfl rfl (zbb zh7 _ _ _) (zay rfl rfl (zbb zfi _ _ _) zd5))))) (by intro i hi;simp[D.ids,D.idsL] at hi<;>omega) rfl ⟨lb rfl,lb rfl⟩ ?_
 refine .rn 3 ?_
 refine .nn ?_
 refine .goes (.new0 5 53 (lb rfl) .refl) ?_
 refine .goes (.new0 10 55 (lb rfl) .refl) ?_
 refine .goes (.boxs 40 _ [_,_,_,_,_,_,_,_,_,_,_,_,_,_,_,.ref 41 5 0 0 (some uC),.ref 42 10 0 0 (some uC)] rfl (.keep (.keep (.keep (.keep (.keep (.keep (.keep (.keep (.keep (.keep (.keep (.keep (.keep (.keep (.keep (.cons (.own0 41 _ _ _ (by decide)) (.cons (.own0 42 _ _ _ (by decide)) (.refl _)))))))))))))))))) .refl) ?_
 obtain⟨v3,hv3,h⟩:=za3 h
 refine .sr [2,7] ?_
 refine .rn 1 ?_
 refine .hcall (H:=[(40,.box [.int .i64 v2.Me,.int .i64 v2.Number,.ref 20 1 0 v2.Group.Roster.length (some uC),.ref 21 1 0 v2.Group.Members.length (some uC),.ref 22 1 0 v2.Log.length (some uC),.ref 23 5 0 v2.Votes.length (some uC),.int .u8 v2.Try.Phase,.int .i64 v2.Try.Ballot,.imm 1 (v2.Try.Members.map (D.int .i64)) 13,.str v2.Try.Wish,.str v2.Try.Value,.imm 3 (v2.Try.Promises.map TPromise.d) 13,.imm 1 (v2.Try.Accepted.map (D.int .i64)) 13,.ref 24 1 0 v2.Wishes.length (some uC),.int .i64 v2.Heard,.ref 41 5 0 0 (some uC),.ref 42 10 0 0 (some uC)]),(20,.arr 3 1 true (v2.Group.Roster.map (D.int .i64))),(21,.arr 3 1 true (v2.Group.Members.map (D.int .i64))),(22,.arr 9 1 true (v2.Log.map D.str)),(23,.arr 75 5 true (v2.Votes.map TSeen.d)),(24,.arr 9 1 true (v2.Wishes.map D.str)),(41,.arr 53 5 true []),(42,.arr 55 10 true [])]) (eff:=(zgu v3 40 20 21 22 23 24 41 42 43 44 45 46 47 48 49)) (nw:=(43,165)) (r:=.tuple []) rfl rfl rfl rfl rfl (zcg 43 (za6 20007 42 (za6 20006 41 (za6 20005 24 (za6 20004 23 (za6 20003 22 (za6 20002 21 (za6 20001 20 (za6 20000 40 (zob (⟨v2,[],[]⟩:Tseat_seat) v3 hv3)))))))))) (fun id b h=>zam [40,20,21,22,23,24,41,42] _ id b h) (by simp) (.inr ⟨lb rfl,lb rfl⟩) ?_
 refine .nn ?_
 refine .sr [2,7] ?_
 refine .rd 6 ?_
 refine .rd 6 ?_
 refine .rd 4 ?_
 refine .nd ?_
 obtain rfl:=sj h
 refine .ret ⟨st26 (v3.Seat,v3.fRecs,v3.fMail,0),?_,.inr rfl,retH [6,5,4,3,2,1,0] ?_ ?_⟩
 exact .m [2,3,4,5] [43,44,45,46,47,48,49,1] [(43,0),(44,1),(45,2),(46,3),(47,4),(48,5),(49,6),(1,7)]
 exact rsi0
 rfl
theorem znn(a0:TSeat)(r:TSeat×(List TRecord)×(List TMail)×Int)(h:zi6 a0=some r):zbi Tryz.prog 17 [.agg [.int .i64 a0.Me,.int .i64 a0.Number,.imm 1 (a0.Group.Roster.map (D.int .i64)) 4,.imm 1 (a0.Group.Members.map (D.int .i64)) 4,.imm 1 (a0.Log.map D.str) 4,.imm 5 (a0.Votes.map TSeen.d) 4,.int .u8 a0.Try.Phase,.int .i64 a0.Try.Ballot,.imm 1 (a0.Try.Members.map (D.int .i64)) 4,.str a0.Try.Wish,.str a0.Try.Value,.imm 3 (a0.Try.Promises.map TPromise.d) 4,.imm 1 (a0.Try.Accepted.map (D.int .i64)) 4,.imm 1 (a0.Wishes.map D.str) 4,.int .i64 a0.Heard]] (.tuple [.agg [.int .i64 r.1.Me,.int .i64 r.1.Number,.imm 1 (r.1.Group.Roster.map (D.int .i64)) 13,.imm 1 (r.1.Group.Members.map (D.int .i64)) 13,.imm 1 (r.1.Log.map D.str) 13,.imm 5 (r.1.Votes.map TSeen.d) 13,.int .u8 r.1.Try.Phase,.int .i64 r.1.Try.Ballot,.imm 1 (r.1.Try.Members.map (D.int .i64)) 13,.str r.1.Try.Wish,.str r.1.Try.Value,.imm 3 (r.1.Try.Promises.map TPromise.d) 13,.imm 1 (r.1.Try.Accepted.map (D.int .i64)) 13,.imm 1 (r.1.Wishes.map D.str) 13,.int .i64 r.1.Heard],.imm 5 (r.2.1.map TRecord.d) 13,.imm 10 (r.2.2.1.map TMail.d) 13,.int .i64 r.2.2.2]):=
 zgb (zmj (za8 (zkp (za8 rfl (za8 rfl (za8 (zbd zbt rfl rfl) (za8 (zbd zbt rfl rfl) (za8 (zbd zfi rfl rfl) (za8 (zbd zh7 rfl rfl) (za8 rfl (za8 rfl (za8 rfl (za8 rfl (za8 rfl (za8 rfl (za8 rfl (za8 (zbd zfi rfl rfl) (za8 rfl zep)))))))))))))))) (za8 (zbd zsq rfl rfl) (za8 (zbd zx8 rfl rfl) (za8 rfl zep))))) (zts a0 r h)
@[go_sem] def st24(r:TSeat×(List TRecord)×(List TMail)×Int):St:=⟨[(4,.ptr 7 0),(5,.ref 5 5 0 r.2.1.length (some uC)),(6,.ref 6 10 0 r.2.2.1.length (some uC)),(7,.int .i64 r.2.2.2)],[(0,.arr 3 1 true (r.1.Group.Roster.map (D.int .i64))),(1,.arr 3 1 true (r.1.Group.Members.map (D.int .i64))),(2,.arr 9 1 true (r.1.Log.map D.str)),(3,.arr 75 5 true (r.1.Votes.map TSeen.d)),(4,.arr 9 1 true (r.1.Wishes.map D.str)),(5,.arr 53 5 true (r.2.1.map TRecord.d)),(6,.arr 55 10 true (r.2.2.1.map TMail.d)),(7,.box [.int .i64 r.1.Me,.int .i64 r.1.Number,.ref 0 1 0 r.1.Group.Roster.length (some uC),.ref 1 1 0 r.1.Group.Members.length (some uC),.ref 2 1 0 r.1.Log.length (some uC),.ref 3 5 0 r.1.Votes.length (some uC),.int .u8 r.1.Try.Phase,.int .i64 r.1.Try.Ballot,.imm 1 (r.1.Try.Members.map (D.int .i64)) 13,.str r.1.Try.Wish,.str r.1.Try.Value,.imm 3 (r.1.Try.Promises.map TPromise.d) 13,.imm 1 (r.1.Try.Accepted.map (D.int .i64)) 13,.ref 4 1 0 r.1.Wishes.length (some uC),.int .i64 r.1.Heard])],8⟩
theorem zr2(a0:TSeat)(a1:TMail)(r:TSeat×(List TRecord)×(List TMail)×Int)(h:zhi a0 a1=some r):zbv Tryz.prog 16 [.agg [.int .i64 a0.Me,.int .i64 a0.Number,.imm 1 (a0.Group.Roster.map (D.int .i64)) 4,.imm 1 (a0.Group.Members.map (D.int .i64)) 4,.imm 1 (a0.Log.map D.str) 4,.imm 5 (a0.Votes.map TSeen.d) 4,.int .u8 a0.Try.Phase,.int .i64 a0.Try.Ballot,.imm 1 (a0.Try.Members.map (D.int .i64)) 4,.str a0.Try.Wish,.str a0.Try.Value,.imm 3 (a0.Try.Promises.map TPromise.d) 4,.imm 1 (a0.Try.Accepted.map (D.int .i64)) 4,.imm 1 (a0.Wishes.map D.str) 4,.int .i64 a0.Heard],.agg [.int .i64 a1.From,.int .i64 a1.To,.int .u8 a1.Kind,.int .i64 a1.Group,.int .i64 a1.Slot,.int .i64 a1.Ballot,.int .i64 a1.Prior,.str a1.Value,.int .i64 a1.Id,.int .i64 a1.Time]] [] (.tuple [.agg [.int .i64 r.1.Me,.int .i64 r.1.Number,.ref 0 1 0 r.1.Group.Roster.length (some uC),.ref 1 1 0 r.1.Group.Members.length (some uC),.ref 2 1 0 r.1.Log.length (some uC),.ref 3 5 0 r.1.Votes.length (some uC),.int .u8 r.1.Try.Phase,.int .i64 r.1.Try.Ballot,.imm 1 (r.1.Try.Members.map (D.int .i64)) 13,.str r.1.Try.Wish,.str r.1.Try.Value,.imm 3 (r.1.Try.Promises.map TPromise.d) 13,.imm 1 (r.1.Try.Accepted.map (D.int .i64)) 13,.ref 4 1 0 r.1.Wishes.length (some uC),.int .i64 r.1.Heard],.ref 5 5 0 r.2.1.length (some uC),.ref 6 10 0 r.2.2.1.length (some uC),.int .i64 r.2.2.2]) [(0,some (.arr 3 1 true (r.1.Group.Roster.map (D.int .i64)))),(1,some (.arr 3 1 true (r.1.Group.Members.map (D.int .i64)))),(2,some (.arr 9 1 true (r.1.Log.map D.str))),(3,some (.arr 75 5 true (r.1.Votes.map TSeen.d))),(4,some (.arr 9 1 true (r.1.Wishes.map D.str))),(5,some (.arr 53 5 true (r.2.1.map TRecord.d))),(6,some (.arr 55 10 true (r.2.2.1.map TMail.d)))] (0,167):=by
 refine zct Tryz.func16 ?_
 intro hwf
 unfold zhi at h
 refine .ends 0 (za4 _) ?_
 refine .sp [0,1] ?_
 refine .seq ?_
 obtain⟨v1,hv1,h⟩:=za3 h
 refine .sr [2,3,4] ?_
 refine .rn 1 ?_
 refine .cl (zi3 a0 v1 hv1) ?_
 refine .rn 1 ?_
 refine .nn ?_
 refine .sp [2,3,4,8] ?_
 refine .cd ?_ ?_<;>intro hc1
 replace h:=zab h hc1
 refine .sp [4,8] ?_
 obtain rfl:=sj h
 refine .ret ⟨st24 ((⟨0,0,(⟨[],[]⟩:TGroup),[],[],(⟨0,0,[],[],[],[],[]⟩:TAttempt),[],0⟩:TSeat),[],[],v1),?_,.inr rfl,retH [6,5,4,3,2,1,0] ?_ ?_⟩
 refine .n0 1 3 ?_
 refine .n0 1 3 ?_
 refine .n0 1 9 ?_
 refine .n0 5 75 ?_
 refine .n0 1 9 ?_
 refine .n0 5 53 ?_
 refine .n0 10 55 ?_
 refine .boxs 2 _ [_,_,.ref 3 1 0 0 (some uC),.ref 4 1 0 0 (some uC),.ref 5 1 0 0 (some uC),.ref 6 5 0 0 (some uC),_,_,.imm 1 [] 13,_,_,.imm 3 [] 13,.imm 1 [] 13,.ref 7 1 0 0 (some uC),_] rfl (.keep (.keep (.cons (.own0 3 _ _ _ (by decide)) (.cons (.own0 4 _ _ _ (by decide)) (.cons (.own0 5 _ _ _ (by decide)) (.cons (.own0 6 _ _ _ (by decide)) (.keep (.keep (.cons (.nil12 _ _ 0 (by decide)) (.keep (.keep (.cons (.nil12 _ _ 0 (by decide)) (.cons (.nil12 _ _ 0 (by decide)) (.cons (.own0 7 _ _ _ (by decide)) (.refl _))))))))))))))) ?_
 refine .w0 5 8 5 ?_
 refine .w0 6 9 10 ?_
 exact .m [4,5,6,7] [3,4,5,6,7,8,9,2] [(3,0),(4,1),(5,2),(6,3),(7,4),(8,5),(9,6),(2,7)]
 exact rsi0
 rfl
 replace h:=zae h hc1
 refine .skip (.seq ?_)
 obtain⟨v2,hv2,h⟩:=za3 h
 refine .sr [2,3,4] ?_
 refine .rn 1 ?_
 refine .cl (zrk a1 v2 hv2) ?_
 refine .rn 1 ?_
 refine .nn ?_
 refine .sp [2,3,4,9] ?_
 refine .cd ?_ ?_<;>intro hc2
 replace h:=zab h hc2
 refine .sp [4,9] ?_
 obtain rfl:=sj h
 refine .ret ⟨st24 ((⟨0,0,(⟨[],[]⟩:TGroup),[],[],(⟨0,0,[],[],[],[],[]⟩:TAttempt),[],0⟩:TSeat),[],[],v2),?_,.inr rfl,retH [6,5,4,3,2,1,0] ?_ ?_⟩
 refine .n0 1 3 ?_
 refine .n0 1 3 ?_
 refine .n0 1 9 ?_
 refine .n0 5 75 ?_
 refine .n0 1 9 ?_
 refine .n0 5 53 ?_
 refine .n0 10 55 ?_
 refine .boxs 2 _ [_,_,.ref 3 1 0 0 (some uC),.ref 4 1 0 0 (some uC),.ref 5 1 0 0 (some uC),.ref 6 5 0 0 (some uC),_,_,.imm 1 [] 13,_,_,.imm 3 [] 13,.imm 1 [] 13,.ref 7 1 0 0 (some uC),_] rfl (.keep (.keep (.cons (.own0 3 _ _ _ (by decide)) (.cons (.own0 4 _ _ _ (by decide)) (.cons (.own0 5 _ _ _ (by decide)) (.cons (.own0 6 _ _ _ (by decide)) (.keep (.keep (.cons (.nil12 _ _ 0 (by decide)) (.keep (.keep (.cons (.nil12 _ _ 0 (by decide)) (.cons (.nil12 _ _ 0 (by decide)) (.cons (.own0 7 _ _ _ (by decide)) (.refl _))))))))))))))) ?_
 refine .w0 5 8 5 ?_
 refine .w0 6 9 10 ?_
 exact .m [4,5,6,7] [3,4,5,6,7,8,9,2] [(3,0),(4,1),(5,2),(6,3),(7,4),(8,5),(9,6),(2,7)]
 exact rsi0
 rfl
 replace h:=zae h hc2
 refine .skip (.seq ?_)
 obtain⟨v3,hv3,h⟩:=za3 h
 refine .sr [2,3,4] ?_
 refine .rn 6 ?_
 refine .rn 6 ?_
 refine .rn 6 ?_
 refine .rn 6 ?_
 refine .rn 3 ?_
 refine .gcall rfl rfl rfl rfl rfl (fun hg=>⟨[],[.imm 1 (a0.Group.Roster.map (D.int .i64)) 4,.int .i64 a1.From],_,rfl,gd hg,rfl,(zdg a0.Group.Roster a1.From v3 (zab hv3 hg))⟩) ?_
 refine .rn 3 ?_
 refine .nn ?_
 refine .cd ?_ ?_<;>intro hc3
 replace h:=zab h hc3
 refine .sp [4] ?_
 obtain rfl:=sj h
 refine .ret ⟨st24 ((⟨0,0,(⟨[],[]⟩:TGroup),[],[],(⟨0,0,[],[],[],[],[]⟩:TAttempt),[],0⟩:TSeat),[],[],6),?_,.inr rfl,retH [6,5,4,3,2,1,0] ?_ ?_⟩
 refine .n0 1 3 ?_
 refine .n0 1 3 ?_
 refine .n0 1 9 ?_
 refine .n0 5 75 ?_
 refine .n0 1 9 ?_
 refine .n0 5 53 ?_
 refine .n0 10 55 ?_
 refine .boxs 2 _ [_,_,.ref 3 1 0 0 (some uC),.ref 4 1 0 0 (some uC),.ref 5 1 0 0 (some uC),.ref 6 5 0 0 (some uC),_,_,.imm 1 [] 13,_,_,.imm 3 [] 13,.imm 1 [] 13,.ref 7 1 0 0 (some uC),_] rfl (.keep (.keep (.cons (.own0 3 _ _ _ (by decide)) (.cons (.own0 4 _ _ _ (by decide)) (.cons (.own0 5 _ _ _ (by decide)) (.cons (.own0 6 _ _ _ (by decide)) (.keep (.keep (.cons (.nil12 _ _ 0 (by decide)) (.keep (.keep (.cons (.nil12 _ _ 0 (by decide)) (.cons (.nil12 _ _ 0 (by decide)) (.cons (.own0 7 _ _ _ (by decide)) (.refl _))))))))))))))) ?_
 refine .w0 5 8 5 ?_
 refine .w0 6 9 10 ?_
 exact .m [4,5,6,7] [3,4,5,6,7,8,9,2] [(3,0),(4,1),(5,2),(6,3),(7,4),(8,5),(9,6),(2,7)]
 exact rsi0
 rfl
 replace h:=zae h hc3
 refine .skip ?_
 obtain⟨v4,hv4,h⟩:=za3 h
 refine .sr [2,3,4] ?_
 refine .rn 1 ?_
 refine .ncall (r:=.agg [.int .i64 v4.Me,.int .i64 v4.Number,.ref 20 1 0 v4.Group.Roster.length (some uC),.ref 21 1 0 v4.Group.Members.length (some uC),.ref 22 1 0 v4.Log.length (some uC),.ref 23 5 0 v4.Votes.length (some uC),.int .u8 v4.Try.Phase,.int .i64 v4.Try.Ballot,.imm 1 (v4.Try.Members.map (D.int .i64)) 13,.str v4.Try.Wish,.str v4.Try.Value,.imm 3 (v4.Try.Promises.map TPromise.d) 13,.imm 1 (v4.Try.Accepted.map (D.int .i64)) 13,.ref 24 1 0 v4.Wishes.length (some uC),.int .i64 v4.Heard]) (eff:=[(20,some (.arr 3 1 true (v4.Group.Roster.map (D.int .i64)))),(21,some (.arr 3 1 true (v4.Group.Members.map (D.int .i64)))),(22,some (.arr 9 1 true (v4.Log.map D.str))),(23,some (.arr 75 5 true (v4.Votes.map TSeen.d))),(24,some (.arr 9 1 true (v4.Wishes.map D.str)))]) (nw:=(20,40)) [] rfl rfl rfl rfl rfl (za9 rfl zaj) rfl (zcu 20 (lb rfl) (zhd a0 v4 hv4)) (zay rfl rfl (zbb zbt _ _ _) (zay rfl rfl (zbb zbt _ _ _) (zay rfl rfl (zbb zfi _ _ _) (zay rfl rfl (zbb zh7 _ _ _) (zay rfl rfl (zbb zfi _ _ _) zd5))))) (by intro i hi;simp[D.ids,D.idsL] at hi<;>omega) rfl ⟨lb rfl,lb rfl⟩ ?_
 refine .rn 3 ?_
 refine .nn ?_
 refine .goes (.new0 5 53 (lb rfl) .refl) ?_
 refine .goes (.new0 10 55 (lb rfl) .refl) ?_
 refine .goes (.boxs 40 _ [_,_,_,_,_,_,_,_,_,_,_,_,_,_,_,.ref 41 5 0 0 (some uC),.ref 42 10 0 0 (some uC)] rfl (.keep (.keep (.keep (.keep (.keep (.keep (.keep (.keep (.keep (.keep (.keep (.keep (.keep (.keep (.keep (.cons (.own0 41 _ _ _ (by decide)) (.cons (.own0 42 _ _ _ (by decide)) (.refl _)))))))))))))))))) .refl) ?_
 obtain⟨v5,hv5,h⟩:=za3 h
 refine .sr [3,4,10] ?_
 refine .rn 2 ?_
 refine .hcall (H:=[(40,.box [.int .i64 v4.Me,.int .i64 v4.Number,.ref 20 1 0 v4.Group.Roster.length (some uC),.ref 21 1 0 v4.Group.Members.length (some uC),.ref 22 1 0 v4.Log.length (some uC),.ref 23 5 0 v4.Votes.length (some uC),.int .u8 v4.Try.Phase,.int .i64 v4.Try.Ballot,.imm 1 (v4.Try.Members.map (D.int .i64)) 13,.str v4.Try.Wish,.str v4.Try.Value,.imm 3 (v4.Try.Promises.map TPromise.d) 13,.imm 1 (v4.Try.Accepted.map (D.int .i64)) 13,.ref 24 1 0 v4.Wishes.length (some uC),.int .i64 v4.Heard,.ref 41 5 0 0 (some uC),.ref 42 10 0 0 (some uC)]),(20,.arr 3 1 true (v4.Group.Roster.map (D.int .i64))),(21,.arr 3 1 true (v4.Group.Members.map (D.int .i64))),(22,.arr 9 1 true (v4.Log.map D.str)),(23,.arr 75 5 true (v4.Votes.map TSeen.d)),(24,.arr 9 1 true (v4.Wishes.map D.str)),(41,.arr 53 5 true []),(42,.arr 55 10 true [])]) (eff:=(zgu v5 40 20 21 22 23 24 41 42 43 44 45 46 47 48 49)) (nw:=(43,165)) (r:=.tuple []) rfl rfl rfl rfl rfl (zcg 43 (za6 20007 42 (za6 20006 41 (za6 20005 24 (za6 20004 23 (za6 20003 22 (za6 20002 21 (za6 20001 20 (za6 20000 40 (zmy (⟨v4,[],[]⟩:Tseat_seat) a1 v5 hv5)))))))))) (fun id b h=>zam [40,20,21,22,23,24,41,42] _ id b h) (by simp) (.inr ⟨lb rfl,lb rfl⟩) ?_
 refine .nn ?_
 refine .sr [4,10] ?_
 refine .rd 6 ?_
 refine .rd 6 ?_
 refine .rd 4 ?_
 refine .nd ?_
 obtain rfl:=sj h
 refine .ret ⟨st24 (v5.Seat,v5.fRecs,v5.fMail,0),?_,.inr rfl,retH [6,5,4,3,2,1,0] ?_ ?_⟩
 exact .m [4,5,6,7] [43,44,45,46,47,48,49,2] [(43,0),(44,1),(45,2),(46,3),(47,4),(48,5),(49,6),(2,7)]
 exact rsi0
 rfl
theorem zqw(a0:TSeat)(a1:TMail)(r:TSeat×(List TRecord)×(List TMail)×Int)(h:zhi a0 a1=some r):zbi Tryz.prog 16 [.agg [.int .i64 a0.Me,.int .i64 a0.Number,.imm 1 (a0.Group.Roster.map (D.int .i64)) 4,.imm 1 (a0.Group.Members.map (D.int .i64)) 4,.imm 1 (a0.Log.map D.str) 4,.imm 5 (a0.Votes.map TSeen.d) 4,.int .u8 a0.Try.Phase,.int .i64 a0.Try.Ballot,.imm 1 (a0.Try.Members.map (D.int .i64)) 4,.str a0.Try.Wish,.str a0.Try.Value,.imm 3 (a0.Try.Promises.map TPromise.d) 4,.imm 1 (a0.Try.Accepted.map (D.int .i64)) 4,.imm 1 (a0.Wishes.map D.str) 4,.int .i64 a0.Heard],.agg [.int .i64 a1.From,.int .i64 a1.To,.int .u8 a1.Kind,.int .i64 a1.Group,.int .i64 a1.Slot,.int .i64 a1.Ballot,.int .i64 a1.Prior,.str a1.Value,.int .i64 a1.Id,.int .i64 a1.Time]] (.tuple [.agg [.int .i64 r.1.Me,.int .i64 r.1.Number,.imm 1 (r.1.Group.Roster.map (D.int .i64)) 13,.imm 1 (r.1.Group.Members.map (D.int .i64)) 13,.imm 1 (r.1.Log.map D.str) 13,.imm 5 (r.1.Votes.map TSeen.d) 13,.int .u8 r.1.Try.Phase,.int .i64 r.1.Try.Ballot,.imm 1 (r.1.Try.Members.map (D.int .i64)) 13,.str r.1.Try.Wish,.str r.1.Try.Value,.imm 3 (r.1.Try.Promises.map TPromise.d) 13,.imm 1 (r.1.Try.Accepted.map (D.int .i64)) 13,.imm 1 (r.1.Wishes.map D.str) 13,.int .i64 r.1.Heard],.imm 5 (r.2.1.map TRecord.d) 13,.imm 10 (r.2.2.1.map TMail.d) 13,.int .i64 r.2.2.2]):=
 zgb (zmj (za8 (zkp (za8 rfl (za8 rfl (za8 (zbd zbt rfl rfl) (za8 (zbd zbt rfl rfl) (za8 (zbd zfi rfl rfl) (za8 (zbd zh7 rfl rfl) (za8 rfl (za8 rfl (za8 rfl (za8 rfl (za8 rfl (za8 rfl (za8 rfl (za8 (zbd zfi rfl rfl) (za8 rfl zep)))))))))))))))) (za8 (zbd zsq rfl rfl) (za8 (zbd zx8 rfl rfl) (za8 rfl zep))))) (zr2 a0 a1 r h)
end Go.Proofs
section

end
namespace Go.Proofs
open Go.Tm
set_option linter.unusedVariables false
def zh8:Nat->(List Int)->Int->Option ((List Int)×Int)
 |0,_,_=>none
 |fu1+1,l2,n2=>
  if n2>127 then
  if l2.length+[(wr .u8 (bitw .or .i64 (bitw .and .i64 n2 127) 128))].length<1000000 then
  zh8 fu1 (l2++[(wr .u8 (bitw .or .i64 (bitw .and .i64 n2 127) 128))]) (shw false .i64 n2 7)
  else none
  else
  some (l2,n2)
def znf(a1:Int):Option ((List Int)):=
 Option.bind (α:=(List Int)×Int) (zh8 (11) [] a1) fun(l1,n1)=>
 if l1.length+[(wr .u8 n1)].length<1000000 then
 some (l1++[(wr .u8 n1)])
 else none
def zg8:Nat->(List Int)->Int->Option ((List Int)×Int)
 |0,_,_=>none
 |fu1+1,l2,n2=>
  if n2>127 then
  if l2.length+[(wr .u8 (bitw .or .i64 (bitw .and .i64 n2 127) 128))].length<1000000 then
  zg8 fu1 (l2++[(wr .u8 (bitw .or .i64 (bitw .and .i64 n2 127) 128))]) (shw false .i64 n2 7)
  else none
  else
  some (l2,n2)
def zor(a0:List Int)(a1:Int):Option ((List Int)):=
 Option.bind (α:=(List Int)×Int) (zg8 (11) a0 a1) fun(l1,n1)=>
 if l1.length+[(wr .u8 n1)].length<1000000 then
 some (l1++[(wr .u8 n1)])
 else none
def zsv(a0:Int):Option ((List Int)×Int):=
 Option.bind (zme a0) fun v1=>
 if ¬(v1=true) then
 some ([],2)
 else
 Option.bind (znf a0) fun v2=>
 some (v2,0)
def zqj(a0:List UInt8):Option ((List Int)×Int):=
 if(a0.length:Int)>4096 then
 some ([],3)
 else
 Option.bind (znf (a0.length:Int)) fun v1=>
 if v1.length+(zkm a0).length<1000000 then
 some ((v1++(zkm a0)),0)
 else none
def zgq:List Int->(List Int)->Option (((List Int)×Int) ⊕ ((List Int)))
 |[],l2=>
  some (.inr l2)
 |y1::rest1,l2=>
  Option.bind (zme (y1)) fun v2=>
  if ¬(v2=true) then
  some (.inl ([],2))
  else
  Option.bind (zor l2 (y1)) fun v3=>
  zgq rest1 v3
def zqk(a0:List Int):Option ((List Int)×Int):=
 if(a0.length:Int)>4096 then
 some ([],4)
 else
 Option.bind (znf (a0.length:Int)) fun v1=>
 Option.bind (α:=((List Int)×Int) ⊕ ((List Int))) (zgq a0 v1) fun z=>match z with
 |(.inl r)=>some r
 |(.inr l1)=>
 some (l1,0)
def ze2(a0:List Int):Nat->(List Int)->Int->Option ((List Int))
 |0,_,_=>none
 |fu1+1,l1,n1=>
  if n1<(a0.length:Int) then
  if(0<=n1/\n1<(a0.length:Int)) then
  Option.bind (zsv (a0.getD n1.toNat default)) fun v1=>
  if l1.length+v1.1.length<1000000 then
  ze2 a0 fu1 (l1++v1.1) (wr .i64 (n1+1))
  else none
  else none
  else
  some l1
def zev(a0:List Int)(c0:List Int):Option ((List Int)):=
 ze2 a0 (a0.length+1) c0 0
def zi2(a0:List Int)(c0:List Int):Option ((List Int)):=
 Option.bind (zqk a0) fun v1=>
 if c0.length+v1.1.length<1000000 then
 some (c0++v1.1)
 else none
def zi1(a0:List UInt8)(c0:List Int):Option ((List Int)):=
 Option.bind (zqj a0) fun v1=>
 if c0.length+v1.1.length<1000000 then
 some (c0++v1.1)
 else none
def zli(a0:TCommand):Option ((List UInt8)):=
 Option.bind (α:=(List Int)) (if a0.Kind=1 then
 Option.bind (zev [a0.Message.Id] [a0.Kind]) fun v1=>
 Option.bind (zi2 a0.Message.Groups v1) fun v2=>
 Option.bind (zev [a0.Message.Topic] v2) fun v3=>
 Option.bind (zi1 a0.Message.Key v3) fun v4=>
 Option.bind (zi1 a0.Message.Body v4) fun v5=>
 some v5
 else
 if a0.Kind=2 then
 Option.bind (zev [a0.Id,a0.Time] [a0.Kind]) fun v6=>
 some v6
 else
 if a0.Kind=3 then
 Option.bind (zi2 a0.Members [a0.Kind]) fun v7=>
 some v7
 else
 if a0.Kind=4 then
 Option.bind (zev [a0.Id,a0.Topic,a0.Who,a0.N] [a0.Kind]) fun v8=>
 some v8
 else
 Option.bind (α:=Bool) (if a0.Kind=5 then
 some (a0.Kind==5)
 else
 some (a0.Kind==6)) fun b1=>
 if b1=true then
 Option.bind (zev [a0.Id,a0.Topic,a0.N] [a0.Kind]) fun v9=>
 some v9
 else
 some [a0.Kind]) fun l1=>
 some (zv8 l1)
def zko(a0:TCommand):Option ((List UInt8)×Int):=
 Option.bind (zef a0) fun v1=>
 if ¬(v1=0) then
 some ([],v1)
 else
 Option.bind (zli a0) fun v2=>
 some (v2,0)
end Go.Proofs
