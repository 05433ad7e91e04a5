/- Texts of the proof. -/
import Derived.Test.YtbedjbhndfbpcaaGreatSeatOnePp
import Derived.Test.YtbedjbhndfbpcaaGreatSeatOnePo
import Derived.Test.YtbedjbhndfbpcaaGreatSeatOnePq
import Derived.Test.YtbedjbhndfbpcaaGreatSeatOnePu
import Derived.Test.YtbedjbhndfbpcaaGreatSeatOnePr
import Derived.Test.YtbedjbhndfbpcaaGreatSeatOnePs
import Derived.Test.YtbedjbhndfbpcaaGreatSeatOnePt
import Derived.Test.YtbedjbhndfbpcaaGreatSeatOnePx
namespace Go.Proofs
open Go.Tm Go.RowKit Go.WideShapes
set_option maxRecDepth 100000
set_option maxHeartbeats 40000000
set_option linter.unusedSimpArgs false
set_option linter.unusedVariables false
attribute [local go_sem, local simp] zg1 zgu zlf
theorem zeg(a0:List UInt8)(r:Bool)(h:zes a0=some r):zbi Tryz.prog 38 [.str a0] (.bool r):=by
 refine zbp 115 Tryz.func38 ?_
 intro hwf
 unfold zes at h
 refine .sp [0] ?_
 obtain⟨v1,hv1,h⟩:=za3 h
 refine .sr [0] ?_
 refine .rn 1 ?_
 refine .ncall (r:=.tuple [.agg [.int .u8 v1.1.Kind,.int .i64 v1.1.Message.Id,.ref 56 1 0 v1.1.Message.Groups.length (some uC),.int .i64 v1.1.Message.Topic,.str v1.1.Message.Key,.str v1.1.Message.Body,.int .i64 v1.1.Id,.int .i64 v1.1.Time,.ref 57 1 0 v1.1.Members.length (some uC),.int .i64 v1.1.Topic,.int .i64 v1.1.Who,.int .i64 v1.1.N],.int .i64 v1.2]) (eff:=[(56,some (.arr 3 1 true (v1.1.Message.Groups.map (D.int .i64)))),(57,some (.arr 3 1 true (v1.1.Members.map (D.int .i64))))]) (nw:=(56,112)) [] rfl rfl rfl rfl rfl (za9 rfl zaj) rfl (zcu 56 (lb rfl) (zlb a0 v1 hv1)) (zay rfl rfl (zbb zbt _ _ _) (zay rfl rfl (zbb zbt _ _ _) zd5)) (by intro i hi;simp[D.ids,D.idsL] at hi<;>omega) rfl ⟨lb rfl,lb rfl⟩ ?_
 refine .rn 6 ?_
 refine .nn ?_
 refine .sp [4] ?_
 obtain rfl:=sj h
 exact .rr
theorem zco(a0:Tseat_seat)(r:Int)(h:zc8 a0=some r):zbi Tryz.prog 41 [.iptr 0 [.int .i64 a0.Seat.Me,.int .i64 a0.Seat.Number,.imm 1 (a0.Seat.Group.Roster.map (D.int .i64)) 4,.imm 1 (a0.Seat.Group.Members.map (D.int .i64)) 4,.imm 1 (a0.Seat.Log.map D.str) 4,.imm 5 (a0.Seat.Votes.map TSeen.d) 4,.int .u8 a0.Seat.Try.Phase,.int .i64 a0.Seat.Try.Ballot,.imm 1 (a0.Seat.Try.Members.map (D.int .i64)) 4,.str a0.Seat.Try.Wish,.str a0.Seat.Try.Value,.imm 3 (a0.Seat.Try.Promises.map TPromise.d) 4,.imm 1 (a0.Seat.Try.Accepted.map (D.int .i64)) 4,.imm 1 (a0.Seat.Wishes.map D.str) 4,.int .i64 a0.Seat.Heard,.imm 5 (a0.fRecs.map TRecord.d) 4,.imm 10 (a0.fMail.map TMail.d) 4]] (.int .i64 r):=by
 refine zbp 2 Tryz.func41 ?_
 intro hwf
 unfold zc8 at h
 refine .sp [0] ?_
 refine .sp [0] ?_
 obtain rfl:=sj h
 exact .rr
theorem zoa(a0:TSeen)(a1:Int)(r:Int)(h:zeu a0 a1=some r):zbi Tryz.prog 73 [.agg [.int .i64 a0.Group,.int .i64 a0.Slot,.int .i64 a0.Vote.Promised,.int .i64 a0.Vote.Ballot,.str a0.Vote.Value],.int .i64 a1] (.int .i64 r):=by
 refine zbp 3 Tryz.func73 ?_
 intro hwf
 unfold zeu at h
 refine .sp [0,1] ?_
 refine .sp [1,2] ?_
 obtain rfl:=sj h
 exact .rr
@[go_sem] def ya9f(a0:List TSeen)(a1:Int)(Ka2:Nat)(ca2:List D)(n1:Int):St:=⟨[(0,.imm 5 (a0.map TSeen.d) 4),(1,.int .i64 a1),(2,.fn (.func Ka2) ca2),(8,.int .i64 (a0.length:Int)),(9,.int .i64 n1)],[],0⟩
@[go_sem] def ya9e(a0:List TSeen)(a1:Int)(Ka2:Nat)(ca2:List D)(n2:Int)(n3:Int):St:=⟨[(0,.imm 5 (a0.map TSeen.d) 4),(1,.int .i64 a1),(2,.fn (.func Ka2) ca2),(8,.int .i64 (a0.length:Int)),(9,.int .i64 n2),(10,.int .i64 n3)],[],0⟩
theorem zgm(a0:List TSeen)(a1:Int)(Ka2:Nat)(ca2:List D)(hca2:∀hp,zei hp ca2=(ca2,true))(h2a2:∀hp,zex hp ca2=(ca2,true))(h3a2:∀hp,zjf hp ca2=[])(a2:TSeen->Int->Option Int)(ha2:∀x0 x1 y,a2 x0 x1=some y->zbi Tryz.prog Ka2 (.agg [.int .i64 x0.Group,.int .i64 x0.Slot,.int .i64 x0.Vote.Promised,.int .i64 x0.Vote.Ballot,.str x0.Vote.Value]::.int .i64 x1::ca2) (.int .i64 y))(r:Int×Bool)(h:zc1 a0 a1 a2=some r):zbi Tryz.prog 72 [.imm 5 (a0.map TSeen.d) 4,.int .i64 a1,.fn (.func Ka2) ca2] (.tuple [.int .i64 r.1,.bool r.2]):=by
 refine zbp 2 Tryz.func72 ?_
 intro hwf
 unfold zc1 at h
 refine .sp [0,1,2] ?_
 refine .sp [0,1,2] ?_
 refine .sp [0,1,2,8] ?_
 obtain⟨x1,hx1,h⟩:=za3 h
 refine .seqM 0 (fun(j:Int)=>ya9f a0 a1 Ka2 ca2 j) (fun j=>x1=j) (lb rfl) ?_ ?_
 refine .block ?_
 refine .loopG 0 (fun(j:Nat×Int×Int)=>ya9e a0 a1 Ka2 ca2 j.2.1 j.2.2) (fun j=>zar a0 a1 a2 j.1 j.2.1 j.2.2=some x1) (fun j=>j.1) (a0.length+1,0,(a0.length:Int)) (lb rfl) ?_ hx1 ?_
 exact .mq (zdk hca2) (zdf hca2) [0,1,2,8,9,10] [] []
 rintro⟨fu1,n2,n3⟩ hx1
 simp only[ya9e]
 try simp only at hx1
 obtain⟨fu1,rfl⟩:∃k,fu1=k+1:=by cases fu1 with|zero=>(rw[zar] at hx1;cases hx1)|succ k=>exact⟨k,rfl⟩
 rw[zar] at hx1
 refine .seq (.seq (.pl zS [0,1,2,8,9,10] ?_))
 refine .cd ?_ ?_<;>intro hc1
 replace hx1:=zab hx1 hc1
 refine .skip (.block (.seq (.pl zS [0,1,2,8,9,10] ?_)))
 refine .seq ?_
 obtain⟨k1,hx1⟩:=zbc hx1
 obtain⟨v1,hv1,hx1⟩:=za3 hx1
 have e1:=zdp TSeen.d a0 (wr .i64 (shw false .u64 (wr .u64 (wr .i64 (n2+n3))) 1))
 replace e1:=e1 k1
 refine .rg zS [0,1,2,8,9,10,11] ?_
 refine .rnx 6 e1 ?_
 refine .call (r:=.int .i64 v1) rfl rfl rfl rfl rfl (za2 rfl (za2 rfl (hca2 _))) (ha2 _ _ v1 hv1) ?_
 refine .rnx 1 e1 ?_
 refine .nn ?_
 refine .cd ?_ ?_<;>intro hc2
 replace hx1:=zab hx1 hc2
 refine .pl zS [0,1,2,8,10,11] ?_
 refine⟨(fu1,_,_),?_,hx1,by dsimp only;omega⟩
 exact .mq (zdk hca2) (zdf hca2) [0,1,2,8,9,10] [] []
 replace hx1:=zae hx1 hc2
 refine .pl zS [0,1,2,8,9,11] ?_
 refine⟨(fu1,_,_),?_,hx1,by dsimp only;omega⟩
 exact .mq (zdk hca2) (zdf hca2) [0,1,2,8,9,10] [] []
 replace hx1:=zae hx1 hc1
 refine .exit ?_
 refine⟨_,?_,(sj hx1).symm⟩
 exact .mq (zdk hca2) (zdf hca2) [0,1,2,8,9] [] []
 rintro n1 hj1
 subst x1
 try dsimp only at h
 simp only[ya9f]
 obtain⟨k2,h⟩:=zbc h
 obtain⟨v2,hv2,h⟩:=za3 h
 refine .seqM 0 (fun(_:Unit)=>⟨[(6,.int .i64 n1),(7,.bool ((decide (n1<(a0.length:Int)))&&(v2==0)))],[],0⟩) (fun _=>True) (lb rfl) ?_ (fun _ _=>?_)
 by_cases hgd:n1<(a0.length:Int)
 have eg10:=zdp TSeen.d a0 n1 (k2 hgd)
 refine .rg zS [0,1,2,8,9] ?_
 refine .rnx 6 eg10 ?_
 refine .rnx 5 eg10 ?_
 refine .gcall rfl rfl rfl rfl rfl (fun hg=>⟨ca2,[.agg [.int .i64 ((a0.getD n1.toNat default).Group),.int .i64 ((a0.getD n1.toNat default).Slot),.int .i64 ((a0.getD n1.toNat default).Vote.Promised),.int .i64 ((a0.getD n1.toNat default).Vote.Ballot),.str ((a0.getD n1.toNat default).Vote.Value)],.int .i64 a1],_,gd hg,gd hg,(za2 rfl (za2 rfl (hca2 _))),ha2 _ _ v2 (zab hv2 hg)⟩) ?_
 refine .rnx 4 eg10 ?_
 refine .nn ?_
 refine⟨(),?_,trivial⟩
 exact .mq (zdk hca2) (zdf hca2) [6,7] [] []
 have hgf1:(decide (n1<(a0.length:Int)))=false:=by first|simpa using hgd|(simp at hgd ⊢;omega)|grind
 rcases ya3k TSeen.d a0 n1.toNat with eg10|eg10
 refine .rg zS [0,1,2,8,9] ?_
 refine .rnx 6 (ai eg10 hgf1) ?_
 refine .rnx 5 (ai eg10 hgf1) ?_
 refine .gcall rfl rfl rfl rfl rfl (fun hg=>⟨ca2,[.agg [.int .i64 ((a0.getD n1.toNat default).Group),.int .i64 ((a0.getD n1.toNat default).Slot),.int .i64 ((a0.getD n1.toNat default).Vote.Promised),.int .i64 ((a0.getD n1.toNat default).Vote.Ballot),.str ((a0.getD n1.toNat default).Vote.Value)],.int .i64 a1],_,gd hg,gd hg,(za2 rfl (za2 rfl (hca2 _))),ha2 _ _ v2 (zab hv2 hg)⟩) ?_
 refine .rnx 4 (ai eg10 hgf1) ?_
 refine .nn ?_
 refine⟨(),?_,trivial⟩
 refine .mv [6,7] [] [] ?_ (lb rfl) (lb rfl) (by first|rfl|(simp only[idsV,idsH,zf5,getL,D.ids,Blk.ids,natbeq,Nat.reduceBEq,cond_true,cond_false,zag,zas,zb2,zdf hca2]<;>rfl))
 first|rfl|simp only[hgf1,go_sem,Nat.reduceBEq,Nat.reduceAdd,zdk hca2,Bool.false_and,Bool.true_or,Bool.and_false]<;>rfl
 refine .rg zS [0,1,2,8,9] ?_
 refine .rnx 6 (ai eg10 hgf1) ?_
 refine .rnx 5 (ai eg10 hgf1) ?_
 refine .gcall rfl rfl rfl rfl rfl (fun hg=>⟨ca2,[.agg [.int .i64 ((a0.getD n1.toNat default).Group),.int .i64 ((a0.getD n1.toNat default).Slot),.int .i64 ((a0.getD n1.toNat default).Vote.Promised),.int .i64 ((a0.getD n1.toNat default).Vote.Ballot),.str ((a0.getD n1.toNat default).Vote.Value)],.int .i64 a1],_,gd hg,gd hg,(za2 rfl (za2 rfl (hca2 _))),ha2 _ _ v2 (zab hv2 hg)⟩) ?_
 refine .rnx 4 (ai eg10 hgf1) ?_
 refine .nn ?_
 refine⟨(),?_,trivial⟩
 refine .mv [6,7] [] [] ?_ (lb rfl) (lb rfl) (by first|rfl|(simp only[idsV,idsH,zf5,getL,D.ids,Blk.ids,natbeq,Nat.reduceBEq,cond_true,cond_false,zag,zas,zb2,zdf hca2]<;>rfl))
 first|rfl|simp only[hgf1,go_sem,Nat.reduceBEq,Nat.reduceAdd,zdk hca2,Bool.false_and,Bool.true_or,Bool.and_false]<;>rfl
 obtain rfl:=sj h
 exact .rr
theorem zeq(a0:Tseat_seat)(a1:Int)(r:TVote×Int×Bool)(h:zdc a0 a1=some r):zbi Tryz.prog 40 [.iptr 0 [.int .i64 a0.Seat.Me,.int .i64 a0.Seat.Number,.imm 1 (a0.Seat.Group.Roster.map (D.int .i64)) 4,.imm 1 (a0.Seat.Group.Members.map (D.int .i64)) 4,.imm 1 (a0.Seat.Log.map D.str) 4,.imm 5 (a0.Seat.Votes.map TSeen.d) 4,.int .u8 a0.Seat.Try.Phase,.int .i64 a0.Seat.Try.Ballot,.imm 1 (a0.Seat.Try.Members.map (D.int .i64)) 4,.str a0.Seat.Try.Wish,.str a0.Seat.Try.Value,.imm 3 (a0.Seat.Try.Promises.map TPromise.d) 4,.imm 1 (a0.Seat.Try.Accepted.map (D.int .i64)) 4,.imm 1 (a0.Seat.Wishes.map D.str) 4,.int .i64 a0.Seat.Heard,.imm 5 (a0.fRecs.map TRecord.d) 4,.imm 10 (a0.fMail.map TMail.d) 4],.int .i64 a1] (.tuple [.agg [.int .i64 r.1.Promised,.int .i64 r.1.Ballot,.str r.1.Value],.int .i64 r.2.1,.bool r.2.2]):=by
 refine zbp 3 Tryz.func40 ?_
 intro hwf
 unfold zdc at h
 refine .sp [0,1] ?_
 obtain⟨v1,hv1,h⟩:=za3 h
 refine .sr [0,1,4] ?_
 refine .rn 6 ?_
 refine .lcall (r:=.tuple [.int .i64 v1.1,.bool v1.2]) [] rfl rfl rfl rfl rfl (za9 rfl (za9 rfl (za9 (zk0 zaj) zaj))) rfl (zgm a0.Seat.Votes a1 73 [] (fun _=>rfl) (fun _=>rfl) (fun _=>rfl) zeu (fun x0 x1 y hy=>zoa x0 x1 y hy) v1 hv1) ?_
 refine .rn 5 ?_
 refine .nn ?_
 refine .seq (.seq (.pl zS [0,4,7,8] ?_))
 refine .cd ?_ ?_<;>intro hc1
 replace h:=zab h hc1
 refine .seq ?_
 obtain⟨k1,h⟩:=zbc h
 have e1:=zdp TSeen.d a0.Seat.Votes v1.1
 replace e1:=e1 k1
 refine .rg zS [0,4,7] ?_
 refine .rnx 6 e1 ?_
 refine .rnx 7 e1 ?_
 refine .nn ?_
 obtain rfl:=sj h
 exact .rr
 replace h:=zae h hc1
 refine .skip (.seq (.pl zS [4,7] ?_))
 obtain rfl:=sj h
 exact .rr
theorem ziz(a0:Tseat_seat)(r:(List Int))(h:ze4 a0=some r):zbi Tryz.prog 43 [.iptr 0 [.int .i64 a0.Seat.Me,.int .i64 a0.Seat.Number,.imm 1 (a0.Seat.Group.Roster.map (D.int .i64)) 4,.imm 1 (a0.Seat.Group.Members.map (D.int .i64)) 4,.imm 1 (a0.Seat.Log.map D.str) 4,.imm 5 (a0.Seat.Votes.map TSeen.d) 4,.int .u8 a0.Seat.Try.Phase,.int .i64 a0.Seat.Try.Ballot,.imm 1 (a0.Seat.Try.Members.map (D.int .i64)) 4,.str a0.Seat.Try.Wish,.str a0.Seat.Try.Value,.imm 3 (a0.Seat.Try.Promises.map TPromise.d) 4,.imm 1 (a0.Seat.Try.Accepted.map (D.int .i64)) 4,.imm 1 (a0.Seat.Wishes.map D.str) 4,.int .i64 a0.Seat.Heard,.imm 5 (a0.fRecs.map TRecord.d) 4,.imm 10 (a0.fMail.map TMail.d) 4]] (.imm 1 (r.map (D.int .i64)) 13):=by
 refine zbp 2 Tryz.func43 ?_
 intro hwf
 unfold ze4 at h
 refine .sp [0] ?_
 obtain⟨v1,hv1,h⟩:=za3 h
 refine .sr [0] ?_
 refine .rd 6 ?_
 refine .rd 4 ?_
 refine .cl (zr0 a0.Seat.Group a0.Seat.Log v1 hv1) ?_
 refine .rd 5 ?_
 refine .nd ?_
 refine .sp [3] ?_
 obtain rfl:=sj h
 exact .rr
end Go.Proofs
namespace Go.Proofs
open Go.Tm Go.RowKit Go.WideShapes
set_option maxRecDepth 100000
set_option maxHeartbeats 40000000
set_option linter.unusedSimpArgs false
set_option linter.unusedVariables false
attribute [local go_sem, local simp] zg1 zgu zlf
@[go_sem] def st88(a0:TSeat):St:=⟨[(3,.ptr 1 0)],[(1,.box [.int .i64 a0.Me,.int .i64 a0.Number,.imm 1 (a0.Group.Roster.map (D.int .i64)) 4,.imm 1 (a0.Group.Members.map (D.int .i64)) 4,.imm 1 (a0.Log.map D.str) 4,.imm 5 (a0.Votes.map TSeen.d) 4,.int .u8 a0.Try.Phase,.int .i64 a0.Try.Ballot,.imm 1 (a0.Try.Members.map (D.int .i64)) 4,.str a0.Try.Wish,.str a0.Try.Value,.imm 3 (a0.Try.Promises.map TPromise.d) 4,.imm 1 (a0.Try.Accepted.map (D.int .i64)) 4,.imm 1 (a0.Wishes.map D.str) 4,.int .i64 a0.Heard,.imm 0 [] 0,.imm 0 [] 0])],2⟩
@[go_sem] def st92(a0:TSeat)(n2:Nat)(n1:Int):St:=⟨[(3,.ptr 1 0),(5,.int .i64 n1),(142,.imm 5 (a0.Votes.map TSeen.d) 4),(143,.int .i64 (a0.Votes.length:Int)),(144,.int .i64 (n2:Int))],[(1,.box [.int .i64 a0.Me,.int .i64 a0.Number,.imm 1 (a0.Group.Roster.map (D.int .i64)) 4,.imm 1 (a0.Group.Members.map (D.int .i64)) 4,.imm 1 (a0.Log.map D.str) 4,.imm 5 (a0.Votes.map TSeen.d) 4,.int .u8 a0.Try.Phase,.int .i64 a0.Try.Ballot,.imm 1 (a0.Try.Members.map (D.int .i64)) 4,.str a0.Try.Wish,.str a0.Try.Value,.imm 3 (a0.Try.Promises.map TPromise.d) 4,.imm 1 (a0.Try.Accepted.map (D.int .i64)) 4,.imm 1 (a0.Wishes.map D.str) 4,.int .i64 a0.Heard,.imm 0 [] 0,.imm 0 [] 0])],2⟩
@[go_sem] def st93(a0:TSeat):St:=⟨[(3,.ptr 1 0)],[(1,.box [.int .i64 a0.Me,.int .i64 a0.Number,.imm 1 (a0.Group.Roster.map (D.int .i64)) 4,.imm 1 (a0.Group.Members.map (D.int .i64)) 4,.imm 1 (a0.Log.map D.str) 4,.imm 5 (a0.Votes.map TSeen.d) 4,.int .u8 a0.Try.Phase,.int .i64 a0.Try.Ballot,.imm 1 (a0.Try.Members.map (D.int .i64)) 4,.str a0.Try.Wish,.str a0.Try.Value,.imm 3 (a0.Try.Promises.map TPromise.d) 4,.imm 1 (a0.Try.Accepted.map (D.int .i64)) 4,.imm 1 (a0.Wishes.map D.str) 4,.int .i64 a0.Heard,.imm 0 [] 0,.imm 0 [] 0])],2⟩
@[go_sem] def st94(a0:TSeat)(n3:Nat):St:=⟨[(3,.ptr 1 0),(247,.imm 3 (a0.Try.Promises.map TPromise.d) 4),(248,.int .i64 (a0.Try.Promises.length:Int)),(249,.int .i64 (n3:Int))],[(1,.box [.int .i64 a0.Me,.int .i64 a0.Number,.imm 1 (a0.Group.Roster.map (D.int .i64)) 4,.imm 1 (a0.Group.Members.map (D.int .i64)) 4,.imm 1 (a0.Log.map D.str) 4,.imm 5 (a0.Votes.map TSeen.d) 4,.int .u8 a0.Try.Phase,.int .i64 a0.Try.Ballot,.imm 1 (a0.Try.Members.map (D.int .i64)) 4,.str a0.Try.Wish,.str a0.Try.Value,.imm 3 (a0.Try.Promises.map TPromise.d) 4,.imm 1 (a0.Try.Accepted.map (D.int .i64)) 4,.imm 1 (a0.Wishes.map D.str) 4,.int .i64 a0.Heard,.imm 0 [] 0,.imm 0 [] 0])],4⟩
@[go_sem] def st95(a0:TSeat)(m1:List ((List UInt8)×Int)):St:=⟨[(3,.ptr 1 0),(17,.mref 2)],[(1,.box [.int .i64 a0.Me,.int .i64 a0.Number,.imm 1 (a0.Group.Roster.map (D.int .i64)) 4,.imm 1 (a0.Group.Members.map (D.int .i64)) 4,.imm 1 (a0.Log.map D.str) 4,.imm 5 (a0.Votes.map TSeen.d) 4,.int .u8 a0.Try.Phase,.int .i64 a0.Try.Ballot,.imm 1 (a0.Try.Members.map (D.int .i64)) 4,.str a0.Try.Wish,.str a0.Try.Value,.imm 3 (a0.Try.Promises.map TPromise.d) 4,.imm 1 (a0.Try.Accepted.map (D.int .i64)) 4,.imm 1 (a0.Wishes.map D.str) 4,.int .i64 a0.Heard,.imm 0 [] 0,.imm 0 [] 0]),(2,.map (mapD D.str (D.int .i64) m1))],3⟩
@[go_sem] def st89(a0:TSeat)(n4:Nat)(m2:List ((List UInt8)×Int)):St:=⟨[(3,.ptr 1 0),(17,.mref 2),(268,.imm 1 (a0.Log.map D.str) 4),(269,.int .i64 (a0.Log.length:Int)),(270,.int .i64 (n4:Int))],[(1,.box [.int .i64 a0.Me,.int .i64 a0.Number,.imm 1 (a0.Group.Roster.map (D.int .i64)) 4,.imm 1 (a0.Group.Members.map (D.int .i64)) 4,.imm 1 (a0.Log.map D.str) 4,.imm 5 (a0.Votes.map TSeen.d) 4,.int .u8 a0.Try.Phase,.int .i64 a0.Try.Ballot,.imm 1 (a0.Try.Members.map (D.int .i64)) 4,.str a0.Try.Wish,.str a0.Try.Value,.imm 3 (a0.Try.Promises.map TPromise.d) 4,.imm 1 (a0.Try.Accepted.map (D.int .i64)) 4,.imm 1 (a0.Wishes.map D.str) 4,.int .i64 a0.Heard,.imm 0 [] 0,.imm 0 [] 0]),(2,.map (mapD D.str (D.int .i64) m2))],3⟩
@[go_sem] def st90:St:=⟨[],[],3⟩
@[go_sem] def st91(a0:TSeat)(n5:Nat)(m3:List ((List UInt8)×Int)):St:=⟨[(17,.mref 2),(281,.imm 1 (a0.Wishes.map D.str) 4),(282,.int .i64 (a0.Wishes.length:Int)),(283,.int .i64 (n5:Int))],[(2,.map (mapD D.str (D.int .i64) m3))],3⟩
theorem zi3(a0:TSeat)(r:Int)(h:zge a0=some r):zbi Tryz.prog 27 [.agg [.int .i64 a0.Me,.int .i64 a0.Number,.imm 1 (a0.Group.Roster.map (D.int .i64)) 4,.imm 1 (a0.Group.Members.map (D.int .i64)) 4,.imm 1 (a0.Log.map D.str) 4,.imm 5 (a0.Votes.map TSeen.d) 4,.int .u8 a0.Try.Phase,.int .i64 a0.Try.Ballot,.imm 1 (a0.Try.Members.map (D.int .i64)) 4,.str a0.Try.Wish,.str a0.Try.Value,.imm 3 (a0.Try.Promises.map TPromise.d) 4,.imm 1 (a0.Try.Accepted.map (D.int .i64)) 4,.imm 1 (a0.Wishes.map D.str) 4,.int .i64 a0.Heard]] (.int .i64 r):=by
 refine zbp 7 Tryz.func27 ?_
 intro hwf
 unfold zge at h
 refine .sp [0] ?_
 refine .sp [1] ?_
 obtain⟨v1,hv1,h⟩:=za3 h
 obtain⟨v2,hv2,h⟩:=za3 h
 obtain⟨v3,hv3,h⟩:=za3 h
 obtain⟨v4,hv4,h⟩:=za3 h
 refine .sr [3] ?_
 refine .rd 6 ?_
 refine .rd 6 ?_
 refine .rd 6 ?_
 refine .rd 6 ?_
 refine .rd 6 ?_
 refine .rd 6 ?_
 refine .gcall rfl rfl rfl rfl rfl (fun hg=>⟨[],[.agg [.imm 1 (a0.Group.Roster.map (D.int .i64)) 4,.imm 1 (a0.Group.Members.map (D.int .i64)) 4]],_,rfl,gd hg,rfl,(zf2 a0.Group v1 (zab hv1 hg))⟩) ?_
 refine .rd 6 ?_
 refine .rd 8 ?_
 refine .gcall rfl rfl rfl rfl rfl (fun hg=>⟨[],[.imm 1 (a0.Group.Roster.map (D.int .i64)) 4,.int .i64 a0.Me],_,rfl,gd hg,rfl,(zdg a0.Group.Roster a0.Me v2 (zab hv2 hg))⟩) ?_
 refine .rd 7 ?_
 refine .gcall rfl rfl rfl rfl rfl (fun hg=>⟨[],[.imm 1 (a0.Log.map D.str) 4],_,rfl,gd hg,rfl,(ztq a0.Log v3 (zab hv3 hg))⟩) ?_
 refine .rd 6 ?_
 refine .rd 6 ?_
 refine .rd 6 ?_
 refine .rd 6 ?_
 refine .rd 6 ?_
 refine .rd 3 ?_
 refine .gcall rfl rfl rfl rfl rfl (fun hg=>⟨[],[.agg [.int .u8 a0.Try.Phase,.int .i64 a0.Try.Ballot,.imm 1 (a0.Try.Members.map (D.int .i64)) 4,.str a0.Try.Wish,.str a0.Try.Value,.imm 3 (a0.Try.Promises.map TPromise.d) 4,.imm 1 (a0.Try.Accepted.map (D.int .i64)) 4]],_,rfl,gd hg,rfl,(zi8 a0.Try v4 (zab hv4 hg))⟩) ?_
 refine .rd 6 ?_
 refine .rd 6 ?_
 refine .nd ?_
 refine .seq (.seq (.pl zS [3,4] ?_))
 refine .cd ?_ ?_<;>intro hc1
 replace h:=zab h hc1
 refine .sp [] ?_
 obtain rfl:=sj h
 exact .rr
 replace h:=zae h hc1
 refine .skip (.seq (.pl zS [3] ?_))
 obtain⟨x1,hx1,h⟩:=za3 h
 refine .seqM 2 (fun(j:Unit)=>st88 a0) (fun j=>x1=(.inr j)) (lb rfl) ?_ ?_
 refine .sp [3,5] ?_
 refine .block ?_
 refine .loopG 2 (fun(j:Nat×Int)=>st92 a0 j.1 j.2) (fun j=>j.1<=a0.Votes.length/\zdu a0 (a0.Votes.drop j.1) j.2=some x1) (fun j=>a0.Votes.length-j.1) (0,(a0.Log.length:Int)) (lb rfl) ?_ ⟨Nat.zero_le _,hx1⟩ ?_
 exact .m [3,5,142,143,144] [1] []
 rintro⟨n2,n1⟩ ⟨hi1,hx1⟩
 simp only[st92]
 simp only at hi1 hx1
 refine .wf 143 (.int .i64 (a0.Votes.length:Int)) rfl ?_
 intro hln2
 replace hln2:=wfn hln2
 refine .sp [3,5,142,143,144] ?_
 refine .seq (.cd (fun hc2=>?_) (fun hc2=>?_))
 have h1:n2<a0.Votes.length:=by simpa using hc2
 have hwn2:=zdr h1 hln2
 have hpn2:=ze3 h1 hln2
 rw[za7 h1,zdu] at hx1
 refine .skip (.seq (.block (.seq ?_)))
 have e1:=zdb TSeen.d a0.Votes n2 h1
 refine .plx zS (ai e1 hwn2) [3,5,142,143,144] ?_
 refine .seq (.seq ?_)
 obtain⟨v5,hv5,hx1⟩:=za3 hx1
 obtain⟨v6,hv6,hx1⟩:=za3 hx1
 refine .rg zS [3,5,7,142,143,144] ?_
 refine .rdx 6 hwn2 ?_
 refine .rdx 6 hwn2 ?_
 refine .rdx 6 hwn2 ?_
 refine .rdx 4 hwn2 ?_
 refine .gcall rfl rfl rfl rfl rfl (fun hg=>⟨[],[.agg [.int .i64 (a0.Votes[n2].Vote.Promised),.int .i64 (a0.Votes[n2].Vote.Ballot),.str (a0.Votes[n2].Vote.Value)]],_,rfl,gd hg,rfl,(zmt (a0.Votes[n2].Vote) v5 (zab hv5 hg))⟩) ?_
 refine .rdx 6 hwn2 ?_
 refine .rdx 6 hwn2 ?_
 refine .rdx 5 hwn2 ?_
 refine .gcall rfl rfl rfl rfl rfl (fun hg=>⟨[],[.str (a0.Votes[n2].Vote.Value)],_,rfl,gd hg,rfl,(zeg (a0.Votes[n2].Vote.Value) v6 (zab hv6 hg))⟩) ?_
 refine .rdx 3 hwn2 ?_
 refine .nd ?_
 refine .cd ?_ ?_<;>intro hc3
 replace hx1:=zab hx1 hc3
 refine .seq (.plx zS hwn2 [] ?_)
 have hq:=sj hx1
 subst x1
 try dsimp only at h
 obtain rfl:=sj h
 exact .rr
 replace hx1:=zae hx1 hc3
 refine .skip (.plx zS hwn2 [3,7,142,143,144] ?_)
 refine .plx zS hwn2 [3,5,142,143,144] ?_
 refine⟨(n2+1,_),?_,⟨by omega,hx1⟩,by dsimp only;omega⟩
 exact .m [3,5,142,143,144] [1] []
 have h2:n2=a0.Votes.length:=by have h2b:=of_decide_eq_false hc2;omega
 rw[zac (by omega),zdu] at hx1
 refine .exit ?_
 refine⟨_,?_,(sj hx1).symm⟩
 exact .m [3] [1] []
 rintro⟨⟩ hj1
 subst x1
 try dsimp only at h
 simp only[st88]
 obtain⟨x2,hx2,h⟩:=za3 h
 refine .seqM 2 (fun(j:Unit)=>st93 a0) (fun j=>x2=(.inr j)) (lb rfl) ?_ ?_
 refine .sp [3] ?_
 refine .sp [3,8] ?_
 refine .cd ?_ ?_<;>intro hc4
 replace hx2:=zab hx2 hc4
 refine .seq ?_
 obtain⟨v7,hv7,hx2⟩:=za3 hx2
 refine .rg zS [3,8] ?_
 refine .rn 2 ?_
 refine .cl (znp a0.Try.Ballot v7 hv7) ?_
 refine .rn 7 ?_
 refine .nn ?_
 refine .seq ?_
 obtain⟨v8,hv8,hx2⟩:=za3 hx2
 obtain⟨v9,hv9,hx2⟩:=za3 hx2
 refine .rg zS [3,8,10] ?_
 refine .rn 2 ?_
 refine .lcall (r:=.int .i64 v8) [] rfl rfl rfl rfl rfl (za9 (zcc rfl (za2 rfl (za2 rfl (za2 rfl (za2 rfl (za2 rfl (za2 rfl (za2 rfl (za2 rfl (za2 rfl (za2 rfl (za2 rfl (za2 rfl (za2 rfl (za2 rfl (za2 rfl (za2 rfl (za2 rfl zc3)))))))))))))))))) zaj) rfl (zc7 (WkL.cons (Wk.iptr (WkL.cons (Wk.refl _) (WkL.cons (Wk.refl _) (WkL.cons (Wk.refl _) (WkL.cons (Wk.refl _) (WkL.cons (Wk.refl _) (WkL.cons (Wk.refl _) (WkL.cons (Wk.refl _) (WkL.cons (Wk.refl _) (WkL.cons (Wk.refl _) (WkL.cons (Wk.refl _) (WkL.cons (Wk.refl _) (WkL.cons (Wk.refl _) (WkL.cons (Wk.refl _) (WkL.cons (Wk.refl _) (WkL.cons (Wk.refl _) (WkL.cons (Wk.nil4 0 5 0 rfl) (WkL.cons (Wk.nil4 0 10 0 rfl) (WkL.refl _))))))))))))))))))) (WkL.refl _)) (zco (⟨a0,[],[]⟩:Tseat_seat) v8 hv8)) ?_
 refine .rn 0 ?_
 refine .lcall (r:=.tuple [.agg [.int .i64 v9.1.Promised,.int .i64 v9.1.Ballot,.str v9.1.Value],.int .i64 v9.2.1,.bool v9.2.2]) [] rfl rfl rfl rfl rfl (za9 (zcc rfl (za2 rfl (za2 rfl (za2 rfl (za2 rfl (za2 rfl (za2 rfl (za2 rfl (za2 rfl (za2 rfl (za2 rfl (za2 rfl (za2 rfl (za2 rfl (za2 rfl (za2 rfl (za2 rfl (za2 rfl zc3)))))))))))))))))) (za9 rfl zaj)) rfl (zc7 (WkL.cons (Wk.iptr (WkL.cons (Wk.refl _) (WkL.cons (Wk.refl _) (WkL.cons (Wk.refl _) (WkL.cons (Wk.refl _) (WkL.cons (Wk.refl _) (WkL.cons (Wk.refl _) (WkL.cons (Wk.refl _) (WkL.cons (Wk.refl _) (WkL.cons (Wk.refl _) (WkL.cons (Wk.refl _) (WkL.cons (Wk.refl _) (WkL.cons (Wk.refl _) (WkL.cons (Wk.refl _) (WkL.cons (Wk.refl _) (WkL.cons (Wk.refl _) (WkL.cons (Wk.nil4 0 5 0 rfl) (WkL.cons (Wk.nil4 0 10 0 rfl) (WkL.refl _))))))))))))))))))) (WkL.cons (Wk.refl _) (WkL.refl _))) (zeq (⟨a0,[],[]⟩:Tseat_seat) v8 v9 hv9)) ?_
 refine .rn 8 ?_
 refine .nn ?_
 refine .seq (.seq ?_)
 obtain⟨v10,hv10,hx2⟩:=za3 hx2
 obtain⟨v11,hv11,hx2⟩:=za3 hx2
 obtain⟨v12,hv12,hx2⟩:=za3 hx2
 refine .rg zS [3,8,10,12] ?_
 refine .rd 6 ?_
 refine .rd 5 ?_
 refine .glcall (r:=.imm 1 (v10.map (D.int .i64)) 13) [] rfl rfl rfl rfl rfl (fun hg=>⟨[],[.ptr 1 0],_,rfl,gd hg,(za9 (zcc rfl (za2 rfl (za2 rfl (za2 rfl (za2 rfl (za2 rfl (za2 rfl (za2 rfl (za2 rfl (za2 rfl (za2 rfl (za2 rfl (za2 rfl (za2 rfl (za2 rfl (za2 rfl (za2 rfl (za2 rfl zc3)))))))))))))))))) zaj),rfl,(zc7 (WkL.cons (Wk.iptr (WkL.cons (Wk.refl _) (WkL.cons (Wk.refl _) (WkL.cons (Wk.refl _) (WkL.cons (Wk.refl _) (WkL.cons (Wk.refl _) (WkL.cons (Wk.refl _) (WkL.cons (Wk.refl _) (WkL.cons (Wk.refl _) (WkL.cons (Wk.refl _) (WkL.cons (Wk.refl _) (WkL.cons (Wk.refl _) (WkL.cons (Wk.refl _) (WkL.cons (Wk.refl _) (WkL.cons (Wk.refl _) (WkL.cons (Wk.refl _) (WkL.cons (Wk.nil4 0 5 0 rfl) (WkL.cons (Wk.nil4 0 10 0 rfl) (WkL.refl _))))))))))))))))))) (WkL.refl _)) (ziz (⟨a0,[],[]⟩:Tseat_seat) v10 (zab hv10 hg)))⟩) ?_
 refine .rd 0 ?_
 refine .gcall rfl rfl rfl rfl rfl (fun hg=>⟨[],[.imm 1 (a0.Try.Members.map (D.int .i64)) 4,.imm 1 (v10.map (D.int .i64)) 13],_,rfl,gd hg,rfl,(zc7 (WkL.cons (Wk.refl _) (WkL.cons Wk.iz (WkL.refl _))) (zd2 a0.Try.Members v10 v11 (zab hv11 hg)))⟩) ?_
 refine .rd 6 ?_
 refine .rd 6 ?_
 refine .gcall rfl rfl rfl rfl rfl (fun hg=>⟨[],[.str a0.Try.Wish],_,rfl,gd hg,rfl,(zeg a0.Try.Wish v12 (zab hv12 hg))⟩) ?_
 refine .rd 2 ?_
 refine .nd ?_
 refine .cd ?_ ?_<;>intro hc5
 replace hx2:=zab hx2 hc5
 refine .sp [] ?_
 have hq:=sj hx2
 subst x2
 try dsimp only at h
 obtain rfl:=sj h
 exact .rr
 replace hx2:=zae hx2 hc5
 refine .skip (.seq (.pl zS [3,8] ?_))
 refine .block ?_
 refine .loopG 4 (fun(j:Nat)=>st94 a0 j) (fun j=>j<=a0.Try.Promises.length/\zdt (a0.Try.Promises.drop j)=some x2) (fun j=>a0.Try.Promises.length-j) (0) (lb rfl) ?_ ⟨Nat.zero_le _,hx2⟩ ?_
 exact .m [3,247,248,249] [1] []
 rintro n3 ⟨hi2,hx2⟩
 simp only[st94]
 refine .wf 248 (.int .i64 (a0.Try.Promises.length:Int)) rfl ?_
 intro hln3
 replace hln3:=wfn hln3
 refine .sp [3,247,248,249] ?_
 refine .seq (.cd (fun hc6=>?_) (fun hc6=>?_))
 have h3:n3<a0.Try.Promises.length:=by simpa using hc6
 have hwn3:=zdr h3 hln3
 have hpn3:=ze3 h3 hln3
 rw[za7 h3,zdt] at hx2
 refine .skip (.seq (.block (.seq ?_)))
 have e2:=zdb TPromise.d a0.Try.Promises n3 h3
 refine .plx zS (ai e2 hwn3) [3,247,248,249] ?_
 refine .seq ?_
 obtain⟨v13,hv13,hx2⟩:=za3 hx2
 refine .rg zS [3,16,247,248,249] ?_
 refine .rnx 6 hwn3 ?_
 refine .gcall rfl rfl rfl rfl rfl (fun hg=>⟨[],[.str (a0.Try.Promises[n3].Value)],_,rfl,gd hg,rfl,(zeg (a0.Try.Promises[n3].Value) v13 (zab hv13 hg))⟩) ?_
 refine .rnx 2 hwn3 ?_
 refine .nn ?_
 refine .cd ?_ ?_<;>intro hc7
 replace hx2:=zab hx2 hc7
 refine .seq (.plx zS hwn3 [] ?_)
 have hq:=sj hx2
 subst x2
 try dsimp only at h
 obtain rfl:=sj h
 exact .rr
 replace hx2:=zae hx2 hc7
 refine .skip (.plx zS hwn3 [3,247,248,249] ?_)
 refine⟨n3+1,?_,⟨by omega,hx2⟩,by dsimp only;omega⟩
 exact .m [3,247,248,249] [1] []
 have h4:n3=a0.Try.Promises.length:=by have h4b:=of_decide_eq_false hc6;omega
 rw[zac (by omega),zdt] at hx2
 refine .exit ?_
 refine⟨_,?_,(sj hx2).symm⟩
 exact .m [3] [1] []
 replace hx2:=zae hx2 hc4
 refine .skip ?_
 refine⟨_,?_,(sj hx2).symm⟩
 exact .m [3] [1] []
 rintro⟨⟩ hj2
 subst x2
 try dsimp only at h
 simp only[st93]
 refine .sp [3] ?_
 obtain⟨x3,hx3,h⟩:=za3 h
 refine .seqM 3 (fun(j:(List ((List UInt8)×Int)))=>st95 a0 j) (fun j=>x3=j) (lb rfl) ?_ ?_
 refine .sp [3,17] ?_
 refine .block ?_
 refine .loopG 3 (fun(j:Nat×(List ((List UInt8)×Int)))=>st89 a0 j.1 j.2) (fun j=>j.1<=a0.Log.length/\zd9 (a0.Log.drop j.1) j.2=some x3) (fun j=>a0.Log.length-j.1) (0,[]) (lb rfl) ?_ ⟨Nat.zero_le _,hx3⟩ ?_
 exact .mp [3,17,268,269,270] [1,2] [] ⟨rfl,trivial⟩
 rintro⟨n4,m2⟩ ⟨hi3,hx3⟩
 simp only[st89]
 simp only at hi3 hx3
 refine .wf 269 (.int .i64 (a0.Log.length:Int)) rfl ?_
 intro hln4
 replace hln4:=wfn hln4
 refine .sp [3,17,268,269,270] ?_
 refine .seq (.cd (fun hc8=>?_) (fun hc8=>?_))
 have h5:n4<a0.Log.length:=by simpa using hc8
 have hwn4:=zdr h5 hln4
 have hpn4:=ze3 h5 hln4
 rw[za7 h5,zd9] at hx3
 refine .skip (.seq (.block (.seq ?_)))
 have e3:=zdb D.str a0.Log n4 h5
 refine .plx zS (ai e3 hwn4) [3,17,268,269,270] ?_
 have em1:updD (.str (a0.Log[n4])) (.int .i64 1) (mapD D.str (D.int .i64) m2)=some (mapD D.str (D.int .i64) (mput (a0.Log[n4]) 1 m2)):=zzr (D.int .i64) (a0.Log[n4]) 1 _ rfl m2
 refine .plx zS (ai em1 hwn4) [3,17,19,268,269,270] ?_
 refine .plx zS hwn4 [3,17,268,269,270] ?_
 refine⟨(n4+1,_),?_,⟨by omega,hx3⟩,by dsimp only;omega⟩
 exact .mp [3,17,268,269,270] [1,2] [] ⟨znz (fun _=>rfl) (fun _=>rfl) _,trivial⟩
 have h6:n4=a0.Log.length:=by have h6b:=of_decide_eq_false hc8;omega
 rw[zac (by omega),zd9] at hx3
 refine .exit ?_
 refine⟨_,?_,(sj hx3).symm⟩
 exact .mp [3,17] [1,2] [] ⟨znz (fun _=>rfl) (fun _=>rfl) _,trivial⟩
 rintro m1 hj3
 subst x3
 try dsimp only at h
 simp only[st95]
 obtain⟨x4,hx4,h⟩:=za3 h
 refine .seqM 3 (fun(j:Unit)=>st90) (fun j=>x4=(.inr j)) (lb rfl) ?_ ?_
 refine .sp [3,17] ?_
 refine .block ?_
 refine .loopG 3 (fun(j:Nat×(List ((List UInt8)×Int)))=>st91 a0 j.1 j.2) (fun j=>j.1<=a0.Wishes.length/\zd8 (a0.Wishes.drop j.1) j.2=some x4) (fun j=>a0.Wishes.length-j.1) (0,m1) (lb rfl) ?_ ⟨Nat.zero_le _,hx4⟩ ?_
 exact .mp [17,281,282,283] [2] [] ⟨znz (fun _=>rfl) (fun _=>rfl) _,trivial⟩
 rintro⟨n5,m3⟩ ⟨hi4,hx4⟩
 simp only[st91]
 simp only at hi4 hx4
 refine .wf 282 (.int .i64 (a0.Wishes.length:Int)) rfl ?_
 intro hln5
 replace hln5:=wfn hln5
 refine .sp [17,281,282,283] ?_
 refine .seq (.cd (fun hc9=>?_) (fun hc9=>?_))
 have h7:n5<a0.Wishes.length:=by simpa using hc9
 have hwn5:=zdr h7 hln5
 have hpn5:=ze3 h7 hln5
 rw[za7 h7,zd8] at hx4
 refine .skip (.seq (.block (.seq ?_)))
 have e4:=zdb D.str a0.Wishes n5 h7
 refine .plx zS (ai e4 hwn5) [17,281,282,283] ?_
 refine .seq (.seq ?_)
 obtain⟨v14,hv14,hx4⟩:=za3 hx4
 refine .rg zS [17,21,281,282,283] ?_
 refine .rnx 6 hwn5 ?_
 refine .gcall rfl rfl rfl rfl rfl (fun hg=>⟨[],[.str (a0.Wishes[n5])],_,rfl,gd hg,rfl,(zeg (a0.Wishes[n5]) v14 (zab hv14 hg))⟩) ?_
 refine .rnx 2 hwn5 ?_
 refine .nn ?_
 refine .cd ?_ ?_<;>intro hc10
 replace hx4:=zab hx4 hc10
 refine .seq (.plx zS hwn5 [] ?_)
 have hq:=sj hx4
 subst x4
 try dsimp only at h
 obtain rfl:=sj h
 exact .rr
 replace hx4:=zae hx4 hc10
 refine .skip ?_
 have em2:updD (.str (a0.Wishes[n5])) (.int .i64 1) (mapD D.str (D.int .i64) m3)=some (mapD D.str (D.int .i64) (mput (a0.Wishes[n5]) 1 m3)):=zzr (D.int .i64) (a0.Wishes[n5]) 1 _ rfl m3
 refine .plx zS (ai em2 hwn5) [17,21,281,282,283] ?_
 refine .plx zS hwn5 [17,281,282,283] ?_
 refine⟨(n5+1,_),?_,⟨by omega,hx4⟩,by dsimp only;omega⟩
 exact .mp [17,281,282,283] [2] [] ⟨znz (fun _=>rfl) (fun _=>rfl) _,trivial⟩
 have h8:n5=a0.Wishes.length:=by have h8b:=of_decide_eq_false hc9;omega
 rw[zac (by omega),zd8] at hx4
 refine .exit ?_
 refine⟨_,?_,(sj hx4).symm⟩
 exact .m [] [] []
 rintro⟨⟩ hj4
 subst x4
 try dsimp only at h
 simp only[st90]
 refine .sp [] ?_
 obtain rfl:=sj h
 exact .rr
end Go.Proofs
