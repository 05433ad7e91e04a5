/- Texts of the proof. -/
import Derived.Test.YtbedjbhndfbpcaaGreatSeatOnePy
import Derived.Test.YtbedjbhndfbpcaaGreatSeatOnePp
import Derived.Test.YtbedjbhndfbpcaaGreatSeatOnePo
import Derived.Test.YtbedjbhndfbpcaaGreatSeatOnePq
import Derived.Test.YtbedjbhndfbpcaaGreatSeatOnePu
import Derived.Test.YtbedjbhndfbpcaaGreatSeatOnePr
import Derived.Test.YtbedjbhndfbpcaaGreatSeatOnePs
import Derived.Test.YtbedjbhndfbpcaaGreatSeatOnePt
import Derived.Test.YtbedjbhndfbpcaaGreatSeatOnePx
namespace Go.Proofs
open Go.Tm Go.RowKit Go.WideShapes
set_option maxRecDepth 100000
set_option maxHeartbeats 40000000
set_option linter.unusedSimpArgs false
set_option linter.unusedVariables false
attribute [local go_sem, local simp] zg1 zgu zlf
@[go_sem] def st43(r:(List (List UInt8))):St:=⟨[(2,.ref 0 1 0 r.length (some uC))],[(0,.arr 9 1 true (r.map D.str))],1⟩
theorem zg0(a0:List (List UInt8))(r:(List (List UInt8)))(h:zc5 a0=some r):zbv Tryz.prog 24 [.imm 1 (a0.map D.str) 4] [] (.ref 0 1 0 r.length (some uC)) [(0,some (.arr 9 1 true (r.map D.str)))] (0,3):=by
 refine zct Tryz.func24 ?_
 intro hwf
 unfold zc5 at h
 refine .ends 0 (za4 _) ?_
 refine .nil4 0 1 (a0.map D.str) rfl ?_ (fun hl=>?_)
 refine .sp [0] ?_
 refine .seq (.seq (.pl zS [0] ?_))
 refine .cond rfl rfl (fun hc=>by cases hc) (fun hc=>?_)
 obtain⟨k1,h⟩:=zbc h
 refine .skip ?_
 refine .seqM 0 (fun(_:Unit)=>⟨[(2,.ref 0 1 0 a0.length (some uC))],[(0,.arr 9 1 true (a0.map D.str))],1⟩) (fun _=>True) (lb rfl) ?_ (fun _ _=>?_)
 rcases zkb a0 with hE1|⟨y,ys,hE1⟩
 have hM1:a0.map D.str=[]:=by rw[hE1];simp
 refine .px zS (apn hM1) [0] ?_
 refine⟨(),?_,trivial⟩
 refine .n0 1 9 ?_
 refine .w0 2 0 1 ?_
 exact .mx hE1 [2] [0] []
 have hM1:a0.map D.str≠[]:=by rw[hE1];simp
 refine .px zS (apc hM1) [0] ?_
 refine⟨(),?_,trivial⟩
 refine .wk 2 _ (.ref 0 1 0 a0.length (some uC)) rfl (.unk _ _ _ _ _) ?_
 exact .mx hE1 [2] [0] []
 obtain rfl:=sj h
 refine .ret ⟨st43 a0,?_,.inr rfl,retH [0] ?_ ?_⟩
 exact .m [2] [0] []
 exact rsi0
 rfl
 have hE0:a0=[]:=by simpa using hl
 obtain⟨k1,h⟩:=zbc h
 refine .sp [0] ?_
 refine .seq (.seq (.pl zS [0] ?_))
 refine .cond rfl rfl (fun hc=>?_) (fun hc=>by cases hc)
 refine .sp [] ?_
 obtain rfl:=sj h
 refine .ret ⟨st43 a0,?_,.inr rfl,retH [0] ?_ ?_⟩
 refine .n0 1 9 ?_
 refine .w0 2 0 1 ?_
 exact .mx hE0 [2] [0] []
 exact rsi0
 rfl
@[go_sem] def st41(r:(List TSeen)):St:=⟨[(2,.ref 0 5 0 r.length (some uC))],[(0,.arr 75 5 true (r.map TSeen.d))],1⟩
theorem zk6(a0:List TSeen)(r:(List TSeen))(h:zel a0=some r):zbv Tryz.prog 25 [.imm 5 (a0.map TSeen.d) 4] [] (.ref 0 5 0 r.length (some uC)) [(0,some (.arr 75 5 true (r.map TSeen.d)))] (0,3):=by
 refine zct Tryz.func25 ?_
 intro hwf
 unfold zel at h
 refine .ends 0 (za4 _) ?_
 refine .nil4 0 5 (a0.map TSeen.d) rfl ?_ (fun hl=>?_)
 refine .sp [0] ?_
 refine .seq (.seq (.pl zS [0] ?_))
 refine .cond rfl rfl (fun hc=>by cases hc) (fun hc=>?_)
 obtain⟨k1,h⟩:=zbc h
 refine .skip ?_
 refine .seqM 0 (fun(_:Unit)=>⟨[(2,.ref 0 5 0 a0.length (some uC))],[(0,.arr 75 5 true (a0.map TSeen.d))],1⟩) (fun _=>True) (lb rfl) ?_ (fun _ _=>?_)
 rcases zkb a0 with hE1|⟨y,ys,hE1⟩
 have hM1:a0.map TSeen.d=[]:=by rw[hE1];simp
 refine .px zS (apn hM1) [0] ?_
 refine⟨(),?_,trivial⟩
 refine .n0 5 75 ?_
 refine .w0 2 0 5 ?_
 exact .mx hE1 [2] [0] []
 have hM1:a0.map TSeen.d≠[]:=by rw[hE1];simp
 refine .px zS (apc hM1) [0] ?_
 refine⟨(),?_,trivial⟩
 refine .wk 2 _ (.ref 0 5 0 a0.length (some uC)) rfl (.unk _ _ _ _ _) ?_
 exact .mx hE1 [2] [0] []
 obtain rfl:=sj h
 refine .ret ⟨st41 a0,?_,.inr rfl,retH [0] ?_ ?_⟩
 exact .m [2] [0] []
 exact rsi0
 rfl
 have hE0:a0=[]:=by simpa using hl
 obtain⟨k1,h⟩:=zbc h
 refine .sp [0] ?_
 refine .seq (.seq (.pl zS [0] ?_))
 refine .cond rfl rfl (fun hc=>?_) (fun hc=>by cases hc)
 refine .sp [] ?_
 obtain rfl:=sj h
 refine .ret ⟨st41 a0,?_,.inr rfl,retH [0] ?_ ?_⟩
 refine .n0 5 75 ?_
 refine .w0 2 0 5 ?_
 exact .mx hE0 [2] [0] []
 exact rsi0
 rfl
@[go_sem] def st27(r:TSeat):St:=⟨[(2,.ptr 5 0)],[(0,.arr 3 1 true (r.Group.Roster.map (D.int .i64))),(1,.arr 3 1 true (r.Group.Members.map (D.int .i64))),(2,.arr 9 1 true (r.Log.map D.str)),(3,.arr 75 5 true (r.Votes.map TSeen.d)),(4,.arr 9 1 true (r.Wishes.map D.str)),(5,.box [.int .i64 r.Me,.int .i64 r.Number,.ref 0 1 0 r.Group.Roster.length (some uC),.ref 1 1 0 r.Group.Members.length (some uC),.ref 2 1 0 r.Log.length (some uC),.ref 3 5 0 r.Votes.length (some uC),.int .u8 r.Try.Phase,.int .i64 r.Try.Ballot,.imm 1 (r.Try.Members.map (D.int .i64)) 13,.str r.Try.Wish,.str r.Try.Value,.imm 3 (r.Try.Promises.map TPromise.d) 13,.imm 1 (r.Try.Accepted.map (D.int .i64)) 13,.ref 4 1 0 r.Wishes.length (some uC),.int .i64 r.Heard])],6⟩
theorem zhd(a0:TSeat)(r:TSeat)(h:zfr a0=some r):zbv Tryz.prog 14 [.agg [.int .i64 a0.Me,.int .i64 a0.Number,.imm 1 (a0.Group.Roster.map (D.int .i64)) 4,.imm 1 (a0.Group.Members.map (D.int .i64)) 4,.imm 1 (a0.Log.map D.str) 4,.imm 5 (a0.Votes.map TSeen.d) 4,.int .u8 a0.Try.Phase,.int .i64 a0.Try.Ballot,.imm 1 (a0.Try.Members.map (D.int .i64)) 4,.str a0.Try.Wish,.str a0.Try.Value,.imm 3 (a0.Try.Promises.map TPromise.d) 4,.imm 1 (a0.Try.Accepted.map (D.int .i64)) 4,.imm 1 (a0.Wishes.map D.str) 4,.int .i64 a0.Heard]] [] (.agg [.int .i64 r.Me,.int .i64 r.Number,.ref 0 1 0 r.Group.Roster.length (some uC),.ref 1 1 0 r.Group.Members.length (some uC),.ref 2 1 0 r.Log.length (some uC),.ref 3 5 0 r.Votes.length (some uC),.int .u8 r.Try.Phase,.int .i64 r.Try.Ballot,.imm 1 (r.Try.Members.map (D.int .i64)) 13,.str r.Try.Wish,.str r.Try.Value,.imm 3 (r.Try.Promises.map TPromise.d) 13,.imm 1 (r.Try.Accepted.map (D.int .i64)) 13,.ref 4 1 0 r.Wishes.length (some uC),.int .i64 r.Heard]) [(0,some (.arr 3 1 true (r.Group.Roster.map (D.int .i64)))),(1,some (.arr 3 1 true (r.Group.Members.map (D.int .i64)))),(2,some (.arr 9 1 true (r.Log.map D.str))),(3,some (.arr 75 5 true (r.Votes.map TSeen.d))),(4,some (.arr 9 1 true (r.Wishes.map D.str)))] (0,20):=by
 refine zct Tryz.func14 ?_
 intro hwf
 unfold zfr at h
 refine .ends 0 (za4 _) ?_
 refine .sp [0] ?_
 obtain⟨v1,hv1,h⟩:=za3 h
 obtain⟨v2,hv2,h⟩:=za3 h
 refine .sr [1,2] ?_
 refine .rd 3 ?_
 refine .ncall (r:=.ref 3 1 0 v1.length (some uC)) (eff:=[(3,some (.arr 3 1 true (v1.map (D.int .i64))))]) (nw:=(3,6)) [] rfl rfl rfl rfl rfl (za9 rfl zaj) rfl (zcu 3 (lb rfl) (zch a0.Group.Roster v1 hv1)) (zay rfl rfl (zbb zbt _ _ _) zd5) (by intro i hi;simp[D.ids,D.idsL] at hi<;>omega) rfl ⟨lb rfl,lb rfl⟩ ?_
 refine .rd 3 ?_
 refine .ncall (r:=.ref 6 1 0 v2.length (some uC)) (eff:=[(6,some (.arr 3 1 true (v2.map (D.int .i64))))]) (nw:=(6,9)) [] rfl rfl rfl rfl rfl (za9 rfl zaj) rfl (zcu 6 (lb rfl) (zch a0.Group.Members v2 hv2)) (zay rfl rfl (zbb zbt _ _ _) zd5) (by intro i hi;simp[D.ids,D.idsL] at hi<;>omega) rfl ⟨lb rfl,lb rfl⟩ ?_
 refine .rd 3 ?_
 refine .nd ?_
 obtain⟨v3,hv3,h⟩:=za3 h
 obtain⟨v4,hv4,h⟩:=za3 h
 obtain⟨v5,hv5,h⟩:=za3 h
 obtain⟨v6,hv6,h⟩:=za3 h
 refine .sr [1,2] ?_
 refine .rd 2 ?_
 refine .ncall (r:=.ref 9 1 0 v3.length (some uC)) (eff:=[(9,some (.arr 9 1 true (v3.map D.str)))]) (nw:=(9,12)) [] rfl rfl rfl rfl rfl (za9 rfl zaj) rfl (zcu 9 (lb rfl) (zg0 a0.Log v3 hv3)) (zay rfl rfl (zbb zfi _ _ _) zd5) (by intro i hi;simp[D.ids,D.idsL] at hi<;>omega) rfl ⟨lb rfl,lb rfl⟩ ?_
 refine .rd 2 ?_
 refine .ncall (r:=.ref 12 5 0 v4.length (some uC)) (eff:=[(12,some (.arr 75 5 true (v4.map TSeen.d)))]) (nw:=(12,15)) [] rfl rfl rfl rfl rfl (za9 rfl zaj) rfl (zcu 12 (lb rfl) (zk6 a0.Votes v4 hv4)) (zay rfl rfl (zbb zh7 _ _ _) zd5) (by intro i hi;simp[D.ids,D.idsL] at hi<;>omega) rfl ⟨lb rfl,lb rfl⟩ ?_
 refine .rd 2 ?_
 refine .ncall (r:=.ref 15 1 0 v5.length (some uC)) (eff:=[(15,some (.arr 9 1 true (v5.map D.str)))]) (nw:=(15,18)) [] rfl rfl rfl rfl rfl (za9 rfl zaj) rfl (zcu 15 (lb rfl) (zg0 a0.Wishes v5 hv5)) (zay rfl rfl (zbb zfi _ _ _) zd5) (by intro i hi;simp[D.ids,D.idsL] at hi<;>omega) rfl ⟨lb rfl,lb rfl⟩ ?_
 refine .rd 2 ?_
 refine .cl (zpy a0.Try v6 hv6) ?_
 refine .rd 8 ?_
 refine .nd ?_
 refine .sp [1,2] ?_
 obtain rfl:=sj h
 refine .ret ⟨st27 (⟨a0.Me,a0.Number,(⟨v1,v2⟩:TGroup),v3,v4,v6,v5,a0.Heard⟩:TSeat),?_,.inr rfl,retH [4,3,2,1,0] ?_ ?_⟩
 exact .m [2] [3,6,9,12,15,1] [(3,0),(6,1),(9,2),(12,3),(15,4),(1,5)]
 exact rsi0
 rfl
@[go_sem] def ya91:St:=⟨[],[],0⟩
@[go_sem] def ya90(s:List (List UInt8))(v:List UInt8)(n1:Nat):St:=⟨[(0,.imm 1 (s.map D.str) 4),(1,.str v),(7,.int .i64 (s.length:Int)),(8,.int .i64 (n1:Int))],[],0⟩
theorem zj3(s:List (List UInt8))(v:List UInt8)(r:Int)(h:zdq s v=some r):zbi Tryz.prog 83 [.imm 1 (s.map D.str) 4,.str v] (.int .i64 r):=by
 refine zbp 2 Tryz.func83 ?_
 intro hwf
 unfold zdq at h
 refine .sp [0,1] ?_
 obtain⟨x1,hx1,h⟩:=za3 h
 refine .seqM 0 (fun(j:Unit)=>ya91) (fun j=>x1=(.inr j)) (lb rfl) ?_ ?_
 refine .sp [0,1] ?_
 refine .block ?_
 refine .loopG 0 (fun(j:Nat)=>ya90 s v j) (fun j=>j<=s.length/\zb6 v (s.drop j) j=some x1) (fun j=>s.length-j) (0) (lb rfl) ?_ ⟨Nat.zero_le _,hx1⟩ ?_
 exact .m [0,1,7,8] [] []
 rintro n1 ⟨hi1,hx1⟩
 simp only[ya90]
 refine .wf 7 (.int .i64 (s.length:Int)) rfl ?_
 intro hln1
 replace hln1:=wfn hln1
 refine .sp [0,1,7,8] ?_
 refine .seq (.cd (fun hc1=>?_) (fun hc1=>?_))
 have h1:n1<s.length:=by simpa using hc1
 have hwn1:=zdr h1 hln1
 have hpn1:=ze3 h1 hln1
 rw[za7 h1,zb6] at hx1
 refine .skip (.seq (.block (.seq (.plx zS hwn1 [0,1,7,8] ?_))))
 refine .seq ?_
 have e1:=zdb D.str s n1 h1
 refine .plx zS (ai e1 hwn1) [0,1,5,7,8] ?_
 refine .cd ?_ ?_<;>intro hc2
 replace hx1:=zab hx1 hc2
 refine .seq (.plx zS hwn1 [5] ?_)
 have hq:=sj hx1
 subst x1
 try dsimp only at h
 obtain rfl:=sj h
 exact .rr
 replace hx1:=zae hx1 hc2
 refine .skip (.plx zS hwn1 [0,1,7,8] ?_)
 refine⟨n1+1,?_,⟨by omega,hx1⟩,by dsimp only;omega⟩
 exact .m [0,1,7,8] [] []
 have h2:n1=s.length:=by have h2b:=of_decide_eq_false hc1;omega
 rw[zac (by omega),zb6] at hx1
 refine .exit ?_
 refine⟨_,?_,(sj hx1).symm⟩
 exact .m [] [] []
 rintro⟨⟩ hj1
 subst x1
 try dsimp only at h
 simp only[ya91]
 refine .sp [] ?_
 obtain rfl:=sj h
 exact .rr
theorem zfc(a0:List (List UInt8))(a1:List UInt8)(r:Bool)(h:zbw a0 a1=some r):zbi Tryz.prog 57 [.imm 1 (a0.map D.str) 4,.str a1] (.bool r):=by
 refine zbp 2 Tryz.func57 ?_
 intro hwf
 unfold zbw at h
 refine .sp [0,1] ?_
 obtain⟨v1,hv1,h⟩:=za3 h
 refine .sr [0,1] ?_
 refine .rn 2 ?_
 refine .cl (zj3 a0 a1 v1 hv1) ?_
 refine .rn 2 ?_
 refine .nn ?_
 obtain rfl:=sj h
 exact .rr
@[go_sem] def st39(r:Int×Tseat_seat):St:=⟨[(0,.ptr 20000 0),(4,.int .i64 r.1)],(zg1 r.2 20000 20100 20101 20102 20103 20104 20105 20106),20107⟩
theorem zjt(a0:Tseat_seat)(a1:List UInt8)(r:Int×Tseat_seat)(h:zfk a0 a1=some r):zbv Tryz.prog 31 [.ptr 20000 0,.str a1] (zg1 a0 20000 20001 20002 20003 20004 20005 20006 20007) (.int .i64 r.1) (zgu r.2 20000 20001 20002 20003 20004 20005 20006 20007 20100 20101 20102 20103 20104 20105 20106) (20100,20109):=by
 refine zct Tryz.func31 ?_
 intro hwf
 unfold zfk at h
 refine .ends 20100 (za4 _) ?_
 refine .sp [0,1] ?_
 refine .seq ?_
 obtain⟨v1,hv1,h⟩:=za3 h
 refine .sr [0,1] ?_
 refine .rn 1 ?_
 refine .cl (zeg a1 v1 hv1) ?_
 refine .rn 1 ?_
 refine .nn ?_
 refine .cd ?_ ?_<;>intro hc1
 replace h:=zab h hc1
 refine .sp [0] ?_
 obtain rfl:=sj h
 refine .ret ⟨st39 (8,a0),?_,.inr rfl,retH [20000,20106,20105,20104,20103,20102,20101,20100] ?_ ?_⟩
 exact .m [0,4] [20000,20001,20002,20003,20004,20005,20006,20007] [(20001,20100),(20002,20101),(20003,20102),(20004,20103),(20005,20104),(20006,20105),(20007,20106)]
 exact rsi0
 rfl
 replace h:=zae h hc1
 refine .skip (.seq ?_)
 obtain⟨v2,hv2,h⟩:=za3 h
 obtain⟨v3,hv3,h⟩:=za3 h
 refine .sr [0,1] ?_
 refine .rn 6 ?_
 refine .lcall (r:=.bool v2) [] rfl rfl rfl rfl rfl (za9 (zhk (zaf zf8 (by first|rfl|(simp only[go_sem,Nat.reduceBEq];rfl)) (by first|rfl|(simp;done)|(simp<;>omega))) trivial) (za9 rfl zaj)) rfl (zfc a0.Seat.Log a1 v2 hv2) ?_
 refine .rn 7 ?_
 refine .glcall (r:=.bool v3) [] rfl rfl rfl rfl rfl (fun hg=>⟨[],[.ref 20005 1 0 a0.Seat.Wishes.length (some uC),.str a1],_,rfl,gd hg,(za9 (zhk (zaf zf8 (by first|rfl|(simp only[go_sem,Nat.reduceBEq];rfl)) (by first|rfl|(simp;done)|(simp<;>omega))) trivial) (za9 rfl zaj)),rfl,(zfc a0.Seat.Wishes a1 v3 (zab hv3 hg))⟩) ?_
 refine .rn 1 ?_
 refine .nn ?_
 refine .cd ?_ ?_<;>intro hc2
 replace h:=zab h hc2
 refine .sp [0] ?_
 obtain rfl:=sj h
 refine .ret ⟨st39 (0,a0),?_,.inr rfl,retH [20000,20106,20105,20104,20103,20102,20101,20100] ?_ ?_⟩
 exact .m [0,4] [20000,20001,20002,20003,20004,20005,20006,20007] [(20001,20100),(20002,20101),(20003,20102),(20004,20103),(20005,20104),(20006,20105),(20007,20106)]
 exact rsi0
 rfl
 replace h:=zae h hc2
 refine .skip (.seq (.seq (.pl zS [0,1] ?_)))
 refine .cd ?_ ?_<;>intro hc3
 replace h:=zab h hc3
 refine .sp [0] ?_
 obtain rfl:=sj h
 refine .ret ⟨st39 (9,a0),?_,.inr rfl,retH [20000,20106,20105,20104,20103,20102,20101,20100] ?_ ?_⟩
 exact .m [0,4] [20000,20001,20002,20003,20004,20005,20006,20007] [(20001,20100),(20002,20101),(20003,20102),(20004,20103),(20005,20104),(20006,20105),(20007,20106)]
 exact rsi0
 rfl
 replace h:=zae h hc3
 refine .skip ?_
 obtain⟨k1,h⟩:=zbc h
 refine .sr [0,1] ?_
 refine .rn 6 ?_
 refine .rn 7 ?_
 refine .nn ?_
 refine .sp [0] ?_
 obtain rfl:=sj h
 refine .ret ⟨st39 (0,(⟨(⟨a0.Seat.Me,a0.Seat.Number,a0.Seat.Group,a0.Seat.Log,a0.Seat.Votes,a0.Seat.Try,(a0.Seat.Wishes++[a1]),a0.Seat.Heard⟩:TSeat),a0.fRecs,a0.fMail⟩:Tseat_seat)),?_,.inr rfl,retH [20000,20106,20105,20104,20103,20102,20101,20100] ?_ ?_⟩
 exact .m [0,4] [20000,20001,20002,20003,20004,20101,20006,20007] [(20001,20100),(20002,20101),(20003,20102),(20004,20103),(20101,20104),(20006,20105),(20007,20106)]
 exact rsi0
 rfl
@[go_sem] def ya9l(a0:Tseat_seat)(a1:List Int)(a2:TMail)(n2:Nat)(l1:List TMail)(n1:Int):St:=⟨[(0,.ptr 20000 0),(5,.ptr 20100 0),(20,.imm 1 (a1.map (D.int .i64)) 4),(21,.int .i64 (a1.length:Int)),(22,.int .i64 (n2:Int))],[(20000,.box [.int .i64 a0.Seat.Me,.int .i64 a0.Seat.Number,.ref 20001 1 0 a0.Seat.Group.Roster.length (some uC),.ref 20002 1 0 a0.Seat.Group.Members.length (some uC),.ref 20003 1 0 a0.Seat.Log.length (some uC),.ref 20004 5 0 a0.Seat.Votes.length (some uC),.int .u8 a0.Seat.Try.Phase,.int .i64 a0.Seat.Try.Ballot,.imm 1 (a0.Seat.Try.Members.map (D.int .i64)) 13,.str a0.Seat.Try.Wish,.str a0.Seat.Try.Value,.imm 3 (a0.Seat.Try.Promises.map TPromise.d) 13,.imm 1 (a0.Seat.Try.Accepted.map (D.int .i64)) 13,.ref 20005 1 0 a0.Seat.Wishes.length (some uC),.int .i64 a0.Seat.Heard,.ref 20006 5 0 a0.fRecs.length (some uC),.ref 20101 10 0 l1.length (some uC)]),(20001,.arr 3 1 true (a0.Seat.Group.Roster.map (D.int .i64))),(20002,.arr 3 1 true (a0.Seat.Group.Members.map (D.int .i64))),(20003,.arr 9 1 true (a0.Seat.Log.map D.str)),(20004,.arr 75 5 true (a0.Seat.Votes.map TSeen.d)),(20005,.arr 9 1 true (a0.Seat.Wishes.map D.str)),(20006,.arr 53 5 true (a0.fRecs.map TRecord.d)),(20100,.box [.int .i64 a0.Seat.Me,.int .i64 n1,.int .u8 a2.Kind,.int .i64 a0.Seat.Number,.int .i64 a2.Slot,.int .i64 a2.Ballot,.int .i64 a2.Prior,.str a2.Value,.int .i64 a2.Id,.int .i64 a2.Time]),(20101,.arr 55 10 true (l1.map TMail.d))],20102⟩
@[go_sem] def ya9k(a0:Tseat_seat)(a1:List Int)(a2:TMail)(n2:Nat)(yq0:Int)(l2:List TMail):St:=⟨[(0,.ptr 20000 0),(5,.ptr 20100 0),(20,.imm 1 (a1.map (D.int .i64)) 4),(21,.int .i64 (a1.length:Int)),(22,.int .i64 (n2:Int))],[(20000,.box [.int .i64 a0.Seat.Me,.int .i64 a0.Seat.Number,.ref 20001 1 0 a0.Seat.Group.Roster.length (some uC),.ref 20002 1 0 a0.Seat.Group.Members.length (some uC),.ref 20003 1 0 a0.Seat.Log.length (some uC),.ref 20004 5 0 a0.Seat.Votes.length (some uC),.int .u8 a0.Seat.Try.Phase,.int .i64 a0.Seat.Try.Ballot,.imm 1 (a0.Seat.Try.Members.map (D.int .i64)) 13,.str a0.Seat.Try.Wish,.str a0.Seat.Try.Value,.imm 3 (a0.Seat.Try.Promises.map TPromise.d) 13,.imm 1 (a0.Seat.Try.Accepted.map (D.int .i64)) 13,.ref 20005 1 0 a0.Seat.Wishes.length (some uC),.int .i64 a0.Seat.Heard,.ref 20006 5 0 a0.fRecs.length (some uC),.ref 20102 10 0 l2.length (some uC)]),(20001,.arr 3 1 true (a0.Seat.Group.Roster.map (D.int .i64))),(20002,.arr 3 1 true (a0.Seat.Group.Members.map (D.int .i64))),(20003,.arr 9 1 true (a0.Seat.Log.map D.str)),(20004,.arr 75 5 true (a0.Seat.Votes.map TSeen.d)),(20005,.arr 9 1 true (a0.Seat.Wishes.map D.str)),(20006,.arr 53 5 true (a0.fRecs.map TRecord.d)),(20100,.box [.int .i64 a0.Seat.Me,.int .i64 (yq0),.int .u8 a2.Kind,.int .i64 a0.Seat.Number,.int .i64 a2.Slot,.int .i64 a2.Ballot,.int .i64 a2.Prior,.str a2.Value,.int .i64 a2.Id,.int .i64 a2.Time]),(20102,.arr 55 10 true (l2.map TMail.d))],20103⟩
@[go_sem] def st34(r:Tseat_seat):St:=⟨[(0,.ptr 20000 0)],(zg1 r 20000 20100 20101 20102 20103 20104 20105 20106),20107⟩
theorem zhs(a0:Tseat_seat)(a1:List Int)(a2:TMail)(r:Tseat_seat)(h:zet a0 a1 a2=some r):zbv Tryz.prog 52 [.ptr 20000 0,.imm 1 (a1.map (D.int .i64)) 4,.agg [.int .i64 a2.From,.int .i64 a2.To,.int .u8 a2.Kind,.int .i64 a2.Group,.int .i64 a2.Slot,.int .i64 a2.Ballot,.int .i64 a2.Prior,.str a2.Value,.int .i64 a2.Id,.int .i64 a2.Time]] (zg1 a0 20000 20001 20002 20003 20004 20005 20006 20007) (.tuple []) (zgu r 20000 20001 20002 20003 20004 20005 20006 20007 20100 20101 20102 20103 20104 20105 20106) (20100,20109):=by
 refine zct Tryz.func52 ?_
 intro hwf
 unfold zet at h
 refine .ends 20100 (za4 _) ?_
 refine .sp [0,1,2] ?_
 refine .sr [0,1,5] ?_
 refine .rd 6 ?_
 refine .rd 8 ?_
 refine .nd ?_
 refine .sp [0,1,5] ?_
 refine .block ?_
 refine .loopG 20101 (fun(j:Nat×(List TMail)×Int)=>ya9l a0 a1 a2 j.1 j.2.1 j.2.2) (fun j=>j.1<=a1.length/\zcq a0 a2 (a1.drop j.1) j.2.1 j.2.2=some r) (fun j=>a1.length-j.1) (0,a0.fMail,a2.To) (lb rfl) ?_ ⟨Nat.zero_le _,h⟩ ?_
 exact .m [0,5,20,21,22] [20000,20001,20002,20003,20004,20005,20006,20100,20007] [(20007,20101)]
 rintro⟨n2,l1,n1⟩ ⟨hi1,h⟩
 simp only[ya9l]
 simp only at hi1 h
 refine .wf 21 (.int .i64 (a1.length:Int)) rfl ?_
 intro hln2
 replace hln2:=wfn hln2
 refine .sp [0,5,20,21,22] ?_
 refine .seq (.cd (fun hc1=>?_) (fun hc1=>?_))
 have h1:n2<a1.length:=by simpa using hc1
 have hwn2:=zdr h1 hln2
 have hpn2:=ze3 h1 hln2
 rw[za7 h1,zig] at h
 obtain⟨x1,hx1,h⟩:=za3 h
 refine .skip ?_
 refine .seqM 20102 (fun(j:(List TMail))=>ya9k a0 a1 a2 n2 (a1[n2]) j) (fun j=>x1=j) (lb rfl) ?_ ?_
 refine .block (.seq ?_)
 have e1:=zdb (D.int .i64) a1 n2 h1
 refine .plx zS (ai e1 hwn2) [0,5,20,21,22] ?_
 refine .seq (.plx zS hwn2 [0,5,7,20,21,22] ?_)
 refine .seq (.plx zS hwn2 [0,5,7,20,21,22] ?_)
 refine .cd ?_ ?_<;>intro hc2
 replace hx1:=zab hx1 hc2
 obtain⟨k1,hx1⟩:=zbc hx1
 refine .rg zS [0,5,20,21,22] ?_
 refine .rdx 6 hwn2 ?_
 refine .rdx 5 hwn2 ?_
 refine .nd ?_
 refine⟨_,?_,(sj hx1).symm⟩
 exact .m [0,5,20,21,22] [20000,20001,20002,20003,20004,20005,20006,20100,20103] [(20103,20102)]
 replace hx1:=zae hx1 hc2
 refine .skip ?_
 refine⟨_,?_,(sj hx1).symm⟩
 exact .m [0,5,20,21,22] [20000,20001,20002,20003,20004,20005,20006,20100,20101] [(20101,20102)]
 rintro l2 hj1
 subst x1
 try dsimp only at h
 simp only[ya9k]
 refine .plx zS hwn2 [0,5,20,21,22] ?_
 refine⟨(n2+1,_,_),?_,⟨by omega,h⟩,by dsimp only;omega⟩
 exact .m [0,5,20,21,22] [20000,20001,20002,20003,20004,20005,20006,20100,20102] [(20102,20101)]
 have h2:n2=a1.length:=by have h2b:=of_decide_eq_false hc1;omega
 rw[zac (by omega),zif] at h
 refine .exit ?_
 obtain rfl:=sj h
 refine⟨st34 (⟨a0.Seat,a0.fRecs,l1⟩:Tseat_seat),?_,.inl rfl,retH [20000,20106,20105,20104,20103,20102,20101,20100] ?_ ?_⟩
 exact .m [0] [20000,20001,20002,20003,20004,20005,20006,20101] [(20001,20100),(20002,20101),(20003,20102),(20004,20103),(20005,20104),(20006,20105),(20101,20106)]
 exact rsi0
 rfl
@[go_sem] def ya9j(a0:Tseat_seat)(a1:List Int)(a2:TMail)(l1:List TMail)(n1:Int)(n2:Int):St:=⟨[(0,.ptr 20000 0),(5,.ptr 20100 0),(20,.ref 20008 1 0 a1.length (some uC)),(21,.int .i64 (a1.length:Int)),(22,.int .i64 n2)],[(20000,.box [.int .i64 a0.Seat.Me,.int .i64 a0.Seat.Number,.ref 20001 1 0 a0.Seat.Group.Roster.length (some uC),.ref 20002 1 0 a0.Seat.Group.Members.length (some uC),.ref 20003 1 0 a0.Seat.Log.length (some uC),.ref 20004 5 0 a0.Seat.Votes.length (some uC),.int .u8 a0.Seat.Try.Phase,.int .i64 a0.Seat.Try.Ballot,.imm 1 (a0.Seat.Try.Members.map (D.int .i64)) 13,.str a0.Seat.Try.Wish,.str a0.Seat.Try.Value,.imm 3 (a0.Seat.Try.Promises.map TPromise.d) 13,.imm 1 (a0.Seat.Try.Accepted.map (D.int .i64)) 13,.ref 20005 1 0 a0.Seat.Wishes.length (some uC),.int .i64 a0.Seat.Heard,.ref 20006 5 0 a0.fRecs.length (some uC),.ref 20101 10 0 l1.length (some uC)]),(20001,.arr 3 1 true (a0.Seat.Group.Roster.map (D.int .i64))),(20002,.arr 3 1 true (a0.Seat.Group.Members.map (D.int .i64))),(20003,.arr 9 1 true (a0.Seat.Log.map D.str)),(20004,.arr 75 5 true (a0.Seat.Votes.map TSeen.d)),(20005,.arr 9 1 true (a0.Seat.Wishes.map D.str)),(20006,.arr 53 5 true (a0.fRecs.map TRecord.d)),(20008,.arr 3 1 true (a1.map (D.int .i64))),(20100,.box [.int .i64 a0.Seat.Me,.int .i64 n1,.int .u8 a2.Kind,.int .i64 a0.Seat.Number,.int .i64 a2.Slot,.int .i64 a2.Ballot,.int .i64 a2.Prior,.str a2.Value,.int .i64 a2.Id,.int .i64 a2.Time]),(20101,.arr 55 10 true (l1.map TMail.d))],20102⟩
@[go_sem] def ya9i(a0:Tseat_seat)(a1:List Int)(a2:TMail)(n2:Int)(l2:List TMail):St:=⟨[(0,.ptr 20000 0),(5,.ptr 20100 0),(20,.ref 20008 1 0 a1.length (some uC)),(21,.int .i64 (a1.length:Int)),(22,.int .i64 n2)],[(20000,.box [.int .i64 a0.Seat.Me,.int .i64 a0.Seat.Number,.ref 20001 1 0 a0.Seat.Group.Roster.length (some uC),.ref 20002 1 0 a0.Seat.Group.Members.length (some uC),.ref 20003 1 0 a0.Seat.Log.length (some uC),.ref 20004 5 0 a0.Seat.Votes.length (some uC),.int .u8 a0.Seat.Try.Phase,.int .i64 a0.Seat.Try.Ballot,.imm 1 (a0.Seat.Try.Members.map (D.int .i64)) 13,.str a0.Seat.Try.Wish,.str a0.Seat.Try.Value,.imm 3 (a0.Seat.Try.Promises.map TPromise.d) 13,.imm 1 (a0.Seat.Try.Accepted.map (D.int .i64)) 13,.ref 20005 1 0 a0.Seat.Wishes.length (some uC),.int .i64 a0.Seat.Heard,.ref 20006 5 0 a0.fRecs.length (some uC),.ref 20102 10 0 l2.length (some uC)]),(20001,.arr 3 1 true (a0.Seat.Group.Roster.map (D.int .i64))),(20002,.arr 3 1 true (a0.Seat.Group.Members.map (D.int .i64))),(20003,.arr 9 1 true (a0.Seat.Log.map D.str)),(20004,.arr 75 5 true (a0.Seat.Votes.map TSeen.d)),(20005,.arr 9 1 true (a0.Seat.Wishes.map D.str)),(20006,.arr 53 5 true (a0.fRecs.map TRecord.d)),(20008,.arr 3 1 true (a1.map (D.int .i64))),(20100,.box [.int .i64 a0.Seat.Me,.int .i64 (a1.getD n2.toNat default),.int .u8 a2.Kind,.int .i64 a0.Seat.Number,.int .i64 a2.Slot,.int .i64 a2.Ballot,.int .i64 a2.Prior,.str a2.Value,.int .i64 a2.Id,.int .i64 a2.Time]),(20102,.arr 55 10 true (l2.map TMail.d))],20103⟩
@[go_sem] def st35(r:Tseat_seat):St:=⟨[(0,.ptr 20000 0)],(zg1 r 20000 20100 20101 20102 20103 20104 20105 20106),20107⟩
theorem zh0(a0:Tseat_seat)(a1:List Int)(a2:TMail)(r:Tseat_seat)(h:zd7 a0 a1 a2=some r):zbv Tryz.prog 52 [.ptr 20000 0,.ref 20008 1 0 a1.length (some uC),.agg [.int .i64 a2.From,.int .i64 a2.To,.int .u8 a2.Kind,.int .i64 a2.Group,.int .i64 a2.Slot,.int .i64 a2.Ballot,.int .i64 a2.Prior,.str a2.Value,.int .i64 a2.Id,.int .i64 a2.Time]] [(20000,zlf a0 20001 20002 20003 20004 20005 20006 20007),(20001,.arr 3 1 true (a0.Seat.Group.Roster.map (D.int .i64))),(20002,.arr 3 1 true (a0.Seat.Group.Members.map (D.int .i64))),(20003,.arr 9 1 true (a0.Seat.Log.map D.str)),(20004,.arr 75 5 true (a0.Seat.Votes.map TSeen.d)),(20005,.arr 9 1 true (a0.Seat.Wishes.map D.str)),(20006,.arr 53 5 true (a0.fRecs.map TRecord.d)),(20007,.arr 55 10 true (a0.fMail.map TMail.d)),(20008,.arr 3 1 true (a1.map (D.int .i64)))] (.tuple []) [(20000,some (zlf r 20100 20101 20102 20103 20104 20105 20106)),(20001,none),(20002,none),(20003,none),(20004,none),(20005,none),(20006,none),(20007,none),(20008,none),(20100,some (.arr 3 1 true (r.Seat.Group.Roster.map (D.int .i64)))),(20101,some (.arr 3 1 true (r.Seat.Group.Members.map (D.int .i64)))),(20102,some (.arr 9 1 true (r.Seat.Log.map D.str))),(20103,some (.arr 75 5 true (r.Seat.Votes.map TSeen.d))),(20104,some (.arr 9 1 true (r.Seat.Wishes.map D.str))),(20105,some (.arr 53 5 true (r.fRecs.map TRecord.d))),(20106,some (.arr 55 10 true (r.fMail.map TMail.d)))] (20100,20109):=by
 refine zct Tryz.func52 ?_
 intro hwf
 unfold zd7 at h
 refine .ends 20100 (za4 _) ?_
 refine .sp [0,1,2] ?_
 refine .sr [0,1,5] ?_
 refine .rd 6 ?_
 refine .rd 8 ?_
 refine .nd ?_
 refine .sp [0,1,5] ?_
 refine .block ?_
 refine .loopG 20101 (fun(j:Nat×(List TMail)×Int×Int)=>ya9j a0 a1 a2 j.2.1 j.2.2.1 j.2.2.2) (fun j=>zcb a0 a1 a2 j.1 j.2.1 j.2.2.1 j.2.2.2=some r) (fun j=>j.1) (a1.length+1,a0.fMail,a2.To,0) (lb rfl) ?_ h ?_
 exact .m [0,5,20,21,22] [20000,20001,20002,20003,20004,20005,20006,20008,20100,20007] [(20007,20101)]
 rintro⟨fu1,l1,n1,n2⟩ h
 simp only[ya9j]
 try simp only at h
 obtain⟨fu1,rfl⟩:∃k,fu1=k+1:=by cases fu1 with|zero=>(rw[zcb] at h;cases h)|succ k=>exact⟨k,rfl⟩
 rw[zcb] at h
 refine .sp [0,5,20,21,22] ?_
 refine .seq (.cd (fun hc1=>?_) (fun hc1=>?_))
 replace h:=zab h hc1
 obtain⟨x1,hx1,h⟩:=za3 h
 refine .skip ?_
 refine .seqM 20102 (fun(j:(List TMail))=>ya9i a0 a1 a2 n2 j) (fun j=>x1=j) (lb rfl) ?_ ?_
 refine .block (.seq ?_)
 obtain⟨k1,hx1⟩:=zbc hx1
 have e1:=zdp (D.int .i64) a1 n2
 replace e1:=e1 k1
 refine .plx zS e1 [0,5,20,21,22] ?_
 refine .sp [0,5,7,20,21,22] ?_
 refine .sp [0,5,7,20,21,22] ?_
 refine .cd ?_ ?_<;>intro hc2
 replace hx1:=zab hx1 hc2
 obtain⟨k2,hx1⟩:=zbc hx1
 refine .rg zS [0,5,20,21,22] ?_
 refine .rd 6 ?_
 refine .rd 5 ?_
 refine .nd ?_
 refine⟨_,?_,(sj hx1).symm⟩
 exact .m [0,5,20,21,22] [20000,20001,20002,20003,20004,20005,20006,20008,20100,20103] [(20103,20102)]
 replace hx1:=zae hx1 hc2
 refine .skip ?_
 refine⟨_,?_,(sj hx1).symm⟩
 exact .m [0,5,20,21,22] [20000,20001,20002,20003,20004,20005,20006,20008,20100,20101] [(20101,20102)]
 rintro l2 hj1
 subst x1
 try dsimp only at h
 simp only[ya9i]
 refine .pl zS [0,5,20,21,22] ?_
 refine⟨(fu1,_,_,_),?_,h,by dsimp only;omega⟩
 exact .m [0,5,20,21,22] [20000,20001,20002,20003,20004,20005,20006,20008,20100,20102] [(20102,20101)]
 replace h:=zae h hc1
 refine .exit ?_
 obtain rfl:=sj h
 refine⟨st35 (⟨a0.Seat,a0.fRecs,l1⟩:Tseat_seat),?_,.inl rfl,retH [20000,20106,20105,20104,20103,20102,20101,20100] ?_ ?_⟩
 exact .m [0] [20000,20001,20002,20003,20004,20005,20006,20101] [(20001,20100),(20002,20101),(20003,20102),(20004,20103),(20005,20104),(20006,20105),(20101,20106)]
 exact rsi0
 rfl
@[go_sem] def ya9h(a0:Tseat_seat)(a2:TMail)(l1:List TMail)(n1:Int)(n2:Int):St:=⟨[(0,.ptr 20000 0),(5,.ptr 20100 0),(20,.ref 20001 1 0 a0.Seat.Group.Roster.length (some uC)),(21,.int .i64 (a0.Seat.Group.Roster.length:Int)),(22,.int .i64 n2)],[(20000,.box [.int .i64 a0.Seat.Me,.int .i64 a0.Seat.Number,.ref 20001 1 0 a0.Seat.Group.Roster.length (some uC),.ref 20002 1 0 a0.Seat.Group.Members.length (some uC),.ref 20003 1 0 a0.Seat.Log.length (some uC),.ref 20004 5 0 a0.Seat.Votes.length (some uC),.int .u8 a0.Seat.Try.Phase,.int .i64 a0.Seat.Try.Ballot,.imm 1 (a0.Seat.Try.Members.map (D.int .i64)) 13,.str a0.Seat.Try.Wish,.str a0.Seat.Try.Value,.imm 3 (a0.Seat.Try.Promises.map TPromise.d) 13,.imm 1 (a0.Seat.Try.Accepted.map (D.int .i64)) 13,.ref 20005 1 0 a0.Seat.Wishes.length (some uC),.int .i64 a0.Seat.Heard,.ref 20006 5 0 a0.fRecs.length (some uC),.ref 20101 10 0 l1.length (some uC)]),(20001,.arr 3 1 true (a0.Seat.Group.Roster.map (D.int .i64))),(20002,.arr 3 1 true (a0.Seat.Group.Members.map (D.int .i64))),(20003,.arr 9 1 true (a0.Seat.Log.map D.str)),(20004,.arr 75 5 true (a0.Seat.Votes.map TSeen.d)),(20005,.arr 9 1 true (a0.Seat.Wishes.map D.str)),(20006,.arr 53 5 true (a0.fRecs.map TRecord.d)),(20100,.box [.int .i64 a0.Seat.Me,.int .i64 n1,.int .u8 a2.Kind,.int .i64 a0.Seat.Number,.int .i64 a2.Slot,.int .i64 a2.Ballot,.int .i64 a2.Prior,.str a2.Value,.int .i64 a2.Id,.int .i64 a2.Time]),(20101,.arr 55 10 true (l1.map TMail.d))],20102⟩
@[go_sem] def ya9g(a0:Tseat_seat)(a2:TMail)(n2:Int)(l2:List TMail):St:=⟨[(0,.ptr 20000 0),(5,.ptr 20100 0),(20,.ref 20001 1 0 a0.Seat.Group.Roster.length (some uC)),(21,.int .i64 (a0.Seat.Group.Roster.length:Int)),(22,.int .i64 n2)],[(20000,.box [.int .i64 a0.Seat.Me,.int .i64 a0.Seat.Number,.ref 20001 1 0 a0.Seat.Group.Roster.length (some uC),.ref 20002 1 0 a0.Seat.Group.Members.length (some uC),.ref 20003 1 0 a0.Seat.Log.length (some uC),.ref 20004 5 0 a0.Seat.Votes.length (some uC),.int .u8 a0.Seat.Try.Phase,.int .i64 a0.Seat.Try.Ballot,.imm 1 (a0.Seat.Try.Members.map (D.int .i64)) 13,.str a0.Seat.Try.Wish,.str a0.Seat.Try.Value,.imm 3 (a0.Seat.Try.Promises.map TPromise.d) 13,.imm 1 (a0.Seat.Try.Accepted.map (D.int .i64)) 13,.ref 20005 1 0 a0.Seat.Wishes.length (some uC),.int .i64 a0.Seat.Heard,.ref 20006 5 0 a0.fRecs.length (some uC),.ref 20102 10 0 l2.length (some uC)]),(20001,.arr 3 1 true (a0.Seat.Group.Roster.map (D.int .i64))),(20002,.arr 3 1 true (a0.Seat.Group.Members.map (D.int .i64))),(20003,.arr 9 1 true (a0.Seat.Log.map D.str)),(20004,.arr 75 5 true (a0.Seat.Votes.map TSeen.d)),(20005,.arr 9 1 true (a0.Seat.Wishes.map D.str)),(20006,.arr 53 5 true (a0.fRecs.map TRecord.d)),(20100,.box [.int .i64 a0.Seat.Me,.int .i64 (a0.Seat.Group.Roster.getD n2.toNat default),.int .u8 a2.Kind,.int .i64 a0.Seat.Number,.int .i64 a2.Slot,.int .i64 a2.Ballot,.int .i64 a2.Prior,.str a2.Value,.int .i64 a2.Id,.int .i64 a2.Time]),(20102,.arr 55 10 true (l2.map TMail.d))],20103⟩
@[go_sem] def st36(r:Tseat_seat):St:=⟨[(0,.ptr 20000 0)],(zg1 r 20000 20100 20101 20102 20103 20104 20105 20106),20107⟩
theorem zj5(a0:Tseat_seat)(a2:TMail)(r:Tseat_seat)(h:zem a0 a2=some r):zbv Tryz.prog 52 [.ptr 20000 0,.ref 20001 1 0 a0.Seat.Group.Roster.length (some uC),.agg [.int .i64 a2.From,.int .i64 a2.To,.int .u8 a2.Kind,.int .i64 a2.Group,.int .i64 a2.Slot,.int .i64 a2.Ballot,.int .i64 a2.Prior,.str a2.Value,.int .i64 a2.Id,.int .i64 a2.Time]] (zg1 a0 20000 20001 20002 20003 20004 20005 20006 20007) (.tuple []) (zgu r 20000 20001 20002 20003 20004 20005 20006 20007 20100 20101 20102 20103 20104 20105 20106) (20100,20109):=by
 refine zct Tryz.func52 ?_
 intro hwf
 unfold zem at h
 refine .ends 20100 (za4 _) ?_
 refine .sp [0,1,2] ?_
 refine .sr [0,1,5] ?_
 refine .rd 6 ?_
 refine .rd 8 ?_
 refine .nd ?_
 refine .sp [0,1,5] ?_
 refine .block ?_
 refine .loopG 20101 (fun(j:Nat×(List TMail)×Int×Int)=>ya9h a0 a2 j.2.1 j.2.2.1 j.2.2.2) (fun j=>zca a0 a2 j.1 j.2.1 j.2.2.1 j.2.2.2=some r) (fun j=>j.1) (a0.Seat.Group.Roster.length+1,a0.fMail,a2.To,0) (lb rfl) ?_ h ?_
 exact .m [0,5,20,21,22] [20000,20001,20002,20003,20004,20005,20006,20100,20007] [(20007,20101)]
 rintro⟨fu1,l1,n1,n2⟩ h
 simp only[ya9h]
 try simp only at h
 obtain⟨fu1,rfl⟩:∃k,fu1=k+1:=by cases fu1 with|zero=>(rw[zca] at h;cases h)|succ k=>exact⟨k,rfl⟩
 rw[zca] at h
 refine .sp [0,5,20,21,22] ?_
 refine .seq (.cd (fun hc1=>?_) (fun hc1=>?_))
 replace h:=zab h hc1
 obtain⟨x1,hx1,h⟩:=za3 h
 refine .skip ?_
 refine .seqM 20102 (fun(j:(List TMail))=>ya9g a0 a2 n2 j) (fun j=>x1=j) (lb rfl) ?_ ?_
 refine .block (.seq ?_)
 obtain⟨k1,hx1⟩:=zbc hx1
 have e1:=zdp (D.int .i64) a0.Seat.Group.Roster n2
 replace e1:=e1 k1
 refine .plx zS e1 [0,5,20,21,22] ?_
 refine .sp [0,5,7,20,21,22] ?_
 refine .sp [0,5,7,20,21,22] ?_
 refine .cd ?_ ?_<;>intro hc2
 replace hx1:=zab hx1 hc2
 obtain⟨k2,hx1⟩:=zbc hx1
 refine .rg zS [0,5,20,21,22] ?_
 refine .rd 6 ?_
 refine .rd 5 ?_
 refine .nd ?_
 refine⟨_,?_,(sj hx1).symm⟩
 exact .m [0,5,20,21,22] [20000,20001,20002,20003,20004,20005,20006,20100,20103] [(20103,20102)]
 replace hx1:=zae hx1 hc2
 refine .skip ?_
 refine⟨_,?_,(sj hx1).symm⟩
 exact .m [0,5,20,21,22] [20000,20001,20002,20003,20004,20005,20006,20100,20101] [(20101,20102)]
 rintro l2 hj1
 subst x1
 try dsimp only at h
 simp only[ya9g]
 refine .pl zS [0,5,20,21,22] ?_
 refine⟨(fu1,_,_,_),?_,h,by dsimp only;omega⟩
 exact .m [0,5,20,21,22] [20000,20001,20002,20003,20004,20005,20006,20100,20102] [(20102,20101)]
 replace h:=zae h hc1
 refine .exit ?_
 obtain rfl:=sj h
 refine⟨st36 (⟨a0.Seat,a0.fRecs,l1⟩:Tseat_seat),?_,.inl rfl,retH [20000,20106,20105,20104,20103,20102,20101,20100] ?_ ?_⟩
 exact .m [0] [20000,20001,20002,20003,20004,20005,20006,20101] [(20001,20100),(20002,20101),(20003,20102),(20004,20103),(20005,20104),(20006,20105),(20101,20106)]
 exact rsi0
 rfl
@[go_sem] def ya9m(a0:Tseat_seat)(a1:TRecord)(a2:TVote)(v1:TVote×Int×Bool)(l1:List TSeen):St:=⟨[(0,.ptr 20000 0),(4,.ptr 20100 0),(5,.ptr 20101 0),(7,.int .i64 v1.2.1)],[(20000,.box [.int .i64 a0.Seat.Me,.int .i64 a0.Seat.Number,.ref 20001 1 0 a0.Seat.Group.Roster.length (some uC),.ref 20002 1 0 a0.Seat.Group.Members.length (some uC),.ref 20003 1 0 a0.Seat.Log.length (some uC),.ref 20103 5 0 l1.length (some uC),.int .u8 a0.Seat.Try.Phase,.int .i64 a0.Seat.Try.Ballot,.imm 1 (a0.Seat.Try.Members.map (D.int .i64)) 13,.str a0.Seat.Try.Wish,.str a0.Seat.Try.Value,.imm 3 (a0.Seat.Try.Promises.map TPromise.d) 13,.imm 1 (a0.Seat.Try.Accepted.map (D.int .i64)) 13,.ref 20005 1 0 a0.Seat.Wishes.length (some uC),.int .i64 a0.Seat.Heard,.ref 20006 5 0 a0.fRecs.length (some uC),.ref 20007 10 0 a0.fMail.length (some uC)]),(20001,.arr 3 1 true (a0.Seat.Group.Roster.map (D.int .i64))),(20002,.arr 3 1 true (a0.Seat.Group.Members.map (D.int .i64))),(20003,.arr 9 1 true (a0.Seat.Log.map D.str)),(20005,.arr 9 1 true (a0.Seat.Wishes.map D.str)),(20006,.arr 53 5 true (a0.fRecs.map TRecord.d)),(20007,.arr 55 10 true (a0.fMail.map TMail.d)),(20100,.box [.int .u8 a1.Kind,.int .i64 a1.Group,.int .i64 a1.Slot,.int .i64 a1.Ballot,.str a1.Value]),(20101,.box [.int .i64 a2.Promised,.int .i64 a2.Ballot,.str a2.Value]),(20103,.arr 75 5 true (l1.map TSeen.d))],20104⟩
@[go_sem] def st33(r:Tseat_seat):St:=⟨[(0,.ptr 20000 0)],(zg1 r 20000 20100 20101 20102 20103 20104 20105 20106),20107⟩
theorem zi9(a0:Tseat_seat)(a1:TRecord)(a2:TVote)(r:Tseat_seat)(h:zds a0 a1 a2=some r):zbv Tryz.prog 55 [.ptr 20000 0,.agg [.int .u8 a1.Kind,.int .i64 a1.Group,.int .i64 a1.Slot,.int .i64 a1.Ballot,.str a1.Value],.agg [.int .i64 a2.Promised,.int .i64 a2.Ballot,.str a2.Value]] (zg1 a0 20000 20001 20002 20003 20004 20005 20006 20007) (.tuple []) (zgu r 20000 20001 20002 20003 20004 20005 20006 20007 20100 20101 20102 20103 20104 20105 20106) (20100,20109):=by
 refine zct Tryz.func55 ?_
 intro hwf
 unfold zds at h
 refine .ends 20100 (za4 _) ?_
 refine .sp [0,1,2] ?_
 obtain⟨v1,hv1,h⟩:=za3 h
 refine .sr [0,4,5] ?_
 refine .rn 3 ?_
 refine .lcall (r:=.tuple [.agg [.int .i64 v1.1.Promised,.int .i64 v1.1.Ballot,.str v1.1.Value],.int .i64 v1.2.1,.bool v1.2.2]) [20001,20002,20003,20004,20005,20006,20007] rfl rfl rfl rfl rfl (za9 (zcc rfl (za2 rfl (za2 rfl (za2 (zaf (zdz .i64) (by first|rfl|(simp only[go_sem,Nat.reduceBEq];rfl)) (by first|rfl|(simp;done)|(simp<;>omega))) (za2 (zaf (zdz .i64) (by first|rfl|(simp only[go_sem,Nat.reduceBEq];rfl)) (by first|rfl|(simp;done)|(simp<;>omega))) (za2 (zaf zf8 (by first|rfl|(simp only[go_sem,Nat.reduceBEq];rfl)) (by first|rfl|(simp;done)|(simp<;>omega))) (za2 (zaf zh1 (by first|rfl|(simp only[go_sem,Nat.reduceBEq];rfl)) (by first|rfl|(simp;done)|(simp<;>omega))) (za2 rfl (za2 rfl (za2 rfl (za2 rfl (za2 rfl (za2 rfl (za2 rfl (za2 (zaf zf8 (by first|rfl|(simp only[go_sem,Nat.reduceBEq];rfl)) (by first|rfl|(simp;done)|(simp<;>omega))) (za2 rfl (za2 (zaf zej (by first|rfl|(simp only[go_sem,Nat.reduceBEq];rfl)) (by first|rfl|(simp;done)|(simp<;>omega))) (za2 (zaf zg3 (by first|rfl|(simp only[go_sem,Nat.reduceBEq];rfl)) (by first|rfl|(simp;done)|(simp<;>omega))) zc3)))))))))))))))))) (za9 rfl zaj)) rfl (zc7 (WkL.cons (Wk.iptr (WkL.cons (Wk.refl _) (WkL.cons (Wk.refl _) (WkL.cons (Wk.refl _) (WkL.cons (Wk.refl _) (WkL.cons (Wk.refl _) (WkL.cons (Wk.refl _) (WkL.cons (Wk.refl _) (WkL.cons (Wk.refl _) (WkL.cons Wk.iz (WkL.cons (Wk.refl _) (WkL.cons (Wk.refl _) (WkL.cons Wk.iz (WkL.cons Wk.iz (WkL.cons (Wk.refl _) (WkL.cons (Wk.refl _) (WkL.cons (Wk.refl _) (WkL.cons (Wk.refl _) (WkL.refl _))))))))))))))))))) (WkL.cons (Wk.refl _) (WkL.refl _))) (zeq a0 a1.Slot v1 hv1)) ?_
 refine .rn 8 ?_
 refine .nn ?_
 refine .seq (.seq (.pl zS [0,4,5,6,7,8] ?_))
 refine .cd ?_ ?_<;>intro hc1
 replace h:=zab h hc1
 obtain rfl:=sj h
 refine .ret ⟨st33 a0,?_,.inr rfl,retH [20000,20106,20105,20104,20103,20102,20101,20100] ?_ ?_⟩
 exact .m [0] [20000,20001,20002,20003,20004,20005,20006,20007] [(20001,20100),(20002,20101),(20003,20102),(20004,20103),(20005,20104),(20006,20105),(20007,20106)]
 exact rsi0
 rfl
 replace h:=zae h hc1
 obtain⟨x1,hx1,h⟩:=za3 h
 refine .skip ?_
 refine .seqM 20103 (fun(j:(List TSeen))=>ya9m a0 a1 a2 v1 j) (fun j=>x1=j) (lb rfl) ?_ ?_
 refine .sp [0,4,5,7,8] ?_
 refine .cd ?_ ?_<;>intro hc2
 replace hx1:=zab hx1 hc2
 obtain⟨k1,hx1⟩:=zbc hx1
 obtain⟨k2,hx1⟩:=zbc hx1
 refine .rg zS [0,4,5,7] ?_
 refine .rd 6 ?_
 refine .rd 6 ?_
 refine .rd 4 ?_
 refine .hcall (r:=.ref 20104 5 0 (((a0.Seat.Votes.take v1.2.1.toNat)++((⟨a0.Seat.Number,a1.Slot,(⟨0,0,[]⟩:TVote)⟩:TSeen)::(a0.Seat.Votes.drop v1.2.1.toNat))).length) (some uC)) rfl rfl rfl rfl rfl (yaa6 20004 20103 20104 (by decide) (by decide) (by decide) a0.Seat.Votes (⟨a0.Seat.Number,a1.Slot,(⟨0,0,[]⟩:TVote)⟩:TSeen) v1.2.1 k1 k2) (fun id b h=>zam [20004,20103] _ id b h) (by simp) (.inr ⟨za4 _,lb rfl⟩) ?_
 refine .rd 4 ?_
 refine .nd ?_
 refine⟨_,?_,(sj hx1).symm⟩
 exact .m [0,4,5,7] [20000,20001,20002,20003,20005,20006,20007,20100,20101,20104] [(20104,20103)]
 replace hx1:=zae hx1 hc2
 refine .skip ?_
 refine⟨_,?_,(sj hx1).symm⟩
 exact .m [0,4,5,7] [20000,20001,20002,20003,20005,20006,20007,20100,20101,20004] [(20004,20103)]
 rintro l1 hj1
 subst x1
 try dsimp only at h
 simp only[ya9m]
 refine .seq ?_
 obtain⟨k3,h⟩:=zbc h
 have e1:=zdp TSeen.d l1 v1.2.1
 have es1:=zro TSeen.d l1 v1.2.1.toNat (⟨(l1.getD v1.2.1.toNat default).Group,(l1.getD v1.2.1.toNat default).Slot,a2⟩:TSeen)
 replace e1:=e1 k3
 replace es1:setN (l1.map TSeen.d) v1.2.1.toNat (.agg [.int .i64 ((l1.getD v1.2.1.toNat default).Group),.int .i64 ((l1.getD v1.2.1.toNat default).Slot),.int .i64 a2.Promised,.int .i64 a2.Ballot,.str a2.Value])=(l1.set v1.2.1.toNat (⟨(l1.getD v1.2.1.toNat default).Group,(l1.getD v1.2.1.toNat default).Slot,a2⟩:TSeen)).map TSeen.d:=es1
 refine .rg zS [0,4,5,7] ?_
 refine .rdx 6 (ai e1 es1) ?_
 refine .rdx 4 (ai e1 es1) ?_
 refine .nd ?_
 refine .sp [0,4] ?_
 obtain⟨k4,h⟩:=zbc h
 refine .rg zS [0,4] ?_
 refine .rd 6 ?_
 refine .rd 5 ?_
 refine .nd ?_
 obtain rfl:=sj h
 refine⟨st33 (⟨(⟨a0.Seat.Me,a0.Seat.Number,a0.Seat.Group,a0.Seat.Log,(l1.set v1.2.1.toNat (⟨(l1.getD v1.2.1.toNat default).Group,(l1.getD v1.2.1.toNat default).Slot,a2⟩:TSeen)),a0.Seat.Try,a0.Seat.Wishes,a0.Seat.Heard⟩:TSeat),(a0.fRecs++[(⟨a1.Kind,a0.Seat.Number,a1.Slot,a1.Ballot,a1.Value⟩:TRecord)]),a0.fMail⟩:Tseat_seat),?_,.inl rfl,retH [20000,20106,20105,20104,20103,20102,20101,20100] ?_ ?_⟩
 exact .m [0] [20000,20001,20002,20003,20103,20005,20105,20007] [(20001,20100),(20002,20101),(20003,20102),(20005,20104),(20007,20106)]
 exact rsi0
 rfl
@[go_sem] def ya9n(a0:Tseat_seat)(a1:List UInt8)(v1:Int)(l1:List TSeen):St:=⟨[(0,.ptr 20000 0),(3,.ptr 20100 0)],[(20000,.box [.int .i64 a0.Seat.Me,.int .i64 a0.Seat.Number,.ref 20001 1 0 a0.Seat.Group.Roster.length (some uC),.ref 20002 1 0 a0.Seat.Group.Members.length (some uC),.ref 20003 1 0 a0.Seat.Log.length (some uC),.ref 20103 5 0 l1.length (some uC),.int .u8 a0.Seat.Try.Phase,.int .i64 a0.Seat.Try.Ballot,.imm 1 (a0.Seat.Try.Members.map (D.int .i64)) 13,.str a0.Seat.Try.Wish,.str a0.Seat.Try.Value,.imm 3 (a0.Seat.Try.Promises.map TPromise.d) 13,.imm 1 (a0.Seat.Try.Accepted.map (D.int .i64)) 13,.ref 20005 1 0 a0.Seat.Wishes.length (some uC),.int .i64 a0.Seat.Heard,.ref 20102 5 0 ((a0.fRecs++[(⟨3,a0.Seat.Number,v1,0,a1⟩:TRecord)]).length) (some uC),.ref 20007 10 0 a0.fMail.length (some uC)]),(20001,.arr 3 1 true (a0.Seat.Group.Roster.map (D.int .i64))),(20002,.arr 3 1 true (a0.Seat.Group.Members.map (D.int .i64))),(20003,.arr 9 1 true (a0.Seat.Log.map D.str)),(20005,.arr 9 1 true (a0.Seat.Wishes.map D.str)),(20007,.arr 55 10 true (a0.fMail.map TMail.d)),(20100,.box [.str a1]),(20102,.arr 53 5 true ((a0.fRecs++[(⟨3,a0.Seat.Number,v1,0,a1⟩:TRecord)]).map TRecord.d)),(20103,.arr 75 5 true (l1.map TSeen.d))],20104⟩
@[go_sem] def st31(r:Tseat_seat):St:=⟨[(0,.ptr 20000 0)],(zg1 r 20000 20100 20101 20102 20103 20104 20105 20106),20107⟩
theorem zjj(a0:Tseat_seat)(a1:List UInt8)(r:Tseat_seat)(h:zf7 a0 a1=some r):zbv Tryz.prog 51 [.ptr 20000 0,.str a1] (zg1 a0 20000 20001 20002 20003 20004 20005 20006 20007) (.tuple []) (zgu r 20000 20001 20002 20003 20004 20005 20006 20007 20100 20101 20102 20103 20104 20105 20106) (20100,20109):=by
 refine zct Tryz.func51 ?_
 intro hwf
 unfold zf7 at h
 refine .ends 20100 (za4 _) ?_
 refine .sp [0,1] ?_
 obtain⟨v1,hv1,h⟩:=za3 h
 refine .sr [0,3] ?_
 refine .rn 1 ?_
 refine .lcall (r:=.int .i64 v1) [20001,20002,20003,20004,20005,20006,20007] rfl rfl rfl rfl rfl (za9 (zcc rfl (za2 rfl (za2 rfl (za2 (zaf (zdz .i64) (by first|rfl|(simp only[go_sem,Nat.reduceBEq];rfl)) (by first|rfl|(simp;done)|(simp<;>omega))) (za2 (zaf (zdz .i64) (by first|rfl|(simp only[go_sem,Nat.reduceBEq];rfl)) (by first|rfl|(simp;done)|(simp<;>omega))) (za2 (zaf zf8 (by first|rfl|(simp only[go_sem,Nat.reduceBEq];rfl)) (by first|rfl|(simp;done)|(simp<;>omega))) (za2 (zaf zh1 (by first|rfl|(simp only[go_sem,Nat.reduceBEq];rfl)) (by first|rfl|(simp;done)|(simp<;>omega))) (za2 rfl (za2 rfl (za2 rfl (za2 rfl (za2 rfl (za2 rfl (za2 rfl (za2 (zaf zf8 (by first|rfl|(simp only[go_sem,Nat.reduceBEq];rfl)) (by first|rfl|(simp;done)|(simp<;>omega))) (za2 rfl (za2 (zaf zej (by first|rfl|(simp only[go_sem,Nat.reduceBEq];rfl)) (by first|rfl|(simp;done)|(simp<;>omega))) (za2 (zaf zg3 (by first|rfl|(simp only[go_sem,Nat.reduceBEq];rfl)) (by first|rfl|(simp;done)|(simp<;>omega))) zc3)))))))))))))))))) zaj) rfl (zc7 (WkL.cons (Wk.iptr (WkL.cons (Wk.refl _) (WkL.cons (Wk.refl _) (WkL.cons (Wk.refl _) (WkL.cons (Wk.refl _) (WkL.cons (Wk.refl _) (WkL.cons (Wk.refl _) (WkL.cons (Wk.refl _) (WkL.cons (Wk.refl _) (WkL.cons Wk.iz (WkL.cons (Wk.refl _) (WkL.cons (Wk.refl _) (WkL.cons Wk.iz (WkL.cons Wk.iz (WkL.cons (Wk.refl _) (WkL.cons (Wk.refl _) (WkL.cons (Wk.refl _) (WkL.cons (Wk.refl _) (WkL.refl _))))))))))))))))))) (WkL.refl _)) (zco a0 v1 hv1)) ?_
 refine .rn 1 ?_
 refine .nn ?_
 obtain⟨k1,h⟩:=zbc h
 refine .sr [0,3,4] ?_
 refine .rd 6 ?_
 refine .rd 6 ?_
 refine .rd 6 ?_
 refine .nd ?_
 obtain⟨x1,hx1,h⟩:=za3 h
 refine .seqM 20103 (fun(j:(List TSeen))=>ya9n a0 a1 v1 j) (fun j=>x1=j) (lb rfl) ?_ ?_
 refine .seq ?_
 obtain⟨v2,hv2,hx1⟩:=za3 hx1
 refine .rg zS [0,3,4] ?_
 refine .rn 2 ?_
 refine .lcall (r:=.tuple [.agg [.int .i64 v2.1.Promised,.int .i64 v2.1.Ballot,.str v2.1.Value],.int .i64 v2.2.1,.bool v2.2.2]) [20001,20002,20003,20004,20005,20102,20007] rfl rfl rfl rfl rfl (za9 (zcc rfl (za2 rfl (za2 rfl (za2 (zaf (zdz .i64) (by first|rfl|(simp only[go_sem,Nat.reduceBEq];rfl)) (by first|rfl|(simp;done)|(simp<;>omega))) (za2 (zaf (zdz .i64) (by first|rfl|(simp only[go_sem,Nat.reduceBEq];rfl)) (by first|rfl|(simp;done)|(simp<;>omega))) (za2 (zaf zf8 (by first|rfl|(simp only[go_sem,Nat.reduceBEq];rfl)) (by first|rfl|(simp;done)|(simp<;>omega))) (za2 (zaf zh1 (by first|rfl|(simp only[go_sem,Nat.reduceBEq];rfl)) (by first|rfl|(simp;done)|(simp<;>omega))) (za2 rfl (za2 rfl (za2 rfl (za2 rfl (za2 rfl (za2 rfl (za2 rfl (za2 (zaf zf8 (by first|rfl|(simp only[go_sem,Nat.reduceBEq];rfl)) (by first|rfl|(simp;done)|(simp<;>omega))) (za2 rfl (za2 (zaf zej (by first|rfl|(simp only[go_sem,Nat.reduceBEq];rfl)) (by first|rfl|(simp;done)|(simp<;>omega))) (za2 (zaf zg3 (by first|rfl|(simp only[go_sem,Nat.reduceBEq];rfl)) (by first|rfl|(simp;done)|(simp<;>omega))) zc3)))))))))))))))))) (za9 rfl zaj)) rfl (zc7 (WkL.cons (Wk.iptr (WkL.cons (Wk.refl _) (WkL.cons (Wk.refl _) (WkL.cons (Wk.refl _) (WkL.cons (Wk.refl _) (WkL.cons (Wk.refl _) (WkL.cons (Wk.refl _) (WkL.cons (Wk.refl _) (WkL.cons (Wk.refl _) (WkL.cons Wk.iz (WkL.cons (Wk.refl _) (WkL.cons (Wk.refl _) (WkL.cons Wk.iz (WkL.cons Wk.iz (WkL.cons (Wk.refl _) (WkL.cons (Wk.refl _) (WkL.cons (Wk.refl _) (WkL.cons (Wk.refl _) (WkL.refl _))))))))))))))))))) (WkL.cons (Wk.refl _) (WkL.refl _))) (zeq (⟨a0.Seat,(a0.fRecs++[(⟨3,a0.Seat.Number,v1,0,a1⟩:TRecord)]),a0.fMail⟩:Tseat_seat) v1 v2 hv2)) ?_
 refine .rn 8 ?_
 refine .nn ?_
 refine .sp [0,3,6,7] ?_
 refine .cd ?_ ?_<;>intro hc1
 replace hx1:=zab hx1 hc1
 obtain⟨k2,hx1⟩:=zbc hx1
 obtain⟨k3,hx1⟩:=zbc hx1
 refine .rg zS [0,3,6] ?_
 refine .rn 6 ?_
 refine .rn 3 ?_
 refine .hcall (r:=.ref 20104 5 0 ((a0.Seat.Votes.eraseIdx v2.2.1.toNat).length) (some uC)) rfl rfl rfl rfl rfl (yaad 20004 20104 (by decide) a0.Seat.Votes v2.2.1 k2 k3) (fun id b h=>zam [20004] _ id b h) (by simp) (.inr ⟨za4 _,lb rfl⟩) ?_
 refine .rn 4 ?_
 refine .nn ?_
 refine⟨_,?_,(sj hx1).symm⟩
 exact .m [0,3] [20000,20001,20002,20003,20005,20007,20100,20102,20104] [(20104,20103)]
 replace hx1:=zae hx1 hc1
 refine .skip ?_
 refine⟨_,?_,(sj hx1).symm⟩
 exact .m [0,3] [20000,20001,20002,20003,20005,20007,20100,20102,20004] [(20004,20103)]
 rintro l1 hj1
 subst x1
 try dsimp only at h
 simp only[ya9n]
 obtain⟨k4,h⟩:=zbc h
 refine .sr [0,3] ?_
 refine .rd 6 ?_
 refine .rd 7 ?_
 refine .nd ?_
 refine .sr [0,3] ?_
 refine .rn 6 ?_
 refine .rn 5 ?_
 refine .nn ?_
 obtain⟨k5,h⟩:=zbc h
 obtain⟨v3,hv3,h⟩:=za3 h
 refine .rg zS [0,3] ?_
 refine .rn 7 ?_
 refine .hcall (H:=[(20005,.arr 9 1 true (a0.Seat.Wishes.map D.str)),(20100,.box [.str a1])]) (eff:=[(20005,none),(20106,some (.arr 9 1 true (v3.map D.str)))]) (nw:=(20106,20107)) (r:=.ref 20106 1 0 v3.length (some uC)) rfl rfl rfl rfl rfl (za6 20000 20005 (za6 20001 20100 (zba 20106 (zy1 a0.Seat.Wishes a1 k5 v3 hv3)))) (fun id b h=>zam [20005,20100] _ id b h) (by simp) (.inr ⟨lb rfl,lb rfl⟩) ?_
 refine .rn 4 ?_
 refine .nn ?_
 obtain rfl:=sj h
 refine⟨st31 (⟨(⟨a0.Seat.Me,a0.Seat.Number,a0.Seat.Group,(a0.Seat.Log++[a1]),l1,(⟨0,0,[],[],[],[],[]⟩:TAttempt),v3,0⟩:TSeat),(a0.fRecs++[(⟨3,a0.Seat.Number,v1,0,a1⟩:TRecord)]),a0.fMail⟩:Tseat_seat),?_,.inl rfl,retH [20000,20106,20105,20104,20103,20102,20101,20100] ?_ ?_⟩
 refine .boxs 20000 _ [_,_,_,_,_,_,_,_,.imm 1 [] 13,_,_,.imm 3 [] 13,.imm 1 [] 13,_,_,_,_] rfl (.keep (.keep (.keep (.keep (.keep (.keep (.keep (.keep (.cons (.nil12 _ _ 0 (by decide)) (.keep (.keep (.cons (.nil12 _ _ 0 (by decide)) (.cons (.nil12 _ _ 0 (by decide)) (.refl _)))))))))))))) ?_
 exact .m [0] [20000,20001,20002,20105,20103,20106,20102,20007] [(20001,20100),(20002,20101),(20105,20102),(20106,20104),(20102,20105),(20007,20106)]
 exact rsi0
 rfl
end Go.Proofs
