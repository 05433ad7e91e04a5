/- Texts of the proof. -/
import Derived.Test.YtbedjbhndfbpcaaGreatSeatOnePza
import Derived.Test.YtbedjbhndfbpcaaGreatSeatOnePp
import Derived.Test.YtbedjbhndfbpcaaGreatSeatOnePo
import Derived.Test.YtbedjbhndfbpcaaGreatSeatOnePq
import Derived.Test.YtbedjbhndfbpcaaGreatSeatOnePu
import Derived.Test.YtbedjbhndfbpcaaGreatSeatOnePr
import Derived.Test.YtbedjbhndfbpcaaGreatSeatOnePs
import Derived.Test.YtbedjbhndfbpcaaGreatSeatOnePt
import Derived.Test.YtbedjbhndfbpcaaGreatSeatOnePx
namespace Go.Proofs
open Go.Tm Go.RowKit Go.WideShapes
set_option maxRecDepth 100000
set_option maxHeartbeats 40000000
set_option linter.unusedSimpArgs false
set_option linter.unusedVariables false
attribute [local go_sem, local simp] zg1 zgu zlf
@[go_sem] def st99(a0:Tseat_seat)(a1:TMail)(v1:Int)(b1:Bool):St:=⟨[(0,.ptr 20000 0),(3,.ptr 20100 0),(4,.bool (a1.Slot==v1)),(12,.int .u8 a1.Kind),(13,.bool b1)],[(20000,zlf a0 20001 20002 20003 20004 20005 20006 20007),(20001,.arr 3 1 true (a0.Seat.Group.Roster.map (D.int .i64))),(20002,.arr 3 1 true (a0.Seat.Group.Members.map (D.int .i64))),(20003,.arr 9 1 true (a0.Seat.Log.map D.str)),(20004,.arr 75 5 true (a0.Seat.Votes.map TSeen.d)),(20005,.arr 9 1 true (a0.Seat.Wishes.map D.str)),(20006,.arr 53 5 true (a0.fRecs.map TRecord.d)),(20007,.arr 55 10 true (a0.fMail.map TMail.d)),(20100,.box [.int .i64 a1.From,.int .i64 a1.To,.int .u8 a1.Kind,.int .i64 a1.Group,.int .i64 a1.Slot,.int .i64 a1.Ballot,.int .i64 a1.Prior,.str a1.Value,.int .i64 a1.Id,.int .i64 a1.Time])],20101⟩
@[go_sem] def ya9o(a1:TMail)(x2:Tseat_seat)(n1:Int):St:=⟨[(0,.ptr 20000 0),(3,.ptr 20100 0),(5,.int .i64 n1)],[(20000,zlf x2 20101 20102 20103 20104 20105 20106 20107),(20100,.box [.int .i64 a1.From,.int .i64 a1.To,.int .u8 a1.Kind,.int .i64 a1.Group,.int .i64 a1.Slot,.int .i64 a1.Ballot,.int .i64 a1.Prior,.str a1.Value,.int .i64 a1.Id,.int .i64 a1.Time]),(20101,.arr 3 1 true (x2.Seat.Group.Roster.map (D.int .i64))),(20102,.arr 3 1 true (x2.Seat.Group.Members.map (D.int .i64))),(20103,.arr 9 1 true (x2.Seat.Log.map D.str)),(20104,.arr 75 5 true (x2.Seat.Votes.map TSeen.d)),(20105,.arr 9 1 true (x2.Seat.Wishes.map D.str)),(20106,.arr 53 5 true (x2.fRecs.map TRecord.d)),(20107,.arr 55 10 true (x2.fMail.map TMail.d))],20108⟩
@[go_sem] def st30(r:Tseat_seat):St:=⟨[(0,.ptr 20000 0)],(zg1 r 20000 20100 20101 20102 20103 20104 20105 20106),20107⟩
theorem zmy(a0:Tseat_seat)(a1:TMail)(r:Tseat_seat)(h:zfl a0 a1=some r):zbv Tryz.prog 29 [.ptr 20000 0,.agg [.int .i64 a1.From,.int .i64 a1.To,.int .u8 a1.Kind,.int .i64 a1.Group,.int .i64 a1.Slot,.int .i64 a1.Ballot,.int .i64 a1.Prior,.str a1.Value,.int .i64 a1.Id,.int .i64 a1.Time]] (zg1 a0 20000 20001 20002 20003 20004 20005 20006 20007) (.tuple []) (zgu r 20000 20001 20002 20003 20004 20005 20006 20007 20100 20101 20102 20103 20104 20105 20106) (20100,20222):=by
 refine zct Tryz.func29 ?_
 intro hwf
 unfold zfl at h
 refine .ends 20100 (za4 _) ?_
 refine .sp [0,1] ?_
 obtain⟨v1,hv1,h⟩:=za3 h
 refine .sr [0,3] ?_
 refine .rd 3 ?_
 refine .lcall (r:=.int .i64 v1) [20001,20002,20003,20004,20005,20006,20007] rfl rfl rfl rfl rfl (za9 (zcc rfl (za2 rfl (za2 rfl (za2 (zaf (zdz .i64) (by first|rfl|(simp only[go_sem,Nat.reduceBEq];rfl)) (by first|rfl|(simp;done)|(simp<;>omega))) (za2 (zaf (zdz .i64) (by first|rfl|(simp only[go_sem,Nat.reduceBEq];rfl)) (by first|rfl|(simp;done)|(simp<;>omega))) (za2 (zaf zf8 (by first|rfl|(simp only[go_sem,Nat.reduceBEq];rfl)) (by first|rfl|(simp;done)|(simp<;>omega))) (za2 (zaf zh1 (by first|rfl|(simp only[go_sem,Nat.reduceBEq];rfl)) (by first|rfl|(simp;done)|(simp<;>omega))) (za2 rfl (za2 rfl (za2 rfl (za2 rfl (za2 rfl (za2 rfl (za2 rfl (za2 (zaf zf8 (by first|rfl|(simp only[go_sem,Nat.reduceBEq];rfl)) (by first|rfl|(simp;done)|(simp<;>omega))) (za2 rfl (za2 (zaf zej (by first|rfl|(simp only[go_sem,Nat.reduceBEq];rfl)) (by first|rfl|(simp;done)|(simp<;>omega))) (za2 (zaf zg3 (by first|rfl|(simp only[go_sem,Nat.reduceBEq];rfl)) (by first|rfl|(simp;done)|(simp<;>omega))) zc3)))))))))))))))))) zaj) rfl (zc7 (WkL.cons (Wk.iptr (WkL.cons (Wk.refl _) (WkL.cons (Wk.refl _) (WkL.cons (Wk.refl _) (WkL.cons (Wk.refl _) (WkL.cons (Wk.refl _) (WkL.cons (Wk.refl _) (WkL.cons (Wk.refl _) (WkL.cons (Wk.refl _) (WkL.cons Wk.iz (WkL.cons (Wk.refl _) (WkL.cons (Wk.refl _) (WkL.cons Wk.iz (WkL.cons Wk.iz (WkL.cons (Wk.refl _) (WkL.cons (Wk.refl _) (WkL.cons (Wk.refl _) (WkL.cons (Wk.refl _) (WkL.refl _))))))))))))))))))) (WkL.refl _)) (zco a0 v1 hv1)) ?_
 refine .rd 2 ?_
 refine .nd ?_
 refine .sp [0,3,4] ?_
 obtain⟨x1,hx1,h⟩:=za3 h
 refine .block ?_
 refine .seqM 20101 (fun(j:Bool)=>st99 a0 a1 v1 j) (fun j=>x1=j) (lb rfl) ?_ ?_
 refine .sp [0,3,4,12] ?_
 refine .cd ?_ ?_<;>intro hc1
 replace hx1:=zab hx1 hc1
 refine .skip ?_
 refine⟨_,?_,(sj hx1).symm⟩
 exact .m [0,3,4,12,13] [20000,20001,20002,20003,20004,20005,20006,20007,20100] []
 replace hx1:=zae hx1 hc1
 refine .pl zS [0,3,4,12] ?_
 refine⟨_,?_,(sj hx1).symm⟩
 exact .m [0,3,4,12,13] [20000,20001,20002,20003,20004,20005,20006,20007,20100] []
 rintro b1 hj1
 subst x1
 try dsimp only at h
 simp only[st99]
 refine .cd ?_ ?_<;>intro hc2
 replace h:=zab h hc2
 obtain⟨v2,hv2,h⟩:=za3 h
 refine .sr [0,3] ?_
 refine .rn 6 ?_
 refine .gcall rfl rfl rfl rfl rfl (fun hg=>⟨[],[.str a1.Value],_,rfl,gd hg,rfl,(zeg a1.Value v2 (zab hv2 hg))⟩) ?_
 refine .rn 1 ?_
 refine .nn ?_
 refine .cd ?_ ?_<;>intro hc3
 replace h:=zab h hc3
 obtain⟨v3,hv3,h⟩:=za3 h
 refine .rg zS [0,3] ?_
 refine .rn 2 ?_
 refine .hcall (H:=(zg1 a0 20000 20001 20002 20003 20004 20005 20006 20007)) (eff:=(zgu v3 20000 20001 20002 20003 20004 20005 20006 20007 20124 20125 20126 20127 20128 20129 20130)) (nw:=(20124,20148)) (r:=.tuple []) rfl rfl rfl rfl rfl (za6 20007 20007 (za6 20006 20006 (za6 20005 20005 (za6 20004 20004 (za6 20003 20003 (za6 20002 20002 (za6 20001 20001 (za6 20000 20000 (zba 20124 (znr a0 a1 v3 hv3)))))))))) (fun id b h=>zam [20000,20001,20002,20003,20004,20005,20006,20007] _ id b h) (by simp) (.inr ⟨lb rfl,lb rfl⟩) ?_
 refine .nn ?_
 obtain rfl:=sj h
 refine⟨st30 v3,?_,.inl rfl,retH [20000,20106,20105,20104,20103,20102,20101,20100] ?_ ?_⟩
 exact .m [0] [20000,20124,20125,20126,20127,20128,20129,20130] [(20124,20100),(20125,20101),(20126,20102),(20127,20103),(20128,20104),(20129,20105),(20130,20106)]
 exact rsi0
 rfl
 replace h:=zae h hc3
 refine .skip ?_
 obtain rfl:=sj h
 refine⟨st30 a0,?_,.inl rfl,retH [20000,20106,20105,20104,20103,20102,20101,20100] ?_ ?_⟩
 exact .m [0] [20000,20001,20002,20003,20004,20005,20006,20007] [(20001,20100),(20002,20101),(20003,20102),(20004,20103),(20005,20104),(20006,20105),(20007,20106)]
 exact rsi0
 rfl
 replace h:=zae h hc2
 refine .sp [0,3,4,12] ?_
 refine .cd ?_ ?_<;>intro hc4
 replace h:=zab h hc4
 obtain⟨v4,hv4,h⟩:=za3 h
 refine .sr [0,3,4] ?_
 refine .rn 8 ?_
 refine .gcall rfl rfl rfl rfl rfl (fun hg=>⟨[],[.str a1.Value],_,rfl,gd hg,rfl,(zeg a1.Value v4 (zab hv4 hg))⟩) ?_
 refine .rn 2 ?_
 refine .nn ?_
 refine .cd ?_ ?_<;>intro hc5
 replace h:=zab h hc5
 obtain⟨v5,hv5,h⟩:=za3 h
 refine .rg zS [0,3] ?_
 refine .rn 6 ?_
 refine .rn 4 ?_
 refine .hcall (H:=(zg1 a0 20000 20001 20002 20003 20004 20005 20006 20007)) (eff:=(zgu v5 20000 20001 20002 20003 20004 20005 20006 20007 20160 20161 20162 20163 20164 20165 20166)) (nw:=(20160,20220)) (r:=.tuple []) rfl rfl rfl rfl rfl (za6 20007 20007 (za6 20006 20006 (za6 20005 20005 (za6 20004 20004 (za6 20003 20003 (za6 20002 20002 (za6 20001 20001 (za6 20000 20000 (zba 20160 (zik a0 a1.Ballot (⟨a1.From,a1.Prior,a1.Value⟩:TPromise) v5 hv5)))))))))) (fun id b h=>zam [20000,20001,20002,20003,20004,20005,20006,20007] _ id b h) (by simp) (.inr ⟨lb rfl,lb rfl⟩) ?_
 refine .nn ?_
 obtain rfl:=sj h
 refine⟨st30 v5,?_,.inl rfl,retH [20000,20106,20105,20104,20103,20102,20101,20100] ?_ ?_⟩
 exact .m [0] [20000,20160,20161,20162,20163,20164,20165,20166] [(20160,20100),(20161,20101),(20162,20102),(20163,20103),(20164,20104),(20165,20105),(20166,20106)]
 exact rsi0
 rfl
 replace h:=zae h hc5
 refine .skip ?_
 obtain rfl:=sj h
 refine⟨st30 a0,?_,.inl rfl,retH [20000,20106,20105,20104,20103,20102,20101,20100] ?_ ?_⟩
 exact .m [0] [20000,20001,20002,20003,20004,20005,20006,20007] [(20001,20100),(20002,20101),(20003,20102),(20004,20103),(20005,20104),(20006,20105),(20007,20106)]
 exact rsi0
 rfl
 replace h:=zae h hc4
 refine .sp [0,3,4,12] ?_
 refine .cd ?_ ?_<;>intro hc6
 replace h:=zab h hc6
 refine .sp [0,3,4] ?_
 refine .cd ?_ ?_<;>intro hc7
 replace h:=zab h hc7
 obtain⟨v6,hv6,h⟩:=za3 h
 refine .rg zS [0,3] ?_
 refine .rn 5 ?_
 refine .hcall (H:=(zg1 a0 20000 20001 20002 20003 20004 20005 20006 20007)) (eff:=(zgu v6 20000 20001 20002 20003 20004 20005 20006 20007 20129 20130 20131 20132 20133 20134 20135)) (nw:=(20129,20158)) (r:=.tuple []) rfl rfl rfl rfl rfl (za6 20007 20007 (za6 20006 20006 (za6 20005 20005 (za6 20004 20004 (za6 20003 20003 (za6 20002 20002 (za6 20001 20001 (za6 20000 20000 (zba 20129 (zji a0 a1.Ballot a1.From v6 hv6)))))))))) (fun id b h=>zam [20000,20001,20002,20003,20004,20005,20006,20007] _ id b h) (by simp) (.inr ⟨lb rfl,lb rfl⟩) ?_
 refine .nn ?_
 obtain rfl:=sj h
 refine⟨st30 v6,?_,.inl rfl,retH [20000,20106,20105,20104,20103,20102,20101,20100] ?_ ?_⟩
 exact .m [0] [20000,20129,20130,20131,20132,20133,20134,20135] [(20129,20100),(20130,20101),(20131,20102),(20132,20103),(20133,20104),(20134,20105),(20135,20106)]
 exact rsi0
 rfl
 replace h:=zae h hc7
 refine .skip ?_
 obtain rfl:=sj h
 refine⟨st30 a0,?_,.inl rfl,retH [20000,20106,20105,20104,20103,20102,20101,20100] ?_ ?_⟩
 exact .m [0] [20000,20001,20002,20003,20004,20005,20006,20007] [(20001,20100),(20002,20101),(20003,20102),(20004,20103),(20005,20104),(20006,20105),(20007,20106)]
 exact rsi0
 rfl
 replace h:=zae h hc6
 refine .sp [0,3,4,12] ?_
 refine .cd ?_ ?_<;>intro hc8
 replace h:=zab h hc8
 refine .sp [0,3,4] ?_
 refine .cd ?_ ?_<;>intro hc9
 replace h:=zab h hc9
 refine .rg zS [0,3] ?_
 refine .rd 6 ?_
 refine .rd 7 ?_
 refine .nd ?_
 obtain rfl:=sj h
 refine⟨st30 (⟨(⟨a0.Seat.Me,a0.Seat.Number,a0.Seat.Group,a0.Seat.Log,a0.Seat.Votes,a0.Seat.Try,a0.Seat.Wishes,(max a0.Seat.Heard a1.Prior)⟩:TSeat),a0.fRecs,a0.fMail⟩:Tseat_seat),?_,.inl rfl,retH [20000,20106,20105,20104,20103,20102,20101,20100] ?_ ?_⟩
 exact .m [0] [20000,20001,20002,20003,20004,20005,20006,20007] [(20001,20100),(20002,20101),(20003,20102),(20004,20103),(20005,20104),(20006,20105),(20007,20106)]
 exact rsi0
 rfl
 replace h:=zae h hc9
 refine .skip ?_
 obtain rfl:=sj h
 refine⟨st30 a0,?_,.inl rfl,retH [20000,20106,20105,20104,20103,20102,20101,20100] ?_ ?_⟩
 exact .m [0] [20000,20001,20002,20003,20004,20005,20006,20007] [(20001,20100),(20002,20101),(20003,20102),(20004,20103),(20005,20104),(20006,20105),(20007,20106)]
 exact rsi0
 rfl
 replace h:=zae h hc8
 refine .sp [0,3,4,12] ?_
 refine .cd ?_ ?_<;>intro hc10
 replace h:=zab h hc10
 obtain⟨v7,hv7,h⟩:=za3 h
 refine .sr [0,3,4] ?_
 refine .rn 4 ?_
 refine .gcall rfl rfl rfl rfl rfl (fun hg=>⟨[],[.str a1.Value],_,rfl,gd hg,rfl,(zeg a1.Value v7 (zab hv7 hg))⟩) ?_
 refine .rn 1 ?_
 refine .nn ?_
 refine .cd ?_ ?_<;>intro hc11
 replace h:=zab h hc11
 obtain⟨v8,hv8,h⟩:=za3 h
 refine .rg zS [0,3] ?_
 refine .rn 3 ?_
 refine .hcall (H:=(zg1 a0 20000 20001 20002 20003 20004 20005 20006 20007)) (eff:=(zgu v8 20000 20001 20002 20003 20004 20005 20006 20007 20109 20110 20111 20112 20113 20114 20115)) (nw:=(20109,20118)) (r:=.tuple []) rfl rfl rfl rfl rfl (za6 20007 20007 (za6 20006 20006 (za6 20005 20005 (za6 20004 20004 (za6 20003 20003 (za6 20002 20002 (za6 20001 20001 (za6 20000 20000 (zba 20109 (zjj a0 a1.Value v8 hv8)))))))))) (fun id b h=>zam [20000,20001,20002,20003,20004,20005,20006,20007] _ id b h) (by simp) (.inr ⟨lb rfl,lb rfl⟩) ?_
 refine .nn ?_
 obtain rfl:=sj h
 refine⟨st30 v8,?_,.inl rfl,retH [20000,20106,20105,20104,20103,20102,20101,20100] ?_ ?_⟩
 exact .m [0] [20000,20109,20110,20111,20112,20113,20114,20115] [(20109,20100),(20110,20101),(20111,20102),(20112,20103),(20113,20104),(20114,20105),(20115,20106)]
 exact rsi0
 rfl
 replace h:=zae h hc11
 refine .skip ?_
 obtain rfl:=sj h
 refine⟨st30 a0,?_,.inl rfl,retH [20000,20106,20105,20104,20103,20102,20101,20100] ?_ ?_⟩
 exact .m [0] [20000,20001,20002,20003,20004,20005,20006,20007] [(20001,20100),(20002,20101),(20003,20102),(20004,20103),(20005,20104),(20006,20105),(20007,20106)]
 exact rsi0
 rfl
 replace h:=zae h hc10
 refine .sp [0,3,12] ?_
 refine .cd ?_ ?_<;>intro hc12
 replace h:=zab h hc12
 refine .sp [0,3] ?_
 refine .block ?_
 refine .loopG 20101 (fun(j:Nat×Tseat_seat×Int)=>ya9o a1 j.2.1 j.2.2) (fun j=>zby a1 j.1 j.2.1 j.2.2=some r) (fun j=>j.1) (9,a0,a1.Slot) (lb rfl) ?_ h ?_
 exact .m [0,3,5] [20000,20100,20001,20002,20003,20004,20005,20006,20007] [(20001,20101),(20002,20102),(20003,20103),(20004,20104),(20005,20105),(20006,20106),(20007,20107)]
 rintro⟨fu1,x2,n1⟩ h
 simp only[ya9o]
 try simp only at h
 obtain⟨fu1,rfl⟩:∃k,fu1=k+1:=by cases fu1 with|zero=>(rw[zby] at h;cases h)|succ k=>exact⟨k,rfl⟩
 rw[zby] at h
 refine .seq ?_
 obtain⟨v10,hv10,h⟩:=za3 h
 refine .sr [0,3,5] ?_
 refine .rd 2 ?_
 refine .lcall (r:=.int .i64 v10) [20101,20102,20103,20104,20105,20106,20107] rfl rfl rfl rfl rfl (za9 (zcc rfl (za2 rfl (za2 rfl (za2 (zaf (zdz .i64) (by first|rfl|(simp only[go_sem,Nat.reduceBEq];rfl)) (by first|rfl|(simp;done)|(simp<;>omega))) (za2 (zaf (zdz .i64) (by first|rfl|(simp only[go_sem,Nat.reduceBEq];rfl)) (by first|rfl|(simp;done)|(simp<;>omega))) (za2 (zaf zf8 (by first|rfl|(simp only[go_sem,Nat.reduceBEq];rfl)) (by first|rfl|(simp;done)|(simp<;>omega))) (za2 (zaf zh1 (by first|rfl|(simp only[go_sem,Nat.reduceBEq];rfl)) (by first|rfl|(simp;done)|(simp<;>omega))) (za2 rfl (za2 rfl (za2 rfl (za2 rfl (za2 rfl (za2 rfl (za2 rfl (za2 (zaf zf8 (by first|rfl|(simp only[go_sem,Nat.reduceBEq];rfl)) (by first|rfl|(simp;done)|(simp<;>omega))) (za2 rfl (za2 (zaf zej (by first|rfl|(simp only[go_sem,Nat.reduceBEq];rfl)) (by first|rfl|(simp;done)|(simp<;>omega))) (za2 (zaf zg3 (by first|rfl|(simp only[go_sem,Nat.reduceBEq];rfl)) (by first|rfl|(simp;done)|(simp<;>omega))) zc3)))))))))))))))))) zaj) rfl (zc7 (WkL.cons (Wk.iptr (WkL.cons (Wk.refl _) (WkL.cons (Wk.refl _) (WkL.cons (Wk.refl _) (WkL.cons (Wk.refl _) (WkL.cons (Wk.refl _) (WkL.cons (Wk.refl _) (WkL.cons (Wk.refl _) (WkL.cons (Wk.refl _) (WkL.cons Wk.iz (WkL.cons (Wk.refl _) (WkL.cons (Wk.refl _) (WkL.cons Wk.iz (WkL.cons Wk.iz (WkL.cons (Wk.refl _) (WkL.cons (Wk.refl _) (WkL.cons (Wk.refl _) (WkL.cons (Wk.refl _) (WkL.refl _))))))))))))))))))) (WkL.refl _)) (zco x2 v10 hv10)) ?_
 refine .rd 5 ?_
 refine .nd ?_
 refine .cd ?_ ?_<;>intro hc13
 replace h:=zab h hc13
 refine .skip (.seq (.block ?_))
 obtain⟨k1,h⟩:=zbc h
 obtain⟨v11,hv11,h⟩:=za3 h
 have e1:=zdp D.str x2.Seat.Log (wr .i64 (n1-1))
 replace e1:=e1 k1
 refine .rg zS [0,3,5] ?_
 refine .rdx 6 e1 ?_
 refine .rdx 6 e1 ?_
 refine .rdx 3 e1 ?_
 refine .hcall (H:=[(20000,zlf x2 20101 20102 20103 20104 20105 20106 20107),(20101,.arr 3 1 true (x2.Seat.Group.Roster.map (D.int .i64))),(20102,.arr 3 1 true (x2.Seat.Group.Members.map (D.int .i64))),(20103,.arr 9 1 true (x2.Seat.Log.map D.str)),(20104,.arr 75 5 true (x2.Seat.Votes.map TSeen.d)),(20105,.arr 9 1 true (x2.Seat.Wishes.map D.str)),(20106,.arr 53 5 true (x2.fRecs.map TRecord.d)),(20107,.arr 55 10 true (x2.fMail.map TMail.d)),(20108,.arr 3 1 true ([a1.From].map (D.int .i64)))]) (eff:=[(20000,some (zlf v11 20109 20110 20111 20112 20113 20114 20115)),(20101,none),(20102,none),(20103,none),(20104,none),(20105,none),(20106,none),(20107,none),(20108,none),(20109,some (.arr 3 1 true (v11.Seat.Group.Roster.map (D.int .i64)))),(20110,some (.arr 3 1 true (v11.Seat.Group.Members.map (D.int .i64)))),(20111,some (.arr 9 1 true (v11.Seat.Log.map D.str))),(20112,some (.arr 75 5 true (v11.Seat.Votes.map TSeen.d))),(20113,some (.arr 9 1 true (v11.Seat.Wishes.map D.str))),(20114,some (.arr 53 5 true (v11.fRecs.map TRecord.d))),(20115,some (.arr 55 10 true (v11.fMail.map TMail.d)))]) (nw:=(20109,20118)) (r:=.tuple []) rfl rfl rfl rfl rfl (za6 20008 20108 (za6 20007 20107 (za6 20006 20106 (za6 20005 20105 (za6 20004 20104 (za6 20003 20103 (za6 20002 20102 (za6 20001 20101 (za6 20000 20000 (zba 20109 (zhc (.keep (.cons (.unk 20008 1 0 1 (some 1)) (.refl _))) (zh0 x2 [a1.From] (⟨0,0,6,0,n1,0,0,(x2.Seat.Log.getD (wr .i64 (n1-1)).toNat default),0,0⟩:TMail) v11 hv11)))))))))))) (fun id b h=>zam [20000,20101,20102,20103,20104,20105,20106,20107,20108] _ id b h) (by simp) (.inr ⟨lb rfl,lb rfl⟩) ?_
 refine .nd ?_
 refine .pl zS [0,3,5] ?_
 refine⟨(fu1,_,_),?_,h,by dsimp only;omega⟩
 exact .m [0,3,5] [20000,20100,20109,20110,20111,20112,20113,20114,20115] [(20109,20101),(20110,20102),(20111,20103),(20112,20104),(20113,20105),(20114,20106),(20115,20107)]
 replace h:=zae h hc13
 refine .exit ?_
 obtain rfl:=sj h
 refine⟨st30 x2,?_,.inl rfl,retH [20000,20106,20105,20104,20103,20102,20101,20100] ?_ ?_⟩
 exact .m [0] [20000,20101,20102,20103,20104,20105,20106,20107] [(20101,20100),(20102,20101),(20103,20102),(20104,20103),(20105,20104),(20106,20105),(20107,20106)]
 exact rsi0
 rfl
 replace h:=zae h hc12
 refine .sp [0,3,12] ?_
 refine .cd ?_ ?_<;>intro hc14
 replace h:=zab h hc14
 obtain⟨v12,hv12,h⟩:=za3 h
 refine .rg zS [0,3] ?_
 refine .rn 3 ?_
 refine .hcall (H:=(zg1 a0 20000 20001 20002 20003 20004 20005 20006 20007)) (eff:=(zgu v12.2 20000 20001 20002 20003 20004 20005 20006 20007 20109 20110 20111 20112 20113 20114 20115)) (nw:=(20109,20118)) (r:=.int .i64 v12.1) rfl rfl rfl rfl rfl (za6 20007 20007 (za6 20006 20006 (za6 20005 20005 (za6 20004 20004 (za6 20003 20003 (za6 20002 20002 (za6 20001 20001 (za6 20000 20000 (zba 20109 (zjt a0 a1.Value v12 hv12)))))))))) (fun id b h=>zam [20000,20001,20002,20003,20004,20005,20006,20007] _ id b h) (by simp) (.inr ⟨lb rfl,lb rfl⟩) ?_
 refine .nn ?_
 obtain rfl:=sj h
 refine⟨st30 v12.2,?_,.inl rfl,retH [20000,20106,20105,20104,20103,20102,20101,20100] ?_ ?_⟩
 exact .m [0] [20000,20109,20110,20111,20112,20113,20114,20115] [(20109,20100),(20110,20101),(20111,20102),(20112,20103),(20113,20104),(20114,20105),(20115,20106)]
 exact rsi0
 rfl
 replace h:=zae h hc14
 refine .skip ?_
 obtain rfl:=sj h
 refine⟨st30 a0,?_,.inl rfl,retH [20000,20106,20105,20104,20103,20102,20101,20100] ?_ ?_⟩
 exact .m [0] [20000,20001,20002,20003,20004,20005,20006,20007] [(20001,20100),(20002,20101),(20003,20102),(20004,20103),(20005,20104),(20006,20105),(20007,20106)]
 exact rsi0
 rfl
end Go.Proofs
