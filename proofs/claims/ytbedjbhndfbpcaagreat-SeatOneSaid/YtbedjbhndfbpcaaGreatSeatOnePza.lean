/- Texts of the proof. -/
import Derived.Test.YtbedjbhndfbpcaaGreatSeatOnePz
import Derived.Test.YtbedjbhndfbpcaaGreatSeatOnePp
import Derived.Test.YtbedjbhndfbpcaaGreatSeatOnePo
import Derived.Test.YtbedjbhndfbpcaaGreatSeatOnePq
import Derived.Test.YtbedjbhndfbpcaaGreatSeatOnePu
import Derived.Test.YtbedjbhndfbpcaaGreatSeatOnePr
import Derived.Test.YtbedjbhndfbpcaaGreatSeatOnePs
import Derived.Test.YtbedjbhndfbpcaaGreatSeatOnePt
import Derived.Test.YtbedjbhndfbpcaaGreatSeatOnePx
namespace Go.Proofs
open Go.Tm Go.RowKit Go.WideShapes
set_option maxRecDepth 100000
set_option maxHeartbeats 40000000
set_option linter.unusedSimpArgs false
set_option linter.unusedVariables false
attribute [local go_sem, local simp] zg1 zgu zlf
@[go_sem] def st37(r:Tseat_seat):St:=⟨[(0,.ptr 20000 0)],(zg1 r 20000 20100 20101 20102 20103 20104 20105 20106),20107⟩
theorem zji(a0:Tseat_seat)(a1:Int)(a2:Int)(r:Tseat_seat)(h:zf6 a0 a1 a2=some r):zbv Tryz.prog 50 [.ptr 20000 0,.int .i64 a1,.int .i64 a2] (zg1 a0 20000 20001 20002 20003 20004 20005 20006 20007) (.tuple []) (zgu r 20000 20001 20002 20003 20004 20005 20006 20007 20100 20101 20102 20103 20104 20105 20106) (20100,20129):=by
 refine zct Tryz.func50 ?_
 intro hwf
 unfold zf6 at h
 refine .ends 20100 (za4 _) ?_
 obtain⟨v1,hv1,h⟩:=za3 h
 refine .sr [0,1,2] ?_
 refine .rn 7 ?_
 refine .call rfl rfl rfl rfl rfl rfl (zc7 (WkL.cons (Wk.agg (WkL.cons (Wk.refl _) (WkL.cons (Wk.refl _) (WkL.cons Wk.iz (WkL.cons (Wk.refl _) (WkL.cons (Wk.refl _) (WkL.cons Wk.iz (WkL.cons Wk.iz (WkL.refl _))))))))) (WkL.cons (Wk.refl _) (WkL.cons (Wk.refl _) (WkL.refl _)))) (zmx a0.Seat.Try a1 a2 v1 hv1)) ?_
 refine .rn 6 ?_
 refine .nn ?_
 refine .seq (.seq (.pl zS [0,6,7] ?_))
 refine .cd ?_ ?_<;>intro hc1
 replace h:=zab h hc1
 obtain rfl:=sj h
 refine .ret ⟨st37 a0,?_,.inr rfl,retH [20000,20106,20105,20104,20103,20102,20101,20100] ?_ ?_⟩
 exact .m [0] [20000,20001,20002,20003,20004,20005,20006,20007] [(20001,20100),(20002,20101),(20003,20102),(20004,20103),(20005,20104),(20006,20105),(20007,20106)]
 exact rsi0
 rfl
 replace h:=zae h hc1
 refine .skip (.seq (.pl zS [0,6] ?_))
 refine .sp [0,6] ?_
 refine .cd ?_ ?_<;>intro hc2
 replace h:=zab h hc2
 obtain⟨v2,hv2,h⟩:=za3 h
 refine .sr [0,6] ?_
 refine .rn 1 ?_
 refine .lcall (r:=.int .i64 v2) [20001,20002,20003,20004,20005,20006,20007] rfl rfl rfl rfl rfl (za9 (zcc rfl (za2 rfl (za2 rfl (za2 (zaf (zdz .i64) (by first|rfl|(simp only[go_sem,Nat.reduceBEq];rfl)) (by first|rfl|(simp;done)|(simp<;>omega))) (za2 (zaf (zdz .i64) (by first|rfl|(simp only[go_sem,Nat.reduceBEq];rfl)) (by first|rfl|(simp;done)|(simp<;>omega))) (za2 (zaf zf8 (by first|rfl|(simp only[go_sem,Nat.reduceBEq];rfl)) (by first|rfl|(simp;done)|(simp<;>omega))) (za2 (zaf zh1 (by first|rfl|(simp only[go_sem,Nat.reduceBEq];rfl)) (by first|rfl|(simp;done)|(simp<;>omega))) (za2 rfl (za2 rfl (za2 rfl (za2 rfl (za2 rfl (za2 rfl (za2 rfl (za2 (zaf zf8 (by first|rfl|(simp only[go_sem,Nat.reduceBEq];rfl)) (by first|rfl|(simp;done)|(simp<;>omega))) (za2 rfl (za2 (zaf zej (by first|rfl|(simp only[go_sem,Nat.reduceBEq];rfl)) (by first|rfl|(simp;done)|(simp<;>omega))) (za2 (zaf zg3 (by first|rfl|(simp only[go_sem,Nat.reduceBEq];rfl)) (by first|rfl|(simp;done)|(simp<;>omega))) zc3)))))))))))))))))) zaj) rfl (zc7 (WkL.cons (Wk.iptr (WkL.cons (Wk.refl _) (WkL.cons (Wk.refl _) (WkL.cons (Wk.refl _) (WkL.cons (Wk.refl _) (WkL.cons (Wk.refl _) (WkL.cons (Wk.refl _) (WkL.cons (Wk.refl _) (WkL.cons (Wk.refl _) (WkL.cons Wk.iz (WkL.cons (Wk.refl _) (WkL.cons (Wk.refl _) (WkL.cons Wk.iz (WkL.cons Wk.iz (WkL.cons (Wk.refl _) (WkL.cons (Wk.refl _) (WkL.cons (Wk.refl _) (WkL.cons (Wk.refl _) (WkL.refl _))))))))))))))))))) (WkL.refl _)) (zco (⟨(⟨a0.Seat.Me,a0.Seat.Number,a0.Seat.Group,a0.Seat.Log,a0.Seat.Votes,v1.1,a0.Seat.Wishes,a0.Seat.Heard⟩:TSeat),a0.fRecs,a0.fMail⟩:Tseat_seat) v2 hv2)) ?_
 refine .rn 1 ?_
 refine .nn ?_
 obtain⟨v3,hv3,h⟩:=za3 h
 refine .sr [0,6,8] ?_
 refine .rn 3 ?_
 refine .hcall (H:=[(20000,.box [.int .i64 a0.Seat.Me,.int .i64 a0.Seat.Number,.ref 20001 1 0 a0.Seat.Group.Roster.length (some uC),.ref 20002 1 0 a0.Seat.Group.Members.length (some uC),.ref 20003 1 0 a0.Seat.Log.length (some uC),.ref 20004 5 0 a0.Seat.Votes.length (some uC),.int .u8 v1.1.Phase,.int .i64 v1.1.Ballot,.imm 1 (v1.1.Members.map (D.int .i64)) 13,.str v1.1.Wish,.str v1.1.Value,.imm 3 (v1.1.Promises.map TPromise.d) 13,.imm 1 (v1.1.Accepted.map (D.int .i64)) 13,.ref 20005 1 0 a0.Seat.Wishes.length (some uC),.int .i64 a0.Seat.Heard,.ref 20006 5 0 a0.fRecs.length (some uC),.ref 20007 10 0 a0.fMail.length (some uC)]),(20001,.arr 3 1 true (a0.Seat.Group.Roster.map (D.int .i64))),(20002,.arr 3 1 true (a0.Seat.Group.Members.map (D.int .i64))),(20003,.arr 9 1 true (a0.Seat.Log.map D.str)),(20004,.arr 75 5 true (a0.Seat.Votes.map TSeen.d)),(20005,.arr 9 1 true (a0.Seat.Wishes.map D.str)),(20006,.arr 53 5 true (a0.fRecs.map TRecord.d)),(20007,.arr 55 10 true (a0.fMail.map TMail.d))]) (eff:=(zgu v3 20000 20001 20002 20003 20004 20005 20006 20007 20109 20110 20111 20112 20113 20114 20115)) (nw:=(20109,20118)) (r:=.tuple []) rfl rfl rfl rfl rfl (za6 20007 20007 (za6 20006 20006 (za6 20005 20005 (za6 20004 20004 (za6 20003 20003 (za6 20002 20002 (za6 20001 20001 (za6 20000 20000 (zba 20109 (zjj (⟨(⟨a0.Seat.Me,a0.Seat.Number,a0.Seat.Group,a0.Seat.Log,a0.Seat.Votes,v1.1,a0.Seat.Wishes,a0.Seat.Heard⟩:TSeat),a0.fRecs,a0.fMail⟩:Tseat_seat) v1.1.Value v3 hv3)))))))))) (fun id b h=>zam [20000,20001,20002,20003,20004,20005,20006,20007] _ id b h) (by simp) (.inr ⟨lb rfl,lb rfl⟩) ?_
 refine .nn ?_
 obtain⟨v4,hv4,h⟩:=za3 h
 refine .rg zS [0,6,8] ?_
 refine .rd 6 ?_
 refine .rd 5 ?_
 refine .hcall (H:=(zg1 v3 20000 20109 20110 20111 20112 20113 20114 20115)) (eff:=(zgu v4 20000 20109 20110 20111 20112 20113 20114 20115 20118 20119 20120 20121 20122 20123 20124)) (nw:=(20118,20127)) (r:=.tuple []) rfl rfl rfl rfl rfl (za6 20007 20115 (za6 20006 20114 (za6 20005 20113 (za6 20004 20112 (za6 20003 20111 (za6 20002 20110 (za6 20001 20109 (za6 20000 20000 (zba 20118 (zj5 v3 (⟨0,0,6,0,v2,0,0,v1.1.Value,0,0⟩:TMail) v4 hv4)))))))))) (fun id b h=>zam [20000,20109,20110,20111,20112,20113,20114,20115] _ id b h) (by simp) (.inr ⟨lb rfl,lb rfl⟩) ?_
 refine .nd ?_
 obtain rfl:=sj h
 refine⟨st37 v4,?_,.inl rfl,retH [20000,20106,20105,20104,20103,20102,20101,20100] ?_ ?_⟩
 exact .m [0] [20000,20118,20119,20120,20121,20122,20123,20124] [(20118,20100),(20119,20101),(20120,20102),(20121,20103),(20122,20104),(20123,20105),(20124,20106)]
 exact rsi0
 rfl
 replace h:=zae h hc2
 refine .skip ?_
 obtain rfl:=sj h
 refine⟨st37 (⟨(⟨a0.Seat.Me,a0.Seat.Number,a0.Seat.Group,a0.Seat.Log,a0.Seat.Votes,v1.1,a0.Seat.Wishes,a0.Seat.Heard⟩:TSeat),a0.fRecs,a0.fMail⟩:Tseat_seat),?_,.inl rfl,retH [20000,20106,20105,20104,20103,20102,20101,20100] ?_ ?_⟩
 exact .m [0] [20000,20001,20002,20003,20004,20005,20006,20007] [(20001,20100),(20002,20101),(20003,20102),(20004,20103),(20005,20104),(20006,20105),(20007,20106)]
 exact rsi0
 rfl
@[go_sem] def st32(r:Tseat_seat):St:=⟨[(0,.ptr 20000 0)],(zg1 r 20000 20100 20101 20102 20103 20104 20105 20106),20107⟩
theorem zik(a0:Tseat_seat)(a1:Int)(a2:TPromise)(r:Tseat_seat)(h:zdx a0 a1 a2=some r):zbv Tryz.prog 49 [.ptr 20000 0,.int .i64 a1,.agg [.int .i64 a2.Node,.int .i64 a2.Ballot,.str a2.Value]] (zg1 a0 20000 20001 20002 20003 20004 20005 20006 20007) (.tuple []) (zgu r 20000 20001 20002 20003 20004 20005 20006 20007 20100 20101 20102 20103 20104 20105 20106) (20100,20160):=by
 refine zct Tryz.func49 ?_
 intro hwf
 unfold zdx at h
 refine .ends 20100 (za4 _) ?_
 refine .sp [0,1,2] ?_
 obtain⟨v1,hv1,h⟩:=za3 h
 refine .sr [0,1,5] ?_
 refine .rd 7 ?_
 refine .call rfl rfl rfl rfl rfl rfl (zc7 (WkL.cons (Wk.agg (WkL.cons (Wk.refl _) (WkL.cons (Wk.refl _) (WkL.cons Wk.iz (WkL.cons (Wk.refl _) (WkL.cons (Wk.refl _) (WkL.cons Wk.iz (WkL.cons Wk.iz (WkL.refl _))))))))) (WkL.cons (Wk.refl _) (WkL.cons (Wk.refl _) (WkL.refl _)))) (zmw a0.Seat.Try a1 a2 v1 hv1)) ?_
 refine .rd 6 ?_
 refine .nd ?_
 refine .seq (.seq (.pl zS [0,1,6,7] ?_))
 refine .cd ?_ ?_<;>intro hc1
 replace h:=zab h hc1
 obtain rfl:=sj h
 refine .ret ⟨st32 a0,?_,.inr rfl,retH [20000,20106,20105,20104,20103,20102,20101,20100] ?_ ?_⟩
 exact .m [0] [20000,20001,20002,20003,20004,20005,20006,20007] [(20001,20100),(20002,20101),(20003,20102),(20004,20103),(20005,20104),(20006,20105),(20007,20106)]
 exact rsi0
 rfl
 replace h:=zae h hc1
 refine .skip (.seq (.seq (.pl zS [0,1,6] ?_)))
 refine .sp [0,1,6] ?_
 refine .cd ?_ ?_<;>intro hc2
 replace h:=zab h hc2
 obtain rfl:=sj h
 refine .ret ⟨st32 (⟨(⟨a0.Seat.Me,a0.Seat.Number,a0.Seat.Group,a0.Seat.Log,a0.Seat.Votes,v1.1,a0.Seat.Wishes,a0.Seat.Heard⟩:TSeat),a0.fRecs,a0.fMail⟩:Tseat_seat),?_,.inr rfl,retH [20000,20106,20105,20104,20103,20102,20101,20100] ?_ ?_⟩
 exact .m [0] [20000,20001,20002,20003,20004,20005,20006,20007] [(20001,20100),(20002,20101),(20003,20102),(20004,20103),(20005,20104),(20006,20105),(20007,20106)]
 exact rsi0
 rfl
 replace h:=zae h hc2
 refine .skip ?_
 obtain⟨v2,hv2,h⟩:=za3 h
 refine .sr [0,1,6] ?_
 refine .rn 1 ?_
 refine .lcall (r:=.int .i64 v2) [20001,20002,20003,20004,20005,20006,20007] rfl rfl rfl rfl rfl (za9 (zcc rfl (za2 rfl (za2 rfl (za2 (zaf (zdz .i64) (by first|rfl|(simp only[go_sem,Nat.reduceBEq];rfl)) (by first|rfl|(simp;done)|(simp<;>omega))) (za2 (zaf (zdz .i64) (by first|rfl|(simp only[go_sem,Nat.reduceBEq];rfl)) (by first|rfl|(simp;done)|(simp<;>omega))) (za2 (zaf zf8 (by first|rfl|(simp only[go_sem,Nat.reduceBEq];rfl)) (by first|rfl|(simp;done)|(simp<;>omega))) (za2 (zaf zh1 (by first|rfl|(simp only[go_sem,Nat.reduceBEq];rfl)) (by first|rfl|(simp;done)|(simp<;>omega))) (za2 rfl (za2 rfl (za2 rfl (za2 rfl (za2 rfl (za2 rfl (za2 rfl (za2 (zaf zf8 (by first|rfl|(simp only[go_sem,Nat.reduceBEq];rfl)) (by first|rfl|(simp;done)|(simp<;>omega))) (za2 rfl (za2 (zaf zej (by first|rfl|(simp only[go_sem,Nat.reduceBEq];rfl)) (by first|rfl|(simp;done)|(simp<;>omega))) (za2 (zaf zg3 (by first|rfl|(simp only[go_sem,Nat.reduceBEq];rfl)) (by first|rfl|(simp;done)|(simp<;>omega))) zc3)))))))))))))))))) zaj) rfl (zc7 (WkL.cons (Wk.iptr (WkL.cons (Wk.refl _) (WkL.cons (Wk.refl _) (WkL.cons (Wk.refl _) (WkL.cons (Wk.refl _) (WkL.cons (Wk.refl _) (WkL.cons (Wk.refl _) (WkL.cons (Wk.refl _) (WkL.cons (Wk.refl _) (WkL.cons Wk.iz (WkL.cons (Wk.refl _) (WkL.cons (Wk.refl _) (WkL.cons Wk.iz (WkL.cons Wk.iz (WkL.cons (Wk.refl _) (WkL.cons (Wk.refl _) (WkL.cons (Wk.refl _) (WkL.cons (Wk.refl _) (WkL.refl _))))))))))))))))))) (WkL.refl _)) (zco (⟨(⟨a0.Seat.Me,a0.Seat.Number,a0.Seat.Group,a0.Seat.Log,a0.Seat.Votes,v1.1,a0.Seat.Wishes,a0.Seat.Heard⟩:TSeat),a0.fRecs,a0.fMail⟩:Tseat_seat) v2 hv2)) ?_
 refine .rn 1 ?_
 refine .nn ?_
 obtain⟨v3,hv3,h⟩:=za3 h
 refine .sr [0,1,6,8] ?_
 refine .rn 8 ?_
 refine .hcall (H:=[(20000,.box [.int .i64 a0.Seat.Me,.int .i64 a0.Seat.Number,.ref 20001 1 0 a0.Seat.Group.Roster.length (some uC),.ref 20002 1 0 a0.Seat.Group.Members.length (some uC),.ref 20003 1 0 a0.Seat.Log.length (some uC),.ref 20004 5 0 a0.Seat.Votes.length (some uC),.int .u8 v1.1.Phase,.int .i64 v1.1.Ballot,.imm 1 (v1.1.Members.map (D.int .i64)) 13,.str v1.1.Wish,.str v1.1.Value,.imm 3 (v1.1.Promises.map TPromise.d) 13,.imm 1 (v1.1.Accepted.map (D.int .i64)) 13,.ref 20005 1 0 a0.Seat.Wishes.length (some uC),.int .i64 a0.Seat.Heard,.ref 20006 5 0 a0.fRecs.length (some uC),.ref 20007 10 0 a0.fMail.length (some uC)]),(20001,.arr 3 1 true (a0.Seat.Group.Roster.map (D.int .i64))),(20002,.arr 3 1 true (a0.Seat.Group.Members.map (D.int .i64))),(20003,.arr 9 1 true (a0.Seat.Log.map D.str)),(20004,.arr 75 5 true (a0.Seat.Votes.map TSeen.d)),(20005,.arr 9 1 true (a0.Seat.Wishes.map D.str)),(20006,.arr 53 5 true (a0.fRecs.map TRecord.d)),(20007,.arr 55 10 true (a0.fMail.map TMail.d))]) (eff:=(zgu v3 20000 20001 20002 20003 20004 20005 20006 20007 20109 20110 20111 20112 20113 20114 20115)) (nw:=(20109,20118)) (r:=.tuple []) rfl rfl rfl rfl rfl (za6 20007 20007 (za6 20006 20006 (za6 20005 20005 (za6 20004 20004 (za6 20003 20003 (za6 20002 20002 (za6 20001 20001 (za6 20000 20000 (zba 20109 (zhc (.keep (.cons (.new4 _ _ rfl) (.refl _))) (zhs (⟨(⟨a0.Seat.Me,a0.Seat.Number,a0.Seat.Group,a0.Seat.Log,a0.Seat.Votes,v1.1,a0.Seat.Wishes,a0.Seat.Heard⟩:TSeat),a0.fRecs,a0.fMail⟩:Tseat_seat) v1.1.Members (⟨0,0,3,0,v2,a1,0,v1.1.Value,0,0⟩:TMail) v3 hv3))))))))))) (fun id b h=>zam [20000,20001,20002,20003,20004,20005,20006,20007] _ id b h) (by simp) (.inr ⟨lb rfl,lb rfl⟩) ?_
 refine .nn ?_
 refine .seq ?_
 obtain⟨v4,hv4,h⟩:=za3 h
 refine .sr [0,1,6,8] ?_
 refine .rd 7 ?_
 refine .call rfl rfl rfl rfl rfl rfl (zc7 (WkL.cons Wk.iz (WkL.cons (Wk.refl _) (WkL.refl _))) (zdg v1.1.Members v3.Seat.Me v4 hv4)) ?_
 refine .rd 1 ?_
 refine .nd ?_
 refine .cd ?_ ?_<;>intro hc3
 replace h:=zab h hc3
 obtain rfl:=sj h
 refine .ret ⟨st32 v3,?_,.inr rfl,retH [20000,20106,20105,20104,20103,20102,20101,20100] ?_ ?_⟩
 exact .m [0] [20000,20109,20110,20111,20112,20113,20114,20115] [(20109,20100),(20110,20101),(20111,20102),(20112,20103),(20113,20104),(20114,20105),(20115,20106)]
 exact rsi0
 rfl
 replace h:=zae h hc3
 refine .skip ?_
 obtain⟨v5,hv5,h⟩:=za3 h
 refine .sr [0,1,6,8] ?_
 refine .rn 2 ?_
 refine .lcall (r:=.tuple [.agg [.int .i64 v5.1.Promised,.int .i64 v5.1.Ballot,.str v5.1.Value],.int .i64 v5.2.1,.bool v5.2.2]) [20109,20110,20111,20112,20113,20114,20115] rfl rfl rfl rfl rfl (za9 (zcc rfl (za2 rfl (za2 rfl (za2 (zaf (zdz .i64) (by first|rfl|(simp only[go_sem,Nat.reduceBEq];rfl)) (by first|rfl|(simp;done)|(simp<;>omega))) (za2 (zaf (zdz .i64) (by first|rfl|(simp only[go_sem,Nat.reduceBEq];rfl)) (by first|rfl|(simp;done)|(simp<;>omega))) (za2 (zaf zf8 (by first|rfl|(simp only[go_sem,Nat.reduceBEq];rfl)) (by first|rfl|(simp;done)|(simp<;>omega))) (za2 (zaf zh1 (by first|rfl|(simp only[go_sem,Nat.reduceBEq];rfl)) (by first|rfl|(simp;done)|(simp<;>omega))) (za2 rfl (za2 rfl (za2 rfl (za2 rfl (za2 rfl (za2 rfl (za2 rfl (za2 (zaf zf8 (by first|rfl|(simp only[go_sem,Nat.reduceBEq];rfl)) (by first|rfl|(simp;done)|(simp<;>omega))) (za2 rfl (za2 (zaf zej (by first|rfl|(simp only[go_sem,Nat.reduceBEq];rfl)) (by first|rfl|(simp;done)|(simp<;>omega))) (za2 (zaf zg3 (by first|rfl|(simp only[go_sem,Nat.reduceBEq];rfl)) (by first|rfl|(simp;done)|(simp<;>omega))) zc3)))))))))))))))))) (za9 rfl zaj)) rfl (zc7 (WkL.cons (Wk.iptr (WkL.cons (Wk.refl _) (WkL.cons (Wk.refl _) (WkL.cons (Wk.refl _) (WkL.cons (Wk.refl _) (WkL.cons (Wk.refl _) (WkL.cons (Wk.refl _) (WkL.cons (Wk.refl _) (WkL.cons (Wk.refl _) (WkL.cons Wk.iz (WkL.cons (Wk.refl _) (WkL.cons (Wk.refl _) (WkL.cons Wk.iz (WkL.cons Wk.iz (WkL.cons (Wk.refl _) (WkL.cons (Wk.refl _) (WkL.cons (Wk.refl _) (WkL.cons (Wk.refl _) (WkL.refl _))))))))))))))))))) (WkL.cons (Wk.refl _) (WkL.refl _))) (zeq v3 v2 v5 hv5)) ?_
 refine .rn 8 ?_
 refine .nn ?_
 obtain⟨v6,hv6,h⟩:=za3 h
 refine .sr [0,1,6,8,9] ?_
 refine .rn 4 ?_
 refine .cl (zly v5.1 a1 v1.1.Value v6 hv6) ?_
 refine .rn 6 ?_
 refine .nn ?_
 refine .sp [0,1,6,8,12,13] ?_
 refine .cd ?_ ?_<;>intro hc4
 replace h:=zab h hc4
 obtain⟨v7,hv7,h⟩:=za3 h
 refine .sr [0,1,6,8,12] ?_
 refine .rn 7 ?_
 refine .hcall (H:=(zg1 v3 20000 20109 20110 20111 20112 20113 20114 20115)) (eff:=(zgu v7 20000 20109 20110 20111 20112 20113 20114 20115 20120 20121 20122 20123 20124 20125 20126)) (nw:=(20120,20129)) (r:=.tuple []) rfl rfl rfl rfl rfl (za6 20007 20115 (za6 20006 20114 (za6 20005 20113 (za6 20004 20112 (za6 20003 20111 (za6 20002 20110 (za6 20001 20109 (za6 20000 20000 (zba 20120 (zi9 v3 (⟨2,0,v2,a1,v1.1.Value⟩:TRecord) v6.1 v7 hv7)))))))))) (fun id b h=>zam [20000,20109,20110,20111,20112,20113,20114,20115] _ id b h) (by simp) (.inr ⟨lb rfl,lb rfl⟩) ?_
 refine .nn ?_
 obtain⟨v8,hv8,h⟩:=za3 h
 refine .rg zS [0,1] ?_
 refine .rn 7 ?_
 refine .hcall (H:=(zg1 v7 20000 20120 20121 20122 20123 20124 20125 20126)) (eff:=(zgu v8 20000 20120 20121 20122 20123 20124 20125 20126 20129 20130 20131 20132 20133 20134 20135)) (nw:=(20129,20158)) (r:=.tuple []) rfl rfl rfl rfl rfl (za6 20007 20126 (za6 20006 20125 (za6 20005 20124 (za6 20004 20123 (za6 20003 20122 (za6 20002 20121 (za6 20001 20120 (za6 20000 20000 (zba 20129 (zji v7 a1 v7.Seat.Me v8 hv8)))))))))) (fun id b h=>zam [20000,20120,20121,20122,20123,20124,20125,20126] _ id b h) (by simp) (.inr ⟨lb rfl,lb rfl⟩) ?_
 refine .nn ?_
 obtain rfl:=sj h
 refine⟨st32 v8,?_,.inl rfl,retH [20000,20106,20105,20104,20103,20102,20101,20100] ?_ ?_⟩
 exact .m [0] [20000,20129,20130,20131,20132,20133,20134,20135] [(20129,20100),(20130,20101),(20131,20102),(20132,20103),(20133,20104),(20134,20105),(20135,20106)]
 exact rsi0
 rfl
 replace h:=zae h hc4
 refine .skip ?_
 obtain rfl:=sj h
 refine⟨st32 v3,?_,.inl rfl,retH [20000,20106,20105,20104,20103,20102,20101,20100] ?_ ?_⟩
 exact .m [0] [20000,20109,20110,20111,20112,20113,20114,20115] [(20109,20100),(20110,20101),(20111,20102),(20112,20103),(20113,20104),(20114,20105),(20115,20106)]
 exact rsi0
 rfl
end Go.Proofs
namespace Go.Proofs
open Go.Tm Go.RowKit Go.WideShapes
set_option maxRecDepth 100000
set_option maxHeartbeats 40000000
set_option linter.unusedSimpArgs false
set_option linter.unusedVariables false
attribute [local go_sem, local simp] zg1 zgu zlf
@[go_sem] def st38(r:Tseat_seat):St:=⟨[(0,.ptr 20000 0)],(zg1 r 20000 20100 20101 20102 20103 20104 20105 20106),20107⟩
theorem zob(a0:Tseat_seat)(r:Tseat_seat)(h:zgp a0=some r):zbv Tryz.prog 30 [.ptr 20000 0] (zg1 a0 20000 20001 20002 20003 20004 20005 20006 20007) (.tuple []) (zgu r 20000 20001 20002 20003 20004 20005 20006 20007 20100 20101 20102 20103 20104 20105 20106) (20100,20222):=by
 refine zct Tryz.func30 ?_
 intro hwf
 unfold zgp at h
 refine .ends 20100 (za4 _) ?_
 obtain⟨v1,hv1,h⟩:=za3 h
 obtain⟨v2,hv2,h⟩:=za3 h
 refine .sr [0] ?_
 refine .rn 1 ?_
 refine .lcall (r:=.int .i64 v1) [20001,20002,20003,20004,20005,20006,20007] rfl rfl rfl rfl rfl (za9 (zcc rfl (za2 rfl (za2 rfl (za2 (zaf (zdz .i64) (by first|rfl|(simp only[go_sem,Nat.reduceBEq];rfl)) (by first|rfl|(simp;done)|(simp<;>omega))) (za2 (zaf (zdz .i64) (by first|rfl|(simp only[go_sem,Nat.reduceBEq];rfl)) (by first|rfl|(simp;done)|(simp<;>omega))) (za2 (zaf zf8 (by first|rfl|(simp only[go_sem,Nat.reduceBEq];rfl)) (by first|rfl|(simp;done)|(simp<;>omega))) (za2 (zaf zh1 (by first|rfl|(simp only[go_sem,Nat.reduceBEq];rfl)) (by first|rfl|(simp;done)|(simp<;>omega))) (za2 rfl (za2 rfl (za2 rfl (za2 rfl (za2 rfl (za2 rfl (za2 rfl (za2 (zaf zf8 (by first|rfl|(simp only[go_sem,Nat.reduceBEq];rfl)) (by first|rfl|(simp;done)|(simp<;>omega))) (za2 rfl (za2 (zaf zej (by first|rfl|(simp only[go_sem,Nat.reduceBEq];rfl)) (by first|rfl|(simp;done)|(simp<;>omega))) (za2 (zaf zg3 (by first|rfl|(simp only[go_sem,Nat.reduceBEq];rfl)) (by first|rfl|(simp;done)|(simp<;>omega))) zc3)))))))))))))))))) zaj) rfl (zc7 (WkL.cons (Wk.iptr (WkL.cons (Wk.refl _) (WkL.cons (Wk.refl _) (WkL.cons (Wk.refl _) (WkL.cons (Wk.refl _) (WkL.cons (Wk.refl _) (WkL.cons (Wk.refl _) (WkL.cons (Wk.refl _) (WkL.cons (Wk.refl _) (WkL.cons Wk.iz (WkL.cons (Wk.refl _) (WkL.cons (Wk.refl _) (WkL.cons Wk.iz (WkL.cons Wk.iz (WkL.cons (Wk.refl _) (WkL.cons (Wk.refl _) (WkL.cons (Wk.refl _) (WkL.cons (Wk.refl _) (WkL.refl _))))))))))))))))))) (WkL.refl _)) (zco a0 v1 hv1)) ?_
 refine .rn 1 ?_
 refine .lcall (r:=.imm 1 (v2.map (D.int .i64)) 13) [20001,20002,20003,20004,20005,20006,20007] rfl rfl rfl rfl rfl (za9 (zcc rfl (za2 rfl (za2 rfl (za2 (zaf (zdz .i64) (by first|rfl|(simp only[go_sem,Nat.reduceBEq];rfl)) (by first|rfl|(simp;done)|(simp<;>omega))) (za2 (zaf (zdz .i64) (by first|rfl|(simp only[go_sem,Nat.reduceBEq];rfl)) (by first|rfl|(simp;done)|(simp<;>omega))) (za2 (zaf zf8 (by first|rfl|(simp only[go_sem,Nat.reduceBEq];rfl)) (by first|rfl|(simp;done)|(simp<;>omega))) (za2 (zaf zh1 (by first|rfl|(simp only[go_sem,Nat.reduceBEq];rfl)) (by first|rfl|(simp;done)|(simp<;>omega))) (za2 rfl (za2 rfl (za2 rfl (za2 rfl (za2 rfl (za2 rfl (za2 rfl (za2 (zaf zf8 (by first|rfl|(simp only[go_sem,Nat.reduceBEq];rfl)) (by first|rfl|(simp;done)|(simp<;>omega))) (za2 rfl (za2 (zaf zej (by first|rfl|(simp only[go_sem,Nat.reduceBEq];rfl)) (by first|rfl|(simp;done)|(simp<;>omega))) (za2 (zaf zg3 (by first|rfl|(simp only[go_sem,Nat.reduceBEq];rfl)) (by first|rfl|(simp;done)|(simp<;>omega))) zc3)))))))))))))))))) zaj) rfl (zc7 (WkL.cons (Wk.iptr (WkL.cons (Wk.refl _) (WkL.cons (Wk.refl _) (WkL.cons (Wk.refl _) (WkL.cons (Wk.refl _) (WkL.cons (Wk.refl _) (WkL.cons (Wk.refl _) (WkL.cons (Wk.refl _) (WkL.cons (Wk.refl _) (WkL.cons Wk.iz (WkL.cons (Wk.refl _) (WkL.cons (Wk.refl _) (WkL.cons Wk.iz (WkL.cons Wk.iz (WkL.cons (Wk.refl _) (WkL.cons (Wk.refl _) (WkL.cons (Wk.refl _) (WkL.cons (Wk.refl _) (WkL.refl _))))))))))))))))))) (WkL.refl _)) (ziz a0 v2 hv2)) ?_
 refine .rn 2 ?_
 refine .nn ?_
 obtain⟨v3,hv3,h⟩:=za3 h
 refine .sr [0,2,3] ?_
 refine .rn 6 ?_
 refine .rn 3 ?_
 refine .hcall (H:=(zg1 a0 20000 20001 20002 20003 20004 20005 20006 20007)) (eff:=(zgu v3 20000 20001 20002 20003 20004 20005 20006 20007 20109 20110 20111 20112 20113 20114 20115)) (nw:=(20109,20118)) (r:=.tuple []) rfl rfl rfl rfl rfl (za6 20007 20007 (za6 20006 20006 (za6 20005 20005 (za6 20004 20004 (za6 20003 20003 (za6 20002 20002 (za6 20001 20001 (za6 20000 20000 (zba 20109 (zj5 a0 (⟨0,0,7,0,v1,0,0,[],0,0⟩:TMail) v3 hv3)))))))))) (fun id b h=>zam [20000,20001,20002,20003,20004,20005,20006,20007] _ id b h) (by simp) (.inr ⟨lb rfl,lb rfl⟩) ?_
 refine .nn ?_
 refine .seq (.seq (.rg zS [0,2,3] ?_))
 refine .rn 6 ?_
 refine .rn 5 ?_
 refine .nn ?_
 refine .cd ?_ ?_<;>intro hc1
 replace h:=zab h hc1
 obtain rfl:=sj h
 refine .ret ⟨st38 v3,?_,.inr rfl,retH [20000,20106,20105,20104,20103,20102,20101,20100] ?_ ?_⟩
 exact .m [0] [20000,20109,20110,20111,20112,20113,20114,20115] [(20109,20100),(20110,20101),(20111,20102),(20112,20103),(20113,20104),(20114,20105),(20115,20106)]
 exact rsi0
 rfl
 replace h:=zae h hc1
 refine .skip (.seq ?_)
 obtain⟨v4,hv4,h⟩:=za3 h
 refine .sr [0,2,3] ?_
 refine .rn 6 ?_
 refine .call rfl rfl rfl rfl rfl rfl (zc7 (WkL.cons Wk.iz (WkL.cons (Wk.refl _) (WkL.refl _))) (zdg v2 v3.Seat.Me v4 hv4)) ?_
 refine .rn 1 ?_
 refine .nn ?_
 refine .cd ?_ ?_<;>intro hc2
 replace h:=zab h hc2
 refine .seq ?_
 obtain⟨k1,h⟩:=zbc h
 obtain⟨v5,hv5,h⟩:=za3 h
 have e1:=zhf D.str v3.Seat.Wishes 0 k1
 refine .rg zS [0,3] ?_
 refine .rnx 6 e1 ?_
 refine .rnx 4 e1 ?_
 refine .hcall (H:=(zg1 v3 20000 20109 20110 20111 20112 20113 20114 20115)) (eff:=(zgu v5 20000 20109 20110 20111 20112 20113 20114 20115 20118 20119 20120 20121 20122 20123 20124)) (nw:=(20118,20127)) (r:=.tuple []) rfl rfl rfl rfl rfl (za6 20007 20115 (za6 20006 20114 (za6 20005 20113 (za6 20004 20112 (za6 20003 20111 (za6 20002 20110 (za6 20001 20109 (za6 20000 20000 (zba 20118 (zhc (.keep (.cons (.new4 _ _ rfl) (.refl _))) (zhs v3 v2 (⟨0,0,9,0,0,0,0,(v3.Seat.Wishes.getD 0 default),0,0⟩:TMail) v5 hv5))))))))))) (fun id b h=>zam [20000,20109,20110,20111,20112,20113,20114,20115] _ id b h) (by simp) (.inr ⟨lb rfl,lb rfl⟩) ?_
 refine .nn ?_
 obtain rfl:=sj h
 refine .ret ⟨st38 v5,?_,.inr rfl,retH [20000,20106,20105,20104,20103,20102,20101,20100] ?_ ?_⟩
 exact .m [0] [20000,20118,20119,20120,20121,20122,20123,20124] [(20118,20100),(20119,20101),(20120,20102),(20121,20103),(20122,20104),(20123,20105),(20124,20106)]
 exact rsi0
 rfl
 replace h:=zae h hc2
 refine .skip ?_
 obtain⟨v6,hv6,h⟩:=za3 h
 refine .sr [0,2,3] ?_
 refine .rn 2 ?_
 refine .lcall (r:=.tuple [.agg [.int .i64 v6.1.Promised,.int .i64 v6.1.Ballot,.str v6.1.Value],.int .i64 v6.2.1,.bool v6.2.2]) [20109,20110,20111,20112,20113,20114,20115] rfl rfl rfl rfl rfl (za9 (zcc rfl (za2 rfl (za2 rfl (za2 (zaf (zdz .i64) (by first|rfl|(simp only[go_sem,Nat.reduceBEq];rfl)) (by first|rfl|(simp;done)|(simp<;>omega))) (za2 (zaf (zdz .i64) (by first|rfl|(simp only[go_sem,Nat.reduceBEq];rfl)) (by first|rfl|(simp;done)|(simp<;>omega))) (za2 (zaf zf8 (by first|rfl|(simp only[go_sem,Nat.reduceBEq];rfl)) (by first|rfl|(simp;done)|(simp<;>omega))) (za2 (zaf zh1 (by first|rfl|(simp only[go_sem,Nat.reduceBEq];rfl)) (by first|rfl|(simp;done)|(simp<;>omega))) (za2 rfl (za2 rfl (za2 rfl (za2 rfl (za2 rfl (za2 rfl (za2 rfl (za2 (zaf zf8 (by first|rfl|(simp only[go_sem,Nat.reduceBEq];rfl)) (by first|rfl|(simp;done)|(simp<;>omega))) (za2 rfl (za2 (zaf zej (by first|rfl|(simp only[go_sem,Nat.reduceBEq];rfl)) (by first|rfl|(simp;done)|(simp<;>omega))) (za2 (zaf zg3 (by first|rfl|(simp only[go_sem,Nat.reduceBEq];rfl)) (by first|rfl|(simp;done)|(simp<;>omega))) zc3)))))))))))))))))) (za9 rfl zaj)) rfl (zc7 (WkL.cons (Wk.iptr (WkL.cons (Wk.refl _) (WkL.cons (Wk.refl _) (WkL.cons (Wk.refl _) (WkL.cons (Wk.refl _) (WkL.cons (Wk.refl _) (WkL.cons (Wk.refl _) (WkL.cons (Wk.refl _) (WkL.cons (Wk.refl _) (WkL.cons Wk.iz (WkL.cons (Wk.refl _) (WkL.cons (Wk.refl _) (WkL.cons Wk.iz (WkL.cons Wk.iz (WkL.cons (Wk.refl _) (WkL.cons (Wk.refl _) (WkL.cons (Wk.refl _) (WkL.cons (Wk.refl _) (WkL.refl _))))))))))))))))))) (WkL.cons (Wk.refl _) (WkL.refl _))) (zeq v3 v1 v6 hv6)) ?_
 refine .rn 8 ?_
 refine .nn ?_
 obtain⟨v7,hv7,h⟩:=za3 h
 refine .sr [0,2,3,4] ?_
 refine .rd 6 ?_
 refine .rd 7 ?_
 refine .cl (zr1 (max v6.1.Promised v3.Seat.Heard) v3.Seat.Me v7 hv7) ?_
 refine .rd 5 ?_
 refine .nd ?_
 refine .seq (.seq (.pl zS [0,2,3,4,7,8] ?_))
 refine .cd ?_ ?_<;>intro hc3
 replace h:=zab h hc3
 obtain rfl:=sj h
 refine .ret ⟨st38 v3,?_,.inr rfl,retH [20000,20106,20105,20104,20103,20102,20101,20100] ?_ ?_⟩
 exact .m [0] [20000,20109,20110,20111,20112,20113,20114,20115] [(20109,20100),(20110,20101),(20111,20102),(20112,20103),(20113,20104),(20114,20105),(20115,20106)]
 exact rsi0
 rfl
 replace h:=zae h hc3
 refine .skip ?_
 obtain⟨v8,hv8,h⟩:=za3 h
 refine .sr [0,2,3,4,7] ?_
 refine .rn 2 ?_
 refine .cl (zl8 v6.1 v7.1 v8 hv8) ?_
 refine .rn 6 ?_
 refine .nn ?_
 obtain⟨v9,hv9,h⟩:=za3 h
 refine .sr [0,2,3,4,7,9] ?_
 refine .rn 5 ?_
 refine .hcall (H:=(zg1 v3 20000 20109 20110 20111 20112 20113 20114 20115)) (eff:=(zgu v9 20000 20109 20110 20111 20112 20113 20114 20115 20120 20121 20122 20123 20124 20125 20126)) (nw:=(20120,20129)) (r:=.tuple []) rfl rfl rfl rfl rfl (za6 20007 20115 (za6 20006 20114 (za6 20005 20113 (za6 20004 20112 (za6 20003 20111 (za6 20002 20110 (za6 20001 20109 (za6 20000 20000 (zba 20120 (zi9 v3 (⟨1,0,v1,v7.1,[]⟩:TRecord) v8.1 v9 hv9)))))))))) (fun id b h=>zam [20000,20109,20110,20111,20112,20113,20114,20115] _ id b h) (by simp) (.inr ⟨lb rfl,lb rfl⟩) ?_
 refine .nn ?_
 refine .seq ?_
 obtain⟨k2,h⟩:=zbc h
 obtain⟨v10,hv10,h⟩:=za3 h
 have e2:=zhf D.str v9.Seat.Wishes 0 k2
 refine .rg zS [0,2,3,4,7] ?_
 refine .rnx 6 e2 ?_
 refine .rnx 4 e2 ?_
 refine .call rfl rfl rfl rfl rfl rfl (zc7 (WkL.cons Wk.iz (WkL.cons (Wk.refl _) (WkL.cons (Wk.refl _) (WkL.refl _)))) (zoz v2 v7.1 (v9.Seat.Wishes.getD 0 default) v10 hv10)) ?_
 refine .rnx 7 e2 ?_
 refine .nn ?_
 obtain⟨v11,hv11,h⟩:=za3 h
 refine .sr [0,2,3,4,7] ?_
 refine .rn 5 ?_
 refine .hcall (H:=[(20000,.box [.int .i64 v9.Seat.Me,.int .i64 v9.Seat.Number,.ref 20120 1 0 v9.Seat.Group.Roster.length (some uC),.ref 20121 1 0 v9.Seat.Group.Members.length (some uC),.ref 20122 1 0 v9.Seat.Log.length (some uC),.ref 20123 5 0 v9.Seat.Votes.length (some uC),.int .u8 v10.1.Phase,.int .i64 v10.1.Ballot,.imm 1 (v10.1.Members.map (D.int .i64)) 13,.str v10.1.Wish,.str v10.1.Value,.imm 3 (v10.1.Promises.map TPromise.d) 13,.imm 1 (v10.1.Accepted.map (D.int .i64)) 13,.ref 20124 1 0 v9.Seat.Wishes.length (some uC),.int .i64 v9.Seat.Heard,.ref 20125 5 0 v9.fRecs.length (some uC),.ref 20126 10 0 v9.fMail.length (some uC)]),(20120,.arr 3 1 true (v9.Seat.Group.Roster.map (D.int .i64))),(20121,.arr 3 1 true (v9.Seat.Group.Members.map (D.int .i64))),(20122,.arr 9 1 true (v9.Seat.Log.map D.str)),(20123,.arr 75 5 true (v9.Seat.Votes.map TSeen.d)),(20124,.arr 9 1 true (v9.Seat.Wishes.map D.str)),(20125,.arr 53 5 true (v9.fRecs.map TRecord.d)),(20126,.arr 55 10 true (v9.fMail.map TMail.d))]) (eff:=(zgu v11 20000 20120 20121 20122 20123 20124 20125 20126 20129 20130 20131 20132 20133 20134 20135)) (nw:=(20129,20138)) (r:=.tuple []) rfl rfl rfl rfl rfl (za6 20007 20126 (za6 20006 20125 (za6 20005 20124 (za6 20004 20123 (za6 20003 20122 (za6 20002 20121 (za6 20001 20120 (za6 20000 20000 (zba 20129 (zhc (.keep (.cons (.new4 _ _ rfl) (.refl _))) (zhs (⟨(⟨v9.Seat.Me,v9.Seat.Number,v9.Seat.Group,v9.Seat.Log,v9.Seat.Votes,v10.1,v9.Seat.Wishes,v9.Seat.Heard⟩:TSeat),v9.fRecs,v9.fMail⟩:Tseat_seat) v2 (⟨0,0,1,0,v1,v7.1,0,[],0,0⟩:TMail) v11 hv11))))))))))) (fun id b h=>zam [20000,20120,20121,20122,20123,20124,20125,20126] _ id b h) (by simp) (.inr ⟨lb rfl,lb rfl⟩) ?_
 refine .nn ?_
 obtain⟨v12,hv12,h⟩:=za3 h
 refine .rg zS [0,4,7] ?_
 refine .rd 6 ?_
 refine .rd 6 ?_
 refine .hcall (H:=(zg1 v11 20000 20129 20130 20131 20132 20133 20134 20135)) (eff:=(zgu v12 20000 20129 20130 20131 20132 20133 20134 20135 20160 20161 20162 20163 20164 20165 20166)) (nw:=(20160,20220)) (r:=.tuple []) rfl rfl rfl rfl rfl (za6 20007 20135 (za6 20006 20134 (za6 20005 20133 (za6 20004 20132 (za6 20003 20131 (za6 20002 20130 (za6 20001 20129 (za6 20000 20000 (zba 20160 (zik v11 v7.1 (⟨v11.Seat.Me,v6.1.Ballot,v6.1.Value⟩:TPromise) v12 hv12)))))))))) (fun id b h=>zam [20000,20129,20130,20131,20132,20133,20134,20135] _ id b h) (by simp) (.inr ⟨lb rfl,lb rfl⟩) ?_
 refine .nd ?_
 obtain rfl:=sj h
 refine⟨st38 v12,?_,.inl rfl,retH [20000,20106,20105,20104,20103,20102,20101,20100] ?_ ?_⟩
 exact .m [0] [20000,20160,20161,20162,20163,20164,20165,20166] [(20160,20100),(20161,20101),(20162,20102),(20163,20103),(20164,20104),(20165,20105),(20166,20106)]
 exact rsi0
 rfl
end Go.Proofs
namespace Go.Proofs
open Go.Tm Go.RowKit Go.WideShapes
set_option maxRecDepth 100000
set_option maxHeartbeats 40000000
set_option linter.unusedSimpArgs false
set_option linter.unusedVariables false
attribute [local go_sem, local simp] zg1 zgu zlf
@[go_sem] def st96(a0:Tseat_seat)(a1:TMail)(v3:TVote×Int×Bool)(n1:Int)(s1:List UInt8)(x1:TVote)(n2:Int):St:=⟨[(0,.ptr 20000 0),(3,.ptr 20100 0),(4,.ptr 20101 0),(5,.ptr 20102 0),(8,.ptr 20103 0),(9,.ptr 20104 0),(10,.int .i64 n2)],[(20000,zlf a0 20001 20002 20003 20004 20005 20006 20007),(20001,.arr 3 1 true (a0.Seat.Group.Roster.map (D.int .i64))),(20002,.arr 3 1 true (a0.Seat.Group.Members.map (D.int .i64))),(20003,.arr 9 1 true (a0.Seat.Log.map D.str)),(20004,.arr 75 5 true (a0.Seat.Votes.map TSeen.d)),(20005,.arr 9 1 true (a0.Seat.Wishes.map D.str)),(20006,.arr 53 5 true (a0.fRecs.map TRecord.d)),(20007,.arr 55 10 true (a0.fMail.map TMail.d)),(20100,.box [.int .i64 a1.From,.int .i64 a1.To,.int .u8 a1.Kind,.int .i64 a1.Group,.int .i64 a1.Slot,.int .i64 a1.Ballot,.int .i64 a1.Prior,.str a1.Value,.int .i64 a1.Id,.int .i64 a1.Time]),(20101,.box [.int .i64 0,.int .i64 0,.int .u8 0,.int .i64 0,.int .i64 a1.Slot,.int .i64 a1.Ballot,.int .i64 0,.str [],.int .i64 0,.int .i64 0]),(20102,.box [.int .i64 v3.1.Promised,.int .i64 v3.1.Ballot,.str v3.1.Value]),(20103,.box [.int .u8 n1,.int .i64 0,.int .i64 a1.Slot,.int .i64 a1.Ballot,.str s1]),(20104,.box [.int .i64 x1.Promised,.int .i64 x1.Ballot,.str x1.Value])],20105⟩
@[go_sem] def st97(a0:Tseat_seat)(a1:TMail)(n1:Int)(s1:List UInt8)(x1:TVote)(n2:Int)(n3:Int)(n4:Int)(s2:List UInt8):St:=⟨[(0,.ptr 20000 0),(3,.ptr 20100 0),(4,.ptr 20101 0),(8,.ptr 20103 0),(9,.ptr 20104 0),(10,.int .i64 n2)],[(20000,zlf a0 20001 20002 20003 20004 20005 20006 20007),(20001,.arr 3 1 true (a0.Seat.Group.Roster.map (D.int .i64))),(20002,.arr 3 1 true (a0.Seat.Group.Members.map (D.int .i64))),(20003,.arr 9 1 true (a0.Seat.Log.map D.str)),(20004,.arr 75 5 true (a0.Seat.Votes.map TSeen.d)),(20005,.arr 9 1 true (a0.Seat.Wishes.map D.str)),(20006,.arr 53 5 true (a0.fRecs.map TRecord.d)),(20007,.arr 55 10 true (a0.fMail.map TMail.d)),(20100,.box [.int .i64 a1.From,.int .i64 a1.To,.int .u8 a1.Kind,.int .i64 a1.Group,.int .i64 a1.Slot,.int .i64 a1.Ballot,.int .i64 a1.Prior,.str a1.Value,.int .i64 a1.Id,.int .i64 a1.Time]),(20101,.box [.int .i64 0,.int .i64 0,.int .u8 n3,.int .i64 0,.int .i64 a1.Slot,.int .i64 a1.Ballot,.int .i64 n4,.str s2,.int .i64 0,.int .i64 0]),(20103,.box [.int .u8 n1,.int .i64 0,.int .i64 a1.Slot,.int .i64 a1.Ballot,.str s1]),(20104,.box [.int .i64 x1.Promised,.int .i64 x1.Ballot,.str x1.Value])],20105⟩
@[go_sem] def st98(a1:TMail)(n3:Int)(n4:Int)(s2:List UInt8)(x4:Tseat_seat):St:=⟨[(0,.ptr 20000 0),(3,.ptr 20100 0),(4,.ptr 20101 0)],[(20000,zlf x4 20105 20106 20107 20108 20109 20110 20111),(20100,.box [.int .i64 a1.From,.int .i64 a1.To,.int .u8 a1.Kind,.int .i64 a1.Group,.int .i64 a1.Slot,.int .i64 a1.Ballot,.int .i64 a1.Prior,.str a1.Value,.int .i64 a1.Id,.int .i64 a1.Time]),(20101,.box [.int .i64 0,.int .i64 0,.int .u8 n3,.int .i64 0,.int .i64 a1.Slot,.int .i64 a1.Ballot,.int .i64 n4,.str s2,.int .i64 0,.int .i64 0]),(20105,.arr 3 1 true (x4.Seat.Group.Roster.map (D.int .i64))),(20106,.arr 3 1 true (x4.Seat.Group.Members.map (D.int .i64))),(20107,.arr 9 1 true (x4.Seat.Log.map D.str)),(20108,.arr 75 5 true (x4.Seat.Votes.map TSeen.d)),(20109,.arr 9 1 true (x4.Seat.Wishes.map D.str)),(20110,.arr 53 5 true (x4.fRecs.map TRecord.d)),(20111,.arr 55 10 true (x4.fMail.map TMail.d))],20112⟩
@[go_sem] def st29(r:Tseat_seat):St:=⟨[(0,.ptr 20000 0)],(zg1 r 20000 20100 20101 20102 20103 20104 20105 20106),20107⟩
theorem znr(a0:Tseat_seat)(a1:TMail)(r:Tseat_seat)(h:zg7 a0 a1=some r):zbv Tryz.prog 48 [.ptr 20000 0,.agg [.int .i64 a1.From,.int .i64 a1.To,.int .u8 a1.Kind,.int .i64 a1.Group,.int .i64 a1.Slot,.int .i64 a1.Ballot,.int .i64 a1.Prior,.str a1.Value,.int .i64 a1.Id,.int .i64 a1.Time]] (zg1 a0 20000 20001 20002 20003 20004 20005 20006 20007) (.tuple []) (zgu r 20000 20001 20002 20003 20004 20005 20006 20007 20100 20101 20102 20103 20104 20105 20106) (20100,20124):=by
 refine zct Tryz.func48 ?_
 intro hwf
 unfold zg7 at h
 refine .ends 20100 (za4 _) ?_
 refine .sp [0,1] ?_
 refine .sp [0,3] ?_
 refine .seq ?_
 obtain⟨v1,hv1,h⟩:=za3 h
 refine .sr [0,3,4] ?_
 refine .rd 3 ?_
 refine .lcall (r:=.int .i64 v1) [20001,20002,20003,20004,20005,20006,20007] rfl rfl rfl rfl rfl (za9 (zcc rfl (za2 rfl (za2 rfl (za2 (zaf (zdz .i64) (by first|rfl|(simp only[go_sem,Nat.reduceBEq];rfl)) (by first|rfl|(simp;done)|(simp<;>omega))) (za2 (zaf (zdz .i64) (by first|rfl|(simp only[go_sem,Nat.reduceBEq];rfl)) (by first|rfl|(simp;done)|(simp<;>omega))) (za2 (zaf zf8 (by first|rfl|(simp only[go_sem,Nat.reduceBEq];rfl)) (by first|rfl|(simp;done)|(simp<;>omega))) (za2 (zaf zh1 (by first|rfl|(simp only[go_sem,Nat.reduceBEq];rfl)) (by first|rfl|(simp;done)|(simp<;>omega))) (za2 rfl (za2 rfl (za2 rfl (za2 rfl (za2 rfl (za2 rfl (za2 rfl (za2 (zaf zf8 (by first|rfl|(simp only[go_sem,Nat.reduceBEq];rfl)) (by first|rfl|(simp;done)|(simp<;>omega))) (za2 rfl (za2 (zaf zej (by first|rfl|(simp only[go_sem,Nat.reduceBEq];rfl)) (by first|rfl|(simp;done)|(simp<;>omega))) (za2 (zaf zg3 (by first|rfl|(simp only[go_sem,Nat.reduceBEq];rfl)) (by first|rfl|(simp;done)|(simp<;>omega))) zc3)))))))))))))))))) zaj) rfl (zc7 (WkL.cons (Wk.iptr (WkL.cons (Wk.refl _) (WkL.cons (Wk.refl _) (WkL.cons (Wk.refl _) (WkL.cons (Wk.refl _) (WkL.cons (Wk.refl _) (WkL.cons (Wk.refl _) (WkL.cons (Wk.refl _) (WkL.cons (Wk.refl _) (WkL.cons Wk.iz (WkL.cons (Wk.refl _) (WkL.cons (Wk.refl _) (WkL.cons Wk.iz (WkL.cons Wk.iz (WkL.cons (Wk.refl _) (WkL.cons (Wk.refl _) (WkL.cons (Wk.refl _) (WkL.cons (Wk.refl _) (WkL.refl _))))))))))))))))))) (WkL.refl _)) (zco a0 v1 hv1)) ?_
 refine .rd 1 ?_
 refine .nd ?_
 refine .cd ?_ ?_<;>intro hc1
 replace h:=zab h hc1
 refine .seq ?_
 obtain⟨k1,h⟩:=zbc h
 obtain⟨v2,hv2,h⟩:=za3 h
 have e1:=zdp D.str a0.Seat.Log (wr .i64 (a1.Slot-1))
 replace e1:=e1 k1
 refine .rg zS [0,3] ?_
 refine .rdx 6 e1 ?_
 refine .rdx 6 e1 ?_
 refine .rdx 5 e1 ?_
 refine .hcall (H:=[(20000,zlf a0 20001 20002 20003 20004 20005 20006 20007),(20001,.arr 3 1 true (a0.Seat.Group.Roster.map (D.int .i64))),(20002,.arr 3 1 true (a0.Seat.Group.Members.map (D.int .i64))),(20003,.arr 9 1 true (a0.Seat.Log.map D.str)),(20004,.arr 75 5 true (a0.Seat.Votes.map TSeen.d)),(20005,.arr 9 1 true (a0.Seat.Wishes.map D.str)),(20006,.arr 53 5 true (a0.fRecs.map TRecord.d)),(20007,.arr 55 10 true (a0.fMail.map TMail.d)),(20102,.arr 3 1 true ([a1.From].map (D.int .i64)))]) (eff:=[(20000,some (zlf v2 20109 20110 20111 20112 20113 20114 20115)),(20001,none),(20002,none),(20003,none),(20004,none),(20005,none),(20006,none),(20007,none),(20102,none),(20109,some (.arr 3 1 true (v2.Seat.Group.Roster.map (D.int .i64)))),(20110,some (.arr 3 1 true (v2.Seat.Group.Members.map (D.int .i64)))),(20111,some (.arr 9 1 true (v2.Seat.Log.map D.str))),(20112,some (.arr 75 5 true (v2.Seat.Votes.map TSeen.d))),(20113,some (.arr 9 1 true (v2.Seat.Wishes.map D.str))),(20114,some (.arr 53 5 true (v2.fRecs.map TRecord.d))),(20115,some (.arr 55 10 true (v2.fMail.map TMail.d)))]) (nw:=(20109,20118)) (r:=.tuple []) rfl rfl rfl rfl rfl (za6 20008 20102 (za6 20007 20007 (za6 20006 20006 (za6 20005 20005 (za6 20004 20004 (za6 20003 20003 (za6 20002 20002 (za6 20001 20001 (za6 20000 20000 (zba 20109 (zhc (.keep (.cons (.unk 20008 1 0 1 (some 1)) (.refl _))) (zh0 a0 [a1.From] (⟨0,0,6,0,a1.Slot,0,0,(a0.Seat.Log.getD (wr .i64 (a1.Slot-1)).toNat default),0,0⟩:TMail) v2 hv2)))))))))))) (fun id b h=>zam [20000,20001,20002,20003,20004,20005,20006,20007,20102] _ id b h) (by simp) (.inr ⟨lb rfl,lb rfl⟩) ?_
 refine .nd ?_
 obtain rfl:=sj h
 refine .ret ⟨st29 v2,?_,.inr rfl,retH [20000,20106,20105,20104,20103,20102,20101,20100] ?_ ?_⟩
 exact .m [0] [20000,20109,20110,20111,20112,20113,20114,20115] [(20109,20100),(20110,20101),(20111,20102),(20112,20103),(20113,20104),(20114,20105),(20115,20106)]
 exact rsi0
 rfl
 replace h:=zae h hc1
 refine .skip ?_
 obtain⟨v3,hv3,h⟩:=za3 h
 refine .sr [0,3,4] ?_
 refine .rn 3 ?_
 refine .lcall (r:=.tuple [.agg [.int .i64 v3.1.Promised,.int .i64 v3.1.Ballot,.str v3.1.Value],.int .i64 v3.2.1,.bool v3.2.2]) [20001,20002,20003,20004,20005,20006,20007] rfl rfl rfl rfl rfl (za9 (zcc rfl (za2 rfl (za2 rfl (za2 (zaf (zdz .i64) (by first|rfl|(simp only[go_sem,Nat.reduceBEq];rfl)) (by first|rfl|(simp;done)|(simp<;>omega))) (za2 (zaf (zdz .i64) (by first|rfl|(simp only[go_sem,Nat.reduceBEq];rfl)) (by first|rfl|(simp;done)|(simp<;>omega))) (za2 (zaf zf8 (by first|rfl|(simp only[go_sem,Nat.reduceBEq];rfl)) (by first|rfl|(simp;done)|(simp<;>omega))) (za2 (zaf zh1 (by first|rfl|(simp only[go_sem,Nat.reduceBEq];rfl)) (by first|rfl|(simp;done)|(simp<;>omega))) (za2 rfl (za2 rfl (za2 rfl (za2 rfl (za2 rfl (za2 rfl (za2 rfl (za2 (zaf zf8 (by first|rfl|(simp only[go_sem,Nat.reduceBEq];rfl)) (by first|rfl|(simp;done)|(simp<;>omega))) (za2 rfl (za2 (zaf zej (by first|rfl|(simp only[go_sem,Nat.reduceBEq];rfl)) (by first|rfl|(simp;done)|(simp<;>omega))) (za2 (zaf zg3 (by first|rfl|(simp only[go_sem,Nat.reduceBEq];rfl)) (by first|rfl|(simp;done)|(simp<;>omega))) zc3)))))))))))))))))) (za9 rfl zaj)) rfl (zc7 (WkL.cons (Wk.iptr (WkL.cons (Wk.refl _) (WkL.cons (Wk.refl _) (WkL.cons (Wk.refl _) (WkL.cons (Wk.refl _) (WkL.cons (Wk.refl _) (WkL.cons (Wk.refl _) (WkL.cons (Wk.refl _) (WkL.cons (Wk.refl _) (WkL.cons Wk.iz (WkL.cons (Wk.refl _) (WkL.cons (Wk.refl _) (WkL.cons Wk.iz (WkL.cons Wk.iz (WkL.cons (Wk.refl _) (WkL.cons (Wk.refl _) (WkL.cons (Wk.refl _) (WkL.cons (Wk.refl _) (WkL.refl _))))))))))))))))))) (WkL.cons (Wk.refl _) (WkL.refl _))) (zeq a0 a1.Slot v3 hv3)) ?_
 refine .rn 8 ?_
 refine .nn ?_
 refine .sp [0,3,4,5] ?_
 obtain⟨v4,hv4,h⟩:=za3 h
 refine .sr [0,3,4,5,8] ?_
 refine .rn 3 ?_
 refine .cl (zl8 v3.1 a1.Ballot v4 hv4) ?_
 refine .rn 6 ?_
 refine .nn ?_
 obtain⟨x2,hx2,h⟩:=za3 h
 refine .seqM 20105 (fun(j:Int×(List UInt8)×TVote×Int)=>st96 a0 a1 v3 j.1 j.2.1 j.2.2.1 j.2.2.2) (fun j=>x2=j) (lb rfl) ?_ ?_
 refine .sp [0,3,4,5,8,9,10] ?_
 refine .cd ?_ ?_<;>intro hc2
 replace hx2:=zab hx2 hc2
 refine .seq ?_
 refine .dr zS [0,3,4,5,8,9] ?_
 obtain⟨v5,hv5,hx2⟩:=za3 hx2
 refine .rg zS [0,3,4,5,8,9] ?_
 refine .rn 5 ?_
 refine .cl (zly v3.1 a1.Ballot a1.Value v5 hv5) ?_
 refine .rn 5 ?_
 refine .nn ?_
 refine⟨_,?_,(sj hx2).symm⟩
 exact .m [0,3,4,5,8,9,10] [20000,20001,20002,20003,20004,20005,20006,20007,20100,20101,20102,20103,20104] []
 replace hx2:=zae hx2 hc2
 refine .skip ?_
 refine⟨_,?_,(sj hx2).symm⟩
 exact .m [0,3,4,5,8,9,10] [20000,20001,20002,20003,20004,20005,20006,20007,20100,20101,20102,20103,20104] []
 rintro⟨n1,s1,x1,n2⟩ hj1
 subst x2
 try dsimp only at h
 simp only[st96]
 obtain⟨x3,hx3,h⟩:=za3 h
 refine .seqM 20105 (fun(j:Int×Int×(List UInt8))=>st97 a0 a1 n1 s1 x1 n2 j.1 j.2.1 j.2.2) (fun j=>x3=j) (lb rfl) ?_ ?_
 refine .block (.seq (.pl zS [0,3,4,5,8,9,10] ?_))
 refine .cd ?_ ?_<;>intro hc3
 replace hx3:=zab hx3 hc3
 refine .dr zS [0,3,4,5,8,9,10] ?_
 refine⟨_,?_,(sj hx3).symm⟩
 exact .m [0,3,4,8,9,10] [20000,20001,20002,20003,20004,20005,20006,20007,20100,20101,20103,20104] []
 replace hx3:=zae hx3 hc3
 refine .sp [0,3,4,5,8,9,10] ?_
 refine .cd ?_ ?_<;>intro hc4
 replace hx3:=zab hx3 hc4
 refine .pl zS [0,3,4,8,9,10] ?_
 refine⟨_,?_,(sj hx3).symm⟩
 exact .m [0,3,4,8,9,10] [20000,20001,20002,20003,20004,20005,20006,20007,20100,20101,20103,20104] []
 replace hx3:=zae hx3 hc4
 refine .rg zS [0,3,4,5,8,9,10] ?_
 refine .rd 6 ?_
 refine .rd 4 ?_
 refine .nd ?_
 refine⟨_,?_,(sj hx3).symm⟩
 exact .m [0,3,4,8,9,10] [20000,20001,20002,20003,20004,20005,20006,20007,20100,20101,20103,20104] []
 rintro⟨n3,n4,s2⟩ hj2
 subst x3
 try dsimp only at h
 simp only[st97]
 obtain⟨x5,hx5,h⟩:=za3 h
 refine .seqM 20105 (fun(j:Tseat_seat)=>st98 a1 n3 n4 s2 j) (fun j=>x5=j) (lb rfl) ?_ ?_
 refine .sp [0,3,4,8,9,10] ?_
 refine .cd ?_ ?_<;>intro hc5
 replace hx5:=zab hx5 hc5
 obtain⟨v6,hv6,hx5⟩:=za3 hx5
 refine .rg zS [0,3,4,8,9] ?_
 refine .rn 3 ?_
 refine .hcall (H:=(zg1 a0 20000 20001 20002 20003 20004 20005 20006 20007)) (eff:=(zgu v6 20000 20001 20002 20003 20004 20005 20006 20007 20109 20110 20111 20112 20113 20114 20115)) (nw:=(20109,20118)) (r:=.tuple []) rfl rfl rfl rfl rfl (za6 20007 20007 (za6 20006 20006 (za6 20005 20005 (za6 20004 20004 (za6 20003 20003 (za6 20002 20002 (za6 20001 20001 (za6 20000 20000 (zba 20109 (zi9 a0 (⟨n1,0,a1.Slot,a1.Ballot,s1⟩:TRecord) x1 v6 hv6)))))))))) (fun id b h=>zam [20000,20001,20002,20003,20004,20005,20006,20007] _ id b h) (by simp) (.inr ⟨lb rfl,lb rfl⟩) ?_
 refine .nn ?_
 refine⟨_,?_,(sj hx5).symm⟩
 exact .m [0,3,4] [20000,20100,20101,20109,20110,20111,20112,20113,20114,20115] [(20109,20105),(20110,20106),(20111,20107),(20112,20108),(20113,20109),(20114,20110),(20115,20111)]
 replace hx5:=zae hx5 hc5
 refine .skip ?_
 refine⟨_,?_,(sj hx5).symm⟩
 exact .m [0,3,4] [20000,20100,20101,20001,20002,20003,20004,20005,20006,20007] [(20001,20105),(20002,20106),(20003,20107),(20004,20108),(20005,20109),(20006,20110),(20007,20111)]
 rintro x4 hj3
 subst x5
 try dsimp only at h
 simp only[st98]
 obtain⟨v7,hv7,h⟩:=za3 h
 refine .rg zS [0,3,4] ?_
 refine .rn 5 ?_
 refine .hcall (H:=[(20000,zlf x4 20105 20106 20107 20108 20109 20110 20111),(20105,.arr 3 1 true (x4.Seat.Group.Roster.map (D.int .i64))),(20106,.arr 3 1 true (x4.Seat.Group.Members.map (D.int .i64))),(20107,.arr 9 1 true (x4.Seat.Log.map D.str)),(20108,.arr 75 5 true (x4.Seat.Votes.map TSeen.d)),(20109,.arr 9 1 true (x4.Seat.Wishes.map D.str)),(20110,.arr 53 5 true (x4.fRecs.map TRecord.d)),(20111,.arr 55 10 true (x4.fMail.map TMail.d)),(20112,.arr 3 1 true ([a1.From].map (D.int .i64)))]) (eff:=[(20000,some (zlf v7 20113 20114 20115 20116 20117 20118 20119)),(20105,none),(20106,none),(20107,none),(20108,none),(20109,none),(20110,none),(20111,none),(20112,none),(20113,some (.arr 3 1 true (v7.Seat.Group.Roster.map (D.int .i64)))),(20114,some (.arr 3 1 true (v7.Seat.Group.Members.map (D.int .i64)))),(20115,some (.arr 9 1 true (v7.Seat.Log.map D.str))),(20116,some (.arr 75 5 true (v7.Seat.Votes.map TSeen.d))),(20117,some (.arr 9 1 true (v7.Seat.Wishes.map D.str))),(20118,some (.arr 53 5 true (v7.fRecs.map TRecord.d))),(20119,some (.arr 55 10 true (v7.fMail.map TMail.d)))]) (nw:=(20113,20122)) (r:=.tuple []) rfl rfl rfl rfl rfl (za6 20008 20112 (za6 20007 20111 (za6 20006 20110 (za6 20005 20109 (za6 20004 20108 (za6 20003 20107 (za6 20002 20106 (za6 20001 20105 (za6 20000 20000 (zba 20113 (zhc (.keep (.cons (.unk 20008 1 0 1 (some 1)) (.refl _))) (zh0 x4 [a1.From] (⟨0,0,n3,0,a1.Slot,a1.Ballot,n4,s2,0,0⟩:TMail) v7 hv7)))))))))))) (fun id b h=>zam [20000,20105,20106,20107,20108,20109,20110,20111,20112] _ id b h) (by simp) (.inr ⟨lb rfl,lb rfl⟩) ?_
 refine .nn ?_
 obtain rfl:=sj h
 refine⟨st29 v7,?_,.inl rfl,retH [20000,20106,20105,20104,20103,20102,20101,20100] ?_ ?_⟩
 exact .m [0] [20000,20113,20114,20115,20116,20117,20118,20119] [(20113,20100),(20114,20101),(20115,20102),(20116,20103),(20117,20104),(20118,20105),(20119,20106)]
 exact rsi0
 rfl
end Go.Proofs
