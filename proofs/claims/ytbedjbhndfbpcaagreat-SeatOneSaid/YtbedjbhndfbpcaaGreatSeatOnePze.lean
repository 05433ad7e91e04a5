/- Texts of the proof. -/
import Derived.Test.YtbedjbhndfbpcaaGreatSeatOnePp
import Derived.Test.YtbedjbhndfbpcaaGreatSeatOnePo
import Derived.Test.YtbedjbhndfbpcaaGreatSeatOnePq
import Derived.Test.YtbedjbhndfbpcaaGreatSeatOnePr
import Derived.Test.YtbedjbhndfbpcaaGreatSeatOnePs
import Derived.Test.YtbedjbhndfbpcaaGreatSeatOnePt
import Derived.Test.YtbedjbhndfbpcaaGreatSeatOnePu
import Derived.Test.YtbedjbhndfbpcaaGreatSeatOnePx
import Derived.Test.YtbedjbhndfbpcaaGreatSeatOnePzc
import Derived.Test.YtbedjbhndfbpcaaGreatSeatOnePzd
namespace Go.Proofs
open Go.Tm Go.RowKit Go.WideShapes
set_option maxRecDepth 100000
set_option maxHeartbeats 4000000
set_option linter.unusedSimpArgs false
set_option linter.unusedVariables false
@[go_sem] def ya8f:St:=⟨[],[],0⟩
@[go_sem] def ya8e(a:List (List UInt8))(b:List (List UInt8))(n1:Nat):St:=⟨[(0,.imm 1 (a.map D.str) 4),(1,.imm 1 (b.map D.str) 4),(5,.int .i64 (n1:Int))],[],0⟩
theorem zjg(a:List (List UInt8))(b:List (List UInt8))(r:Bool)(h:zd1 a b=some r):zbi Tryz.prog 8 [.imm 1 (a.map D.str) 4,.imm 1 (b.map D.str) 4] (.bool r):=by
 refine zbp 2 Tryz.func8 ?_
 intro hwf
 unfold zd1 at h
 refine .sp [0,1] ?_
 refine .seq (.seq (.pl zS [0,1] ?_))
 refine .cd ?_ ?_<;>intro hc1
 replace h:=zab h hc1
 refine .sp [] ?_
 obtain rfl:=sj h
 exact .rr
 replace h:=zae h hc1
 obtain⟨x1,hx1,h⟩:=za3 h
 refine .skip ?_
 refine .seqM 0 (fun(j:Unit)=>ya8f) (fun j=>x1=(.inr j)) (lb rfl) ?_ ?_
 refine .sp [0,1] ?_
 refine .block ?_
 refine .loopG 0 (fun(j:Nat)=>ya8e a b j) (fun j=>j<=a.length/\zb7 b (a.drop j) j=some x1) (fun j=>a.length-j) (0) (lb rfl) ?_ ⟨Nat.zero_le _,hx1⟩ ?_
 exact .m [0,1,5] [] []
 rintro n1 ⟨hi1,hx1⟩
 simp only[ya8e]
 refine .wf 0 (.imm 1 (a.map D.str) 4) rfl ?_
 intro hln1
 replace hln1:=wfm hln1
 refine .seq (.seq (.pl zS [0,1,5] ?_))
 refine .cd ?_ ?_<;>intro hc2
 have h1:n1<a.length:=by simpa using hc2
 have hwn1:=zdr h1 hln1
 have hpn1:=ze3 h1 hln1
 rw[za7 h1,zb7] at hx1
 refine .skip (.seq (.block (.seq ?_)))
 obtain⟨k1,hx1⟩:=zbc hx1
 have e1:=zdb D.str a n1 h1
 have e2:=zhf D.str b n1
 replace e2:=e2 k1
 refine .rg zS [0,1,5] ?_
 refine .rdx 6 (ai e1 (ai e2 hwn1)) ?_
 refine .rdx 3 (ai e1 (ai e2 hwn1)) ?_
 refine .nd ?_
 refine .cd ?_ ?_<;>intro hc3
 replace hx1:=zab hx1 hc3
 refine .seq (.plx zS hwn1 [] ?_)
 have hq:=sj hx1
 subst x1
 try dsimp only at h
 obtain rfl:=sj h
 exact .rr
 replace hx1:=zae hx1 hc3
 refine .skip (.plx zS hwn1 [0,1,5] ?_)
 refine⟨n1+1,?_,⟨by omega,hx1⟩,by dsimp only;omega⟩
 exact .m [0,1,5] [] []
 have h2:n1=a.length:=by have h2b:=of_decide_eq_false hc2;omega
 rw[zac (by omega),zb7] at hx1
 refine .exit ?_
 refine⟨_,?_,(sj hx1).symm⟩
 exact .m [] [] []
 rintro⟨⟩ hj1
 subst x1
 try dsimp only at h
 simp only[ya8f]
 refine .sp [] ?_
 obtain rfl:=sj h
 exact .rr
@[go_sem] def st44(r:TGroup):St:=⟨[(0,.ptr 2 0)],[(0,.arr 3 1 true (r.Roster.map (D.int .i64))),(1,.arr 3 1 true (r.Members.map (D.int .i64))),(2,.box [.ref 0 1 0 r.Roster.length (some uC),.ref 1 1 0 r.Members.length (some uC)])],3⟩
theorem zl4(r:TGroup)(h:zfe=some r):zbv Tryz.prog 20 [] [] (.agg [.ref 0 1 0 r.Roster.length (some uC),.ref 1 1 0 r.Members.length (some uC)]) [(0,some (.arr 3 1 true (r.Roster.map (D.int .i64)))),(1,some (.arr 3 1 true (r.Members.map (D.int .i64))))] (0,5):=by
 refine zct Tryz.func20 ?_
 intro hwf
 unfold zfe at h
 refine .ends 0 (za4 _) ?_
 refine .sp [] ?_
 refine .sp [0] ?_
 obtain rfl:=sj h
 refine .ret ⟨st44 (⟨[0,1,2],[0,1,2]⟩:TGroup),?_,.inr rfl,retH [1,0] ?_ ?_⟩
 refine .boxs 0 _ [.ref 1 1 0 3 (some uC),.ref 2 1 0 3 (some uC)] rfl (.cons (.unk _ _ _ _ _) (.cons (.unk _ _ _ _ _) (.refl _))) ?_
 exact .m [0] [1,2,0] [(1,0),(2,1),(0,2)]
 exact rsi0
 rfl
theorem zky(r:TGroup)(h:zfe=some r):zbi Tryz.prog 20 [] (.agg [.imm 1 (r.Roster.map (D.int .i64)) 13,.imm 1 (r.Members.map (D.int .i64)) 13]):=
 zgb (zkp (za8 (zbd zbt rfl rfl) (za8 (zbd zbt rfl rfl) zep))) (zl4 r h)
theorem zmv(r:(List UInt8))(h:zir=some r):zbi Tryz.prog 21 [] (.str r):=by
 refine zbp 3 Tryz.func21 ?_
 intro hwf
 unfold zir at h
 refine .sp [] ?_
 obtain⟨v1,hv1,h⟩:=za3 h
 refine .sr [] ?_
 refine .rn 2 ?_
 refine .lcall (r:=.tuple [.str v1.1,.int .i64 v1.2]) [] rfl rfl rfl rfl rfl (za9 (zhk (ya0h (za2 rfl (za2 rfl (za2 rfl (za2 rfl (za2 rfl (za2 rfl (za2 rfl (za2 rfl (za2 (zaf (zdz .i64) (by first|rfl|(simp only[go_sem,Nat.reduceBEq];rfl)) (by first|rfl|(simp;done)|(simp<;>omega))) (za2 rfl (za2 rfl (za2 rfl zc3))))))))))))) trivial) zaj) rfl (zc7 (WkL.cons (Wk.agg (WkL.cons (Wk.refl _) (WkL.cons (Wk.refl _) (WkL.cons (Wk.nil4 0 1 0 rfl) (WkL.cons (Wk.refl _) (WkL.cons (Wk.refl _) (WkL.cons (Wk.refl _) (WkL.cons (Wk.refl _) (WkL.cons (Wk.refl _) (WkL.cons (Wk.refl _) (WkL.cons (Wk.refl _) (WkL.cons (Wk.refl _) (WkL.cons (Wk.refl _) (WkL.refl _)))))))))))))) (WkL.refl _)) (zoy (⟨3,(⟨0,[],0,[],[]⟩:TMessage),0,0,[0,1],0,0,0⟩:TCommand) v1 hv1)) ?_
 refine .rn 5 ?_
 refine .nn ?_
 refine .sp [1] ?_
 obtain rfl:=sj h
 exact .rr
theorem zkz(r:TSeat×(List TRecord)×(List TMail)×Bool)(h:zgv=some r):zbi Tryz.prog 10 [] (.tuple [.agg [.int .i64 r.1.Me,.int .i64 r.1.Number,.imm 1 (r.1.Group.Roster.map (D.int .i64)) 13,.imm 1 (r.1.Group.Members.map (D.int .i64)) 13,.imm 1 (r.1.Log.map D.str) 13,.imm 5 (r.1.Votes.map TSeen.d) 13,.int .u8 r.1.Try.Phase,.int .i64 r.1.Try.Ballot,.imm 1 (r.1.Try.Members.map (D.int .i64)) 13,.str r.1.Try.Wish,.str r.1.Try.Value,.imm 3 (r.1.Try.Promises.map TPromise.d) 13,.imm 1 (r.1.Try.Accepted.map (D.int .i64)) 13,.imm 1 (r.1.Wishes.map D.str) 13,.int .i64 r.1.Heard],.imm 5 (r.2.1.map TRecord.d) 13,.imm 10 (r.2.2.1.map TMail.d) 13,.bool r.2.2.2]):=by
 refine zbp 4 Tryz.func10 ?_
 intro hwf
 unfold zgv at h
 refine .sp [] ?_
 obtain⟨v1,hv1,h⟩:=za3 h
 obtain⟨v2,hv2,h⟩:=za3 h
 refine .sr [0] ?_
 refine .cl (zky v1 hv1) ?_
 refine .rn 0 ?_
 refine .call rfl rfl rfl rfl rfl rfl (zc7 (WkL.cons (Wk.refl _) (WkL.cons (Wk.refl _) (WkL.cons (Wk.agg (WkL.cons Wk.iz (WkL.cons Wk.iz (WkL.refl _)))) (WkL.refl _)))) (zoj 0 0 v1 v2 hv2)) ?_
 refine .rn 6 ?_
 refine .nn ?_
 obtain⟨v3,hv3,h⟩:=za3 h
 obtain⟨v4,hv4,h⟩:=za3 h
 refine .sr [0,4,5] ?_
 refine .rd 1 ?_
 refine .cl (zmv v3 hv3) ?_
 refine .rd 0 ?_
 refine .call rfl rfl rfl rfl rfl rfl (zc7 (WkL.cons (Wk.agg (WkL.cons (Wk.refl _) (WkL.cons (Wk.refl _) (WkL.cons Wk.iz (WkL.cons Wk.iz (WkL.cons Wk.iz (WkL.cons Wk.iz (WkL.cons (Wk.refl _) (WkL.cons (Wk.refl _) (WkL.cons Wk.iz (WkL.cons (Wk.refl _) (WkL.cons (Wk.refl _) (WkL.cons Wk.iz (WkL.cons Wk.iz (WkL.cons Wk.iz (WkL.cons (Wk.refl _) (WkL.refl _))))))))))))))))) (WkL.cons (Wk.refl _) (WkL.refl _))) (znm v2.1 v3 v4 hv4)) ?_
 refine .rd 5 ?_
 refine .nd ?_
 obtain⟨v5,hv5,h⟩:=za3 h
 refine .sr [0,4,5,6] ?_
 refine .rn 1 ?_
 refine .call rfl rfl rfl rfl rfl rfl (zc7 (WkL.cons (Wk.agg (WkL.cons (Wk.refl _) (WkL.cons (Wk.refl _) (WkL.cons Wk.iz (WkL.cons Wk.iz (WkL.cons Wk.iz (WkL.cons Wk.iz (WkL.cons (Wk.refl _) (WkL.cons (Wk.refl _) (WkL.cons Wk.iz (WkL.cons (Wk.refl _) (WkL.cons (Wk.refl _) (WkL.cons Wk.iz (WkL.cons Wk.iz (WkL.cons Wk.iz (WkL.cons (Wk.refl _) (WkL.refl _))))))))))))))))) (WkL.refl _)) (znn v4.1 v5 hv5)) ?_
 refine .rn 6 ?_
 refine .rn 3 ?_
 refine .nn ?_
 refine .sr [0,4,5,6,7,8,9] ?_
 refine .rn 6 ?_
 refine .rn 6 ?_
 refine .rn 5 ?_
 refine .nn ?_
 obtain rfl:=sj h
 exact .rr
theorem zl0(r:Bool)(h:zff=some r)(hr:r=true):zbi Tryz.prog 4 [] (.bool r):=by
 refine zbp 3 Tryz.func4 ?_
 intro hwf
 unfold zff at h
 refine .sp [] ?_
 obtain⟨v1,hv1,h⟩:=za3 h
 refine .sr [] ?_
 refine .cl (zkz v1 hv1) ?_
 refine .rn 6 ?_
 refine .rn 4 ?_
 refine .nn ?_
 obtain⟨k1,h⟩:=zbc h
 obtain⟨k2,h⟩:=zbc h
 obtain⟨k3,h⟩:=zbc h
 refine .seqM 1 (fun(_:Unit)=>⟨[(0,.bool (((((v1.2.2.2&&((v1.2.1.length:Int)==1))&&(((v1.2.1.getD 0 default).Kind==1)&&(((v1.2.1.getD 0 default).Group==0)&&(((v1.2.1.getD 0 default).Slot==1)&&(((v1.2.1.getD 0 default).Ballot==8)&&(((v1.2.1.getD 0 default).Value==[])&&true))))))&&((v1.2.2.1.length:Int)==4))&&(((v1.2.2.1.getD 0 default).From==0)&&(((v1.2.2.1.getD 0 default).To==1)&&(((v1.2.2.1.getD 0 default).Kind==7)&&(((v1.2.2.1.getD 0 default).Group==0)&&(((v1.2.2.1.getD 0 default).Slot==1)&&(((v1.2.2.1.getD 0 default).Ballot==0)&&(((v1.2.2.1.getD 0 default).Prior==0)&&(((v1.2.2.1.getD 0 default).Value==[])&&(((v1.2.2.1.getD 0 default).Id==0)&&(((v1.2.2.1.getD 0 default).Time==0)&&true)))))))))))&&(((v1.2.2.1.getD 3 default).From==0)&&(((v1.2.2.1.getD 3 default).To==2)&&(((v1.2.2.1.getD 3 default).Kind==1)&&(((v1.2.2.1.getD 3 default).Group==0)&&(((v1.2.2.1.getD 3 default).Slot==1)&&(((v1.2.2.1.getD 3 default).Ballot==8)&&(((v1.2.2.1.getD 3 default).Prior==0)&&(((v1.2.2.1.getD 3 default).Value==[])&&(((v1.2.2.1.getD 3 default).Id==0)&&(((v1.2.2.1.getD 3 default).Time==0)&&true))))))))))))],[],1⟩) (fun _=>True) (lb rfl) ?_ (fun _ _=>?_)
 have hall:=sj h
 rw[hr] at hall
 simp only[za0,zau,beq_iff_eq,decide_eq_true_eq,Bool.not_eq_true'] at hall
 have hgd:(v1.2.2.2=true)/\((v1.2.1.length:Int)=1):=by first|(simp only[hall];done)|(simp[hall];done)|grind
 have eg10:=ai (zhf TRecord.d v1.2.1 0 (k1 hgd)) (zvu TRecord.d v1.2.1 0 0 rfl (k1 hgd))
 have hgd:(((v1.2.2.2=true)/\((v1.2.1.length:Int)=1))/\(((v1.2.1.getD 0 default).Kind=1)/\((v1.2.1.getD 0 default).Group=0)/\((v1.2.1.getD 0 default).Slot=1)/\((v1.2.1.getD 0 default).Ballot=8)/\((v1.2.1.getD 0 default).Value=[])))/\((v1.2.2.1.length:Int)=4):=by first|(simp only[hall];done)|(simp[hall];done)|grind
 have eg20:=ai (zhf TMail.d v1.2.2.1 0 (k2 hgd)) (zvu TMail.d v1.2.2.1 0 0 rfl (k2 hgd))
 have hgd:((((v1.2.2.2=true)/\((v1.2.1.length:Int)=1))/\(((v1.2.1.getD 0 default).Kind=1)/\((v1.2.1.getD 0 default).Group=0)/\((v1.2.1.getD 0 default).Slot=1)/\((v1.2.1.getD 0 default).Ballot=8)/\((v1.2.1.getD 0 default).Value=[])))/\((v1.2.2.1.length:Int)=4))/\(((v1.2.2.1.getD 0 default).From=0)/\((v1.2.2.1.getD 0 default).To=1)/\((v1.2.2.1.getD 0 default).Kind=7)/\((v1.2.2.1.getD 0 default).Group=0)/\((v1.2.2.1.getD 0 default).Slot=1)/\((v1.2.2.1.getD 0 default).Ballot=0)/\((v1.2.2.1.getD 0 default).Prior=0)/\((v1.2.2.1.getD 0 default).Value=[])/\((v1.2.2.1.getD 0 default).Id=0)/\((v1.2.2.1.getD 0 default).Time=0)):=by first|(simp only[hall];done)|(simp[hall];done)|grind
 have eg30:=ai (zhf TMail.d v1.2.2.1 3 (k3 hgd)) (zvu TMail.d v1.2.2.1 3 3 rfl (k3 hgd))
 refine .rg zS [2,3,4] ?_
 refine .rnx 6 (ai eg10 (ai eg20 eg30)) ?_
 refine .rnx 6 (ai eg10 (ai eg20 eg30)) ?_
 refine .rnx 6 (ai eg10 (ai eg20 eg30)) ?_
 refine .rnx 6 (ai eg10 (ai eg20 eg30)) ?_
 refine .rnx 6 (ai eg10 (ai eg20 eg30)) ?_
 refine .rnx 3 (ai eg10 (ai eg20 eg30)) ?_
 refine .nn ?_
 refine⟨(),?_,trivial⟩
 exact .m [0] [] []
 have hq:=sj h
 clear hr
 subst r
 exact .rr
@[go_sem] def ya8n:St:=⟨[],[],0⟩
@[go_sem] def ya8m(a0:List (List UInt8))(a1:List UInt8)(n1:Nat):St:=⟨[(0,.imm 1 (a0.map D.str) 4),(1,.str a1),(5,.int .i64 (n1:Int))],[],0⟩
theorem zlz(a0:List (List UInt8))(a1:List UInt8)(r:Bool)(h:zg4 a0 a1=some r):zbi Tryz.prog 9 [.imm 1 (a0.map D.str) 4,.str a1] (.bool r):=by
 refine zbp 2 Tryz.func9 ?_
 intro hwf
 unfold zg4 at h
 refine .sp [0,1] ?_
 obtain⟨x1,hx1,h⟩:=za3 h
 refine .seqM 0 (fun(j:Unit)=>ya8n) (fun j=>x1=(.inr j)) (lb rfl) ?_ ?_
 refine .sp [0,1] ?_
 refine .block ?_
 refine .loopG 0 (fun(j:Nat)=>ya8m a0 a1 j) (fun j=>j<=a0.length/\zc0 a1 (a0.drop j)=some x1) (fun j=>a0.length-j) (0) (lb rfl) ?_ ⟨Nat.zero_le _,hx1⟩ ?_
 exact .m [0,1,5] [] []
 rintro n1 ⟨hi1,hx1⟩
 simp only[ya8m]
 refine .wf 0 (.imm 1 (a0.map D.str) 4) rfl ?_
 intro hln1
 replace hln1:=wfm hln1
 refine .seq (.seq (.pl zS [0,1,5] ?_))
 refine .cd ?_ ?_<;>intro hc1
 have h1:n1<a0.length:=by simpa using hc1
 have hwn1:=zdr h1 hln1
 have hpn1:=ze3 h1 hln1
 rw[za7 h1,zc0] at hx1
 refine .skip (.seq (.block (.seq ?_)))
 have e1:=zdb D.str a0 n1 h1
 refine .plx zS (ai e1 hwn1) [0,1,5] ?_
 refine .cd ?_ ?_<;>intro hc2
 replace hx1:=zab hx1 hc2
 refine .seq (.plx zS hwn1 [] ?_)
 have hq:=sj hx1
 subst x1
 try dsimp only at h
 obtain rfl:=sj h
 exact .rr
 replace hx1:=zae hx1 hc2
 refine .skip (.plx zS hwn1 [0,1,5] ?_)
 refine⟨n1+1,?_,⟨by omega,hx1⟩,by dsimp only;omega⟩
 exact .m [0,1,5] [] []
 have h2:n1=a0.length:=by have h2b:=of_decide_eq_false hc1;omega
 rw[zac (by omega),zc0] at hx1
 refine .exit ?_
 refine⟨_,?_,(sj hx1).symm⟩
 exact .m [] [] []
 rintro⟨⟩ hj1
 subst x1
 try dsimp only at h
 simp only[ya8n]
 refine .sp [] ?_
 obtain rfl:=sj h
 exact .rr
@[go_sem] def ya8h:St:=⟨[],[],0⟩
@[go_sem] def ya8g(a0:Ttowncrierlaw25_town)(a1:Int)(n1:Int):St:=⟨[(0,.iptr 0 [.imm 15 (a0.fSeats.map TSeat.d) 4,.imm 10 (a0.fMail.map TMail.d) 4]),(1,.int .i64 a1),(5,.int .i64 n1)],[],0⟩
theorem zgh(a0:Ttowncrierlaw25_town)(a1:Int)(r:Int)(h:zbz a0 a1=some r):zbi Tryz.prog 15 [.iptr 0 [.imm 15 (a0.fSeats.map TSeat.d) 4,.imm 10 (a0.fMail.map TMail.d) 4],.int .i64 a1] (.int .i64 r):=by
 refine zbp 2 Tryz.func15 ?_
 intro hwf
 unfold zbz at h
 refine .sp [0,1] ?_
 obtain⟨x1,hx1,h⟩:=za3 h
 refine .seqM 0 (fun(j:Unit)=>ya8h) (fun j=>x1=(.inr j)) (lb rfl) ?_ ?_
 refine .sp [0,1] ?_
 refine .block ?_
 refine .loopG 0 (fun(j:Nat×Int)=>ya8g a0 a1 j.2) (fun j=>zb8 a0 a1 j.1 j.2=some x1) (fun j=>j.1) (a0.fSeats.length+1,0) (lb rfl) ?_ hx1 ?_
 exact .m [0,1,5] [] []
 rintro⟨fu1,n1⟩ hx1
 simp only[ya8g]
 try simp only at hx1
 obtain⟨fu1,rfl⟩:∃k,fu1=k+1:=by cases fu1 with|zero=>(rw[zb8] at hx1;cases hx1)|succ k=>exact⟨k,rfl⟩
 rw[zb8] at hx1
 refine .seq (.seq (.pl zS [0,1,5] ?_))
 refine .cd ?_ ?_<;>intro hc1
 replace hx1:=zab hx1 hc1
 refine .skip (.seq (.block (.seq ?_)))
 obtain⟨k1,hx1⟩:=zbc hx1
 have e1:=zdp TSeat.d a0.fSeats n1
 replace e1:=e1 k1
 refine .rg zS [0,1,5] ?_
 refine .rnx 6 e1 ?_
 refine .rnx 4 e1 ?_
 refine .nn ?_
 refine .cd ?_ ?_<;>intro hc2
 replace hx1:=zab hx1 hc2
 refine .sp [5] ?_
 have hq:=sj hx1
 subst x1
 try dsimp only at h
 obtain rfl:=sj h
 exact .rr
 replace hx1:=zae hx1 hc2
 refine .skip (.pl zS [0,1,5] ?_)
 refine⟨(fu1,_),?_,hx1,by dsimp only;omega⟩
 exact .m [0,1,5] [] []
 replace hx1:=zae hx1 hc1
 refine .exit ?_
 refine⟨_,?_,(sj hx1).symm⟩
 exact .m [] [] []
 rintro⟨⟩ hj1
 subst x1
 try dsimp only at h
 simp only[ya8h]
 refine .sp [] ?_
 obtain rfl:=sj h
 exact .rr
attribute [local go_sem] Int.sub_zero List.drop_zero zcz
@[go_sem] def ya8l(a0:Ttowncrierlaw25_town)(a1:Ttowncrierlaw25_Act)(l1:List TMail):St:=⟨[(0,.ptr 20000 0),(3,.ptr 20100 0),(5,.ptr 20101 0)],[(20000,.box [.ref 20001 15 0 a0.fSeats.length (some uC),.ref 20102 10 0 l1.length (some uC)]),(20001,.arr 40 15 true (a0.fSeats.map TSeat.n)),(20100,.box [.int .u8 a1.Kind,.int .i64 a1.Node,.int .i64 a1.At,.str a1.Value]),(20101,.box [.int .i64 ((a0.fMail.getD a1.At.toNat default).From),.int .i64 ((a0.fMail.getD a1.At.toNat default).To),.int .u8 ((a0.fMail.getD a1.At.toNat default).Kind),.int .i64 ((a0.fMail.getD a1.At.toNat default).Group),.int .i64 ((a0.fMail.getD a1.At.toNat default).Slot),.int .i64 ((a0.fMail.getD a1.At.toNat default).Ballot),.int .i64 ((a0.fMail.getD a1.At.toNat default).Prior),.str ((a0.fMail.getD a1.At.toNat default).Value),.int .i64 ((a0.fMail.getD a1.At.toNat default).Id),.int .i64 ((a0.fMail.getD a1.At.toNat default).Time)]),(20102,.arr 55 10 true (l1.map TMail.d))],20103⟩
@[go_sem] def ya8k(v2:TSeat×(List TRecord)×(List TMail)×Int)(l2:List TSeat)(l3:List TMail):St:=⟨[(0,.ptr 20000 0),(10,.int .i64 v2.2.2.2)],[(20000,.box [.ref 20104 15 0 l2.length (some uC),.ref 20105 10 0 l3.length (some uC)]),(20104,.arr 40 15 true (l2.map TSeat.n)),(20105,.arr 55 10 true (l3.map TMail.d))],20106⟩
@[go_sem] def ya8j(a0:Ttowncrierlaw25_town)(v3:Int)(x3:TSeat)(n1:Int)(l4:List TMail):St:=⟨[(0,.ptr 20000 0),(11,.int .i64 v3),(12,.ptr 20101 0),(13,.int .i64 n1),(14,.imm 10 (l4.map TMail.d) 13)],[(20000,.box [.ref 20001 15 0 a0.fSeats.length (some uC),.ref 20002 10 0 a0.fMail.length (some uC)]),(20001,.arr 40 15 true (a0.fSeats.map TSeat.n)),(20002,.arr 55 10 true (a0.fMail.map TMail.d)),(20101,.box [.int .i64 x3.Me,.int .i64 x3.Number,.imm 1 (x3.Group.Roster.map (D.int .i64)) 13,.imm 1 (x3.Group.Members.map (D.int .i64)) 13,.imm 1 (x3.Log.map D.str) 13,.imm 5 (x3.Votes.map TSeen.d) 13,.int .u8 x3.Try.Phase,.int .i64 x3.Try.Ballot,.imm 1 (x3.Try.Members.map (D.int .i64)) 13,.str x3.Try.Wish,.str x3.Try.Value,.imm 3 (x3.Try.Promises.map TPromise.d) 13,.imm 1 (x3.Try.Accepted.map (D.int .i64)) 13,.imm 1 (x3.Wishes.map D.str) 13,.int .i64 x3.Heard])],20102⟩
@[go_sem] def ya8i(n1:Int)(l5:List TSeat)(l6:List TMail):St:=⟨[(0,.ptr 20000 0),(13,.int .i64 n1)],[(20000,.box [.ref 20102 15 0 l5.length (some uC),.ref 20103 10 0 l6.length (some uC)]),(20102,.arr 40 15 true (l5.map TSeat.n)),(20103,.arr 55 10 true (l6.map TMail.d))],20104⟩
@[go_sem] def st45(r:Bool×Ttowncrierlaw25_town):St:=⟨[(0,.ptr 20000 0),(4,.bool r.1)],[(20000,.box [.ref 20100 15 0 r.2.fSeats.length (some uC),.ref 20101 10 0 r.2.fMail.length (some uC)]),(20100,.arr 40 15 true (r.2.fSeats.map TSeat.n)),(20101,.arr 55 10 true (r.2.fMail.map TMail.d))],20102⟩
theorem zjo(a0:Ttowncrierlaw25_town)(a1:Ttowncrierlaw25_Act)(r:Bool×Ttowncrierlaw25_town)(h:zck a0 a1=some r):zbv Tryz.prog 7 [.ptr 20000 0,.agg [.int .u8 a1.Kind,.int .i64 a1.Node,.int .i64 a1.At,.str a1.Value]] [(20000,.box [.ref 20001 15 0 a0.fSeats.length (some uC),.ref 20002 10 0 a0.fMail.length (some uC)]),(20001,.arr 40 15 true (a0.fSeats.map TSeat.n)),(20002,.arr 55 10 true (a0.fMail.map TMail.d))] (.bool r.1) [(20000,some (.box [.ref 20100 15 0 r.2.fSeats.length (some uC),.ref 20101 10 0 r.2.fMail.length (some uC)])),(20001,none),(20002,none),(20100,some (.arr 40 15 true (r.2.fSeats.map TSeat.n))),(20101,some (.arr 55 10 true (r.2.fMail.map TMail.d)))] (20100,20108):=by
 refine zct Tryz.func7 ?_
 intro hwf
 unfold zck at h
 refine .ends 20100 (za4 _) ?_
 refine .sp [0,1] ?_
 refine .seq (.seq (.rg zS [0,3] ?_))
 refine .rn 6 ?_
 refine .rn 4 ?_
 refine .nn ?_
 refine .cd ?_ ?_<;>intro hc1
 replace h:=zab h hc1
 refine .seq (.seq (.rg zS [0,3] ?_))
 refine .rd 6 ?_
 refine .rd 7 ?_
 refine .nd ?_
 refine .cd ?_ ?_<;>intro hc2
 replace h:=zab h hc2
 refine .sp [0] ?_
 obtain rfl:=sj h
 refine .ret ⟨st45 (true,a0),?_,.inr rfl,retH [20000,20101,20100] ?_ ?_⟩
 exact .m [0,4] [20000,20001,20002] [(20001,20100),(20002,20101)]
 exact rsi0
 rfl
 replace h:=zae h hc2
 refine .skip (.seq ?_)
 obtain⟨k1,h⟩:=zbc h
 have e1:=zdp TMail.d a0.fMail a1.At
 replace e1:=e1 k1
 refine .rg zS [0,3] ?_
 refine .rdx 6 e1 ?_
 refine .rdx 4 e1 ?_
 refine .nd ?_
 obtain⟨x1,hx1,h⟩:=za3 h
 refine .seqM 20102 (fun(j:(List TMail))=>ya8l a0 a1 j) (fun j=>x1=j) (lb rfl) ?_ ?_
 refine .sp [0,3,5] ?_
 refine .cd ?_ ?_<;>intro hc3
 replace hx1:=zab hx1 hc3
 obtain⟨k2,hx1⟩:=zbc hx1
 obtain⟨k3,hx1⟩:=zbc hx1
 obtain⟨k4,hx1⟩:=zbc hx1
 obtain⟨k5,hx1⟩:=zbc hx1
 refine .cutM 20102 (fun(_:Unit)=>⟨[(0,.ptr 20000 0),(3,.ptr 20100 0),(5,.ptr 20101 0)],[(20000,.box [.ref 20001 15 0 a0.fSeats.length (some uC),.ref 20103 10 0 (((a0.fMail.take a1.At.toNat)++(a0.fMail.drop (wr .i64 (a1.At+1)).toNat)).length) (some uC)]),(20001,.arr 40 15 true (a0.fSeats.map TSeat.n)),(20100,.box [.int .u8 a1.Kind,.int .i64 a1.Node,.int .i64 a1.At,.str a1.Value]),(20101,.box [.int .i64 ((a0.fMail.getD a1.At.toNat default).From),.int .i64 ((a0.fMail.getD a1.At.toNat default).To),.int .u8 ((a0.fMail.getD a1.At.toNat default).Kind),.int .i64 ((a0.fMail.getD a1.At.toNat default).Group),.int .i64 ((a0.fMail.getD a1.At.toNat default).Slot),.int .i64 ((a0.fMail.getD a1.At.toNat default).Ballot),.int .i64 ((a0.fMail.getD a1.At.toNat default).Prior),.str ((a0.fMail.getD a1.At.toNat default).Value),.int .i64 ((a0.fMail.getD a1.At.toNat default).Id),.int .i64 ((a0.fMail.getD a1.At.toNat default).Time)]),(20103,.arr 55 10 true (((a0.fMail.take a1.At.toNat)++(a0.fMail.drop (wr .i64 (a1.At+1)).toNat)).map TMail.d))],20104⟩) (fun _=>True) (lb rfl) ?_ (fun _ _=>?_)
 rcases zkb (a0.fMail.take a1.At.toNat) with hE1|⟨y,ys,hE1⟩
 have hM1:(a0.fMail.take a1.At.toNat).map TMail.d=[]:=by rw[hE1];simp
 rcases zkb (a0.fMail.drop (wr .i64 (a1.At+1)).toNat) with hE2|⟨y,ys,hE2⟩
 have hM2:(a0.fMail.drop (wr .i64 (a1.At+1)).toNat).map TMail.d=[]:=by rw[hE2];simp
 have e2:=ya46 k2
 have e3:=ya3x k4
 refine .rg zS [0,3,5] ?_
 refine .RN 6 (dr:=true) (.inl rfl) (by intro q hq;simp only[go_sem,Nat.reduceSub,Int.reduceEq,Nat.reduceLT,Nat.reduceDiv,Nat.reduceAdd,Nat.reduceBEq,Nat.reduceLeDiff,reduceCtorEq,Nat.reduceEqDiff,Nat.reduceMod,Nat.reduceMul,Tryz.tm_31,Tryz.tm_33,Tryz.tm_44,e2,zfm,zfd,zdj,List.take_length,Int.toNat_zero,Int.sub_zero,List.drop_zero,zcz,e3,ze6 hM1,ze6 hM2,TMail.d,Ttowncrierlaw25_Act.d,Ttowncrierlaw25_town.d];exact hq) (by first|rfl|simp only[go_sem,Nat.reduceLeDiff]<;>rfl|(simp;done)|(simp[oneD]<;>omega)|(simp_all;done)|(simp_all[oneD]<;>omega)) (by first|exact za4 _|exact lb rfl|(dsimp only;omega)|(simp<;>omega)) ?_
 refine .RN 6 (dr:=true) (.inl rfl) (by intro q hq;simp only[go_sem,Nat.reduceSub,Int.reduceEq,Nat.reduceLT,Nat.reduceDiv,Nat.reduceAdd,Nat.reduceBEq,Nat.reduceLeDiff,reduceCtorEq,Nat.reduceEqDiff,Nat.reduceMod,Nat.reduceMul,Tryz.tm_3,Tryz.tm_31,Tryz.tm_33,e2,zfm,zfd,zdj,List.take_length,Int.toNat_zero,Int.sub_zero,List.drop_zero,zcz,e3,ze6 hM1,ze6 hM2,TMail.d,Ttowncrierlaw25_Act.d,Ttowncrierlaw25_town.d];exact hq) (by first|rfl|simp only[go_sem,Nat.reduceLeDiff]<;>rfl|(simp;done)|(simp[oneD]<;>omega)|(simp_all;done)|(simp_all[oneD]<;>omega)) (by first|exact za4 _|exact lb rfl|(dsimp only;omega)|(simp<;>omega)) ?_
 refine .RN 6 (dr:=true) (.inl rfl) (by intro q hq;simp only[go_sem,Nat.reduceSub,Int.reduceEq,Nat.reduceLT,Nat.reduceDiv,Nat.reduceAdd,Nat.reduceBEq,Nat.reduceLeDiff,reduceCtorEq,Nat.reduceEqDiff,Nat.reduceMod,Nat.reduceMul,Tryz.tm_3,Tryz.tm_31,Tryz.tm_44,e2,zfm,zfd,zdj,List.take_length,Int.toNat_zero,Int.sub_zero,List.drop_zero,zcz,e3,ze6 hM1,ze6 hM2,TMail.d,Ttowncrierlaw25_Act.d,Ttowncrierlaw25_town.d];exact hq) (by first|rfl|simp only[go_sem,Nat.reduceLeDiff]<;>rfl|(simp;done)|(simp[oneD]<;>omega)|(simp_all;done)|(simp_all[oneD]<;>omega)) (by first|exact za4 _|exact lb rfl|(dsimp only;omega)|(simp<;>omega)) ?_
 refine .RN 3 (dr:=true) (.inl rfl) (by intro q hq;simp only[go_sem,Nat.reduceSub,Int.reduceEq,Nat.reduceLT,Nat.reduceDiv,Nat.reduceAdd,Nat.reduceBEq,Nat.reduceLeDiff,reduceCtorEq,Nat.reduceEqDiff,Nat.reduceMod,Nat.reduceMul,Tryz.tm_31,Tryz.tm_33,e2,zfm,zfd,zdj,List.take_length,Int.toNat_zero,Int.sub_zero,List.drop_zero,zcz,e3,ze6 hM1,ze6 hM2,TMail.d,Ttowncrierlaw25_Act.d,Ttowncrierlaw25_town.d];exact hq) (by first|rfl|simp only[go_sem,Nat.reduceLeDiff]<;>rfl|(simp;done)|(simp[oneD]<;>omega)|(simp_all;done)|(simp_all[oneD]<;>omega)) (by first|exact za4 _|exact lb rfl|(dsimp only;omega)|(simp<;>omega)) ?_
 refine .nd ?_
 refine⟨(),?_,trivial⟩
 refine .n0 10 55 ?_
 refine .boxs 20000 _ [_,.ref 20102 10 0 0 (some uC)] rfl (.keep (.cons (.own0 20102 _ _ _ (by decide)) (.refl _))) ?_
 exact .mx (ai hE1 hE2) [0,3,5] [20000,20001,20100,20101,20102] [(20102,20103)]
 have hM2:(a0.fMail.drop (wr .i64 (a1.At+1)).toNat).map TMail.d≠[]:=by rw[hE2];simp
 have e2:=ya46 k2
 have e3:=ya3x k4
 refine .rg zS [0,3,5] ?_
 refine .RN 6 (dr:=true) (.inl rfl) (by intro q hq;simp only[go_sem,Nat.reduceSub,Int.reduceEq,Nat.reduceLT,Nat.reduceDiv,Nat.reduceAdd,Nat.reduceBEq,Nat.reduceLeDiff,reduceCtorEq,Nat.reduceEqDiff,Nat.reduceMod,Nat.reduceMul,Tryz.tm_31,Tryz.tm_33,Tryz.tm_44,e2,zfm,zfd,zdj,List.take_length,Int.toNat_zero,Int.sub_zero,List.drop_zero,zcz,e3,ze6 hM1,zfo hM2,zgi,appR,TMail.d,Ttowncrierlaw25_Act.d,Ttowncrierlaw25_town.d];exact hq) (by first|rfl|simp only[go_sem,Nat.reduceLeDiff]<;>rfl|(simp;done)|(simp[oneD]<;>omega)|(simp_all;done)|(simp_all[oneD]<;>omega)) (by first|exact za4 _|exact lb rfl|(dsimp only;omega)|(simp<;>omega)) ?_
 refine .RN 6 (dr:=true) (.inl rfl) (by intro q hq;simp only[go_sem,Nat.reduceSub,Int.reduceEq,Nat.reduceLT,Nat.reduceDiv,Nat.reduceAdd,Nat.reduceBEq,Nat.reduceLeDiff,reduceCtorEq,Nat.reduceEqDiff,Nat.reduceMod,Nat.reduceMul,Tryz.tm_3,Tryz.tm_31,Tryz.tm_33,e2,zfm,zfd,zdj,List.take_length,Int.toNat_zero,Int.sub_zero,List.drop_zero,zcz,e3,ze6 hM1,zfo hM2,zgi,appR,TMail.d,Ttowncrierlaw25_Act.d,Ttowncrierlaw25_town.d];exact hq) (by first|rfl|simp only[go_sem,Nat.reduceLeDiff]<;>rfl|(simp;done)|(simp[oneD]<;>omega)|(simp_all;done)|(simp_all[oneD]<;>omega)) (by first|exact za4 _|exact lb rfl|(dsimp only;omega)|(simp<;>omega)) ?_
 refine .RN 6 (dr:=true) (.inl rfl) (by intro q hq;simp only[go_sem,Nat.reduceSub,Int.reduceEq,Nat.reduceLT,Nat.reduceDiv,Nat.reduceAdd,Nat.reduceBEq,Nat.reduceLeDiff,reduceCtorEq,Nat.reduceEqDiff,Nat.reduceMod,Nat.reduceMul,Tryz.tm_3,Tryz.tm_31,Tryz.tm_44,e2,zfm,zfd,zdj,List.take_length,Int.toNat_zero,Int.sub_zero,List.drop_zero,zcz,e3,ze6 hM1,zfo hM2,zgi,appR,TMail.d,Ttowncrierlaw25_Act.d,Ttowncrierlaw25_town.d];exact hq) (by first|rfl|simp only[go_sem,Nat.reduceLeDiff]<;>rfl|(simp;done)|(simp[oneD]<;>omega)|(simp_all;done)|(simp_all[oneD]<;>omega)) (by first|exact za4 _|exact lb rfl|(dsimp only;omega)|(simp<;>omega)) ?_
 refine .RN 3 (dr:=true) (.inl rfl) (by intro q hq;simp only[go_sem,Nat.reduceSub,Int.reduceEq,Nat.reduceLT,Nat.reduceDiv,Nat.reduceAdd,Nat.reduceBEq,Nat.reduceLeDiff,reduceCtorEq,Nat.reduceEqDiff,Nat.reduceMod,Nat.reduceMul,Tryz.tm_31,Tryz.tm_33,e2,zfm,zfd,zdj,List.take_length,Int.toNat_zero,Int.sub_zero,List.drop_zero,zcz,e3,ze6 hM1,zfo hM2,zgi,appR,TMail.d,Ttowncrierlaw25_Act.d,Ttowncrierlaw25_town.d];exact hq) (by first|rfl|simp only[go_sem,Nat.reduceLeDiff]<;>rfl|(simp;done)|(simp[oneD]<;>omega)|(simp_all;done)|(simp_all[oneD]<;>omega)) (by first|exact za4 _|exact lb rfl|(dsimp only;omega)|(simp<;>omega)) ?_
 refine .nd ?_
 refine⟨(),?_,trivial⟩
 refine .boxs 20000 _ [_,.ref 20102 10 0 ((a0.fMail.drop (wr .i64 (a1.At+1)).toNat).length) (some uC)] rfl (.keep (.cons (.unk _ _ _ _ _) (.refl _))) ?_
 exact .mx (ai hE1 hE2) [0,3,5] [20000,20001,20100,20101,20102] [(20102,20103)]
 have hM1:(a0.fMail.take a1.At.toNat).map TMail.d≠[]:=by rw[hE1];simp
 have e2:=ya46 k2
 have e3:=ya3x k4
 refine .rg zS [0,3,5] ?_
 refine .RN 6 (dr:=true) (.inl rfl) (by intro q hq;simp only[go_sem,Nat.reduceSub,Int.reduceEq,Nat.reduceLT,Nat.reduceDiv,Nat.reduceAdd,Nat.reduceBEq,Nat.reduceLeDiff,reduceCtorEq,Nat.reduceEqDiff,Nat.reduceMod,Nat.reduceMul,Tryz.tm_31,Tryz.tm_33,Tryz.tm_44,e2,zfm,zfd,zdj,List.take_length,Int.toNat_zero,Int.sub_zero,List.drop_zero,zcz,e3,zfo hM1,zgi,appR,TMail.d,Ttowncrierlaw25_Act.d,Ttowncrierlaw25_town.d];exact hq) (by first|rfl|simp only[go_sem,Nat.reduceLeDiff]<;>rfl|(simp;done)|(simp[oneD]<;>omega)|(simp_all;done)|(simp_all[oneD]<;>omega)) (by first|exact za4 _|exact lb rfl|(dsimp only;omega)|(simp<;>omega)) ?_
 refine .RN 6 (dr:=true) (.inl rfl) (by intro q hq;simp only[go_sem,Nat.reduceSub,Int.reduceEq,Nat.reduceLT,Nat.reduceDiv,Nat.reduceAdd,Nat.reduceBEq,Nat.reduceLeDiff,reduceCtorEq,Nat.reduceEqDiff,Nat.reduceMod,Nat.reduceMul,Tryz.tm_3,Tryz.tm_31,Tryz.tm_33,e2,zfm,zfd,zdj,List.take_length,Int.toNat_zero,Int.sub_zero,List.drop_zero,zcz,e3,zfo hM1,zgi,appR,TMail.d,Ttowncrierlaw25_Act.d,Ttowncrierlaw25_town.d];exact hq) (by first|rfl|simp only[go_sem,Nat.reduceLeDiff]<;>rfl|(simp;done)|(simp[oneD]<;>omega)|(simp_all;done)|(simp_all[oneD]<;>omega)) (by first|exact za4 _|exact lb rfl|(dsimp only;omega)|(simp<;>omega)) ?_
 refine .RN 6 (dr:=true) (.inl rfl) (by intro q hq;simp only[go_sem,Nat.reduceSub,Int.reduceEq,Nat.reduceLT,Nat.reduceDiv,Nat.reduceAdd,Nat.reduceBEq,Nat.reduceLeDiff,reduceCtorEq,Nat.reduceEqDiff,Nat.reduceMod,Nat.reduceMul,Tryz.tm_3,Tryz.tm_31,Tryz.tm_44,e2,zfm,zfd,zdj,List.take_length,Int.toNat_zero,Int.sub_zero,List.drop_zero,zcz,e3,zfo hM1,zgi,appR,TMail.d,Ttowncrierlaw25_Act.d,Ttowncrierlaw25_town.d];exact hq) (by first|rfl|simp only[go_sem,Nat.reduceLeDiff]<;>rfl|(simp;done)|(simp[oneD]<;>omega)|(simp_all;done)|(simp_all[oneD]<;>omega)) (by first|exact za4 _|exact lb rfl|(dsimp only;omega)|(simp<;>omega)) ?_
 refine .RN 3 (dr:=true) (.inl rfl) (by intro q hq;simp only[go_sem,Nat.reduceSub,Int.reduceEq,Nat.reduceLT,Nat.reduceDiv,Nat.reduceAdd,Nat.reduceBEq,Nat.reduceLeDiff,reduceCtorEq,Nat.reduceEqDiff,Nat.reduceMod,Nat.reduceMul,Tryz.tm_31,Tryz.tm_33,e2,zfm,zfd,zdj,List.take_length,Int.toNat_zero,Int.sub_zero,List.drop_zero,zcz,e3,zfo hM1,zgi,appR,TMail.d,Ttowncrierlaw25_Act.d,Ttowncrierlaw25_town.d];exact hq) (by first|rfl|simp only[go_sem,Nat.reduceLeDiff]<;>rfl|(simp;done)|(simp[oneD]<;>omega)|(simp_all;done)|(simp_all[oneD]<;>omega)) (by first|exact za4 _|exact lb rfl|(dsimp only;omega)|(simp<;>omega)) ?_
 refine .nd ?_
 refine⟨(),?_,trivial⟩
 simp only[<-zaq]
 refine .boxs 20000 _ [_,.ref 20103 10 0 (((a0.fMail.take a1.At.toNat)++(a0.fMail.drop (wr .i64 (a1.At+1)).toNat)).length) (some uC)] rfl (.keep (.cons (.unk _ _ _ _ _) (.refl _))) ?_
 exact .mx hE1 [0,3,5] [20000,20001,20100,20101,20103] []
 refine⟨_,?_,(sj hx1).symm⟩
 exact .m [0,3,5] [20000,20001,20100,20101,20103] [(20103,20102)]
 replace hx1:=zae hx1 hc3
 refine .skip ?_
 refine⟨_,?_,(sj hx1).symm⟩
 exact .m [0,3,5] [20000,20001,20100,20101,20002] [(20002,20102)]
 rintro l1 hj1
 subst x1
 try dsimp only at h
 simp only[ya8l]
 obtain⟨v1,hv1,h⟩:=za3 h
 refine .sr [0,3,5] ?_
 refine .rn 3 ?_
 refine .lcall (r:=.int .i64 v1) [20001,20102] rfl rfl rfl rfl rfl (za9 (zcc rfl (za2 (zxc zx5 (by first|rfl|(simp only[go_sem,Nat.reduceBEq];rfl)) (by first|rfl|(simp;done)|(simp<;>omega))) (za2 (zaf zg3 (by first|rfl|(simp only[go_sem,Nat.reduceBEq];rfl)) (by first|rfl|(simp;done)|(simp<;>omega))) zc3))) (za9 rfl zaj)) rfl (zgh (⟨a0.fSeats,l1⟩:Ttowncrierlaw25_town) ((a0.fMail.getD a1.At.toNat default).To) v1 hv1) ?_
 refine .rn 1 ?_
 refine .nn ?_
 refine .seq (.seq (.pl zS [0,3,5,6] ?_))
 refine .cd ?_ ?_<;>intro hc4
 replace h:=zab h hc4
 refine .sp [0] ?_
 obtain rfl:=sj h
 refine .ret ⟨st45 (true,(⟨a0.fSeats,l1⟩:Ttowncrierlaw25_town)),?_,.inr rfl,retH [20000,20101,20100] ?_ ?_⟩
 exact .m [0,4] [20000,20001,20102] [(20001,20100),(20102,20101)]
 exact rsi0
 rfl
 replace h:=zae h hc4
 refine .skip (.seq ?_)
 obtain⟨k6,h⟩:=zbc h
 obtain⟨v2,hv2,h⟩:=za3 h
 have e4:=zdp TSeat.n a0.fSeats v1
 replace e4:=e4 k6
 refine .rg zS [0,5,6] ?_
 refine .rdx 8 e4 ?_
 refine .call rfl rfl rfl rfl rfl rfl (zc7 (WkL.cons (Wk.agg (WkL.cons (Wk.refl _) (WkL.cons (Wk.refl _) (WkL.cons Wk.iz (WkL.cons Wk.iz (WkL.cons Wk.iz (WkL.cons Wk.iz (WkL.cons (Wk.refl _) (WkL.cons (Wk.refl _) (WkL.cons Wk.iz (WkL.cons (Wk.refl _) (WkL.cons (Wk.refl _) (WkL.cons Wk.iz (WkL.cons Wk.iz (WkL.cons Wk.iz (WkL.cons (Wk.refl _) (WkL.refl _))))))))))))))))) (WkL.cons (Wk.refl _) (WkL.refl _))) (zqw (a0.fSeats.getD v1.toNat default) (a0.fMail.getD a1.At.toNat default) v2 hv2)) ?_
 refine .rdx 6 e4 ?_
 refine .rdx 4 e4 ?_
 refine .nd ?_
 obtain⟨x2,hx2,h⟩:=za3 h
 refine .seqM 20104 (fun(j:(List TSeat)×(List TMail))=>ya8k v2 j.1 j.2) (fun j=>x2=j) (lb rfl) ?_ ?_
 refine .sp [0,6,7,9,10] ?_
 refine .cd ?_ ?_<;>intro hc5
 replace hx2:=zab hx2 hc5
 refine .seq ?_
 obtain⟨k7,hx2⟩:=zbc hx2
 have e5:=zdp TSeat.n a0.fSeats v1
 have es1:=zro TSeat.n a0.fSeats v1.toNat v2.1
 replace e5:=e5 k7
 replace es1:setN (a0.fSeats.map TSeat.n) v1.toNat (.agg [.int .i64 v2.1.Me,.int .i64 v2.1.Number,.imm 1 (v2.1.Group.Roster.map (D.int .i64)) 13,.imm 1 (v2.1.Group.Members.map (D.int .i64)) 13,.imm 1 (v2.1.Log.map D.str) 13,.imm 5 (v2.1.Votes.map TSeen.d) 13,.int .u8 v2.1.Try.Phase,.int .i64 v2.1.Try.Ballot,.imm 1 (v2.1.Try.Members.map (D.int .i64)) 13,.str v2.1.Try.Wish,.str v2.1.Try.Value,.imm 3 (v2.1.Try.Promises.map TPromise.d) 13,.imm 1 (v2.1.Try.Accepted.map (D.int .i64)) 13,.imm 1 (v2.1.Wishes.map D.str) 13,.int .i64 v2.1.Heard])=(a0.fSeats.set v1.toNat v2.1).map TSeat.n:=es1
 refine .drx zS (ai e5 es1) [0,6,7,9,10] ?_
 obtain⟨k8,hx2⟩:=zbc hx2
 refine .rg zS [0,9,10] ?_
 refine .rn 6 ?_
 refine .rn 4 ?_
 refine .nn ?_
 refine⟨_,?_,(sj hx2).symm⟩
 exact .m [0,10] [20000,20001,20104] [(20001,20104),(20104,20105)]
 replace hx2:=zae hx2 hc5
 refine .skip ?_
 refine⟨_,?_,(sj hx2).symm⟩
 exact .m [0,10] [20000,20001,20102] [(20001,20104),(20102,20105)]
 rintro⟨l2,l3⟩ hj2
 subst x2
 try dsimp only at h
 simp only[ya8k]
 refine .sp [0,10] ?_
 obtain rfl:=sj h
 refine .ret ⟨st45 ((v2.2.2.2==0),(⟨l2,l3⟩:Ttowncrierlaw25_town)),?_,.inr rfl,retH [20000,20101,20100] ?_ ?_⟩
 exact .m [0,4] [20000,20104,20105] [(20104,20100),(20105,20101)]
 exact rsi0
 rfl
 replace h:=zae h hc1
 refine .skip ?_
 obtain⟨v3,hv3,h⟩:=za3 h
 refine .sr [0,3] ?_
 refine .rn 3 ?_
 refine .lcall (r:=.int .i64 v3) [20001,20002] rfl rfl rfl rfl rfl (za9 (zcc rfl (za2 (zxc zx5 (by first|rfl|(simp only[go_sem,Nat.reduceBEq];rfl)) (by first|rfl|(simp;done)|(simp<;>omega))) (za2 (zaf zg3 (by first|rfl|(simp only[go_sem,Nat.reduceBEq];rfl)) (by first|rfl|(simp;done)|(simp<;>omega))) zc3))) (za9 rfl zaj)) rfl (zgh a0 a1.Node v3 hv3) ?_
 refine .rn 1 ?_
 refine .nn ?_
 refine .seq (.seq (.pl zS [0,3,11] ?_))
 refine .cd ?_ ?_<;>intro hc6
 replace h:=zab h hc6
 refine .sp [0] ?_
 obtain rfl:=sj h
 refine .ret ⟨st45 (true,a0),?_,.inr rfl,retH [20000,20101,20100] ?_ ?_⟩
 exact .m [0,4] [20000,20001,20002] [(20001,20100),(20002,20101)]
 exact rsi0
 rfl
 replace h:=zae h hc6
 refine .skip (.seq ?_)
 obtain⟨k9,h⟩:=zbc h
 have e6:=zdp TSeat.n a0.fSeats v3
 replace e6:=e6 k9
 refine .rg zS [0,3,11] ?_
 refine .rnx 6 e6 ?_
 refine .rnx 4 e6 ?_
 refine .nn ?_
 refine .sp [0,3,11,12,13] ?_
 obtain⟨x4,hx4,h⟩:=za3 h
 refine .seqM 20102 (fun(j:TSeat×Int×(List TMail))=>ya8j a0 v3 j.1 j.2.1 j.2.2) (fun j=>x4=j) (lb rfl) ?_ ?_
 refine .sp [0,3,11,12,13,14] ?_
 refine .block (.seq (.pl zS [0,3,11,12,13,14,133] ?_))
 refine .cd ?_ ?_<;>intro hc7
 replace hx4:=zab hx4 hc7
 obtain⟨v4,hv4,hx4⟩:=za3 hx4
 refine .rg zS [0,11,12] ?_
 refine .rn 1 ?_
 refine .call rfl rfl rfl rfl rfl rfl (zc7 (WkL.cons (Wk.agg (WkL.cons (Wk.refl _) (WkL.cons (Wk.refl _) (WkL.cons Wk.iz (WkL.cons Wk.iz (WkL.cons Wk.iz (WkL.cons Wk.iz (WkL.cons (Wk.refl _) (WkL.cons (Wk.refl _) (WkL.cons Wk.iz (WkL.cons (Wk.refl _) (WkL.cons (Wk.refl _) (WkL.cons Wk.iz (WkL.cons Wk.iz (WkL.cons Wk.iz (WkL.cons (Wk.refl _) (WkL.refl _))))))))))))))))) (WkL.refl _)) (znn (a0.fSeats.getD v3.toNat default) v4 hv4)) ?_
 refine .rn 8 ?_
 refine .nn ?_
 refine⟨_,?_,(sj hx4).symm⟩
 exact .m [0,11,12,13,14] [20000,20001,20002,20101] []
 replace hx4:=zae hx4 hc7
 refine .sp [0,3,11,12,13,14,133] ?_
 refine .cd ?_ ?_<;>intro hc8
 replace hx4:=zab hx4 hc8
 obtain⟨v5,hv5,hx4⟩:=za3 hx4
 refine .rg zS [0,11,12,14] ?_
 refine .rn 1 ?_
 refine .call rfl rfl rfl rfl rfl rfl (zc7 (WkL.cons (Wk.agg (WkL.cons (Wk.refl _) (WkL.cons (Wk.refl _) (WkL.cons Wk.iz (WkL.cons Wk.iz (WkL.cons Wk.iz (WkL.cons Wk.iz (WkL.cons (Wk.refl _) (WkL.cons (Wk.refl _) (WkL.cons Wk.iz (WkL.cons (Wk.refl _) (WkL.cons (Wk.refl _) (WkL.cons Wk.iz (WkL.cons Wk.iz (WkL.cons Wk.iz (WkL.cons (Wk.refl _) (WkL.refl _))))))))))))))))) (WkL.refl _)) (zrl (a0.fSeats.getD v3.toNat default) v5 hv5)) ?_
 refine .rn 5 ?_
 refine .nn ?_
 refine⟨_,?_,(sj hx4).symm⟩
 refine .wk 14 _ (.imm 10 [] 13) rfl (.nil12 _ _ 0 (by decide)) ?_
 exact .m [0,11,12,13,14] [20000,20001,20002,20101] []
 replace hx4:=zae hx4 hc8
 refine .seq ?_
 obtain⟨v6,hv6,hx4⟩:=za3 hx4
 refine .rg zS [0,3,11,12,13,14] ?_
 refine .rn 3 ?_
 refine .call rfl rfl rfl rfl rfl rfl (zc7 (WkL.cons (Wk.agg (WkL.cons (Wk.refl _) (WkL.cons (Wk.refl _) (WkL.cons Wk.iz (WkL.cons Wk.iz (WkL.cons Wk.iz (WkL.cons Wk.iz (WkL.cons (Wk.refl _) (WkL.cons (Wk.refl _) (WkL.cons Wk.iz (WkL.cons (Wk.refl _) (WkL.cons (Wk.refl _) (WkL.cons Wk.iz (WkL.cons Wk.iz (WkL.cons Wk.iz (WkL.cons (Wk.refl _) (WkL.refl _))))))))))))))))) (WkL.cons (Wk.refl _) (WkL.refl _))) (znm (a0.fSeats.getD v3.toNat default) a1.Value v6 hv6)) ?_
 refine .rn 6 ?_
 refine .nn ?_
 refine .sp [0,11,12,13,14,15,16] ?_
 refine .cd ?_ ?_<;>intro hc9
 replace hx4:=zab hx4 hc9
 refine .pl zS [0,11,12,13,14,15] ?_
 refine⟨_,?_,(sj hx4).symm⟩
 refine .wk 14 _ (.imm 10 [] 13) rfl (.nil12 _ _ 0 (by decide)) ?_
 exact .m [0,11,12,13,14] [20000,20001,20002,20101] []
 replace hx4:=zae hx4 hc9
 refine .skip ?_
 refine⟨_,?_,(sj hx4).symm⟩
 refine .wk 14 _ (.imm 10 [] 13) rfl (.nil12 _ _ 0 (by decide)) ?_
 exact .m [0,11,12,13,14] [20000,20001,20002,20101] []
 rintro⟨x3,n1,l4⟩ hj3
 subst x4
 try dsimp only at h
 simp only[ya8j]
 obtain⟨x5,hx5,h⟩:=za3 h
 refine .seqM 20102 (fun(j:(List TSeat)×(List TMail))=>ya8i n1 j.1 j.2) (fun j=>x5=j) (lb rfl) ?_ ?_
 refine .sp [0,11,12,13,14] ?_
 refine .cd ?_ ?_<;>intro hc10
 replace hx5:=zab hx5 hc10
 refine .seq ?_
 obtain⟨k10,hx5⟩:=zbc hx5
 have e7:=zdp TSeat.n a0.fSeats v3
 have es2:=zro TSeat.n a0.fSeats v3.toNat x3
 replace e7:=e7 k10
 replace es2:setN (a0.fSeats.map TSeat.n) v3.toNat (.agg [.int .i64 x3.Me,.int .i64 x3.Number,.imm 1 (x3.Group.Roster.map (D.int .i64)) 13,.imm 1 (x3.Group.Members.map (D.int .i64)) 13,.imm 1 (x3.Log.map D.str) 13,.imm 5 (x3.Votes.map TSeen.d) 13,.int .u8 x3.Try.Phase,.int .i64 x3.Try.Ballot,.imm 1 (x3.Try.Members.map (D.int .i64)) 13,.str x3.Try.Wish,.str x3.Try.Value,.imm 3 (x3.Try.Promises.map TPromise.d) 13,.imm 1 (x3.Try.Accepted.map (D.int .i64)) 13,.imm 1 (x3.Wishes.map D.str) 13,.int .i64 x3.Heard])=(a0.fSeats.set v3.toNat x3).map TSeat.n:=es2
 refine .drx zS (ai e7 es2) [0,11,12,13,14] ?_
 obtain⟨k11,hx5⟩:=zbc hx5
 refine .rg zS [0,13,14] ?_
 refine .rn 6 ?_
 refine .rn 4 ?_
 refine .nn ?_
 refine⟨_,?_,(sj hx5).symm⟩
 exact .m [0,13] [20000,20001,20102] [(20001,20102),(20102,20103)]
 replace hx5:=zae hx5 hc10
 refine .skip ?_
 refine⟨_,?_,(sj hx5).symm⟩
 exact .m [0,13] [20000,20001,20002] [(20001,20102),(20002,20103)]
 rintro⟨l5,l6⟩ hj4
 subst x5
 try dsimp only at h
 simp only[ya8i]
 refine .sp [0,13] ?_
 obtain rfl:=sj h
 refine .ret ⟨st45 ((n1==0),(⟨l5,l6⟩:Ttowncrierlaw25_town)),?_,.inr rfl,retH [20000,20101,20100] ?_ ?_⟩
 exact .m [0,4] [20000,20102,20103] [(20102,20100),(20103,20101)]
 exact rsi0
 rfl
@[go_sem] def ya8x(a2:List Ttowncrierlaw25_Act)(v1:Bool)(l1:List TSeat):St:=⟨[(2,.imm 4 (a2.map Ttowncrierlaw25_Act.d) 4),(7,.bool v1),(8,.ptr 1 0)],[(1,.box [.ref 2 15 0 l1.length (some uC),.imm 0 [] 0]),(2,.arr 40 15 true (l1.map TSeat.n))],3⟩
@[go_sem] def ya8r(a0:TGroup)(a1:Int)(a2:List Ttowncrierlaw25_Act)(v1:Bool)(n1:Nat)(l2:List TSeat):St:=⟨[(1,.int .i64 a1),(2,.imm 4 (a2.map Ttowncrierlaw25_Act.d) 4),(3,.ptr 0 0),(7,.bool v1),(8,.ptr 1 0),(9,.int .i64 (n1:Int))],[(0,.box [.imm 1 (a0.Roster.map (D.int .i64)) 4,.imm 1 (a0.Members.map (D.int .i64)) 4]),(1,.box [.ref 2 15 0 l2.length (some uC),.imm 0 [] 0]),(2,.arr 40 15 true (l2.map TSeat.n))],3⟩
@[go_sem] def ya8q(v1:Bool)(l3:List TSeat)(l4:List TMail)(l5:List (List UInt8)):St:=⟨[(7,.bool v1),(8,.ptr 1 0),(12,.ref 5 1 0 l5.length (some uC))],[(1,.box [.ref 3 15 0 l3.length (some uC),.ref 4 10 0 l4.length (some uC)]),(3,.arr 40 15 true (l3.map TSeat.n)),(4,.arr 55 10 true (l4.map TMail.d)),(5,.arr 9 1 true (l5.map D.str))],6⟩
@[go_sem] def ya8p(a2:List Ttowncrierlaw25_Act)(v1:Bool)(n2:Nat)(l6:List TSeat)(l7:List TMail)(l8:List (List UInt8)):St:=⟨[(2,.imm 4 (a2.map Ttowncrierlaw25_Act.d) 4),(7,.bool v1),(8,.ptr 1 0),(12,.ref 5 1 0 l8.length (some uC)),(13,.int .i64 (n2:Int))],[(1,.box [.ref 3 15 0 l6.length (some uC),.ref 4 10 0 l7.length (some uC)]),(3,.arr 40 15 true (l6.map TSeat.n)),(4,.arr 55 10 true (l7.map TMail.d)),(5,.arr 9 1 true (l8.map D.str))],6⟩
@[go_sem] def ya8o(v1:Bool):St:=⟨[(7,.bool v1)],[],6⟩
@[go_sem] def ya8w(v1:Bool)(l3:List TSeat)(l4:List TMail)(l5:List (List UInt8))(n3:Int):St:=⟨[(7,.bool v1),(8,.ptr 1 0),(12,.ref 5 1 0 l5.length (some uC)),(14,.int .i64 n3)],[(1,.box [.ref 3 15 0 l3.length (some uC),.ref 4 10 0 l4.length (some uC)]),(3,.arr 40 15 true (l3.map TSeat.n)),(4,.arr 55 10 true (l4.map TMail.d)),(5,.arr 9 1 true (l5.map D.str))],6⟩
@[go_sem] def ya8v(v1:Bool)(l3:List TSeat)(l4:List TMail)(l5:List (List UInt8))(n3:Int):St:=⟨[(7,.bool v1),(8,.ptr 1 0),(12,.ref 5 1 0 l5.length (some uC)),(14,.int .i64 n3)],[(1,.box [.ref 3 15 0 l3.length (some uC),.ref 4 10 0 l4.length (some uC)]),(3,.arr 40 15 true (l3.map TSeat.n)),(4,.arr 55 10 true (l4.map TMail.d)),(5,.arr 9 1 true (l5.map D.str))],6⟩
@[go_sem] def ya8u(v1:Bool)(l3:List TSeat)(l4:List TMail)(l5:List (List UInt8))(n3:Int):St:=⟨[(7,.bool v1),(8,.ptr 1 0),(12,.ref 5 1 0 l5.length (some uC)),(14,.int .i64 n3)],[(1,.box [.ref 3 15 0 l3.length (some uC),.ref 4 10 0 l4.length (some uC)]),(3,.arr 40 15 true (l3.map TSeat.n)),(4,.arr 55 10 true (l4.map TMail.d)),(5,.arr 9 1 true (l5.map D.str))],6⟩
@[go_sem] def ya8t(v1:Bool)(l3:List TSeat)(l4:List TMail)(l5:List (List UInt8))(n3:Int)(n4:Int):St:=⟨[(7,.bool v1),(8,.ptr 1 0),(12,.ref 5 1 0 l5.length (some uC)),(14,.int .i64 n3),(15,.int .i64 n4)],[(1,.box [.ref 3 15 0 l3.length (some uC),.ref 4 10 0 l4.length (some uC)]),(3,.arr 40 15 true (l3.map TSeat.n)),(4,.arr 55 10 true (l4.map TMail.d)),(5,.arr 9 1 true (l5.map D.str))],6⟩
@[go_sem] def ya8s(v1:Bool)(l3:List TSeat)(l4:List TMail)(l5:List (List UInt8))(n3:Int)(n5:Nat):St:=⟨[(7,.bool v1),(8,.ptr 1 0),(12,.ref 5 1 0 l5.length (some uC)),(14,.int .i64 n3),(17,.imm 1 (((l3.getD n3.toNat default).Log).map D.str) 13),(18,.int .i64 (n5:Int))],[(1,.box [.ref 3 15 0 l3.length (some uC),.ref 4 10 0 l4.length (some uC)]),(3,.arr 40 15 true (l3.map TSeat.n)),(4,.arr 55 10 true (l4.map TMail.d)),(5,.arr 9 1 true (l5.map D.str))],6⟩
theorem zk4(a0:TGroup)(a1:Int)(a2:List Ttowncrierlaw25_Act)(r:Bool)(h:zek a0 a1 a2=some r):zbi Tryz.prog 3 [.agg [.imm 1 (a0.Roster.map (D.int .i64)) 4,.imm 1 (a0.Members.map (D.int .i64)) 4],.int .i64 a1,.imm 4 (a2.map Ttowncrierlaw25_Act.d) 4] (.bool r):=by
 refine zbp 18 Tryz.func3 ?_
 intro hwf
 unfold zek at h
 refine .sp [0,1,2] ?_
 obtain⟨v1,hv1,h⟩:=za3 h
 obtain⟨k1,h⟩:=zbc h
 refine .sr [1,2,3] ?_
 refine .cl (zl0 v1 hv1 k1) ?_
 refine .rn 1 ?_
 refine .nn ?_
 refine .seq (.seq (.pl zS [1,2,3,7] ?_))
 refine .cd ?_ ?_<;>intro hc1
 replace h:=zab h hc1
 refine .sp [] ?_
 obtain rfl:=sj h
 exact .rr
 replace h:=zae h hc1
 refine .skip (.seq ?_)
 obtain⟨v2,hv2,h⟩:=za3 h
 refine .sr [1,2,3,7] ?_
 refine .rn 1 ?_
 refine .cl (zf2 a0 v2 hv2) ?_
 refine .rn 6 ?_
 refine .rn 8 ?_
 refine .nn ?_
 refine .cd ?_ ?_<;>intro hc2
 replace h:=zab h hc2
 refine .sp [7] ?_
 obtain rfl:=sj h
 exact .rr
 replace h:=zae h hc2
 refine .skip (.seq (.pl zS [1,2,3,7] ?_))
 obtain⟨x1,hx1,h⟩:=za3 h
 refine .seqM 2 (fun(j:(List TSeat))=>ya8x a2 v1 j) (fun j=>x1=(.inr j)) (lb rfl) ?_ ?_
 refine .sp [1,2,3,7,8] ?_
 refine .block ?_
 refine .loopG 2 (fun(j:Nat×(List TSeat))=>ya8r a0 a1 a2 v1 j.1 j.2) (fun j=>j.1<=a0.Roster.length/\zbn a0 a1 (a0.Roster.drop j.1) j.2=some x1) (fun j=>a0.Roster.length-j.1) (0,[]) (lb rfl) ?_ ⟨Nat.zero_le _,hx1⟩ ?_
 refine .n0 15 40 ?_
 refine .boxs 1 _ [.ref 2 15 0 0 (some uC),_] rfl (.cons (.own0 2 _ _ _ (by decide)) (.refl _)) ?_
 exact .m [1,2,3,7,8,9] [0,1,2] []
 rintro⟨n1,l2⟩ ⟨hi1,hx1⟩
 simp only[ya8r]
 simp only at hi1 hx1
 refine .wfb 0 [.imm 1 (a0.Roster.map (D.int .i64)) 4,.imm 1 (a0.Members.map (D.int .i64)) 4] rfl ?_
 intro hln1
 replace hln1:(a0.Roster.length:Int)<=9223372036854775807:=by simp only[wf,wfL,IntKind.max,IntKind.min,IntKind.signed,IntKind.bits,List.length_map] at hln1;first|exact hln1.2|exact hln1.1|(simp at hln1;omega)
 refine .seq (.seq (.pl zS [1,2,3,7,8,9] ?_))
 refine .cd ?_ ?_<;>intro hc3
 have h1:n1<a0.Roster.length:=by simpa using hc3
 have hwn1:=zdr h1 hln1
 have hpn1:=ze3 h1 hln1
 rw[za7 h1,zfz] at hx1
 refine .skip (.seq (.block (.seq ?_)))
 obtain⟨v3,hv3,hx1⟩:=za3 hx1
 have e1:=zdb (D.int .i64) a0.Roster n1 h1
 refine .rg zS [1,2,3,7,8,9] ?_
 refine .rdx 7 (ai e1 hwn1) ?_
 refine .cl (zoj (a0.Roster[n1]) a1 a0 v3 hv3) ?_
 refine .rdx 6 (ai e1 hwn1) ?_
 refine .nd ?_
 refine .seq (.seq (.plx zS hwn1 [1,2,3,7,8,9,10,11] ?_))
 refine .cd ?_ ?_<;>intro hc4
 replace hx1:=zab hx1 hc4
 refine .seq (.plx zS hwn1 [] ?_)
 have hq:=sj hx1
 subst x1
 try dsimp only at h
 obtain rfl:=sj h
 exact .rr
 replace hx1:=zae hx1 hc4
 refine .skip ?_
 obtain⟨k2,hx1⟩:=zbc hx1
 refine .rg zS [1,2,3,7,8,9,10] ?_
 refine .rdx 6 hwn1 ?_
 refine .rdx 5 hwn1 ?_
 refine .nd ?_
 refine .plx zS hwn1 [1,2,3,7,8,9] ?_
 refine⟨(n1+1,_),?_,⟨by omega,hx1⟩,by dsimp only;omega⟩
 exact .m [1,2,3,7,8,9] [0,1,5] [(5,2)]
 have h2:n1=a0.Roster.length:=by have h2b:=of_decide_eq_false hc3;omega
 rw[zac (by omega),zfy] at hx1
 refine .exit ?_
 refine⟨_,?_,(sj hx1).symm⟩
 exact .m [2,7,8] [1,2] []
 rintro l1 hj1
 subst x1
 try dsimp only at h
 simp only[ya8x]
 refine .sp [2,7,8] ?_
 obtain⟨x2,hx2,h⟩:=za3 h
 refine .seqM 3 (fun(j:(List TSeat)×(List TMail)×(List (List UInt8)))=>ya8q v1 j.1 j.2.1 j.2.2) (fun j=>x2=(.inr j)) (lb rfl) ?_ ?_
 refine .sp [2,7,8,12] ?_
 refine .block ?_
 refine .loopG 3 (fun(j:Nat×(List TSeat)×(List TMail)×(List (List UInt8)))=>ya8p a2 v1 j.1 j.2.1 j.2.2.1 j.2.2.2) (fun j=>j.1<=a2.length/\zbm v1 (a2.drop j.1) j.2.1 j.2.2.1 j.2.2.2=some x2) (fun j=>a2.length-j.1) (0,l1,[],[]) (lb rfl) ?_ ⟨Nat.zero_le _,hx2⟩ ?_
 refine .n0 10 55 ?_
 refine .n0 1 9 ?_
 refine .boxs 1 _ [_,.ref 3 10 0 0 (some uC)] rfl (.keep (.cons (.own0 3 _ _ _ (by decide)) (.refl _))) ?_
 refine .w0 12 4 1 ?_
 exact .m [2,7,8,12,13] [1,2,3,4] [(2,3),(3,4),(4,5)]
 rintro⟨n2,l6,l7,l8⟩ ⟨hi2,hx2⟩
 simp only[ya8p]
 simp only at hi2 hx2
 refine .wf 2 (.imm 4 (a2.map Ttowncrierlaw25_Act.d) 4) rfl ?_
 intro hln2
 replace hln2:=wfm hln2
 refine .seq (.seq (.pl zS [2,7,8,12,13] ?_))
 refine .cd ?_ ?_<;>intro hc5
 have h3:n2<a2.length:=by simpa using hc5
 have hwn2:=zdr h3 hln2
 have hpn2:=ze3 h3 hln2
 rw[za7 h3,zfx] at hx2
 refine .skip (.seq (.block (.seq (.seq ?_))))
 have e2:=zdb Ttowncrierlaw25_Act.d a2 n2 h3
 refine .rg zS [2,7,8,12,13] ?_
 refine .rnx 6 (ai e2 hwn2) ?_
 refine .rnx 6 (ai e2 hwn2) ?_
 refine .rnx 3 (ai e2 hwn2) ?_
 refine .nn ?_
 refine .cd ?_ ?_<;>intro hc6
 replace hx2:=zab hx2 hc6
 refine .seq (.plx zS hwn2 [7] ?_)
 have hq:=sj hx2
 subst x2
 try dsimp only at h
 obtain rfl:=sj h
 exact .rr
 replace hx2:=zae hx2 hc6
 refine .skip (.seq (.seq ?_))
 obtain⟨v4,hv4,hx2⟩:=za3 hx2
 have e3:=zdb Ttowncrierlaw25_Act.d a2 n2 h3
 refine .rg zS [2,7,8,12,13] ?_
 refine .rnx 5 (ai e3 hwn2) ?_
 refine .hcall (H:=[(1,.box [.ref 3 15 0 l6.length (some uC),.ref 4 10 0 l7.length (some uC)]),(3,.arr 40 15 true (l6.map TSeat.n)),(4,.arr 55 10 true (l7.map TMail.d))]) (eff:=[(1,some (.box [.ref 6 15 0 v4.2.fSeats.length (some uC),.ref 7 10 0 v4.2.fMail.length (some uC)])),(3,none),(4,none),(6,some (.arr 40 15 true (v4.2.fSeats.map TSeat.n))),(7,some (.arr 55 10 true (v4.2.fMail.map TMail.d)))]) (nw:=(6,14)) (r:=.bool v4.1) rfl rfl rfl rfl rfl (zcg 6 (za6 20002 4 (za6 20001 3 (za6 20000 1 (zjo (⟨l6,l7⟩:Ttowncrierlaw25_town) (a2[n2]) v4 hv4))))) (fun id b h=>zam [1,3,4] _ id b h) (by simp) (.inr ⟨lb rfl,lb rfl⟩) ?_
 refine .rnx 1 (ai e3 hwn2) ?_
 refine .nn ?_
 refine .cd ?_ ?_<;>intro hc7
 replace hx2:=zab hx2 hc7
 refine .seq (.plx zS hwn2 [] ?_)
 have hq:=sj hx2
 subst x2
 try dsimp only at h
 obtain rfl:=sj h
 exact .rr
 replace hx2:=zae hx2 hc7
 refine .skip ?_
 obtain⟨k3,hx2⟩:=zbc hx2
 have e4:=zdb Ttowncrierlaw25_Act.d a2 n2 h3
 refine .rg zS [2,7,8,12,13] ?_
 refine .rnx 6 (ai e4 hwn2) ?_
 refine .rnx 3 (ai e4 hwn2) ?_
 refine .nn ?_
 refine .plx zS hwn2 [2,7,8,12,13] ?_
 refine⟨(n2+1,_,_,_),?_,⟨by omega,hx2⟩,by dsimp only;omega⟩
 exact .m [2,7,8,12,13] [1,6,7,15] [(6,3),(7,4),(15,5)]
 have h4:n2=a2.length:=by have h4b:=of_decide_eq_false hc5;omega
 rw[zac (by omega),zfw] at hx2
 refine .exit ?_
 refine⟨_,?_,(sj hx2).symm⟩
 exact .m [7,8,12] [1,3,4,5] []
 rintro⟨l3,l4,l5⟩ hj2
 subst x2
 try dsimp only at h
 simp only[ya8q]
 obtain⟨x3,hx3,h⟩:=za3 h
 refine .seqM 6 (fun(j:Unit)=>ya8o v1) (fun j=>x3=(.inr j)) (lb rfl) ?_ ?_
 refine .sp [7,8,12] ?_
 refine .block ?_
 refine .loopG 6 (fun(j:Nat×Int)=>ya8w v1 l3 l4 l5 j.2) (fun j=>zbl l3 l5 j.1 j.2=some x3) (fun j=>j.1) (l3.length+1,0) (lb rfl) ?_ hx3 ?_
 exact .m [7,8,12,14] [1,3,4,5] []
 rintro⟨fu1,n3⟩ hx3
 simp only[ya8w]
 try simp only at hx3
 obtain⟨fu1,rfl⟩:∃k,fu1=k+1:=by cases fu1 with|zero=>(rw[zbl] at hx3;cases hx3)|succ k=>exact⟨k,rfl⟩
 rw[zbl] at hx3
 refine .seq (.seq (.pl zS [7,8,12,14] ?_))
 refine .cd ?_ ?_<;>intro hc8
 replace hx3:=zab hx3 hc8
 refine .skip ?_
 obtain⟨x4,hx4,hx3⟩:=za3 hx3
 refine .seqM 6 (fun(j:Unit)=>ya8v v1 l3 l4 l5 n3) (fun j=>x4=(.inr j)) (lb rfl) ?_ ?_
 refine .block ?_
 obtain⟨x5,hx5,hx4⟩:=za3 hx4
 refine .seqM 6 (fun(j:Unit)=>ya8u v1 l3 l4 l5 n3) (fun j=>x5=(.inr j)) (lb rfl) ?_ ?_
 refine .sp [7,8,12,14] ?_
 refine .block ?_
 refine .loopG 6 (fun(j:Nat×Int)=>ya8t v1 l3 l4 l5 n3 j.2) (fun j=>zbk l3 n3 j.1 j.2=some x5) (fun j=>j.1) (n3.toNat+1,0) (lb rfl) ?_ hx5 ?_
 exact .m [7,8,12,14,15] [1,3,4,5] []
 rintro⟨fu2,n4⟩ hx5
 simp only[ya8t]
 try simp only at hx5
 obtain⟨fu2,rfl⟩:∃k,fu2=k+1:=by cases fu2 with|zero=>(rw[zbk] at hx5;cases hx5)|succ k=>exact⟨k,rfl⟩
 rw[zbk] at hx5
 refine .seq (.seq (.pl zS [7,8,12,14,15] ?_))
 refine .cd ?_ ?_<;>intro hc9
 replace hx5:=zab hx5 hc9
 refine .skip (.seq (.block (.seq ?_)))
 obtain⟨k4,hx5⟩:=zbc hx5
 obtain⟨k5,hx5⟩:=zbc hx5
 have e5:=zdp TSeat.n l3 n4
 have e6:=zdp TSeat.n l3 n3
 replace e5:=e5 k4
 replace e6:=e6 k5
 refine .rg zS [7,8,12,14,15] ?_
 refine .rdx 6 (ai e5 e6) ?_
 refine .rdx 6 (ai e5 e6) ?_
 refine .rdx 8 (ai e5 e6) ?_
 refine .nd ?_
 refine .seq ?_
 obtain⟨k6,hx5⟩:=zbc hx5
 obtain⟨k7,hx5⟩:=zbc hx5
 obtain⟨k8,hx5⟩:=zbc hx5
 obtain⟨k9,hx5⟩:=zbc hx5
 obtain⟨v5,hv5,hx5⟩:=za3 hx5
 have e7:=zdp TSeat.n l3 n4
 have e8:=zdp TSeat.n l3 n3
 replace e7:=e7 k6
 replace e8:=e8 k8
 refine .rg zS [7,8,12,14,15,16] ?_
 refine .rdx 6 (ai e7 e8) ?_
 refine .rdx 6 (ai e7 e8) ?_
 refine .rdx 8 (ai e7 e8) ?_
 refine .cl (zjg (((l3.getD n4.toNat default).Log).take (min (((l3.getD n4.toNat default).Log).length:Int) (((l3.getD n3.toNat default).Log).length:Int)).toNat) (((l3.getD n3.toNat default).Log).take (min (((l3.getD n4.toNat default).Log).length:Int) (((l3.getD n3.toNat default).Log).length:Int)).toNat) v5 hv5) ?_
 refine .rdx 1 (ai e7 e8) ?_
 refine .nd ?_
 refine .cd ?_ ?_<;>intro hc10
 replace hx5:=zab hx5 hc10
 refine .sp [] ?_
 have hq:=sj hx5
 subst x5
 try dsimp only at hx4
 have hq:=sj hx4
 subst x4
 try dsimp only at hx3
 have hq:=sj hx3
 subst x3
 try dsimp only at h
 obtain rfl:=sj h
 exact .rr
 replace hx5:=zae hx5 hc10
 refine .skip (.pl zS [7,8,12,14,15] ?_)
 refine⟨(fu2,_),?_,hx5,by dsimp only;omega⟩
 exact .m [7,8,12,14,15] [1,3,4,5] []
 replace hx5:=zae hx5 hc9
 refine .exit ?_
 refine⟨_,?_,(sj hx5).symm⟩
 exact .m [7,8,12,14] [1,3,4,5] []
 rintro⟨⟩ hj3
 subst x5
 try dsimp only at hx4
 simp only[ya8u]
 refine .seq ?_
 obtain⟨k10,hx4⟩:=zbc hx4
 have e9:=zdp TSeat.n l3 n3
 replace e9:=e9 k10
 refine .rg zS [7,8,12,14] ?_
 refine .rnx 6 e9 ?_
 refine .rnx 3 e9 ?_
 refine .nn ?_
 refine .sp [7,8,12,14,17] ?_
 refine .block ?_
 refine .loopG 6 (fun(j:Nat)=>ya8s v1 l3 l4 l5 n3 j) (fun j=>j<=((l3.getD n3.toNat default).Log).length/\zbj l5 (((l3.getD n3.toNat default).Log).drop j)=some x4) (fun j=>((l3.getD n3.toNat default).Log).length-j) (0) (lb rfl) ?_ ⟨Nat.zero_le _,hx4⟩ ?_
 exact .m [7,8,12,14,17,18] [1,3,4,5] []
 rintro n5 ⟨hi3,hx4⟩
 simp only[ya8s]
 refine .wf 17 (.imm 1 (((l3.getD n3.toNat default).Log).map D.str) 13) rfl ?_
 intro hln5
 replace hln5:=wfm hln5
 refine .seq (.seq (.pl zS [7,8,12,14,17,18] ?_))
 refine .cd ?_ ?_<;>intro hc11
 have h5:n5<((l3.getD n3.toNat default).Log).length:=by simpa using hc11
 have hwn5:=zdr h5 hln5
 have hpn5:=ze3 h5 hln5
 rw[za7 h5,zbj] at hx4
 refine .skip (.seq (.block (.seq ?_)))
 obtain⟨v6,hv6,hx4⟩:=za3 hx4
 have e10:=zdb D.str ((l3.getD n3.toNat default).Log) n5 h5
 refine .rg zS [7,8,12,14,17,18] ?_
 refine .rnx 5 (ai e10 hwn5) ?_
 refine .lcall (r:=.bool v6) [] rfl rfl rfl rfl rfl (za9 (zhk (zaf zf8 (by first|rfl|(simp only[go_sem,Nat.reduceBEq];rfl)) (by first|rfl|(simp;done)|(simp<;>omega))) trivial) (za9 rfl zaj)) rfl (zlz l5 (((l3.getD n3.toNat default).Log)[n5]) v6 hv6) ?_
 refine .rnx 1 (ai e10 hwn5) ?_
 refine .nn ?_
 refine .cd ?_ ?_<;>intro hc12
 replace hx4:=zab hx4 hc12
 refine .seq (.plx zS hwn5 [] ?_)
 have hq:=sj hx4
 subst x4
 try dsimp only at hx3
 have hq:=sj hx3
 subst x3
 try dsimp only at h
 obtain rfl:=sj h
 exact .rr
 replace hx4:=zae hx4 hc12
 refine .skip (.plx zS hwn5 [7,8,12,14,17,18] ?_)
 refine⟨n5+1,?_,⟨by omega,hx4⟩,by dsimp only;omega⟩
 exact .m [7,8,12,14,17,18] [1,3,4,5] []
 have h6:n5=((l3.getD n3.toNat default).Log).length:=by have h6b:=of_decide_eq_false hc11;omega
 rw[zac (by omega),zbj] at hx4
 refine .exit ?_
 refine⟨_,?_,(sj hx4).symm⟩
 exact .m [7,8,12,14] [1,3,4,5] []
 rintro⟨⟩ hj4
 subst x4
 try dsimp only at hx3
 simp only[ya8v]
 refine .pl zS [7,8,12,14] ?_
 refine⟨(fu1,_),?_,hx3,by dsimp only;omega⟩
 exact .m [7,8,12,14] [1,3,4,5] []
 replace hx3:=zae hx3 hc8
 refine .exit ?_
 refine⟨_,?_,(sj hx3).symm⟩
 exact .m [7] [] []
 rintro⟨⟩ hj5
 subst x3
 try dsimp only at h
 simp only[ya8o]
 refine .sp [7] ?_
 obtain rfl:=sj h
 exact .rr
end Go.Proofs
