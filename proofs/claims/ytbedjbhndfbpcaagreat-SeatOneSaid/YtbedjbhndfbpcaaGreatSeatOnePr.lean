/- Texts of the proof. -/
import Derived.Test.YtbedjbhndfbpcaaGreatSeatOnePp
import Derived.Test.YtbedjbhndfbpcaaGreatSeatOnePq
import Derived.Test.YtbedjbhndfbpcaaGreatSeatOnePo
namespace Go.Proofs
open Go.Tm
set_option linter.unusedVariables false
def zdv:List Int->Int->Option (Int)
 |[],n2=>
  some n2
 |y1::rest1,n2=>
  Option.bind (α:=Int) (if(y1>=0)/\(y1<6) then
  if 0<=y1 then
  some (bitw .or .u64 n2 (shw true .u64 1 (y1)))
  else none
  else
  some n2) fun n4=>
  zdv rest1 n4
def zgf(a0:List Int):Option Int:=
 Option.bind (α:=Int) (zdv a0 0) fun n1=>
 some n1
def zis(a0:List Int)(a1:List Int):Option (Bool×Int):=
 Option.bind (zjz a0) fun v1=>
 if ¬(v1.2=0) then
 some (false,v1.2)
 else
 if(a1.length:Int)>1000 then
 some (false,4)
 else
 Option.bind (zgf a0) fun v2=>
 Option.bind (zgf a1) fun v3=>
 Option.bind (zed (bitw .and .u64 v2 v3)) fun v4=>
 some ((decide (v4>=v1.1)),0)
def zde(a0:List Int)(a1:List Int):Option Bool:=
 Option.bind (zis a0 a1) fun v1=>
 some v1.1
def zhv(a0:TAttempt)(a1:TAttempt):Option Bool:=
 Option.bind (if(a0.Phase=a1.Phase)/\(a0.Ballot=a1.Ballot) then zbx a0.Members a1.Members else some default) fun v1=>
 Option.bind (if((((a0.Phase=a1.Phase)/\(a0.Ballot=a1.Ballot))/\(v1=true))/\(a0.Wish=a1.Wish))/\(a0.Value=a1.Value) then zce a0.Promises a1.Promises else some default) fun v2=>
 Option.bind (if(((((a0.Phase=a1.Phase)/\(a0.Ballot=a1.Ballot))/\(v1=true))/\(a0.Wish=a1.Wish))/\(a0.Value=a1.Value))/\(v2=true) then zbx a0.Accepted a1.Accepted else some default) fun v3=>
 some (((((((a0.Phase==a1.Phase)&&(a0.Ballot==a1.Ballot))&&v1)&&(a0.Wish==a1.Wish))&&(a0.Value==a1.Value))&&v2)&&v3)
end Go.Proofs
namespace Go.Proofs
open Go.Tm Go.RowKit Go.WideShapes
set_option maxRecDepth 100000
set_option maxHeartbeats 4000000
set_option linter.unusedSimpArgs false
set_option linter.unusedVariables false
@[go_sem] def st85(n1:Int):St:=⟨[(2,.int .u64 n1)],[],0⟩
@[go_sem] def st86(a0:List Int)(n3:Nat)(n2:Int):St:=⟨[(2,.int .u64 n2),(5,.imm 1 (a0.map (D.int .i64)) 4),(6,.int .i64 (a0.length:Int)),(7,.int .i64 (n3:Int))],[],0⟩
@[go_sem] def st87(a0:List Int)(n3:Nat)(n4:Int):St:=⟨[(2,.int .u64 n4),(5,.imm 1 (a0.map (D.int .i64)) 4),(6,.int .i64 (a0.length:Int)),(7,.int .i64 (n3:Int))],[],0⟩
theorem zi4(a0:List Int)(r:Int)(h:zgf a0=some r):zbi Tryz.prog 12 [.imm 1 (a0.map (D.int .i64)) 4] (.int .u64 r):=by
 refine zbp 2 Tryz.func12 ?_
 intro hwf
 unfold zgf at h
 refine .sp [0] ?_
 obtain⟨x1,hx1,h⟩:=za3 h
 refine .seqM 0 (fun(j:Int)=>st85 j) (fun j=>x1=j) (lb rfl) ?_ ?_
 refine .sp [0,2] ?_
 refine .block ?_
 refine .loopG 0 (fun(j:Nat×Int)=>st86 a0 j.1 j.2) (fun j=>j.1<=a0.length/\zdv (a0.drop j.1) j.2=some x1) (fun j=>a0.length-j.1) (0,0) (lb rfl) ?_ ⟨Nat.zero_le _,hx1⟩ ?_
 exact .m [2,5,6,7] [] []
 rintro⟨n3,n2⟩ ⟨hi1,hx1⟩
 simp only[st86]
 simp only at hi1 hx1
 refine .wf 6 (.int .i64 (a0.length:Int)) rfl ?_
 intro hln3
 replace hln3:=wfn hln3
 refine .sp [2,5,6,7] ?_
 refine .seq (.cd (fun hc1=>?_) (fun hc1=>?_))
 have h1:n3<a0.length:=by simpa using hc1
 have hwn3:=zdr h1 hln3
 have hpn3:=ze3 h1 hln3
 rw[za7 h1,zdv] at hx1
 refine .skip ?_
 obtain⟨x2,hx2,hx1⟩:=za3 hx1
 refine .seqM 0 (fun(j:Int)=>st87 a0 n3 j) (fun j=>x2=j) (lb rfl) ?_ ?_
 refine .block (.seq ?_)
 have e1:=zdb (D.int .i64) a0 n3 h1
 refine .plx zS (ai e1 hwn3) [2,5,6,7] ?_
 refine .seq (.plx zS hwn3 [2,4,5,6,7] ?_)
 refine .cd ?_ ?_<;>intro hc2
 replace hx2:=zab hx2 hc2
 obtain⟨k1,hx2⟩:=zbc hx2
 refine .plx zS hwn3 [2,4,5,6,7] ?_
 refine⟨_,?_,(sj hx2).symm⟩
 exact .m [2,5,6,7] [] []
 replace hx2:=zae hx2 hc2
 refine .skip ?_
 refine⟨_,?_,(sj hx2).symm⟩
 exact .m [2,5,6,7] [] []
 rintro n4 hj1
 subst x2
 try dsimp only at hx1
 simp only[st87]
 refine .plx zS hwn3 [2,5,6,7] ?_
 refine⟨(n3+1,_),?_,⟨by omega,hx1⟩,by dsimp only;omega⟩
 exact .m [2,5,6,7] [] []
 have h2:n3=a0.length:=by have h2b:=of_decide_eq_false hc1;omega
 rw[zac (by omega),zdv] at hx1
 refine .exit ?_
 refine⟨_,?_,(sj hx1).symm⟩
 exact .m [2] [] []
 rintro n1 hj2
 subst x1
 try dsimp only at h
 simp only[st85]
 refine .sp [2] ?_
 obtain rfl:=sj h
 exact .rr
theorem zqy(a0:List Int)(a1:List Int)(r:Bool×Int)(h:zis a0 a1=some r):zbi Tryz.prog 94 [.imm 1 (a0.map (D.int .i64)) 4,.imm 1 (a1.map (D.int .i64)) 4] (.tuple [.bool r.1,.int .i64 r.2]):=by
 refine zbp 2 Tryz.func94 ?_
 intro hwf
 unfold zis at h
 refine .sp [0,1] ?_
 obtain⟨v1,hv1,h⟩:=za3 h
 refine .sr [0,1] ?_
 refine .rn 1 ?_
 refine .cl (zqx a0 v1 hv1) ?_
 refine .rn 5 ?_
 refine .nn ?_
 refine .seq (.seq (.pl zS [0,1,6,7] ?_))
 refine .cd ?_ ?_<;>intro hc1
 replace h:=zab h hc1
 refine .sp [7] ?_
 obtain rfl:=sj h
 exact .rr
 replace h:=zae h hc1
 refine .skip (.seq (.seq (.pl zS [0,1,6] ?_)))
 refine .cd ?_ ?_<;>intro hc2
 replace h:=zab h hc2
 refine .sp [] ?_
 obtain rfl:=sj h
 exact .rr
 replace h:=zae h hc2
 refine .skip ?_
 obtain⟨v2,hv2,h⟩:=za3 h
 obtain⟨v3,hv3,h⟩:=za3 h
 obtain⟨v4,hv4,h⟩:=za3 h
 refine .sr [0,1,6] ?_
 refine .rn 1 ?_
 refine .cl (zi4 a0 v2 hv2) ?_
 refine .rn 1 ?_
 refine .cl (zi4 a1 v3 hv3) ?_
 refine .rn 1 ?_
 refine .cl (zlj (bitw .and .u64 v2 v3) v4 hv4) ?_
 refine .rn 4 ?_
 refine .nn ?_
 obtain rfl:=sj h
 exact .rr
theorem zh3(a0:List Int)(a1:List Int)(r:Bool)(h:zde a0 a1=some r):zbi Tryz.prog 68 [.imm 1 (a0.map (D.int .i64)) 4,.imm 1 (a1.map (D.int .i64)) 4] (.bool r):=by
 refine zbp 2 Tryz.func68 ?_
 intro hwf
 unfold zde at h
 refine .sp [0,1] ?_
 obtain⟨v1,hv1,h⟩:=za3 h
 refine .sr [0,1] ?_
 refine .rn 2 ?_
 refine .cl (zqy a0 a1 v1 hv1) ?_
 refine .rn 5 ?_
 refine .nn ?_
 refine .sp [5] ?_
 obtain rfl:=sj h
 exact .rr
theorem zpz(a0:TAttempt)(a1:TAttempt)(r:Bool)(h:zhv a0 a1=some r):zbi Tryz.prog 61 [.agg [.int .u8 a0.Phase,.int .i64 a0.Ballot,.imm 1 (a0.Members.map (D.int .i64)) 4,.str a0.Wish,.str a0.Value,.imm 3 (a0.Promises.map TPromise.d) 4,.imm 1 (a0.Accepted.map (D.int .i64)) 4],.agg [.int .u8 a1.Phase,.int .i64 a1.Ballot,.imm 1 (a1.Members.map (D.int .i64)) 4,.str a1.Wish,.str a1.Value,.imm 3 (a1.Promises.map TPromise.d) 4,.imm 1 (a1.Accepted.map (D.int .i64)) 4]] (.bool r):=by
 refine zbp 4 Tryz.func61 ?_
 intro hwf
 unfold zhv at h
 refine .sp [0,1] ?_
 obtain⟨v1,hv1,h⟩:=za3 h
 obtain⟨v2,hv2,h⟩:=za3 h
 obtain⟨v3,hv3,h⟩:=za3 h
 refine .sr [2,3] ?_
 refine .rn 6 ?_
 refine .rn 6 ?_
 refine .rn 5 ?_
 refine .gcall rfl rfl rfl rfl rfl (fun hg=>⟨[],[.imm 1 (a0.Members.map (D.int .i64)) 4,.imm 1 (a1.Members.map (D.int .i64)) 4],_,rfl,gd hg,rfl,(zd2 a0.Members a1.Members v1 (zab hv1 hg))⟩) ?_
 refine .rn 6 ?_
 refine .rn 6 ?_
 refine .rn 8 ?_
 refine .gcall rfl rfl rfl rfl rfl (fun hg=>⟨[],[.imm 3 (a0.Promises.map TPromise.d) 4,.imm 3 (a1.Promises.map TPromise.d) 4],_,rfl,gd hg,rfl,(zim a0.Promises a1.Promises v2 (zab hv2 hg))⟩) ?_
 refine .rn 6 ?_
 refine .gcall rfl rfl rfl rfl rfl (fun hg=>⟨[],[.imm 1 (a0.Accepted.map (D.int .i64)) 4,.imm 1 (a1.Accepted.map (D.int .i64)) 4],_,rfl,gd hg,rfl,(zd2 a0.Accepted a1.Accepted v3 (zab hv3 hg))⟩) ?_
 refine .rn 2 ?_
 refine .nn ?_
 obtain rfl:=sj h
 exact .rr
end Go.Proofs
namespace Go.Proofs
open Go.Tm
set_option linter.unusedVariables false
def ze5(a0:TPromise)(c0:TAttempt):Option Bool:=
 Option.bind (zhj a0 c0.Ballot) fun v1=>
 some (!v1)
def zfb(a0:TAttempt):Option Int:=
 Option.bind (α:=Bool) (Option.bind (α:=Bool ⊕ (Bool ⊕ Bool)) (if a0.Phase=0 then
 Option.bind (zhv a0 (⟨0,0,[],[],[],[],[]⟩:TAttempt)) fun v1=>
 some (.inl v1)
 else
 if a0.Phase=1 then
 some (.inr (.inr ((a0.Value==[])&&((a0.Accepted.length:Int)==0))))
 else
 Option.bind (α:=Bool) (if a0.Phase=2 then
 some (a0.Phase==2)
 else
 some (a0.Phase==3)) fun b5=>
 if b5=true then
 some (.inr (.inr true))
 else
 some (.inr (.inl b5))) fun z=>match z with
 |(.inl b3)=>some b3
 |(.inr (.inl b4))=>some false
 |(.inr (.inr b2))=>
 Option.bind (if b2=true then zcy a0.Ballot else some default) fun v2=>
 Option.bind (if(b2=true)/\(v2=0) then zcd a0.Members else some default) fun v3=>
 Option.bind (if(((b2=true)/\(v2=0))/\(v3=0))/\((a0.Wish.length:Int)<=1024) then zdd a0.Promises else some default) fun v4=>
 Option.bind (if(((b2=true)/\(v2=0))/\(v3=0))/\((a0.Wish.length:Int)<=1024) then ze0 v4 a0.Members else some default) fun v5=>
 Option.bind (if((((b2=true)/\(v2=0))/\(v3=0))/\((a0.Wish.length:Int)<=1024))/\(v5=true) then ze0 a0.Accepted a0.Members else some default) fun v6=>
 Option.bind (if(((((b2=true)/\(v2=0))/\(v3=0))/\((a0.Wish.length:Int)<=1024))/\(v5=true))/\(v6=true) then zbf a0.Promises (fun x0=>ze5 x0 a0) else some default) fun v7=>
 Option.bind (if((((((b2=true)/\(v2=0))/\(v3=0))/\((a0.Wish.length:Int)<=1024))/\(v5=true))/\(v6=true))/\(¬(v7=true)) then zdd a0.Promises else some default) fun v8=>
 Option.bind (if((((((b2=true)/\(v2=0))/\(v3=0))/\((a0.Wish.length:Int)<=1024))/\(v5=true))/\(v6=true))/\(¬(v7=true)) then zde a0.Members v8 else some default) fun v9=>
 Option.bind (if(((((((b2=true)/\(v2=0))/\(v3=0))/\((a0.Wish.length:Int)<=1024))/\(v5=true))/\(v6=true))/\(¬(v7=true)))/\((v9==(decide (a0.Phase>1)))=true) then zde a0.Members a0.Accepted else some default) fun v10=>
 Option.bind (if(((((((((b2=true)/\(v2=0))/\(v3=0))/\((a0.Wish.length:Int)<=1024))/\(v5=true))/\(v6=true))/\(¬(v7=true)))/\((v9==(decide (a0.Phase>1)))=true))/\((v10==(a0.Phase==3))=true))/\(¬(a0.Phase=1)) then zfs a0.Promises a0.Wish else some default) fun v11=>
 some (((((((((b2&&(v2==0))&&(v3==0))&&(decide ((a0.Wish.length:Int)<=1024)))&&v5)&&v6)&&(!v7))&&(v9==(decide (a0.Phase>1))))&&(v10==(a0.Phase==3)))&&((a0.Phase==1)||(a0.Value==v11)))) fun b1=>
 if ¬(b1=true) then
 some 8
 else
 some 0
end Go.Proofs
namespace Go.Proofs
open Go.Tm Go.RowKit Go.WideShapes
set_option maxRecDepth 100000
set_option maxHeartbeats 4000000
set_option linter.unusedSimpArgs false
set_option linter.unusedVariables false
theorem znq(a0:TPromise)(c0:TAttempt)(r:Bool)(h:ze5 a0 c0=some r):zbi Tryz.prog 66 [.agg [.int .i64 a0.Node,.int .i64 a0.Ballot,.str a0.Value],.iptr 0 [.int .u8 c0.Phase,.int .i64 c0.Ballot,.imm 1 (c0.Members.map (D.int .i64)) 4,.str c0.Wish,.str c0.Value,.imm 3 (c0.Promises.map TPromise.d) 4,.imm 1 (c0.Accepted.map (D.int .i64)) 4]] (.bool r):=by
 refine zbp 3 Tryz.func66 ?_
 intro hwf
 unfold ze5 at h
 refine .sp [0,1] ?_
 obtain⟨v1,hv1,h⟩:=za3 h
 refine .sr [1,2] ?_
 refine .rn 3 ?_
 refine .cl (zm2 a0 c0.Ballot v1 hv1) ?_
 refine .rn 2 ?_
 refine .nn ?_
 obtain rfl:=sj h
 exact .rr
@[go_sem] def st51(b1:Bool):St:=⟨[(3,.bool b1)],[],1⟩
@[go_sem] def st52(a0:TAttempt)(b2:Bool):St:=⟨[(1,.ptr 0 0),(3,.bool b2)],[(0,.box [.int .u8 a0.Phase,.int .i64 a0.Ballot,.imm 1 (a0.Members.map (D.int .i64)) 4,.str a0.Wish,.str a0.Value,.imm 3 (a0.Promises.map TPromise.d) 4,.imm 1 (a0.Accepted.map (D.int .i64)) 4])],1⟩
@[go_sem] def st53(a0:TAttempt)(b5:Bool):St:=⟨[(1,.ptr 0 0),(3,.bool true),(10,.bool b5)],[(0,.box [.int .u8 a0.Phase,.int .i64 a0.Ballot,.imm 1 (a0.Members.map (D.int .i64)) 4,.str a0.Wish,.str a0.Value,.imm 3 (a0.Promises.map TPromise.d) 4,.imm 1 (a0.Accepted.map (D.int .i64)) 4])],1⟩
theorem zi8(a0:TAttempt)(r:Int)(h:zfb a0=some r):zbi Tryz.prog 36 [.agg [.int .u8 a0.Phase,.int .i64 a0.Ballot,.imm 1 (a0.Members.map (D.int .i64)) 4,.str a0.Wish,.str a0.Value,.imm 3 (a0.Promises.map TPromise.d) 4,.imm 1 (a0.Accepted.map (D.int .i64)) 4]] (.int .i64 r):=by
 refine zbp 3 Tryz.func36 ?_
 intro hwf
 unfold zfb at h
 refine .sp [0] ?_
 refine .sp [1] ?_
 obtain⟨x1,hx1,h⟩:=za3 h
 refine .seqM 1 (fun(j:Bool)=>st51 j) (fun j=>x1=j) (lb rfl) ?_ ?_
 refine .sp [1,3] ?_
 refine .block (.seq (.block ?_))
 obtain⟨x2,hx2,hx1⟩:=za3 hx1
 refine .seqM 1 (fun(j:Bool)=>st52 a0 j) (fun j=>x2=(.inr (.inr j))) (lb rfl) ?_ ?_
 refine .block (.seq (.block (.seq (.block (.seq (.seq (.seq (.pl zS [1,3,5] ?_))))))))
 refine .cd ?_ ?_<;>intro hc1
 replace hx2:=zab hx2 hc1
 refine .exit ?_
 refine .seq ?_
 obtain⟨v1,hv1,hx2⟩:=za3 hx2
 refine .rg zS [1] ?_
 refine .rn 2 ?_
 refine .cl (zc7 (WkL.cons (Wk.refl _) (WkL.cons (Wk.agg (WkL.cons (Wk.refl _) (WkL.cons (Wk.refl _) (WkL.cons (Wk.nil4 0 1 0 rfl) (WkL.cons (Wk.refl _) (WkL.cons (Wk.refl _) (WkL.cons (Wk.nil4 0 3 0 rfl) (WkL.cons (Wk.nil4 0 1 0 rfl) (WkL.refl _))))))))) (WkL.refl _))) (zpz a0 (⟨0,0,[],[],[],[],[]⟩:TAttempt) v1 hv1)) ?_
 refine .rn 1 ?_
 refine .nn ?_
 refine .exit ?_
 have hq:=sj hx2
 subst x2
 try dsimp only at hx1
 refine⟨_,?_,(sj hx1).symm⟩
 exact .m [3] [] []
 replace hx2:=zae hx2 hc1
 refine .skip (.seq (.seq (.pl zS [1,3,5] ?_)))
 refine .cd ?_ ?_<;>intro hc2
 replace hx2:=zab hx2 hc2
 refine .exit ?_
 refine .rg zS [1] ?_
 refine .rn 6 ?_
 refine .rn 4 ?_
 refine .nn ?_
 refine⟨_,?_,(sj hx2).symm⟩
 exact .m [1,3] [0] []
 replace hx2:=zae hx2 hc2
 refine .skip ?_
 obtain⟨x3,hx3,hx2⟩:=za3 hx2
 refine .seqM 1 (fun(j:Bool)=>st53 a0 j) (fun j=>x3=j) (lb rfl) ?_ ?_
 refine .sp [1,3,5] ?_
 refine .cd ?_ ?_<;>intro hc3
 replace hx3:=zab hx3 hc3
 refine .skip ?_
 refine⟨_,?_,(sj hx3).symm⟩
 exact .m [1,3,10] [0] []
 replace hx3:=zae hx3 hc3
 refine .pl zS [1,3,5] ?_
 refine⟨_,?_,(sj hx3).symm⟩
 exact .m [1,3,10] [0] []
 rintro b5 hj1
 subst x3
 try dsimp only at hx2
 simp only[st53]
 refine .cd ?_ ?_<;>intro hc4
 replace hx2:=zab hx2 hc4
 refine .exit ?_
 refine⟨_,?_,(sj hx2).symm⟩
 exact .m [1,3] [0] []
 replace hx2:=zae hx2 hc4
 refine .skip ?_
 refine .exit ?_
 have hq:=sj hx2
 subst x2
 try dsimp only at hx1
 refine .sp [] ?_
 refine .exit ?_
 refine⟨_,?_,(sj hx1).symm⟩
 exact .m [3] [] []
 rintro b2 hj2
 subst x2
 try dsimp only at hx1
 simp only[st52]
 refine .seq (.seq ?_)
 obtain⟨v2,hv2,hx1⟩:=za3 hx1
 obtain⟨v3,hv3,hx1⟩:=za3 hx1
 refine .rg zS [1,3] ?_
 refine .rn 4 ?_
 refine .gcall rfl rfl rfl rfl rfl (fun hg=>⟨[],[.int .i64 a0.Ballot],_,rfl,gd hg,rfl,(zdw a0.Ballot v2 (zab hv2 hg))⟩) ?_
 refine .rn 5 ?_
 refine .gcall rfl rfl rfl rfl rfl (fun hg=>⟨[],[.imm 1 (a0.Members.map (D.int .i64)) 4],_,rfl,gd hg,rfl,(zer a0.Members v3 (zab hv3 hg))⟩) ?_
 refine .rn 6 ?_
 refine .rn 3 ?_
 refine .nn ?_
 refine .seq ?_
 obtain⟨v4,hv4,hx1⟩:=za3 hx1
 obtain⟨v5,hv5,hx1⟩:=za3 hx1
 obtain⟨v6,hv6,hx1⟩:=za3 hx1
 refine .rg zS [1,3] ?_
 refine .rd 4 ?_
 refine .gcall rfl rfl rfl rfl rfl (fun hg=>⟨[],[.imm 3 (a0.Promises.map TPromise.d) 4],_,rfl,gd hg,rfl,(zkt a0.Promises v4 (zab hv4 hg))⟩) ?_
 refine .rd 2 ?_
 refine .gcall rfl rfl rfl rfl rfl (fun hg=>⟨[],[.imm 1 (v4.map (D.int .i64)) 13,.imm 1 (a0.Members.map (D.int .i64)) 4],_,rfl,gd hg,rfl,(zc7 (WkL.cons Wk.iz (WkL.cons (Wk.refl _) (WkL.refl _))) (zjs v4 a0.Members v5 (zab hv5 hg)))⟩) ?_
 refine .rd 6 ?_
 refine .gcall rfl rfl rfl rfl rfl (fun hg=>⟨[],[.imm 1 (a0.Accepted.map (D.int .i64)) 4,.imm 1 (a0.Members.map (D.int .i64)) 4],_,rfl,gd hg,rfl,(zjs a0.Accepted a0.Members v6 (zab hv6 hg))⟩) ?_
 refine .rd 2 ?_
 refine .nd ?_
 refine .seq ?_
 obtain⟨v7,hv7,hx1⟩:=za3 hx1
 refine .rg zS [1,3] ?_
 refine .rn 5 ?_
 refine .glcall (r:=.bool v7) [] rfl rfl rfl rfl rfl (fun hg=>⟨[],[.imm 3 (a0.Promises.map TPromise.d) 4,.fn (.func 66) [.ptr 0 0]],_,rfl,gd hg,(za9 rfl (za9 (zk0 (za9 (zcc rfl (za2 rfl (za2 rfl (za2 rfl (za2 rfl (za2 rfl (za2 rfl (za2 rfl zc3)))))))) zaj)) zaj)),rfl,(zgz a0.Promises 66 [.iptr 0 [.int .u8 a0.Phase,.int .i64 a0.Ballot,.imm 1 (a0.Members.map (D.int .i64)) 4,.str a0.Wish,.str a0.Value,.imm 3 (a0.Promises.map TPromise.d) 4,.imm 1 (a0.Accepted.map (D.int .i64)) 4]] (fun _=>rfl) (fun _=>rfl) (fun _=>rfl) (fun x0=>ze5 x0 a0) (fun x0 y hy=>znq x0 a0 y hy) v7 (zab hv7 hg))⟩) ?_
 refine .rn 3 ?_
 refine .nn ?_
 refine .seq ?_
 obtain⟨v8,hv8,hx1⟩:=za3 hx1
 obtain⟨v9,hv9,hx1⟩:=za3 hx1
 obtain⟨v10,hv10,hx1⟩:=za3 hx1
 refine .rg zS [1,3] ?_
 refine .rd 6 ?_
 refine .gcall rfl rfl rfl rfl rfl (fun hg=>⟨[],[.imm 3 (a0.Promises.map TPromise.d) 4],_,rfl,gd hg,rfl,(zkt a0.Promises v8 (zab hv8 hg))⟩) ?_
 refine .rd 0 ?_
 refine .gcall rfl rfl rfl rfl rfl (fun hg=>⟨[],[.imm 1 (a0.Members.map (D.int .i64)) 4,.imm 1 (v8.map (D.int .i64)) 13],_,rfl,gd hg,rfl,(zc7 (WkL.cons (Wk.refl _) (WkL.cons Wk.iz (WkL.refl _))) (zh3 a0.Members v8 v9 (zab hv9 hg)))⟩) ?_
 refine .rd 6 ?_
 refine .rd 4 ?_
 refine .gcall rfl rfl rfl rfl rfl (fun hg=>⟨[],[.imm 1 (a0.Members.map (D.int .i64)) 4,.imm 1 (a0.Accepted.map (D.int .i64)) 4],_,rfl,gd hg,rfl,(zh3 a0.Members a0.Accepted v10 (zab hv10 hg))⟩) ?_
 refine .rd 6 ?_
 refine .nd ?_
 obtain⟨v11,hv11,hx1⟩:=za3 hx1
 refine .rg zS [1,3] ?_
 refine .rd 6 ?_
 refine .rd 6 ?_
 refine .gcall rfl rfl rfl rfl rfl (fun hg=>⟨[],[.imm 3 (a0.Promises.map TPromise.d) 4,.str a0.Wish],_,rfl,gd hg,rfl,(zl9 a0.Promises a0.Wish v11 (zab hv11 hg))⟩) ?_
 refine .rd 4 ?_
 refine .nd ?_
 refine .exit ?_
 refine⟨_,?_,(sj hx1).symm⟩
 exact .m [3] [] []
 rintro b1 hj3
 subst x1
 try dsimp only at h
 simp only[st51]
 refine .seq (.seq (.pl zS [3] ?_))
 refine .cd ?_ ?_<;>intro hc5
 replace h:=zab h hc5
 refine .sp [] ?_
 obtain rfl:=sj h
 exact .rr
 replace h:=zae h hc5
 refine .skip (.seq (.pl zS [] ?_))
 obtain rfl:=sj h
 exact .rr
end Go.Proofs
namespace Go.Proofs
open Go.Tm
set_option linter.unusedVariables false
def zaz(a0:List Int):Option ((List Int)):=
 if a0.length*8<=140737488355328 then
 some a0
 else none
def zd6(a0:List TPromise):Option ((List TPromise)):=
 if a0.length*32<=140737488355328 then
 some a0
 else none
def zf4(a0:TAttempt):Option TAttempt:=
 Option.bind (zaz a0.Members) fun v1=>
 Option.bind (zd6 a0.Promises) fun v2=>
 Option.bind (zaz a0.Accepted) fun v3=>
 some (⟨a0.Phase,a0.Ballot,v1,a0.Wish,a0.Value,v2,v3⟩:TAttempt)
def zg9(a0:List Int)(a1:Int)(a2:List UInt8):Option (TAttempt×Int):=
 Option.bind (zcd a0) fun v1=>
 if ¬(v1=0) then
 some ((⟨0,0,[],[],[],[],[]⟩:TAttempt),v1)
 else
 Option.bind (zcy a1) fun v2=>
 if ¬(v2=0) then
 some ((⟨0,0,[],[],[],[],[]⟩:TAttempt),v2)
 else
 if(a2.length:Int)>1024 then
 some ((⟨0,0,[],[],[],[],[]⟩:TAttempt),3)
 else
 Option.bind (zaz a0) fun v3=>
 some ((⟨1,a1,v3,a2,[],[],[]⟩:TAttempt),0)
end Go.Proofs
namespace Go.Proofs
open Go.Tm Go.RowKit Go.WideShapes
set_option maxRecDepth 100000
set_option maxHeartbeats 4000000
set_option linter.unusedSimpArgs false
set_option linter.unusedVariables false
@[go_sem] def st42(r:(List Int)):St:=⟨[(2,.ref 0 1 0 r.length (some uC))],[(0,.arr 3 1 true (r.map (D.int .i64)))],1⟩
theorem zch(a0:List Int)(r:(List Int))(h:zaz a0=some r):zbv Tryz.prog 23 [.imm 1 (a0.map (D.int .i64)) 4] [] (.ref 0 1 0 r.length (some uC)) [(0,some (.arr 3 1 true (r.map (D.int .i64))))] (0,3):=by
 refine zct Tryz.func23 ?_
 intro hwf
 unfold zaz at h
 refine .ends 0 (za4 _) ?_
 refine .nil4 0 1 (a0.map (D.int .i64)) rfl ?_ (fun hl=>?_)
 refine .sp [0] ?_
 refine .seq (.seq (.pl zS [0] ?_))
 refine .cond rfl rfl (fun hc=>by cases hc) (fun hc=>?_)
 obtain⟨k1,h⟩:=zbc h
 refine .skip ?_
 refine .seqM 0 (fun(_:Unit)=>⟨[(2,.ref 0 1 0 a0.length (some uC))],[(0,.arr 3 1 true (a0.map (D.int .i64)))],1⟩) (fun _=>True) (lb rfl) ?_ (fun _ _=>?_)
 rcases zkb a0 with hE1|⟨y,ys,hE1⟩
 have hM1:a0.map (D.int .i64)=[]:=by rw[hE1];simp
 refine .px zS (apn hM1) [0] ?_
 refine⟨(),?_,trivial⟩
 refine .n0 1 3 ?_
 refine .w0 2 0 1 ?_
 exact .mx hE1 [2] [0] []
 have hM1:a0.map (D.int .i64)≠[]:=by rw[hE1];simp
 refine .px zS (apc hM1) [0] ?_
 refine⟨(),?_,trivial⟩
 refine .wk 2 _ (.ref 0 1 0 a0.length (some uC)) rfl (.unk _ _ _ _ _) ?_
 exact .mx hE1 [2] [0] []
 obtain rfl:=sj h
 refine .ret ⟨st42 a0,?_,.inr rfl,retH [0] ?_ ?_⟩
 exact .m [2] [0] []
 exact rsi0
 rfl
 have hE0:a0=[]:=by simpa using hl
 obtain⟨k1,h⟩:=zbc h
 refine .sp [0] ?_
 refine .seq (.seq (.pl zS [0] ?_))
 refine .cond rfl rfl (fun hc=>?_) (fun hc=>by cases hc)
 refine .sp [] ?_
 obtain rfl:=sj h
 refine .ret ⟨st42 a0,?_,.inr rfl,retH [0] ?_ ?_⟩
 refine .n0 1 3 ?_
 refine .w0 2 0 1 ?_
 exact .mx hE0 [2] [0] []
 exact rsi0
 rfl
theorem zl2(a0:List Int)(r:(List Int))(h:zaz a0=some r):zbi Tryz.prog 23 [.imm 1 (a0.map (D.int .i64)) 4] (.imm 1 (r.map (D.int .i64)) 13):=
 zgb (zbd zbt rfl rfl) (zch a0 r h)
@[go_sem] def st40(r:(List TPromise)):St:=⟨[(2,.ref 0 3 0 r.length (some uC))],[(0,.arr 93 3 true (r.map TPromise.d))],1⟩
theorem zin(a0:List TPromise)(r:(List TPromise))(h:zd6 a0=some r):zbv Tryz.prog 34 [.imm 3 (a0.map TPromise.d) 4] [] (.ref 0 3 0 r.length (some uC)) [(0,some (.arr 93 3 true (r.map TPromise.d)))] (0,3):=by
 refine zct Tryz.func34 ?_
 intro hwf
 unfold zd6 at h
 refine .ends 0 (za4 _) ?_
 refine .nil4 0 3 (a0.map TPromise.d) rfl ?_ (fun hl=>?_)
 refine .sp [0] ?_
 refine .seq (.seq (.pl zS [0] ?_))
 refine .cond rfl rfl (fun hc=>by cases hc) (fun hc=>?_)
 obtain⟨k1,h⟩:=zbc h
 refine .skip ?_
 refine .seqM 0 (fun(_:Unit)=>⟨[(2,.ref 0 3 0 a0.length (some uC))],[(0,.arr 93 3 true (a0.map TPromise.d))],1⟩) (fun _=>True) (lb rfl) ?_ (fun _ _=>?_)
 rcases zkb a0 with hE1|⟨y,ys,hE1⟩
 have hM1:a0.map TPromise.d=[]:=by rw[hE1];simp
 refine .px zS (apn hM1) [0] ?_
 refine⟨(),?_,trivial⟩
 refine .n0 3 93 ?_
 refine .w0 2 0 3 ?_
 exact .mx hE1 [2] [0] []
 have hM1:a0.map TPromise.d≠[]:=by rw[hE1];simp
 refine .px zS (apc hM1) [0] ?_
 refine⟨(),?_,trivial⟩
 refine .wk 2 _ (.ref 0 3 0 a0.length (some uC)) rfl (.unk _ _ _ _ _) ?_
 exact .mx hE1 [2] [0] []
 obtain rfl:=sj h
 refine .ret ⟨st40 a0,?_,.inr rfl,retH [0] ?_ ?_⟩
 exact .m [2] [0] []
 exact rsi0
 rfl
 have hE0:a0=[]:=by simpa using hl
 obtain⟨k1,h⟩:=zbc h
 refine .sp [0] ?_
 refine .seq (.seq (.pl zS [0] ?_))
 refine .cond rfl rfl (fun hc=>?_) (fun hc=>by cases hc)
 refine .sp [] ?_
 obtain rfl:=sj h
 refine .ret ⟨st40 a0,?_,.inr rfl,retH [0] ?_ ?_⟩
 refine .n0 3 93 ?_
 refine .w0 2 0 3 ?_
 exact .mx hE0 [2] [0] []
 exact rsi0
 rfl
@[go_sem] def st3(r:TAttempt):St:=⟨[(2,.ptr 3 0)],[(0,.arr 3 1 true (r.Members.map (D.int .i64))),(1,.arr 93 3 true (r.Promises.map TPromise.d)),(2,.arr 3 1 true (r.Accepted.map (D.int .i64))),(3,.box [.int .u8 r.Phase,.int .i64 r.Ballot,.ref 0 1 0 r.Members.length (some uC),.str r.Wish,.str r.Value,.ref 1 3 0 r.Promises.length (some uC),.ref 2 1 0 r.Accepted.length (some uC)])],4⟩
theorem zj1(a0:TAttempt)(r:TAttempt)(h:zf4 a0=some r):zbv Tryz.prog 26 [.agg [.int .u8 a0.Phase,.int .i64 a0.Ballot,.imm 1 (a0.Members.map (D.int .i64)) 4,.str a0.Wish,.str a0.Value,.imm 3 (a0.Promises.map TPromise.d) 4,.imm 1 (a0.Accepted.map (D.int .i64)) 4]] [] (.agg [.int .u8 r.Phase,.int .i64 r.Ballot,.ref 0 1 0 r.Members.length (some uC),.str r.Wish,.str r.Value,.ref 1 3 0 r.Promises.length (some uC),.ref 2 1 0 r.Accepted.length (some uC)]) [(0,some (.arr 3 1 true (r.Members.map (D.int .i64)))),(1,some (.arr 93 3 true (r.Promises.map TPromise.d))),(2,some (.arr 3 1 true (r.Accepted.map (D.int .i64))))] (0,14):=by
 refine zct Tryz.func26 ?_
 intro hwf
 unfold zf4 at h
 refine .ends 0 (za4 _) ?_
 refine .sp [0] ?_
 obtain⟨v1,hv1,h⟩:=za3 h
 obtain⟨v2,hv2,h⟩:=za3 h
 obtain⟨v3,hv3,h⟩:=za3 h
 refine .sr [1,2] ?_
 refine .rd 2 ?_
 refine .ncall (r:=.ref 3 1 0 v1.length (some uC)) (eff:=[(3,some (.arr 3 1 true (v1.map (D.int .i64))))]) (nw:=(3,6)) [] rfl rfl rfl rfl rfl (za9 rfl zaj) rfl (zcu 3 (lb rfl) (zch a0.Members v1 hv1)) (zay rfl rfl (zbb zbt _ _ _) zd5) (by intro i hi;simp[D.ids,D.idsL] at hi<;>omega) rfl ⟨lb rfl,lb rfl⟩ ?_
 refine .rd 2 ?_
 refine .ncall (r:=.ref 6 3 0 v2.length (some uC)) (eff:=[(6,some (.arr 93 3 true (v2.map TPromise.d)))]) (nw:=(6,9)) [] rfl rfl rfl rfl rfl (za9 rfl zaj) rfl (zcu 6 (lb rfl) (zin a0.Promises v2 hv2)) (zay rfl rfl (zbb zgd _ _ _) zd5) (by intro i hi;simp[D.ids,D.idsL] at hi<;>omega) rfl ⟨lb rfl,lb rfl⟩ ?_
 refine .rd 2 ?_
 refine .ncall (r:=.ref 9 1 0 v3.length (some uC)) (eff:=[(9,some (.arr 3 1 true (v3.map (D.int .i64))))]) (nw:=(9,12)) [] rfl rfl rfl rfl rfl (za9 rfl zaj) rfl (zcu 9 (lb rfl) (zch a0.Accepted v3 hv3)) (zay rfl rfl (zbb zbt _ _ _) zd5) (by intro i hi;simp[D.ids,D.idsL] at hi<;>omega) rfl ⟨lb rfl,lb rfl⟩ ?_
 refine .rd 6 ?_
 refine .nd ?_
 refine .sp [1,2] ?_
 obtain rfl:=sj h
 refine .ret ⟨st3 (⟨a0.Phase,a0.Ballot,v1,a0.Wish,a0.Value,v2,v3⟩:TAttempt),?_,.inr rfl,retH [2,1,0] ?_ ?_⟩
 exact .m [2] [3,6,9,1] [(3,0),(6,1),(9,2),(1,3)]
 exact rsi0
 rfl
theorem zpy(a0:TAttempt)(r:TAttempt)(h:zf4 a0=some r):zbi Tryz.prog 26 [.agg [.int .u8 a0.Phase,.int .i64 a0.Ballot,.imm 1 (a0.Members.map (D.int .i64)) 4,.str a0.Wish,.str a0.Value,.imm 3 (a0.Promises.map TPromise.d) 4,.imm 1 (a0.Accepted.map (D.int .i64)) 4]] (.agg [.int .u8 r.Phase,.int .i64 r.Ballot,.imm 1 (r.Members.map (D.int .i64)) 13,.str r.Wish,.str r.Value,.imm 3 (r.Promises.map TPromise.d) 13,.imm 1 (r.Accepted.map (D.int .i64)) 13]):=
 zgb (zkp (za8 rfl (za8 rfl (za8 (zbd zbt rfl rfl) (za8 rfl (za8 rfl (za8 (zbd zgd rfl rfl) (za8 (zbd zbt rfl rfl) zep)))))))) (zj1 a0 r h)
@[go_sem] def st1(r:TAttempt×Int):St:=⟨[(6,.ptr 3 0),(7,.int .i64 r.2)],[(0,.arr 3 1 true (r.1.Members.map (D.int .i64))),(1,.arr 93 3 true (r.1.Promises.map TPromise.d)),(2,.arr 3 1 true (r.1.Accepted.map (D.int .i64))),(3,.box [.int .u8 r.1.Phase,.int .i64 r.1.Ballot,.ref 0 1 0 r.1.Members.length (some uC),.str r.1.Wish,.str r.1.Value,.ref 1 3 0 r.1.Promises.length (some uC),.ref 2 1 0 r.1.Accepted.length (some uC)])],4⟩
theorem zp1(a0:List Int)(a1:Int)(a2:List UInt8)(r:TAttempt×Int)(h:zg9 a0 a1 a2=some r):zbv Tryz.prog 56 [.imm 1 (a0.map (D.int .i64)) 4,.int .i64 a1,.str a2] [] (.tuple [.agg [.int .u8 r.1.Phase,.int .i64 r.1.Ballot,.ref 0 1 0 r.1.Members.length (some uC),.str r.1.Wish,.str r.1.Value,.ref 1 3 0 r.1.Promises.length (some uC),.ref 2 1 0 r.1.Accepted.length (some uC)],.int .i64 r.2]) [(0,some (.arr 3 1 true (r.1.Members.map (D.int .i64)))),(1,some (.arr 93 3 true (r.1.Promises.map TPromise.d))),(2,some (.arr 3 1 true (r.1.Accepted.map (D.int .i64))))] (0,10):=by
 refine zct Tryz.func56 ?_
 intro hwf
 unfold zg9 at h
 refine .ends 0 (za4 _) ?_
 refine .sp [0,1,2] ?_
 refine .seq ?_
 obtain⟨v1,hv1,h⟩:=za3 h
 refine .sr [0,1,2,6] ?_
 refine .rn 1 ?_
 refine .cl (zer a0 v1 hv1) ?_
 refine .rn 1 ?_
 refine .nn ?_
 refine .sp [0,1,2,6,8] ?_
 refine .cd ?_ ?_<;>intro hc1
 replace h:=zab h hc1
 refine .sp [6,8] ?_
 obtain rfl:=sj h
 refine .ret ⟨st1 ((⟨0,0,[],[],[],[],[]⟩:TAttempt),v1),?_,.inr rfl,retH [2,1,0] ?_ ?_⟩
 refine .n0 1 3 ?_
 refine .n0 3 93 ?_
 refine .n0 1 3 ?_
 refine .boxs 0 _ [_,_,.ref 1 1 0 0 (some uC),_,_,.ref 2 3 0 0 (some uC),.ref 3 1 0 0 (some uC)] rfl (.keep (.keep (.cons (.own0 1 _ _ _ (by decide)) (.keep (.keep (.cons (.own0 2 _ _ _ (by decide)) (.cons (.own0 3 _ _ _ (by decide)) (.refl _)))))))) ?_
 exact .m [6,7] [1,2,3,0] [(1,0),(2,1),(3,2),(0,3)]
 exact rsi0
 rfl
 replace h:=zae h hc1
 refine .skip (.seq ?_)
 obtain⟨v2,hv2,h⟩:=za3 h
 refine .sr [0,1,2,6] ?_
 refine .rn 1 ?_
 refine .cl (zdw a1 v2 hv2) ?_
 refine .rn 1 ?_
 refine .nn ?_
 refine .sp [0,1,2,6,9] ?_
 refine .cd ?_ ?_<;>intro hc2
 replace h:=zab h hc2
 refine .sp [6,9] ?_
 obtain rfl:=sj h
 refine .ret ⟨st1 ((⟨0,0,[],[],[],[],[]⟩:TAttempt),v2),?_,.inr rfl,retH [2,1,0] ?_ ?_⟩
 refine .n0 1 3 ?_
 refine .n0 3 93 ?_
 refine .n0 1 3 ?_
 refine .boxs 0 _ [_,_,.ref 1 1 0 0 (some uC),_,_,.ref 2 3 0 0 (some uC),.ref 3 1 0 0 (some uC)] rfl (.keep (.keep (.cons (.own0 1 _ _ _ (by decide)) (.keep (.keep (.cons (.own0 2 _ _ _ (by decide)) (.cons (.own0 3 _ _ _ (by decide)) (.refl _)))))))) ?_
 exact .m [6,7] [1,2,3,0] [(1,0),(2,1),(3,2),(0,3)]
 exact rsi0
 rfl
 replace h:=zae h hc2
 refine .skip (.seq (.seq (.pl zS [0,1,2,6] ?_)))
 refine .cd ?_ ?_<;>intro hc3
 replace h:=zab h hc3
 refine .sp [6] ?_
 obtain rfl:=sj h
 refine .ret ⟨st1 ((⟨0,0,[],[],[],[],[]⟩:TAttempt),3),?_,.inr rfl,retH [2,1,0] ?_ ?_⟩
 refine .n0 1 3 ?_
 refine .n0 3 93 ?_
 refine .n0 1 3 ?_
 refine .boxs 0 _ [_,_,.ref 1 1 0 0 (some uC),_,_,.ref 2 3 0 0 (some uC),.ref 3 1 0 0 (some uC)] rfl (.keep (.keep (.cons (.own0 1 _ _ _ (by decide)) (.keep (.keep (.cons (.own0 2 _ _ _ (by decide)) (.cons (.own0 3 _ _ _ (by decide)) (.refl _)))))))) ?_
 exact .m [6,7] [1,2,3,0] [(1,0),(2,1),(3,2),(0,3)]
 exact rsi0
 rfl
 replace h:=zae h hc3
 refine .skip ?_
 obtain⟨v3,hv3,h⟩:=za3 h
 refine .sr [0,1,2,6] ?_
 refine .rn 2 ?_
 refine .ncall (r:=.ref 3 1 0 v3.length (some uC)) (eff:=[(3,some (.arr 3 1 true (v3.map (D.int .i64))))]) (nw:=(3,6)) [] rfl rfl rfl rfl rfl (za9 rfl zaj) rfl (zcu 3 (lb rfl) (zch a0 v3 hv3)) (zay rfl rfl (zbb zbt _ _ _) zd5) (by intro i hi;simp[D.ids,D.idsL] at hi<;>omega) rfl ⟨lb rfl,lb rfl⟩ ?_
 refine .rn 4 ?_
 refine .nn ?_
 obtain rfl:=sj h
 refine .ret ⟨st1 ((⟨1,a1,v3,a2,[],[],[]⟩:TAttempt),0),?_,.inr rfl,retH [2,1,0] ?_ ?_⟩
 refine .n0 3 93 ?_
 refine .n0 1 3 ?_
 refine .boxs 0 _ [_,_,_,_,_,.ref 6 3 0 0 (some uC),.ref 7 1 0 0 (some uC)] rfl (.keep (.keep (.keep (.keep (.keep (.cons (.own0 6 _ _ _ (by decide)) (.cons (.own0 7 _ _ _ (by decide)) (.refl _)))))))) ?_
 exact .m [6,7] [3,6,7,0] [(3,0),(6,1),(7,2),(0,3)]
 exact rsi0
 rfl
theorem zoz(a0:List Int)(a1:Int)(a2:List UInt8)(r:TAttempt×Int)(h:zg9 a0 a1 a2=some r):zbi Tryz.prog 56 [.imm 1 (a0.map (D.int .i64)) 4,.int .i64 a1,.str a2] (.tuple [.agg [.int .u8 r.1.Phase,.int .i64 r.1.Ballot,.imm 1 (r.1.Members.map (D.int .i64)) 13,.str r.1.Wish,.str r.1.Value,.imm 3 (r.1.Promises.map TPromise.d) 13,.imm 1 (r.1.Accepted.map (D.int .i64)) 13],.int .i64 r.2]):=
 zgb (zmj (za8 (zkp (za8 rfl (za8 rfl (za8 (zbd zbt rfl rfl) (za8 rfl (za8 rfl (za8 (zbd zgd rfl rfl) (za8 (zbd zbt rfl rfl) zep)))))))) (za8 rfl zep))) (zp1 a0 a1 a2 r h)
end Go.Proofs
namespace Go.Proofs
set_option linter.unusedVariables false
open Go.Tm
theorem ya7k(i j k:Nat)(hij:i≠j)(hik:i≠k)(hjk:j≠k)(l:List TPromise)(x:TPromise)(at':Int)(h:0<=at'/\at'<=(l.length:Int))(hl:l.length<1000000):
  zbv Tryz.prog 101 [.ref i 3 0 l.length (some uC),.int .i64 at',.ref j 3 0 1 (some 1)] [(i,.arr 93 3 true (l.map TPromise.d)),(j,.arr 93 3 true [x.d])] (.ref k 3 0 (l.take at'.toNat++x::l.drop at'.toNat).length (some uC)) [(k,some (.arr 93 3 true ((l.take at'.toNat++x::l.drop at'.toNat).map TPromise.d))),(i,none)] (k,k+1):=by
 have t:=yaaa i j k hij hik hjk (l.map TPromise.d) x.d true true at'.toNat (by rw[List.length_map];omega) (by rw[List.length_map];exact hl)
 rw[Int.toNat_of_nonneg h.1,List.length_map,zfd,zfm,<-zai,<-List.map_append] at t
 have e:l.length+1=(l.take at'.toNat++x::l.drop at'.toNat).length:=by simp;omega
 rw[e] at t
 exact t
theorem ya7j(i j k:Nat)(hij:i≠j)(hik:i≠k)(hjk:j≠k)(l:List Int)(x:Int)(at':Int)(h:0<=at'/\at'<=(l.length:Int))(hl:l.length<1000000):
  zbv Tryz.prog 103 [.ref i 1 0 l.length (some uC),.int .i64 at',.ref j 1 0 1 (some 1)] [(i,.arr 3 1 true (l.map (D.int .i64))),(j,.arr 3 1 true [(D.int .i64 x)])] (.ref k 1 0 (l.take at'.toNat++x::l.drop at'.toNat).length (some uC)) [(k,some (.arr 3 1 true ((l.take at'.toNat++x::l.drop at'.toNat).map (D.int .i64)))),(i,none)] (k,k+1):=by
 have t:=yaa9 i j k hij hik hjk (l.map (D.int .i64)) (D.int .i64 x) true true at'.toNat (by rw[List.length_map];omega) (by rw[List.length_map];exact hl)
 rw[Int.toNat_of_nonneg h.1,List.length_map,zfd,zfm,<-zai,<-List.map_append] at t
 have e:l.length+1=(l.take at'.toNat++x::l.drop at'.toNat).length:=by simp;omega
 rw[e] at t
 exact t
theorem yaa6(i j k:Nat)(hij:i≠j)(hik:i≠k)(hjk:j≠k)(l:List TSeen)(x:TSeen)(at':Int)(h:0<=at'/\at'<=(l.length:Int))(hl:l.length<1000000):
  zbv Tryz.prog 82 [.ref i 5 0 l.length (some uC),.int .i64 at',.ref j 5 0 1 (some 1)] [(i,.arr 75 5 true (l.map TSeen.d)),(j,.arr 75 5 true [x.d])] (.ref k 5 0 (l.take at'.toNat++x::l.drop at'.toNat).length (some uC)) [(k,some (.arr 75 5 true ((l.take at'.toNat++x::l.drop at'.toNat).map TSeen.d))),(i,none)] (k,k+1):=by
 have t:=yaax i j k hij hik hjk (l.map TSeen.d) x.d true true at'.toNat (by rw[List.length_map];omega) (by rw[List.length_map];exact hl)
 rw[Int.toNat_of_nonneg h.1,List.length_map,zfd,zfm,<-zai,<-List.map_append] at t
 have e:l.length+1=(l.take at'.toNat++x::l.drop at'.toNat).length:=by simp;omega
 rw[e] at t
 exact t
def zdy(a0:Int)(c0:TAttempt)(c1:TPromise):Option Bool:=
 if(0<=a0/\a0<(c0.Promises.length:Int)) then
 some (decide ((c0.Promises.getD a0.toNat default).Node>=c1.Node))
 else none
def zen(a:TAttempt)(b:Int)(p:TPromise):Option (TAttempt×Int):=
 Option.bind (zfb a) fun v1=>
 if ¬(v1=0) then
 some ((⟨0,0,[],[],[],[],[]⟩:TAttempt),v1)
 else
 Option.bind (if ¬((¬(a.Phase=1))\/(¬(b=a.Ballot))) then zdl a.Members p.Node else some default) fun v2=>
 if((¬(a.Phase=1))\/(¬(b=a.Ballot)))\/(¬(v2=true)) then
 some ((⟨0,0,[],[],[],[],[]⟩:TAttempt),6)
 else
 Option.bind (zhj p b) fun v3=>
 if ¬(v3=true) then
 some ((⟨0,0,[],[],[],[],[]⟩:TAttempt),8)
 else
 Option.bind (zf4 a) fun v4=>
 Option.bind (zgk (v4.Promises.length:Int) (fun x0=>zdy x0 v4 p)) fun v5=>
 if(v5<(v4.Promises.length:Int))->(0<=v5/\v5<(v4.Promises.length:Int)) then
 if(v5<(v4.Promises.length:Int))/\((v4.Promises.getD v5.toNat default).Node=p.Node) then
 some (v4,0)
 else
 if 0<=v5/\v5<=(v4.Promises.length:Int) then
 if v4.Promises.length<1000000 then
 Option.bind (α:=Int×(List UInt8)) (Option.bind (zdd ((v4.Promises.take v5.toNat)++(p::(v4.Promises.drop v5.toNat)))) fun v6=>
 Option.bind (zde v4.Members v6) fun v7=>
 if v7=true then
 Option.bind (zfs ((v4.Promises.take v5.toNat)++(p::(v4.Promises.drop v5.toNat))) v4.Wish) fun v8=>
 some (2,v8)
 else
 some (v4.Phase,v4.Value)) fun(n1,s1)=>
 some ((⟨n1,v4.Ballot,v4.Members,v4.Wish,s1,((v4.Promises.take v5.toNat)++(p::(v4.Promises.drop v5.toNat))),v4.Accepted⟩:TAttempt),0)
 else none
 else none
 else none
def zeo(a:TAttempt)(b:Int)(node:Int):Option (TAttempt×Int):=
 Option.bind (zfb a) fun v1=>
 if ¬(v1=0) then
 some ((⟨0,0,[],[],[],[],[]⟩:TAttempt),v1)
 else
 Option.bind (if ¬((a.Phase<2)\/(¬(b=a.Ballot))) then zdl a.Members node else some default) fun v2=>
 if((a.Phase<2)\/(¬(b=a.Ballot)))\/(¬(v2=true)) then
 some ((⟨0,0,[],[],[],[],[]⟩:TAttempt),6)
 else
 Option.bind (zf4 a) fun v3=>
 Option.bind (zg6 v3.Accepted node) fun v4=>
 Option.bind (α:=(List Int)) (if(¬(v4=(v3.Accepted.length:Int)))->(0<=v4/\v4<(v3.Accepted.length:Int)) then
 if(v4=(v3.Accepted.length:Int))\/(¬((v3.Accepted.getD v4.toNat default)=node)) then
 if 0<=v4/\v4<=(v3.Accepted.length:Int) then
 if v3.Accepted.length<1000000 then
 some ((v3.Accepted.take v4.toNat)++(node::(v3.Accepted.drop v4.toNat)))
 else none
 else none
 else
 some v3.Accepted
 else none) fun l1=>
 Option.bind (α:=Int) (Option.bind (zde v3.Members l1) fun v5=>
 if v5=true then
 some 3
 else
 some v3.Phase) fun n1=>
 some ((⟨n1,v3.Ballot,v3.Members,v3.Wish,v3.Value,v3.Promises,l1⟩:TAttempt),0)
end Go.Proofs
