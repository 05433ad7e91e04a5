/- Texts of the proof. -/
import Derived.Test.YtbedjbhndfbpcaaGreatSeatOnePp
import Derived.Test.YtbedjbhndfbpcaaGreatSeatOnePq
import Derived.Test.YtbedjbhndfbpcaaGreatSeatOnePr
import Derived.Test.YtbedjbhndfbpcaaGreatSeatOnePs
import Derived.Test.YtbedjbhndfbpcaaGreatSeatOnePo
namespace Go.Proofs
open Go.Tm
set_option linter.unusedVariables false
def zec:List Int->Nat->Int->Option ((Int×Int×Int) ⊕ Unit)
 |[],n2,n1=>
  some (.inr ())
 |y1::rest1,n2,n1=>
  if(n2:Int)>5 then
  some (.inr ())
  else
  if 0<=(wr .i64 (7*(n2:Int))) then
  if y1>127 then
  zec rest1 (n2+1) (bitw .or .i64 n1 (shw true .i64 (wr .i64 (bitw .and .u8 (y1) 127)) (wr .i64 (7*(n2:Int)))))
  else
  Option.bind (if ¬((y1=0)/\((n2:Int)>0)) then zme (bitw .or .i64 n1 (shw true .i64 (wr .i64 (bitw .and .u8 (y1) 127)) (wr .i64 (7*(n2:Int))))) else some default) fun v1=>
  if((y1=0)/\((n2:Int)>0))\/(¬(v1=true)) then
  some (.inr ())
  else
  some (.inl ((bitw .or .i64 n1 (shw true .i64 (wr .i64 (bitw .and .u8 (y1) 127)) (wr .i64 (7*(n2:Int))))),(wr .i64 ((n2:Int)+1)),0))
  else none
def zje(a0:List Int):Option (Int×Int×Int):=
 Option.bind (α:=(Int×Int×Int) ⊕ Unit) (zec a0 0 0) fun z=>match z with
 |(.inl r)=>some r
 |(.inr _)=>
 some (0,0,8)
def zit(a0:List Int):Option ((List UInt8)×Int×Int):=
 Option.bind (zje a0) fun v1=>
 if((¬(v1.2.2=0))\/(v1.1>4096))\/(v1.1>(wr .i64 ((a0.length:Int)-v1.2.1))) then
 some ([],0,8)
 else
 if(0<=v1.2.1/\v1.2.1<=(wr .i64 (v1.2.1+v1.1))/\(wr .i64 (v1.2.1+v1.1))<=(a0.length:Int)) then
 some ((zv8 ((a0.take (wr .i64 (v1.2.1+v1.1)).toNat).drop v1.2.1.toNat)),(wr .i64 (v1.2.1+v1.1)),0)
 else none
def zcw(a0:List Int)(v1:Int×Int×Int):Nat->(List Int)->Int->Int->Option (((List Int)×Int×Int) ⊕ ((List Int)×Int))
 |0,_,_,_=>none
 |fu1+1,l2,n2,n3=>
  if n3<v1.1 then
  if(0<=n2/\n2<=(a0.length:Int)) then
  Option.bind (zje (a0.drop n2.toNat)) fun v2=>
  if ¬(v2.2.2=0) then
  some (.inl ([],0,v2.2.2))
  else
  if l2.length+[v2.1].length<1000000 then
  zcw a0 v1 fu1 (l2++[v2.1]) (wr .i64 (n2+v2.2.1)) (wr .i64 (n3+1))
  else none
  else none
  else
  some (.inr (l2,n2))
def ziu(a0:List Int)(a1:Int):Option ((List Int)×Int×Int):=
 if(a1<0)\/(a1>4096) then
 some ([],0,2)
 else
 Option.bind (zje a0) fun v1=>
 if(¬(v1.2.2=0))\/(v1.1>a1) then
 some ([],0,8)
 else
 Option.bind (α:=((List Int)×Int×Int) ⊕ ((List Int)×Int)) (zcw a0 v1 (v1.1.toNat+1) [] v1.2.1 0) fun z=>match z with
 |(.inl r)=>some r
 |(.inr (l1,n1))=>
 some (l1,n1,0)
def zcx(a0:Tcommand_reader)(a1:Int)(a2:Int):Option Tcommand_reader:=
 if(0<=(min a1 (a0.fB.length:Int))/\(min a1 (a0.fB.length:Int))<=(a0.fB.length:Int)) then
 some (⟨(a0.fB.drop (min a1 (a0.fB.length:Int)).toNat),(a0.fOk&&(a2==0))⟩:Tcommand_reader)
 else none
def zb5(a0:Tcommand_reader):Option (Int×Tcommand_reader):=
 Option.bind (zje a0.fB) fun v1=>
 Option.bind (zcx a0 v1.2.1 v1.2.2) fun v2=>
 some (v1.1,v2)
def zdm(a0:Tcommand_reader):Option ((List UInt8)×Tcommand_reader):=
 Option.bind (zit a0.fB) fun v1=>
 Option.bind (zcx a0 v1.2.1 v1.2.2) fun v2=>
 some (v1.1,v2)
def zdn(a0:Tcommand_reader)(a1:Int):Option ((List Int)×Tcommand_reader):=
 Option.bind (ziu a0.fB a1) fun v1=>
 Option.bind (zcx a0 v1.2.1 v1.2.2) fun v2=>
 some (v1.1,v2)
def zdo(a0:Tcommand_reader):Option (TCommand×Tcommand_reader):=
 Option.bind (zb5 a0) fun v1=>
 Option.bind (α:=(List Int)×Bool×Int×(List Int)×Int×(List UInt8)×(List UInt8)×Int×Int×(List Int)×Int×Int×Int) (if(wr .u8 (min v1.1 255))=1 then
 Option.bind (zb5 v1.2) fun v2=>
 Option.bind (zdn v2.2 4) fun v3=>
 Option.bind (zb5 v3.2) fun v4=>
 Option.bind (zdm v4.2) fun v5=>
 Option.bind (zdm v5.2) fun v6=>
 some (v6.2.fB,v6.2.fOk,v2.1,v3.1,v4.1,v5.1,v6.1,0,0,[],0,0,0)
 else
 if(wr .u8 (min v1.1 255))=2 then
 Option.bind (zb5 v1.2) fun v7=>
 Option.bind (zb5 v7.2) fun v8=>
 some (v8.2.fB,v8.2.fOk,0,[],0,[],[],v7.1,v8.1,[],0,0,0)
 else
 if(wr .u8 (min v1.1 255))=3 then
 Option.bind (zdn v1.2 6) fun v9=>
 some (v9.2.fB,v9.2.fOk,0,[],0,[],[],0,0,v9.1,0,0,0)
 else
 Option.bind (α:=Bool) (if(wr .u8 (min v1.1 255))=4 then
 some ((wr .u8 (min v1.1 255))==4)
 else
 if(wr .u8 (min v1.1 255))=5 then
 some ((wr .u8 (min v1.1 255))==5)
 else
 some ((wr .u8 (min v1.1 255))==6)) fun b2=>
 if b2=true then
 Option.bind (zb5 v1.2) fun v10=>
 Option.bind (zb5 v10.2) fun v11=>
 Option.bind (α:=(List Int)×Bool×Int) (if(wr .u8 (min v1.1 255))=4 then
 Option.bind (zb5 v11.2) fun v12=>
 some (v12.2.fB,v12.2.fOk,v12.1)
 else
 some (v11.2.fB,v11.2.fOk,0)) fun(l4,b3,n8)=>
 Option.bind (zb5 (⟨l4,b3⟩:Tcommand_reader)) fun v13=>
 some (v13.2.fB,v13.2.fOk,0,[],0,[],[],v10.1,0,[],v11.1,n8,v13.1)
 else
 some (v1.2.fB,v1.2.fOk,0,[],0,[],[],0,0,[],0,0,0)) fun(l1,b1,n1,l2,n2,s1,s2,n3,n4,l3,n5,n6,n7)=>
 some ((⟨(wr .u8 (min v1.1 255)),(⟨n1,l2,n2,s1,s2⟩:TMessage),n3,n4,l3,n5,n6,n7⟩:TCommand),(⟨l1,b1⟩:Tcommand_reader))
def zcl(a0:List UInt8):Option (TCommand×Int):=
 if(a0.length:Int)>1024 then
 some ((⟨0,(⟨0,[],0,[],[]⟩:TMessage),0,0,[],0,0,0⟩:TCommand),3)
 else
 Option.bind (zdo (⟨(zkm a0),true⟩:Tcommand_reader)) fun v1=>
 Option.bind (if ¬((¬(v1.2.fOk=true))\/((v1.2.fB.length:Int)>0)) then zef v1.1 else some default) fun v2=>
 if((¬(v1.2.fOk=true))\/((v1.2.fB.length:Int)>0))\/(¬(v2=0)) then
 some ((⟨0,(⟨0,[],0,[],[]⟩:TMessage),0,0,[],0,0,0⟩:TCommand),8)
 else
 some (v1.1,0)
def zcn:List (List UInt8)->(List TCommand)->Option (((List TCommand)×Int) ⊕ ((List TCommand)))
 |[],l2=>
  some (.inr l2)
 |y1::rest1,l2=>
  Option.bind (zcl (y1)) fun v1=>
  if ¬(v1.2=0) then
  some (.inl ([],8))
  else
  if l2.length+[v1.1].length<1000000 then
  zcn rest1 (l2++[v1.1])
  else none
theorem zgw(l2:List TCommand):zcn [] l2=
  (some (.inr l2):Option (((List TCommand)×Int) ⊕ ((List TCommand)))):=rfl
theorem zgx(y1:(List UInt8))(rest1:List (List UInt8))(l2:List TCommand):zcn (y1::rest1) l2=
  (Option.bind (zcl (y1)) fun v1=>
  if ¬(v1.2=0) then
  some (.inl ([],8))
  else
  if l2.length+[v1.1].length<1000000 then
  zcn rest1 (l2++[v1.1])
  else none:Option (((List TCommand)×Int) ⊕ ((List TCommand)))):=rfl
def zf3(a0:List (List UInt8)):Option ((List TCommand)×Int):=
 if(a0.length:Int)>200 then
 some ([],4)
 else
 Option.bind (α:=((List TCommand)×Int) ⊕ ((List TCommand))) (zcn a0 []) fun z=>match z with
 |(.inl r)=>some r
 |(.inr l1)=>
 some (l1,0)
end Go.Proofs
namespace Go.Proofs
open Go.Tm Go.RowKit Go.WideShapes
set_option maxRecDepth 100000
set_option maxHeartbeats 4000000
set_option linter.unusedSimpArgs false
set_option linter.unusedVariables false
@[go_sem] def st75:St:=⟨[],[],0⟩
@[go_sem] def st76(a0:List Int)(n2:Nat)(n1:Int):St:=⟨[(2,.int .i64 n1),(7,.imm 1 (a0.map (D.int .u8)) 4),(8,.int .i64 (a0.length:Int)),(9,.int .i64 (n2:Int))],[],0⟩
theorem zk5(a0:List Int)(r:Int×Int×Int)(h:zje a0=some r):zbi Tryz.prog 128 [.imm 1 (a0.map (D.int .u8)) 4] (.tuple [.int .i64 r.1,.int .i64 r.2.1,.int .i64 r.2.2]):=by
 refine zbp 2 Tryz.func128 ?_
 intro hwf
 unfold zje at h
 refine .sp [0] ?_
 obtain⟨x1,hx1,h⟩:=za3 h
 refine .seqM 0 (fun(j:Unit)=>st75) (fun j=>x1=(.inr j)) (lb rfl) ?_ ?_
 refine .sp [0,2] ?_
 refine .block ?_
 refine .loopG 0 (fun(j:Nat×Int)=>st76 a0 j.1 j.2) (fun j=>j.1<=a0.length/\zec (a0.drop j.1) j.1 j.2=some x1) (fun j=>a0.length-j.1) (0,0) (lb rfl) ?_ ⟨Nat.zero_le _,hx1⟩ ?_
 exact .m [2,7,8,9] [] []
 rintro⟨n2,n1⟩ ⟨hi1,hx1⟩
 simp only[st76]
 simp only at hi1 hx1
 refine .wf 8 (.int .i64 (a0.length:Int)) rfl ?_
 intro hln2
 replace hln2:=wfn hln2
 refine .sp [2,7,8,9] ?_
 refine .seq (.cd (fun hc1=>?_) (fun hc1=>?_))
 have h1:n2<a0.length:=by simpa using hc1
 have hwn2:=zdr h1 hln2
 have hpn2:=ze3 h1 hln2
 rw[za7 h1,zec] at hx1
 refine .skip (.seq (.block (.seq ?_)))
 have e1:=zdb (D.int .u8) a0 n2 h1
 refine .plx zS (ai e1 hwn2) [2,7,8,9] ?_
 refine .seq (.seq (.plx zS hwn2 [2,5,6,7,8,9] ?_))
 refine .cd ?_ ?_<;>intro hc2
 replace hx1:=zab hx1 hc2
 refine .exit ?_
 refine⟨_,?_,(sj hx1).symm⟩
 exact .m [] [] []
 replace hx1:=zae hx1 hc2
 refine .skip (.seq ?_)
 obtain⟨k1,hx1⟩:=zbc hx1
 refine .rg zS [2,5,6,7,8,9] ?_
 refine .rnx 6 hwn2 ?_
 refine .rnx 3 hwn2 ?_
 refine .nn ?_
 refine .seq (.seq (.plx zS hwn2 [2,5,6,7,8,9] ?_))
 refine .cd ?_ ?_<;>intro hc3
 replace hx1:=zab hx1 hc3
 refine .exit ?_
 refine .plx zS hwn2 [2,7,8,9] ?_
 refine⟨(n2+1,_),?_,⟨by omega,hx1⟩,by dsimp only;omega⟩
 exact .m [2,7,8,9] [] []
 replace hx1:=zae hx1 hc3
 refine .skip (.seq (.seq ?_))
 obtain⟨v1,hv1,hx1⟩:=za3 hx1
 refine .rg zS [2,5,6] ?_
 refine .rnx 8 hwn2 ?_
 refine .gcall rfl rfl rfl rfl rfl (fun hg=>⟨[],[.int .i64 (bitw .or .i64 n1 (shw true .i64 (wr .i64 (bitw .and .u8 (a0[n2]) 127)) (wr .i64 (7*(n2:Int)))))],_,rfl,gd hg,rfl,(zno (bitw .or .i64 n1 (shw true .i64 (wr .i64 (bitw .and .u8 (a0[n2]) 127)) (wr .i64 (7*(n2:Int))))) v1 (zab hv1 hg))⟩) ?_
 refine .rnx 2 hwn2 ?_
 refine .nn ?_
 refine .cd ?_ ?_<;>intro hc4
 replace hx1:=zab hx1 hc4
 refine .exit ?_
 refine⟨_,?_,(sj hx1).symm⟩
 exact .m [] [] []
 replace hx1:=zae hx1 hc4
 refine .skip (.seq (.plx zS hwn2 [2,5] ?_))
 have hq:=sj hx1
 subst x1
 try dsimp only at h
 obtain rfl:=sj h
 rw[hwn2]
 exact .rr
 have h2:n2=a0.length:=by have h2b:=of_decide_eq_false hc1;omega
 rw[zac (by omega),zec] at hx1
 refine .exit ?_
 refine⟨_,?_,(sj hx1).symm⟩
 exact .m [] [] []
 rintro⟨⟩ hj1
 subst x1
 try dsimp only at h
 simp only[st75]
 refine .sp [] ?_
 obtain rfl:=sj h
 exact .rr
theorem zqz(a0:List Int)(r:(List UInt8)×Int×Int)(h:zit a0=some r):zbi Tryz.prog 131 [.imm 1 (a0.map (D.int .u8)) 4] (.tuple [.str r.1,.int .i64 r.2.1,.int .i64 r.2.2]):=by
 refine zbp 2 Tryz.func131 ?_
 intro hwf
 unfold zit at h
 refine .sp [0] ?_
 obtain⟨v1,hv1,h⟩:=za3 h
 refine .sr [0] ?_
 refine .rn 1 ?_
 refine .cl (zk5 a0 v1 hv1) ?_
 refine .rn 7 ?_
 refine .nn ?_
 refine .seq (.seq (.rg zS [0,4,5,6] ?_))
 refine .rn 6 ?_
 refine .rn 8 ?_
 refine .nn ?_
 refine .cd ?_ ?_<;>intro hc1
 replace h:=zab h hc1
 refine .sp [] ?_
 obtain rfl:=sj h
 exact .rr
 replace h:=zae h hc1
 refine .skip ?_
 obtain⟨k1,h⟩:=zbc h
 refine .sr [0,5,6] ?_
 refine .rn 6 ?_
 refine .rn 7 ?_
 refine .nn ?_
 obtain rfl:=sj h
 exact .rr
@[go_sem] def st73(l1:List Int)(n1:Int):St:=⟨[(4,.ref 0 1 0 l1.length (some uC)),(5,.int .i64 n1)],[(0,.arr 3 1 true (l1.map (D.int .i64)))],1⟩
@[go_sem] def st74(a0:List Int)(v1:Int×Int×Int)(l2:List Int)(n2:Int)(n3:Int):St:=⟨[(0,.imm 1 (a0.map (D.int .u8)) 4),(4,.ref 0 1 0 l2.length (some uC)),(5,.int .i64 n2),(30,.int .i64 v1.1),(31,.int .i64 n3)],[(0,.arr 3 1 true (l2.map (D.int .i64)))],1⟩
@[go_sem] def st17(r:(List Int)×Int×Int):St:=⟨[(4,.ref 0 1 0 r.1.length (some uC)),(5,.int .i64 r.2.1),(6,.int .i64 r.2.2)],[(0,.arr 3 1 true (r.1.map (D.int .i64)))],1⟩
theorem zr3(a0:List Int)(a1:Int)(r:(List Int)×Int×Int)(h:ziu a0 a1=some r):zbv Tryz.prog 130 [.imm 1 (a0.map (D.int .u8)) 4,.int .i64 a1] [] (.tuple [.ref 0 1 0 r.1.length (some uC),.int .i64 r.2.1,.int .i64 r.2.2]) [(0,some (.arr 3 1 true (r.1.map (D.int .i64))))] (0,5):=by
 refine zct Tryz.func130 ?_
 intro hwf
 unfold ziu at h
 refine .ends 0 (za4 _) ?_
 refine .sp [0,1] ?_
 refine .seq (.seq (.pl zS [0,1,4] ?_))
 refine .cd ?_ ?_<;>intro hc1
 replace h:=zab h hc1
 refine .sp [] ?_
 obtain rfl:=sj h
 refine .ret ⟨st17 ([],0,2),?_,.inr rfl,retH [0] ?_ ?_⟩
 refine .n0 1 3 ?_
 refine .w0 4 0 1 ?_
 exact .m [4,5,6] [0] []
 exact rsi0
 rfl
 replace h:=zae h hc1
 refine .skip ?_
 obtain⟨v1,hv1,h⟩:=za3 h
 refine .sr [0,1,4] ?_
 refine .rn 1 ?_
 refine .cl (zk5 a0 v1 hv1) ?_
 refine .rn 7 ?_
 refine .nn ?_
 refine .seq (.seq (.pl zS [0,1,4,5,6,7] ?_))
 refine .cd ?_ ?_<;>intro hc2
 replace h:=zab h hc2
 refine .sp [] ?_
 obtain rfl:=sj h
 refine .ret ⟨st17 ([],0,8),?_,.inr rfl,retH [0] ?_ ?_⟩
 refine .n0 1 3 ?_
 refine .w0 4 0 1 ?_
 exact .m [4,5,6] [0] []
 exact rsi0
 rfl
 replace h:=zae h hc2
 obtain⟨x1,hx1,h⟩:=za3 h
 refine .skip ?_
 refine .seqM 0 (fun(j:(List Int)×Int)=>st73 j.1 j.2) (fun j=>x1=(.inr j)) (lb rfl) ?_ ?_
 refine .sp [0,4,5,7] ?_
 refine .block ?_
 refine .loopG 0 (fun(j:Nat×(List Int)×Int×Int)=>st74 a0 v1 j.2.1 j.2.2.1 j.2.2.2) (fun j=>zcw a0 v1 j.1 j.2.1 j.2.2.1 j.2.2.2=some x1) (fun j=>j.1) (v1.1.toNat+1,[],v1.2.1,0) (lb rfl) ?_ hx1 ?_
 refine .n0 1 3 ?_
 refine .w0 4 0 1 ?_
 exact .m [0,4,5,30,31] [0] []
 rintro⟨fu1,l2,n2,n3⟩ hx1
 simp only[st74]
 try simp only at hx1
 obtain⟨fu1,rfl⟩:∃k,fu1=k+1:=by cases fu1 with|zero=>(rw[zcw] at hx1;cases hx1)|succ k=>exact⟨k,rfl⟩
 rw[zcw] at hx1
 refine .sp [0,4,5,30,31] ?_
 refine .seq (.cd (fun hc3=>?_) (fun hc3=>?_))
 replace hx1:=zab hx1 hc3
 refine .skip (.seq (.block (.seq ?_)))
 obtain⟨k1,hx1⟩:=zbc hx1
 obtain⟨v2,hv2,hx1⟩:=za3 hx1
 refine .rg zS [0,4,5,30,31] ?_
 refine .rn 3 ?_
 refine .cl (zk5 (a0.drop n2.toNat) v2 hv2) ?_
 refine .rn 7 ?_
 refine .nn ?_
 refine .seq (.seq (.pl zS [0,4,5,8,9,10,30,31] ?_))
 refine .cd ?_ ?_<;>intro hc4
 replace hx1:=zab hx1 hc4
 refine .sp [10] ?_
 have hq:=sj hx1
 subst x1
 try dsimp only at h
 obtain rfl:=sj h
 refine .ret ⟨st17 ([],0,v2.2.2),?_,.inr rfl,retH [0] ?_ ?_⟩
 refine .n0 1 3 ?_
 refine .w0 4 1 1 ?_
 exact .m [4,5,6] [1] [(1,0)]
 exact rsi0
 rfl
 replace hx1:=zae hx1 hc4
 refine .skip (.seq ?_)
 obtain⟨k2,hx1⟩:=zbc hx1
 refine .pl zS [0,4,5,8,9,30,31] ?_
 refine .pl zS [0,4,5,9,30,31] ?_
 refine .pl zS [0,4,5,30,31] ?_
 refine⟨(fu1,_,_,_),?_,hx1,by dsimp only;omega⟩
 exact .m [0,4,5,30,31] [2] [(2,0)]
 replace hx1:=zae hx1 hc3
 refine .exit ?_
 refine⟨_,?_,(sj hx1).symm⟩
 exact .m [4,5] [0] []
 rintro⟨l1,n1⟩ hj1
 subst x1
 try dsimp only at h
 simp only[st73]
 refine .sp [4,5] ?_
 obtain rfl:=sj h
 refine .ret ⟨st17 (l1,n1,0),?_,.inr rfl,retH [0] ?_ ?_⟩
 exact .m [4,5,6] [0] []
 exact rsi0
 rfl
@[go_sem] def st10(r:Tcommand_reader):St:=⟨[(0,.ptr 20000 0)],[(20000,.box [.imm 1 (r.fB.map (D.int .u8)) 12,.bool r.fOk])],20100⟩
theorem zfu(a0:Tcommand_reader)(a1:Int)(a2:Int)(r:Tcommand_reader)(h:zcx a0 a1 a2=some r):zbv Tryz.prog 129 [.ptr 20000 0,.int .i64 a1,.int .i64 a2] [(20000,.box [.imm 1 (a0.fB.map (D.int .u8)) 12,.bool a0.fOk])] (.tuple []) [(20000,some (.box [.imm 1 (r.fB.map (D.int .u8)) 12,.bool r.fOk]))] (20100,20102):=by
 refine zct Tryz.func129 ?_
 intro hwf
 unfold zcx at h
 refine .ends 20100 (za4 _) ?_
 refine .sr [0,1,2] ?_
 refine .rn 6 ?_
 refine .rn 6 ?_
 refine .nn ?_
 obtain⟨k1,h⟩:=zbc h
 refine .rg zS [0,1] ?_
 refine .rd 6 ?_
 refine .rd 6 ?_
 refine .rd 4 ?_
 refine .nd ?_
 obtain rfl:=sj h
 refine⟨st10 (⟨(a0.fB.drop (min a1 (a0.fB.length:Int)).toNat),(a0.fOk&&(a2==0))⟩:Tcommand_reader),?_,.inl rfl,retH [20000] ?_ ?_⟩
 exact .m [0] [20000] []
 exact rsi0
 rfl
@[go_sem] def st9(r:Int×Tcommand_reader):St:=⟨[(0,.ptr 20000 0),(2,.int .i64 r.1)],[(20000,.box [.imm 1 (r.2.fB.map (D.int .u8)) 12,.bool r.2.fOk])],20100⟩
theorem zbe(a0:Tcommand_reader)(r:Int×Tcommand_reader)(h:zb5 a0=some r):zbv Tryz.prog 115 [.ptr 20000 0] [(20000,.box [.imm 1 (a0.fB.map (D.int .u8)) 12,.bool a0.fOk])] (.int .i64 r.1) [(20000,some (.box [.imm 1 (r.2.fB.map (D.int .u8)) 12,.bool r.2.fOk]))] (20100,20106):=by
 refine zct Tryz.func115 ?_
 intro hwf
 unfold zb5 at h
 refine .ends 20100 (za4 _) ?_
 refine .sp [0] ?_
 obtain⟨v1,hv1,h⟩:=za3 h
 refine .sr [0] ?_
 refine .rn 4 ?_
 refine .cl (zk5 a0.fB v1 hv1) ?_
 refine .rn 7 ?_
 refine .nn ?_
 obtain⟨v2,hv2,h⟩:=za3 h
 refine .sr [0,3,4,5] ?_
 refine .rn 3 ?_
 refine .hcall (H:=[(20000,.box [.imm 1 (a0.fB.map (D.int .u8)) 12,.bool a0.fOk])]) (eff:=[(20000,some (.box [.imm 1 (v2.fB.map (D.int .u8)) 12,.bool v2.fOk]))]) (nw:=(20102,20104)) (r:=.tuple []) rfl rfl rfl rfl rfl (za6 20000 20000 (zba 20102 (zfu a0 v1.2.1 v1.2.2 v2 hv2))) (fun id b h=>zam [20000] _ id b h) (by simp) (.inr ⟨lb rfl,lb rfl⟩) ?_
 refine .nn ?_
 refine .sp [0,3] ?_
 obtain rfl:=sj h
 refine .ret ⟨st9 (v1.1,v2),?_,.inr rfl,retH [20000] ?_ ?_⟩
 exact .m [0,2] [20000] []
 exact rsi0
 rfl
@[go_sem] def st11(r:(List UInt8)×Tcommand_reader):St:=⟨[(0,.ptr 20000 0),(2,.str r.1)],[(20000,.box [.imm 1 (r.2.fB.map (D.int .u8)) 12,.bool r.2.fOk])],20100⟩
theorem zhx(a0:Tcommand_reader)(r:(List UInt8)×Tcommand_reader)(h:zdm a0=some r):zbv Tryz.prog 117 [.ptr 20000 0] [(20000,.box [.imm 1 (a0.fB.map (D.int .u8)) 12,.bool a0.fOk])] (.str r.1) [(20000,some (.box [.imm 1 (r.2.fB.map (D.int .u8)) 12,.bool r.2.fOk]))] (20100,20106):=by
 refine zct Tryz.func117 ?_
 intro hwf
 unfold zdm at h
 refine .ends 20100 (za4 _) ?_
 refine .sp [0] ?_
 obtain⟨v1,hv1,h⟩:=za3 h
 refine .sr [0] ?_
 refine .rn 4 ?_
 refine .cl (zqz a0.fB v1 hv1) ?_
 refine .rn 7 ?_
 refine .nn ?_
 obtain⟨v2,hv2,h⟩:=za3 h
 refine .sr [0,3,4,5] ?_
 refine .rn 3 ?_
 refine .hcall (H:=[(20000,.box [.imm 1 (a0.fB.map (D.int .u8)) 12,.bool a0.fOk])]) (eff:=[(20000,some (.box [.imm 1 (v2.fB.map (D.int .u8)) 12,.bool v2.fOk]))]) (nw:=(20102,20104)) (r:=.tuple []) rfl rfl rfl rfl rfl (za6 20000 20000 (zba 20102 (zfu a0 v1.2.1 v1.2.2 v2 hv2))) (fun id b h=>zam [20000] _ id b h) (by simp) (.inr ⟨lb rfl,lb rfl⟩) ?_
 refine .nn ?_
 refine .sp [0,3] ?_
 obtain rfl:=sj h
 refine .ret ⟨st11 (v1.1,v2),?_,.inr rfl,retH [20000] ?_ ?_⟩
 exact .m [0,2] [20000] []
 exact rsi0
 rfl
@[go_sem] def st8(r:(List Int)×Tcommand_reader):St:=⟨[(0,.ptr 20000 0),(4,.ref 20100 1 0 r.1.length (some uC))],[(20000,.box [.imm 1 (r.2.fB.map (D.int .u8)) 12,.bool r.2.fOk]),(20100,.arr 3 1 true (r.1.map (D.int .i64)))],20101⟩
theorem zhy(a0:Tcommand_reader)(a1:Int)(r:(List Int)×Tcommand_reader)(h:zdn a0 a1=some r):zbv Tryz.prog 116 [.ptr 20000 0,.int .i64 a1] [(20000,.box [.imm 1 (a0.fB.map (D.int .u8)) 12,.bool a0.fOk])] (.ref 20100 1 0 r.1.length (some uC)) [(20000,some (.box [.imm 1 (r.2.fB.map (D.int .u8)) 12,.bool r.2.fOk])),(20100,some (.arr 3 1 true (r.1.map (D.int .i64))))] (20100,20109):=by
 refine zct Tryz.func116 ?_
 intro hwf
 unfold zdn at h
 refine .ends 20100 (za4 _) ?_
 refine .sp [0,1] ?_
 obtain⟨v1,hv1,h⟩:=za3 h
 refine .sr [0,1] ?_
 refine .rn 5 ?_
 refine .ncall (r:=.tuple [.ref 20100 1 0 v1.1.length (some uC),.int .i64 v1.2.1,.int .i64 v1.2.2]) (eff:=[(20100,some (.arr 3 1 true (v1.1.map (D.int .i64))))]) (nw:=(20100,20105)) [] rfl rfl rfl rfl rfl (za9 rfl (za9 rfl zaj)) rfl (zcu 20100 (lb rfl) (zr3 a0.fB a1 v1 hv1)) (zay rfl rfl (zbb zbt _ _ _) zd5) (by intro i hi;simp[D.ids,D.idsL] at hi<;>omega) rfl ⟨lb rfl,lb rfl⟩ ?_
 refine .rn 7 ?_
 refine .nn ?_
 obtain⟨v2,hv2,h⟩:=za3 h
 refine .sr [0,5,6,7] ?_
 refine .rn 3 ?_
 refine .hcall (H:=[(20000,.box [.imm 1 (a0.fB.map (D.int .u8)) 12,.bool a0.fOk])]) (eff:=[(20000,some (.box [.imm 1 (v2.fB.map (D.int .u8)) 12,.bool v2.fOk]))]) (nw:=(20105,20107)) (r:=.tuple []) rfl rfl rfl rfl rfl (za6 20000 20000 (zba 20105 (zfu a0 v1.2.1 v1.2.2 v2 hv2))) (fun id b h=>zam [20000] _ id b h) (by simp) (.inr ⟨lb rfl,lb rfl⟩) ?_
 refine .nn ?_
 refine .sp [0,5] ?_
 obtain rfl:=sj h
 refine .ret ⟨st8 (v1.1,v2),?_,.inr rfl,retH [20000,20100] ?_ ?_⟩
 exact .m [0,4] [20000,20100] []
 exact rsi0
 rfl
@[go_sem] def st64(v1:Int×Tcommand_reader)(l1:List Int)(b1:Bool)(n1:Int)(l2:List Int)(n2:Int)(s1:List UInt8)(s2:List UInt8)(n3:Int)(n4:Int)(l3:List Int)(n5:Int)(n6:Int)(n7:Int):St:=⟨[(0,.ptr 20000 0),(2,.ptr 20100 0),(4,.ptr 20112 0)],[(20000,.box [.imm 1 (l1.map (D.int .u8)) 12,.bool b1]),(20100,.box [.int .u8 0,.int .i64 0,.imm 0 [] 0,.int .i64 0,.str [],.str [],.int .i64 0,.int .i64 0,.imm 0 [] 0,.int .i64 0,.int .i64 0,.int .i64 0]),(20112,.box [.int .u8 (wr .u8 (min v1.1 255)),.int .i64 n1,.ref 20113 1 0 l2.length (some uC),.int .i64 n2,.str s1,.str s2,.int .i64 n3,.int .i64 n4,.ref 20114 1 0 l3.length (some uC),.int .i64 n5,.int .i64 n6,.int .i64 n7]),(20113,.arr 3 1 true (l2.map (D.int .i64))),(20114,.arr 3 1 true (l3.map (D.int .i64)))],20115⟩
@[go_sem] def st65(v1:Int×Tcommand_reader)(b2:Bool):St:=⟨[(0,.ptr 20000 0),(2,.ptr 20100 0),(4,.ptr 20112 0),(48,.bool b2)],[(20000,.box [.imm 1 (v1.2.fB.map (D.int .u8)) 12,.bool v1.2.fOk]),(20100,.box [.int .u8 0,.int .i64 0,.imm 0 [] 0,.int .i64 0,.str [],.str [],.int .i64 0,.int .i64 0,.imm 0 [] 0,.int .i64 0,.int .i64 0,.int .i64 0]),(20112,.box [.int .u8 (wr .u8 (min v1.1 255)),.int .i64 0,.imm 0 [] 0,.int .i64 0,.str [],.str [],.int .i64 0,.int .i64 0,.imm 0 [] 0,.int .i64 0,.int .i64 0,.int .i64 0])],20113⟩
@[go_sem] def st66(v1:Int×Tcommand_reader)(v10:Int×Tcommand_reader)(v11:Int×Tcommand_reader)(l4:List Int)(b3:Bool)(n8:Int):St:=⟨[(0,.ptr 20000 0),(2,.ptr 20100 0),(4,.ptr 20112 0)],[(20000,.box [.imm 1 (l4.map (D.int .u8)) 12,.bool b3]),(20100,.box [.int .u8 0,.int .i64 0,.imm 0 [] 0,.int .i64 0,.str [],.str [],.int .i64 0,.int .i64 0,.imm 0 [] 0,.int .i64 0,.int .i64 0,.int .i64 0]),(20112,.box [.int .u8 (wr .u8 (min v1.1 255)),.int .i64 0,.imm 0 [] 0,.int .i64 0,.str [],.str [],.int .i64 v10.1,.int .i64 0,.imm 0 [] 0,.int .i64 v11.1,.int .i64 n8,.int .i64 0])],20125⟩
@[go_sem] def st7(r:TCommand×Tcommand_reader):St:=⟨[(0,.ptr 20000 0),(2,.ptr 20102 0)],[(20000,.box [.imm 1 (r.2.fB.map (D.int .u8)) 12,.bool r.2.fOk]),(20100,.arr 3 1 true (r.1.Message.Groups.map (D.int .i64))),(20101,.arr 3 1 true (r.1.Members.map (D.int .i64))),(20102,.box [.int .u8 r.1.Kind,.int .i64 r.1.Message.Id,.ref 20100 1 0 r.1.Message.Groups.length (some uC),.int .i64 r.1.Message.Topic,.str r.1.Message.Key,.str r.1.Message.Body,.int .i64 r.1.Id,.int .i64 r.1.Time,.ref 20101 1 0 r.1.Members.length (some uC),.int .i64 r.1.Topic,.int .i64 r.1.Who,.int .i64 r.1.N])],20103⟩
theorem zk7(a0:Tcommand_reader)(r:TCommand×Tcommand_reader)(h:zdo a0=some r):zbv Tryz.prog 95 [.ptr 20000 0] [(20000,.box [.imm 1 (a0.fB.map (D.int .u8)) 12,.bool a0.fOk])] (.agg [.int .u8 r.1.Kind,.int .i64 r.1.Message.Id,.ref 20100 1 0 r.1.Message.Groups.length (some uC),.int .i64 r.1.Message.Topic,.str r.1.Message.Key,.str r.1.Message.Body,.int .i64 r.1.Id,.int .i64 r.1.Time,.ref 20101 1 0 r.1.Members.length (some uC),.int .i64 r.1.Topic,.int .i64 r.1.Who,.int .i64 r.1.N]) [(20000,some (.box [.imm 1 (r.2.fB.map (D.int .u8)) 12,.bool r.2.fOk])),(20100,some (.arr 3 1 true (r.1.Message.Groups.map (D.int .i64)))),(20101,some (.arr 3 1 true (r.1.Members.map (D.int .i64))))] (20100,20149):=by
 refine zct Tryz.func95 ?_
 intro hwf
 unfold zdo at h
 refine .ends 20100 (za4 _) ?_
 refine .sp [0] ?_
 obtain⟨v1,hv1,h⟩:=za3 h
 refine .sr [0,2] ?_
 refine .rn 1 ?_
 refine .hcall (H:=[(20000,.box [.imm 1 (a0.fB.map (D.int .u8)) 12,.bool a0.fOk])]) (eff:=[(20000,some (.box [.imm 1 (v1.2.fB.map (D.int .u8)) 12,.bool v1.2.fOk]))]) (nw:=(20106,20112)) (r:=.int .i64 v1.1) rfl rfl rfl rfl rfl (za6 20000 20000 (zba 20106 (zbe a0 v1 hv1))) (fun id b h=>zam [20000] _ id b h) (by simp) (.inr ⟨lb rfl,lb rfl⟩) ?_
 refine .rn 1 ?_
 refine .nn ?_
 refine .sp [0,2,3] ?_
 obtain⟨x1,hx1,h⟩:=za3 h
 refine .seqM 20113 (fun(j:(List Int)×Bool×Int×(List Int)×Int×(List UInt8)×(List UInt8)×Int×Int×(List Int)×Int×Int×Int)=>st64 v1 j.1 j.2.1 j.2.2.1 j.2.2.2.1 j.2.2.2.2.1 j.2.2.2.2.2.1 j.2.2.2.2.2.2.1 j.2.2.2.2.2.2.2.1 j.2.2.2.2.2.2.2.2.1 j.2.2.2.2.2.2.2.2.2.1 j.2.2.2.2.2.2.2.2.2.2.1 j.2.2.2.2.2.2.2.2.2.2.2.1 j.2.2.2.2.2.2.2.2.2.2.2.2) (fun j=>x1=j) (lb rfl) ?_ ?_
 refine .sp [0,2,4] ?_
 refine .block (.seq (.pl zS [0,2,4,12] ?_))
 refine .cd ?_ ?_<;>intro hc1
 replace hx1:=zab hx1 hc1
 refine .seq ?_
 obtain⟨v2,hv2,hx1⟩:=za3 hx1
 refine .rg zS [0,2,4] ?_
 refine .rn 1 ?_
 refine .hcall (H:=[(20000,.box [.imm 1 (v1.2.fB.map (D.int .u8)) 12,.bool v1.2.fOk])]) (eff:=[(20000,some (.box [.imm 1 (v2.2.fB.map (D.int .u8)) 12,.bool v2.2.fOk]))]) (nw:=(20113,20119)) (r:=.int .i64 v2.1) rfl rfl rfl rfl rfl (za6 20000 20000 (zba 20113 (zbe v1.2 v2 hv2))) (fun id b h=>zam [20000] _ id b h) (by simp) (.inr ⟨lb rfl,lb rfl⟩) ?_
 refine .rn 3 ?_
 refine .nn ?_
 refine .seq ?_
 obtain⟨v3,hv3,hx1⟩:=za3 hx1
 refine .rg zS [0,2,4] ?_
 refine .rn 1 ?_
 refine .hcall (H:=[(20000,.box [.imm 1 (v2.2.fB.map (D.int .u8)) 12,.bool v2.2.fOk])]) (eff:=[(20000,some (.box [.imm 1 (v3.2.fB.map (D.int .u8)) 12,.bool v3.2.fOk])),(20119,some (.arr 3 1 true (v3.1.map (D.int .i64))))]) (nw:=(20119,20128)) (r:=.ref 20119 1 0 v3.1.length (some uC)) rfl rfl rfl rfl rfl (za6 20000 20000 (zba 20119 (zhy v2.2 4 v3 hv3))) (fun id b h=>zam [20000] _ id b h) (by simp) (.inr ⟨lb rfl,lb rfl⟩) ?_
 refine .rn 3 ?_
 refine .nn ?_
 refine .seq ?_
 obtain⟨v4,hv4,hx1⟩:=za3 hx1
 refine .rg zS [0,2,4] ?_
 refine .rn 1 ?_
 refine .hcall (H:=[(20000,.box [.imm 1 (v3.2.fB.map (D.int .u8)) 12,.bool v3.2.fOk])]) (eff:=[(20000,some (.box [.imm 1 (v4.2.fB.map (D.int .u8)) 12,.bool v4.2.fOk]))]) (nw:=(20128,20134)) (r:=.int .i64 v4.1) rfl rfl rfl rfl rfl (za6 20000 20000 (zba 20128 (zbe v3.2 v4 hv4))) (fun id b h=>zam [20000] _ id b h) (by simp) (.inr ⟨lb rfl,lb rfl⟩) ?_
 refine .rn 3 ?_
 refine .nn ?_
 refine .seq ?_
 obtain⟨v5,hv5,hx1⟩:=za3 hx1
 refine .rg zS [0,2,4] ?_
 refine .rn 1 ?_
 refine .hcall (H:=[(20000,.box [.imm 1 (v4.2.fB.map (D.int .u8)) 12,.bool v4.2.fOk])]) (eff:=[(20000,some (.box [.imm 1 (v5.2.fB.map (D.int .u8)) 12,.bool v5.2.fOk]))]) (nw:=(20134,20140)) (r:=.str v5.1) rfl rfl rfl rfl rfl (za6 20000 20000 (zba 20134 (zhx v4.2 v5 hv5))) (fun id b h=>zam [20000] _ id b h) (by simp) (.inr ⟨lb rfl,lb rfl⟩) ?_
 refine .rn 3 ?_
 refine .nn ?_
 obtain⟨v6,hv6,hx1⟩:=za3 hx1
 refine .rg zS [0,2,4] ?_
 refine .rn 1 ?_
 refine .hcall (H:=[(20000,.box [.imm 1 (v5.2.fB.map (D.int .u8)) 12,.bool v5.2.fOk])]) (eff:=[(20000,some (.box [.imm 1 (v6.2.fB.map (D.int .u8)) 12,.bool v6.2.fOk]))]) (nw:=(20140,20146)) (r:=.str v6.1) rfl rfl rfl rfl rfl (za6 20000 20000 (zba 20140 (zhx v5.2 v6 hv6))) (fun id b h=>zam [20000] _ id b h) (by simp) (.inr ⟨lb rfl,lb rfl⟩) ?_
 refine .rn 3 ?_
 refine .nn ?_
 refine⟨_,?_,(sj hx1).symm⟩
 refine .n0 1 3 ?_
 refine .boxs 20112 _ [_,_,_,_,_,_,_,_,.ref 20146 1 0 0 (some uC),_,_,_] rfl (.keep (.keep (.keep (.keep (.keep (.keep (.keep (.keep (.cons (.own0 20146 _ _ _ (by decide)) (.refl _)))))))))) ?_
 exact .m [0,2,4] [20000,20100,20112,20119,20146] [(20119,20113),(20146,20114)]
 replace hx1:=zae hx1 hc1
 refine .sp [0,2,4,12] ?_
 refine .cd ?_ ?_<;>intro hc2
 replace hx1:=zab hx1 hc2
 refine .seq ?_
 obtain⟨v7,hv7,hx1⟩:=za3 hx1
 refine .rg zS [0,2,4] ?_
 refine .rn 1 ?_
 refine .hcall (H:=[(20000,.box [.imm 1 (v1.2.fB.map (D.int .u8)) 12,.bool v1.2.fOk])]) (eff:=[(20000,some (.box [.imm 1 (v7.2.fB.map (D.int .u8)) 12,.bool v7.2.fOk]))]) (nw:=(20113,20119)) (r:=.int .i64 v7.1) rfl rfl rfl rfl rfl (za6 20000 20000 (zba 20113 (zbe v1.2 v7 hv7))) (fun id b h=>zam [20000] _ id b h) (by simp) (.inr ⟨lb rfl,lb rfl⟩) ?_
 refine .rn 2 ?_
 refine .nn ?_
 obtain⟨v8,hv8,hx1⟩:=za3 hx1
 refine .rg zS [0,2,4] ?_
 refine .rn 1 ?_
 refine .hcall (H:=[(20000,.box [.imm 1 (v7.2.fB.map (D.int .u8)) 12,.bool v7.2.fOk])]) (eff:=[(20000,some (.box [.imm 1 (v8.2.fB.map (D.int .u8)) 12,.bool v8.2.fOk]))]) (nw:=(20119,20125)) (r:=.int .i64 v8.1) rfl rfl rfl rfl rfl (za6 20000 20000 (zba 20119 (zbe v7.2 v8 hv8))) (fun id b h=>zam [20000] _ id b h) (by simp) (.inr ⟨lb rfl,lb rfl⟩) ?_
 refine .rn 2 ?_
 refine .nn ?_
 refine⟨_,?_,(sj hx1).symm⟩
 refine .n0 1 3 ?_
 refine .n0 1 3 ?_
 refine .boxs 20112 _ [_,_,.ref 20125 1 0 0 (some uC),_,_,_,_,_,.ref 20126 1 0 0 (some uC),_,_,_] rfl (.keep (.keep (.cons (.own0 20125 _ _ _ (by decide)) (.keep (.keep (.keep (.keep (.keep (.cons (.own0 20126 _ _ _ (by decide)) (.refl _)))))))))) ?_
 exact .m [0,2,4] [20000,20100,20112,20125,20126] [(20125,20113),(20126,20114)]
 replace hx1:=zae hx1 hc2
 refine .sp [0,2,4,12] ?_
 refine .cd ?_ ?_<;>intro hc3
 replace hx1:=zab hx1 hc3
 obtain⟨v9,hv9,hx1⟩:=za3 hx1
 refine .rg zS [0,2,4] ?_
 refine .rn 1 ?_
 refine .hcall (H:=[(20000,.box [.imm 1 (v1.2.fB.map (D.int .u8)) 12,.bool v1.2.fOk])]) (eff:=[(20000,some (.box [.imm 1 (v9.2.fB.map (D.int .u8)) 12,.bool v9.2.fOk])),(20113,some (.arr 3 1 true (v9.1.map (D.int .i64))))]) (nw:=(20113,20122)) (r:=.ref 20113 1 0 v9.1.length (some uC)) rfl rfl rfl rfl rfl (za6 20000 20000 (zba 20113 (zhy v1.2 6 v9 hv9))) (fun id b h=>zam [20000] _ id b h) (by simp) (.inr ⟨lb rfl,lb rfl⟩) ?_
 refine .rn 2 ?_
 refine .nn ?_
 refine⟨_,?_,(sj hx1).symm⟩
 refine .n0 1 3 ?_
 refine .boxs 20112 _ [_,_,.ref 20122 1 0 0 (some uC),_,_,_,_,_,_,_,_,_] rfl (.keep (.keep (.cons (.own0 20122 _ _ _ (by decide)) (.refl _)))) ?_
 exact .m [0,2,4] [20000,20100,20112,20122,20113] [(20122,20113),(20113,20114)]
 replace hx1:=zae hx1 hc3
 obtain⟨x2,hx2,hx1⟩:=za3 hx1
 refine .seqM 20113 (fun(j:Bool)=>st65 v1 j) (fun j=>x2=j) (lb rfl) ?_ ?_
 refine .sp [0,2,4,12] ?_
 refine .cd ?_ ?_<;>intro hc4
 replace hx2:=zab hx2 hc4
 refine .skip ?_
 refine⟨_,?_,(sj hx2).symm⟩
 exact .m [0,2,4,48] [20000,20100,20112] []
 replace hx2:=zae hx2 hc4
 refine .sp [0,2,4,12] ?_
 refine .cd ?_ ?_<;>intro hc5
 replace hx2:=zab hx2 hc5
 refine .skip ?_
 refine⟨_,?_,(sj hx2).symm⟩
 exact .m [0,2,4,48] [20000,20100,20112] []
 replace hx2:=zae hx2 hc5
 refine .pl zS [0,2,4,12] ?_
 refine⟨_,?_,(sj hx2).symm⟩
 exact .m [0,2,4,48] [20000,20100,20112] []
 rintro b2 hj1
 subst x2
 try dsimp only at hx1
 simp only[st65]
 refine .cd ?_ ?_<;>intro hc6
 replace hx1:=zab hx1 hc6
 refine .seq ?_
 obtain⟨v10,hv10,hx1⟩:=za3 hx1
 refine .rg zS [0,2,4] ?_
 refine .rn 1 ?_
 refine .hcall (H:=[(20000,.box [.imm 1 (v1.2.fB.map (D.int .u8)) 12,.bool v1.2.fOk])]) (eff:=[(20000,some (.box [.imm 1 (v10.2.fB.map (D.int .u8)) 12,.bool v10.2.fOk]))]) (nw:=(20113,20119)) (r:=.int .i64 v10.1) rfl rfl rfl rfl rfl (za6 20000 20000 (zba 20113 (zbe v1.2 v10 hv10))) (fun id b h=>zam [20000] _ id b h) (by simp) (.inr ⟨lb rfl,lb rfl⟩) ?_
 refine .rn 2 ?_
 refine .nn ?_
 refine .seq ?_
 obtain⟨v11,hv11,hx1⟩:=za3 hx1
 refine .rg zS [0,2,4] ?_
 refine .rn 1 ?_
 refine .hcall (H:=[(20000,.box [.imm 1 (v10.2.fB.map (D.int .u8)) 12,.bool v10.2.fOk])]) (eff:=[(20000,some (.box [.imm 1 (v11.2.fB.map (D.int .u8)) 12,.bool v11.2.fOk]))]) (nw:=(20119,20125)) (r:=.int .i64 v11.1) rfl rfl rfl rfl rfl (za6 20000 20000 (zba 20119 (zbe v10.2 v11 hv11))) (fun id b h=>zam [20000] _ id b h) (by simp) (.inr ⟨lb rfl,lb rfl⟩) ?_
 refine .rn 2 ?_
 refine .nn ?_
 obtain⟨x3,hx3,hx1⟩:=za3 hx1
 refine .seqM 20125 (fun(j:(List Int)×Bool×Int)=>st66 v1 v10 v11 j.1 j.2.1 j.2.2) (fun j=>x3=j) (lb rfl) ?_ ?_
 refine .sp [0,2,4] ?_
 refine .cd ?_ ?_<;>intro hc7
 replace hx3:=zab hx3 hc7
 obtain⟨v12,hv12,hx3⟩:=za3 hx3
 refine .rg zS [0,2,4] ?_
 refine .rn 1 ?_
 refine .hcall (H:=[(20000,.box [.imm 1 (v11.2.fB.map (D.int .u8)) 12,.bool v11.2.fOk])]) (eff:=[(20000,some (.box [.imm 1 (v12.2.fB.map (D.int .u8)) 12,.bool v12.2.fOk]))]) (nw:=(20125,20131)) (r:=.int .i64 v12.1) rfl rfl rfl rfl rfl (za6 20000 20000 (zba 20125 (zbe v11.2 v12 hv12))) (fun id b h=>zam [20000] _ id b h) (by simp) (.inr ⟨lb rfl,lb rfl⟩) ?_
 refine .rn 2 ?_
 refine .nn ?_
 refine⟨_,?_,(sj hx3).symm⟩
 exact .m [0,2,4] [20000,20100,20112] []
 replace hx3:=zae hx3 hc7
 refine .skip ?_
 refine⟨_,?_,(sj hx3).symm⟩
 exact .m [0,2,4] [20000,20100,20112] []
 rintro⟨l4,b3,n8⟩ hj2
 subst x3
 try dsimp only at hx1
 simp only[st66]
 obtain⟨v13,hv13,hx1⟩:=za3 hx1
 refine .rg zS [0,2,4] ?_
 refine .rn 1 ?_
 refine .hcall (H:=[(20000,.box [.imm 1 (l4.map (D.int .u8)) 12,.bool b3])]) (eff:=[(20000,some (.box [.imm 1 (v13.2.fB.map (D.int .u8)) 12,.bool v13.2.fOk]))]) (nw:=(20125,20131)) (r:=.int .i64 v13.1) rfl rfl rfl rfl rfl (za6 20000 20000 (zba 20125 (zbe (⟨l4,b3⟩:Tcommand_reader) v13 hv13))) (fun id b h=>zam [20000] _ id b h) (by simp) (.inr ⟨lb rfl,lb rfl⟩) ?_
 refine .rn 2 ?_
 refine .nn ?_
 refine⟨_,?_,(sj hx1).symm⟩
 refine .n0 1 3 ?_
 refine .n0 1 3 ?_
 refine .boxs 20112 _ [_,_,.ref 20131 1 0 0 (some uC),_,_,_,_,_,.ref 20132 1 0 0 (some uC),_,_,_] rfl (.keep (.keep (.cons (.own0 20131 _ _ _ (by decide)) (.keep (.keep (.keep (.keep (.keep (.cons (.own0 20132 _ _ _ (by decide)) (.refl _)))))))))) ?_
 exact .m [0,2,4] [20000,20100,20112,20131,20132] [(20131,20113),(20132,20114)]
 replace hx1:=zae hx1 hc6
 refine .skip ?_
 refine⟨_,?_,(sj hx1).symm⟩
 refine .n0 1 3 ?_
 refine .n0 1 3 ?_
 refine .boxs 20112 _ [_,_,.ref 20113 1 0 0 (some uC),_,_,_,_,_,.ref 20114 1 0 0 (some uC),_,_,_] rfl (.keep (.keep (.cons (.own0 20113 _ _ _ (by decide)) (.keep (.keep (.keep (.keep (.keep (.cons (.own0 20114 _ _ _ (by decide)) (.refl _)))))))))) ?_
 exact .m [0,2,4] [20000,20100,20112,20113,20114] []
 rintro⟨l1,b1,n1,l2,n2,s1,s2,n3,n4,l3,n5,n6,n7⟩ hj3
 subst x1
 try dsimp only at h
 simp only[st64]
 refine .sp [0,2,4] ?_
 obtain rfl:=sj h
 refine .ret ⟨st7 ((⟨(wr .u8 (min v1.1 255)),(⟨n1,l2,n2,s1,s2⟩:TMessage),n3,n4,l3,n5,n6,n7⟩:TCommand),(⟨l1,b1⟩:Tcommand_reader)),?_,.inr rfl,retH [20000,20101,20100] ?_ ?_⟩
 exact .m [0,2] [20000,20113,20114,20100] [(20113,20100),(20114,20101),(20100,20102)]
 exact rsi0
 rfl
@[go_sem] def st5(r:TCommand×Int):St:=⟨[(2,.ptr 2 0),(3,.int .i64 r.2)],[(0,.arr 3 1 true (r.1.Message.Groups.map (D.int .i64))),(1,.arr 3 1 true (r.1.Members.map (D.int .i64))),(2,.box [.int .u8 r.1.Kind,.int .i64 r.1.Message.Id,.ref 0 1 0 r.1.Message.Groups.length (some uC),.int .i64 r.1.Message.Topic,.str r.1.Message.Key,.str r.1.Message.Body,.int .i64 r.1.Id,.int .i64 r.1.Time,.ref 1 1 0 r.1.Members.length (some uC),.int .i64 r.1.Topic,.int .i64 r.1.Who,.int .i64 r.1.N])],3⟩
theorem zlb(a0:List UInt8)(r:TCommand×Int)(h:zcl a0=some r):zbv Tryz.prog 70 [.str a0] [] (.tuple [.agg [.int .u8 r.1.Kind,.int .i64 r.1.Message.Id,.ref 0 1 0 r.1.Message.Groups.length (some uC),.int .i64 r.1.Message.Topic,.str r.1.Message.Key,.str r.1.Message.Body,.int .i64 r.1.Id,.int .i64 r.1.Time,.ref 1 1 0 r.1.Members.length (some uC),.int .i64 r.1.Topic,.int .i64 r.1.Who,.int .i64 r.1.N],.int .i64 r.2]) [(0,some (.arr 3 1 true (r.1.Message.Groups.map (D.int .i64)))),(1,some (.arr 3 1 true (r.1.Members.map (D.int .i64))))] (0,56):=by
 refine zct Tryz.func70 ?_
 intro hwf
 unfold zcl at h
 refine .ends 0 (za4 _) ?_
 refine .sp [0] ?_
 refine .seq (.seq (.pl zS [0,2] ?_))
 refine .cd ?_ ?_<;>intro hc1
 replace h:=zab h hc1
 refine .sp [2] ?_
 obtain rfl:=sj h
 refine .ret ⟨st5 ((⟨0,(⟨0,[],0,[],[]⟩:TMessage),0,0,[],0,0,0⟩:TCommand),3),?_,.inr rfl,retH [1,0] ?_ ?_⟩
 refine .n0 1 3 ?_
 refine .n0 1 3 ?_
 refine .boxs 0 _ [_,_,.ref 1 1 0 0 (some uC),_,_,_,_,_,.ref 2 1 0 0 (some uC),_,_,_] rfl (.keep (.keep (.cons (.own0 1 _ _ _ (by decide)) (.keep (.keep (.keep (.keep (.keep (.cons (.own0 2 _ _ _ (by decide)) (.refl _)))))))))) ?_
 exact .m [2,3] [1,2,0] [(1,0),(2,1),(0,2)]
 exact rsi0
 rfl
 replace h:=zae h hc1
 refine .skip (.seq (.pl zS [0,2] ?_))
 refine .goes (.boxs 1 _ [.imm 1 ((zkm a0).map (D.int .u8)) 12,_] rfl (.cons (.newR _ _ rfl) (.refl _)) .refl) ?_
 obtain⟨v1,hv1,h⟩:=za3 h
 refine .sr [2,4] ?_
 refine .rn 1 ?_
 refine .hcall (H:=[(1,.box [.imm 1 ((zkm a0).map (D.int .u8)) 12,.bool true])]) (eff:=[(1,some (.box [.imm 1 (v1.2.fB.map (D.int .u8)) 12,.bool v1.2.fOk])),(2,some (.arr 3 1 true (v1.1.Message.Groups.map (D.int .i64)))),(3,some (.arr 3 1 true (v1.1.Members.map (D.int .i64))))]) (nw:=(2,51)) (r:=.agg [.int .u8 v1.1.Kind,.int .i64 v1.1.Message.Id,.ref 2 1 0 v1.1.Message.Groups.length (some uC),.int .i64 v1.1.Message.Topic,.str v1.1.Message.Key,.str v1.1.Message.Body,.int .i64 v1.1.Id,.int .i64 v1.1.Time,.ref 3 1 0 v1.1.Members.length (some uC),.int .i64 v1.1.Topic,.int .i64 v1.1.Who,.int .i64 v1.1.N]) rfl rfl rfl rfl rfl (zcg 2 (za6 20000 1 (zk7 (⟨(zkm a0),true⟩:Tcommand_reader) v1 hv1))) (fun id b h=>zam [1] _ id b h) (by simp) (.inr ⟨lb rfl,lb rfl⟩) ?_
 refine .rn 2 ?_
 refine .nn ?_
 refine .seq ?_
 obtain⟨v2,hv2,h⟩:=za3 h
 refine .sr [2,4,5] ?_
 refine .rn 6 ?_
 refine .rn 6 ?_
 refine .rn 3 ?_
 refine .glcall (r:=.int .i64 v2) [] rfl rfl rfl rfl rfl (fun hg=>⟨[],[.agg [.int .u8 v1.1.Kind,.int .i64 v1.1.Message.Id,.ref 2 1 0 v1.1.Message.Groups.length (some uC),.int .i64 v1.1.Message.Topic,.str v1.1.Message.Key,.str v1.1.Message.Body,.int .i64 v1.1.Id,.int .i64 v1.1.Time,.ref 3 1 0 v1.1.Members.length (some uC),.int .i64 v1.1.Topic,.int .i64 v1.1.Who,.int .i64 v1.1.N]],_,rfl,gd hg,(za9 (zhk (ya0h (za2 rfl (za2 rfl (za2 (zaf (zdz .i64) (by first|rfl|(simp only[go_sem,Nat.reduceBEq];rfl)) (by first|rfl|(simp;done)|(simp<;>omega))) (za2 rfl (za2 rfl (za2 rfl (za2 rfl (za2 rfl (za2 (zaf (zdz .i64) (by first|rfl|(simp only[go_sem,Nat.reduceBEq];rfl)) (by first|rfl|(simp;done)|(simp<;>omega))) (za2 rfl (za2 rfl (za2 rfl zc3))))))))))))) trivial) zaj),rfl,(zks v1.1 v2 (zab hv2 hg))⟩) ?_
 refine .rn 2 ?_
 refine .nn ?_
 refine .cd ?_ ?_<;>intro hc2
 replace h:=zab h hc2
 refine .sp [2] ?_
 obtain rfl:=sj h
 refine .ret ⟨st5 ((⟨0,(⟨0,[],0,[],[]⟩:TMessage),0,0,[],0,0,0⟩:TCommand),8),?_,.inr rfl,retH [1,0] ?_ ?_⟩
 refine .n0 1 3 ?_
 refine .n0 1 3 ?_
 refine .boxs 0 _ [_,_,.ref 52 1 0 0 (some uC),_,_,_,_,_,.ref 53 1 0 0 (some uC),_,_,_] rfl (.keep (.keep (.cons (.own0 52 _ _ _ (by decide)) (.keep (.keep (.keep (.keep (.keep (.cons (.own0 53 _ _ _ (by decide)) (.refl _)))))))))) ?_
 exact .m [2,3] [52,53,0] [(52,0),(53,1),(0,2)]
 exact rsi0
 rfl
 replace h:=zae h hc2
 refine .skip (.seq (.pl zS [2,5] ?_))
 obtain rfl:=sj h
 refine .ret ⟨st5 (v1.1,0),?_,.inr rfl,retH [1,0] ?_ ?_⟩
 exact .m [2,3] [2,3,0] [(2,0),(3,1),(0,2)]
 exact rsi0
 rfl
theorem zpx(a0:List UInt8)(r:TCommand×Int)(h:zcl a0=some r):zbi Tryz.prog 70 [.str a0] (.tuple [.agg [.int .u8 r.1.Kind,.int .i64 r.1.Message.Id,.imm 1 (r.1.Message.Groups.map (D.int .i64)) 13,.int .i64 r.1.Message.Topic,.str r.1.Message.Key,.str r.1.Message.Body,.int .i64 r.1.Id,.int .i64 r.1.Time,.imm 1 (r.1.Members.map (D.int .i64)) 13,.int .i64 r.1.Topic,.int .i64 r.1.Who,.int .i64 r.1.N],.int .i64 r.2]):=
 zgb (zmj (za8 (zkp (za8 rfl (za8 rfl (za8 (zbd zbt rfl rfl) (za8 rfl (za8 rfl (za8 rfl (za8 rfl (za8 rfl (za8 (zbd zbt rfl rfl) (za8 rfl (za8 rfl (za8 rfl zep))))))))))))) (za8 rfl zep))) (zlb a0 r h)
@[go_sem] def st71(l1:List TCommand):St:=⟨[(2,.ref 0 12 0 l1.length (some uC))],[(0,.arr 89 12 true (l1.map TCommand.n))],1⟩
@[go_sem] def st72(a0:List (List UInt8))(n1:Nat)(l2:List TCommand):St:=⟨[(2,.ref 0 12 0 l2.length (some uC)),(11,.imm 1 (a0.map D.str) 4),(12,.int .i64 (a0.length:Int)),(13,.int .i64 (n1:Int))],[(0,.arr 89 12 true (l2.map TCommand.n))],1⟩
@[go_sem] def st16(r:(List TCommand)×Int):St:=⟨[(2,.ref 0 12 0 r.1.length (some uC)),(3,.int .i64 r.2)],[(0,.arr 89 12 true (r.1.map TCommand.n))],1⟩
theorem zla(a0:List (List UInt8))(r:(List TCommand)×Int)(h:zf3 a0=some r):zbv Tryz.prog 60 [.imm 1 (a0.map D.str) 4] [] (.tuple [.ref 0 12 0 r.1.length (some uC),.int .i64 r.2]) [(0,some (.arr 89 12 true (r.1.map TCommand.n)))] (0,6):=by
 refine zct Tryz.func60 ?_
 intro hwf
 unfold zf3 at h
 refine .ends 0 (za4 _) ?_
 refine .sp [0] ?_
 refine .seq (.seq (.pl zS [0,2] ?_))
 refine .cd ?_ ?_<;>intro hc1
 replace h:=zab h hc1
 refine .sp [] ?_
 obtain rfl:=sj h
 refine .ret ⟨st16 ([],4),?_,.inr rfl,retH [0] ?_ ?_⟩
 refine .n0 12 89 ?_
 refine .w0 2 0 12 ?_
 exact .m [2,3] [0] []
 exact rsi0
 rfl
 replace h:=zae h hc1
 obtain⟨x1,hx1,h⟩:=za3 h
 refine .skip ?_
 refine .seqM 0 (fun(j:(List TCommand))=>st71 j) (fun j=>x1=(.inr j)) (lb rfl) ?_ ?_
 refine .sp [0,2] ?_
 refine .block ?_
 refine .loopG 0 (fun(j:Nat×(List TCommand))=>st72 a0 j.1 j.2) (fun j=>j.1<=a0.length/\zcn (a0.drop j.1) j.2=some x1) (fun j=>a0.length-j.1) (0,[]) (lb rfl) ?_ ⟨Nat.zero_le _,hx1⟩ ?_
 refine .n0 12 89 ?_
 refine .w0 2 0 12 ?_
 exact .m [2,11,12,13] [0] []
 rintro⟨n1,l2⟩ ⟨hi1,hx1⟩
 simp only[st72]
 simp only at hi1 hx1
 refine .wf 12 (.int .i64 (a0.length:Int)) rfl ?_
 intro hln1
 replace hln1:=wfn hln1
 refine .sp [2,11,12,13] ?_
 refine .seq (.cd (fun hc2=>?_) (fun hc2=>?_))
 have h1:n1<a0.length:=by simpa using hc2
 have hwn1:=zdr h1 hln1
 have hpn1:=ze3 h1 hln1
 rw[za7 h1,zgx] at hx1
 refine .skip (.seq (.block (.seq ?_)))
 have e1:=zdb D.str a0 n1 h1
 refine .plx zS (ai e1 hwn1) [2,11,12,13] ?_
 refine .seq ?_
 obtain⟨v1,hv1,hx1⟩:=za3 hx1
 refine .rg zS [2,5,11,12,13] ?_
 refine .rnx 1 hwn1 ?_
 refine .cl (zpx (a0[n1]) v1 hv1) ?_
 refine .rnx 6 hwn1 ?_
 refine .nn ?_
 refine .seq (.seq (.plx zS hwn1 [2,6,7,11,12,13] ?_))
 refine .cd ?_ ?_<;>intro hc3
 replace hx1:=zab hx1 hc3
 refine .seq (.plx zS hwn1 [] ?_)
 have hq:=sj hx1
 subst x1
 try dsimp only at h
 obtain rfl:=sj h
 refine .ret ⟨st16 ([],8),?_,.inr rfl,retH [0] ?_ ?_⟩
 refine .n0 12 89 ?_
 refine .w0 2 2 12 ?_
 exact .m [2,3] [2] [(2,0)]
 exact rsi0
 rfl
 replace hx1:=zae hx1 hc3
 refine .skip ?_
 obtain⟨k1,hx1⟩:=zbc hx1
 refine .plx zS hwn1 [2,6,11,12,13] ?_
 refine .plx zS hwn1 [2,11,12,13] ?_
 refine⟨(n1+1,_),?_,⟨by omega,hx1⟩,by dsimp only;omega⟩
 exact .m [2,11,12,13] [3] [(3,0)]
 have h2:n1=a0.length:=by have h2b:=of_decide_eq_false hc2;omega
 rw[zac (by omega),zgw] at hx1
 refine .exit ?_
 refine⟨_,?_,(sj hx1).symm⟩
 exact .m [2] [0] []
 rintro l1 hj1
 subst x1
 try dsimp only at h
 simp only[st71]
 refine .sp [2] ?_
 obtain rfl:=sj h
 refine .ret ⟨st16 (l1,0),?_,.inr rfl,retH [0] ?_ ?_⟩
 exact .m [2,3] [0] []
 exact rsi0
 rfl
end Go.Proofs
namespace Go.Proofs
open Go.Tm
set_option linter.unusedVariables false
def zbr(a0:TGroup):Option Int:=
 Option.bind (zcd a0.Roster) fun v1=>
 if ¬(v1=0) then
 some v1
 else
 Option.bind (zcd a0.Members) fun v2=>
 if ¬(v2=0) then
 some v2
 else
 Option.bind (zgf a0.Members) fun v3=>
 Option.bind (zgf a0.Roster) fun v4=>
 if ¬((bitw .andNot .u64 v3 v4)=0) then
 some 60
 else
 some 0
def zie(a0:TVote):Option Int:=
 Option.bind (if ¬(a0.Promised=0) then zcy a0.Promised else some default) fun v1=>
 Option.bind (α:=Bool) (if a0.Ballot=0 then
 some (((a0.Promised==0)||(v1==0))&&(a0.Value==[]))
 else
 Option.bind (if(a0.Promised=0)\/(v1=0) then zcy a0.Ballot else some default) fun v2=>
 some (((((a0.Promised==0)||(v1==0))&&(v2==0))&&(decide (a0.Ballot<=a0.Promised)))&&(decide ((a0.Value.length:Int)<=1024)))) fun b1=>
 if ¬(b1=true) then
 some 8
 else
 some 0
def zid(a0:TVote)(a1:Int)(a2:List UInt8):Option Int:=
 Option.bind (zie a0) fun v1=>
 if ¬(v1=0) then
 some v1
 else
 Option.bind (zcy a1) fun v2=>
 if ¬(v2=0) then
 some v2
 else
 if(a2.length:Int)>1024 then
 some 3
 else
 if a1<a0.Promised then
 some 70
 else
 some 0
def zgt(a0:TVote)(a1:Int):Option (TVote×Int):=
 Option.bind (zid a0 a1 []) fun v1=>
 if ¬(v1=0) then
 some ((⟨0,0,[]⟩:TVote),v1)
 else
 some ((⟨a1,a0.Ballot,a0.Value⟩:TVote),0)
def zhh(a0:TVote)(a1:Int)(a2:List UInt8):Option (TVote×Int):=
 Option.bind (zid a0 a1 a2) fun v1=>
 if ¬(v1=0) then
 some ((⟨0,0,[]⟩:TVote),v1)
 else
 some ((⟨a1,a1,a2⟩:TVote),0)
def ziw(a0:Int)(a1:Int):Option (Int×Int):=
 Option.bind (zgl a1) fun v1=>
 if((¬(v1=true))\/(a0<0))\/(a0>8388613) then
 some (0,2)
 else
 Option.bind (α:=Int) (if((wr .i64 ((wr .i64 ((wr .i64 (a0.tdiv 8))*8))+a1))<=a0)\/((wr .i64 ((wr .i64 ((wr .i64 (a0.tdiv 8))*8))+a1))<8) then
 some (wr .i64 ((wr .i64 ((wr .i64 ((wr .i64 (a0.tdiv 8))*8))+a1))+8))
 else
 some (wr .i64 ((wr .i64 ((wr .i64 (a0.tdiv 8))*8))+a1))) fun n1=>
 if n1>8388613 then
 some (0,9)
 else
 some (n1,0)
def zkn(a0:List (List UInt8)):Option Int:=
 Option.bind (zf3 a0) fun v1=>
 some v1.2
end Go.Proofs
