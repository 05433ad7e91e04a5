/- Texts of the proof. -/
import Derived.WideKeyArgs
import Derived.ChangeSame
import Derived.ChangeArms
import Derived.OpenShut
import Derived.Carry
import Derived.RangeFuncIn
import Derived.RangeFuncLeaves
import Derived.RangeFuncRecord
import Derived.WalkKit
import Derived.Test.YtbedjbhndfbpcaaGreatSeatOnePp
import Derived.Test.YtbedjbhndfbpcaaGreatSeatOnePo
import Derived.Test.YtbedjbhndfbpcaaGreatSeatOnePq
import Derived.Test.YtbedjbhndfbpcaaGreatSeatOnePr
import Derived.Test.YtbedjbhndfbpcaaGreatSeatOnePs
import Derived.Test.YtbedjbhndfbpcaaGreatSeatOnePt
import Derived.Test.YtbedjbhndfbpcaaGreatSeatOnePl
set_option linter.unusedVariables false
set_option linter.unusedSimpArgs false
namespace Go.Proofs
open Go.Tm Go.RowKit Go.WideShapes
set_option maxRecDepth 100000
set_option maxHeartbeats 4000000
set_option linter.unusedSimpArgs false
set_option linter.unusedVariables false
theorem zf2(a0:TGroup)(r:Int)(h:zbr a0=some r):zbi Tryz.prog 5 [.agg [.imm 1 (a0.Roster.map (D.int .i64)) 4,.imm 1 (a0.Members.map (D.int .i64)) 4]] (.int .i64 r):=by
 refine zbp 3 Tryz.func5 ?_
 intro hwf
 unfold zbr at h
 refine .sp [0] ?_
 refine .seq ?_
 obtain⟨v1,hv1,h⟩:=za3 h
 refine .sr [1] ?_
 refine .rn 2 ?_
 refine .cl (zer a0.Roster v1 hv1) ?_
 refine .rn 1 ?_
 refine .nn ?_
 refine .sp [1,3] ?_
 refine .cd ?_ ?_<;>intro hc1
 replace h:=zab h hc1
 refine .sp [3] ?_
 obtain rfl:=sj h
 exact .rr
 replace h:=zae h hc1
 refine .skip (.seq ?_)
 obtain⟨v2,hv2,h⟩:=za3 h
 refine .sr [1] ?_
 refine .rn 2 ?_
 refine .cl (zer a0.Members v2 hv2) ?_
 refine .rn 1 ?_
 refine .nn ?_
 refine .sp [1,4] ?_
 refine .cd ?_ ?_<;>intro hc2
 replace h:=zab h hc2
 refine .sp [4] ?_
 obtain rfl:=sj h
 exact .rr
 replace h:=zae h hc2
 refine .skip (.seq ?_)
 obtain⟨v3,hv3,h⟩:=za3 h
 obtain⟨v4,hv4,h⟩:=za3 h
 refine .sr [1] ?_
 refine .rd 2 ?_
 refine .cl (zi4 a0.Members v3 hv3) ?_
 refine .rd 2 ?_
 refine .cl (zi4 a0.Roster v4 hv4) ?_
 refine .rd 2 ?_
 refine .nd ?_
 refine .cd ?_ ?_<;>intro hc3
 replace h:=zab h hc3
 refine .sp [] ?_
 obtain rfl:=sj h
 exact .rr
 replace h:=zae h hc3
 refine .skip (.seq (.pl zS [] ?_))
 obtain rfl:=sj h
 exact .rr
@[go_sem] def ya8d(b1:Bool):St:=⟨[(3,.bool b1)],[],1⟩
theorem zmt(a0:TVote)(r:Int)(h:zie a0=some r):zbi Tryz.prog 37 [.agg [.int .i64 a0.Promised,.int .i64 a0.Ballot,.str a0.Value]] (.int .i64 r):=by
 refine zbp 3 Tryz.func37 ?_
 intro hwf
 unfold zie at h
 refine .sp [0] ?_
 obtain⟨v1,hv1,h⟩:=za3 h
 refine .sr [1] ?_
 refine .rn 6 ?_
 refine .gcall rfl rfl rfl rfl rfl (fun hg=>⟨[],[.int .i64 a0.Promised],_,rfl,gd hg,rfl,(zdw a0.Promised v1 (zab hv1 hg))⟩) ?_
 refine .rn 3 ?_
 refine .nn ?_
 obtain⟨x1,hx1,h⟩:=za3 h
 refine .seqM 1 (fun(j:Bool)=>ya8d j) (fun j=>x1=j) (lb rfl) ?_ ?_
 refine .sp [1,3] ?_
 refine .cd ?_ ?_<;>intro hc1
 replace hx1:=zab hx1 hc1
 refine .pl zS [1,3] ?_
 refine⟨_,?_,(sj hx1).symm⟩
 exact .m [3] [] []
 replace hx1:=zae hx1 hc1
 obtain⟨v2,hv2,hx1⟩:=za3 hx1
 refine .rg zS [1,3] ?_
 refine .rn 4 ?_
 refine .gcall rfl rfl rfl rfl rfl (fun hg=>⟨[],[.int .i64 a0.Ballot],_,rfl,gd hg,rfl,(zdw a0.Ballot v2 (zab hv2 hg))⟩) ?_
 refine .rn 6 ?_
 refine .rn 6 ?_
 refine .rn 4 ?_
 refine .nn ?_
 refine⟨_,?_,(sj hx1).symm⟩
 exact .m [3] [] []
 rintro b1 hj1
 subst x1
 try dsimp only at h
 simp only[ya8d]
 refine .seq (.seq (.pl zS [3] ?_))
 refine .cd ?_ ?_<;>intro hc2
 replace h:=zab h hc2
 refine .sp [] ?_
 obtain rfl:=sj h
 exact .rr
 replace h:=zae h hc2
 refine .skip (.seq (.pl zS [] ?_))
 obtain rfl:=sj h
 exact .rr
theorem zms(a0:TVote)(a1:Int)(a2:List UInt8)(r:Int)(h:zid a0 a1 a2=some r):zbi Tryz.prog 81 [.agg [.int .i64 a0.Promised,.int .i64 a0.Ballot,.str a0.Value],.int .i64 a1,.str a2] (.int .i64 r):=by
 refine zbp 3 Tryz.func81 ?_
 intro hwf
 unfold zid at h
 refine .sp [0,1,2] ?_
 refine .seq ?_
 obtain⟨v1,hv1,h⟩:=za3 h
 refine .sr [1,2,3] ?_
 refine .rn 1 ?_
 refine .cl (zmt a0 v1 hv1) ?_
 refine .rn 1 ?_
 refine .nn ?_
 refine .sp [1,2,3,7] ?_
 refine .cd ?_ ?_<;>intro hc1
 replace h:=zab h hc1
 refine .sp [7] ?_
 obtain rfl:=sj h
 exact .rr
 replace h:=zae h hc1
 refine .skip (.seq ?_)
 obtain⟨v2,hv2,h⟩:=za3 h
 refine .sr [1,2,3] ?_
 refine .rn 1 ?_
 refine .cl (zdw a1 v2 hv2) ?_
 refine .rn 1 ?_
 refine .nn ?_
 refine .sp [1,2,3,8] ?_
 refine .cd ?_ ?_<;>intro hc2
 replace h:=zab h hc2
 refine .sp [8] ?_
 obtain rfl:=sj h
 exact .rr
 replace h:=zae h hc2
 refine .skip (.seq (.seq (.pl zS [1,2,3] ?_)))
 refine .cd ?_ ?_<;>intro hc3
 replace h:=zab h hc3
 refine .sp [] ?_
 obtain rfl:=sj h
 exact .rr
 replace h:=zae h hc3
 refine .skip (.seq (.seq (.pl zS [1,3] ?_)))
 refine .cd ?_ ?_<;>intro hc4
 replace h:=zab h hc4
 refine .sp [] ?_
 obtain rfl:=sj h
 exact .rr
 replace h:=zae h hc4
 refine .skip (.seq (.pl zS [] ?_))
 obtain rfl:=sj h
 exact .rr
theorem zl8(a0:TVote)(a1:Int)(r:TVote×Int)(h:zgt a0 a1=some r):zbi Tryz.prog 54 [.agg [.int .i64 a0.Promised,.int .i64 a0.Ballot,.str a0.Value],.int .i64 a1] (.tuple [.agg [.int .i64 r.1.Promised,.int .i64 r.1.Ballot,.str r.1.Value],.int .i64 r.2]):=by
 refine zbp 4 Tryz.func54 ?_
 intro hwf
 unfold zgt at h
 refine .sp [0,1] ?_
 refine .seq ?_
 obtain⟨v1,hv1,h⟩:=za3 h
 refine .sr [1,2,4] ?_
 refine .rn 2 ?_
 refine .cl (zms a0 a1 [] v1 hv1) ?_
 refine .rn 1 ?_
 refine .nn ?_
 refine .sp [1,2,4,6] ?_
 refine .cd ?_ ?_<;>intro hc1
 replace h:=zab h hc1
 refine .sp [4,6] ?_
 obtain rfl:=sj h
 exact .rr
 replace h:=zae h hc1
 refine .skip (.seq (.pl zS [1,2,4] ?_))
 refine .sp [2,4] ?_
 obtain rfl:=sj h
 exact .rr
theorem zly(a0:TVote)(a1:Int)(a2:List UInt8)(r:TVote×Int)(h:zhh a0 a1 a2=some r):zbi Tryz.prog 75 [.agg [.int .i64 a0.Promised,.int .i64 a0.Ballot,.str a0.Value],.int .i64 a1,.str a2] (.tuple [.agg [.int .i64 r.1.Promised,.int .i64 r.1.Ballot,.str r.1.Value],.int .i64 r.2]):=by
 refine zbp 4 Tryz.func75 ?_
 intro hwf
 unfold zhh at h
 refine .sp [0,1,2] ?_
 refine .seq ?_
 obtain⟨v1,hv1,h⟩:=za3 h
 refine .sr [1,2,3,6] ?_
 refine .rn 3 ?_
 refine .cl (zms a0 a1 a2 v1 hv1) ?_
 refine .rn 1 ?_
 refine .nn ?_
 refine .sp [1,2,6,8] ?_
 refine .cd ?_ ?_<;>intro hc1
 replace h:=zab h hc1
 refine .sp [6,8] ?_
 obtain rfl:=sj h
 exact .rr
 replace h:=zae h hc1
 refine .skip (.seq (.pl zS [1,2,6] ?_))
 obtain rfl:=sj h
 exact .rr
@[go_sem] def st59(n1:Int):St:=⟨[(6,.int .i64 n1)],[],0⟩
theorem zr1(a0:Int)(a1:Int)(r:Int×Int)(h:ziw a0 a1=some r):zbi Tryz.prog 53 [.int .i64 a0,.int .i64 a1] (.tuple [.int .i64 r.1,.int .i64 r.2]):=by
 refine zbp 2 Tryz.func53 ?_
 intro hwf
 unfold ziw at h
 refine .sp [0,1] ?_
 refine .seq ?_
 obtain⟨v1,hv1,h⟩:=za3 h
 refine .sr [0,1] ?_
 refine .rn 1 ?_
 refine .cl (zm1 a1 v1 hv1) ?_
 refine .rn 6 ?_
 refine .rn 3 ?_
 refine .nn ?_
 refine .cd ?_ ?_<;>intro hc1
 replace h:=zab h hc1
 refine .sp [] ?_
 obtain rfl:=sj h
 exact .rr
 replace h:=zae h hc1
 refine .skip (.seq (.pl zS [0,1] ?_))
 obtain⟨x1,hx1,h⟩:=za3 h
 refine .seqM 0 (fun(j:Int)=>st59 j) (fun j=>x1=j) (lb rfl) ?_ ?_
 refine .sp [0,6] ?_
 refine .cd ?_ ?_<;>intro hc2
 replace hx1:=zab hx1 hc2
 refine .pl zS [6] ?_
 refine⟨_,?_,(sj hx1).symm⟩
 exact .m [6] [] []
 replace hx1:=zae hx1 hc2
 refine .skip ?_
 refine⟨_,?_,(sj hx1).symm⟩
 exact .m [6] [] []
 rintro n1 hj1
 subst x1
 try dsimp only at h
 simp only[st59]
 refine .seq (.seq (.pl zS [6] ?_))
 refine .cd ?_ ?_<;>intro hc3
 replace h:=zab h hc3
 refine .sp [] ?_
 obtain rfl:=sj h
 exact .rr
 replace h:=zae h hc3
 refine .skip (.seq (.pl zS [6] ?_))
 obtain rfl:=sj h
 exact .rr
theorem ztq(a0:List (List UInt8))(r:Int)(h:zkn a0=some r):zbi Tryz.prog 35 [.imm 1 (a0.map D.str) 4] (.int .i64 r):=by
 refine zbp 14 Tryz.func35 ?_
 intro hwf
 unfold zkn at h
 refine .sp [0] ?_
 obtain⟨v1,hv1,h⟩:=za3 h
 refine .sr [0] ?_
 refine .rn 1 ?_
 refine .ncall (r:=.tuple [.ref 6 12 0 v1.1.length (some uC),.int .i64 v1.2]) (eff:=[(6,some (.arr 89 12 true (v1.1.map TCommand.n)))]) (nw:=(6,12)) [] rfl rfl rfl rfl rfl (za9 rfl zaj) rfl (zcu 6 (lb rfl) (zla a0 v1 hv1)) (zay rfl rfl (ya3n zx6 _ _ _) zd5) (by intro i hi;simp[D.ids,D.idsL] at hi<;>omega) rfl ⟨lb rfl,lb rfl⟩ ?_
 refine .rn 5 ?_
 refine .nn ?_
 refine .sp [4] ?_
 obtain rfl:=sj h
 exact .rr
end Go.Proofs
namespace Go.Proofs
open Go.Tm
set_option linter.unusedVariables false
def zb9(a1:Int->Option Bool):List Int->Nat->Option (Int ⊕ Unit)
 |[],n1=>
  some (.inr ())
 |y1::rest1,n1=>
  Option.bind (a1 (y1)) fun v1=>
  if v1=true then
  some (.inl (n1:Int))
  else
  zb9 a1 rest1 (n1+1)
def ze1(a0:List Int)(a1:Int->Option Bool):Option Int:=
 Option.bind (α:=Int ⊕ Unit) (zb9 a1 a0 0) fun z=>match z with
 |(.inl r)=>some r
 |(.inr _)=>
 some (-1)
def zci(a0:List Int)(a1:Int->Option Bool):Option Bool:=
 Option.bind (ze1 a0 a1) fun v1=>
 some (decide (v1>=0))
def zfa(a0:Int)(c0:TGroup):Option Bool:=
 Option.bind (zdl c0.Roster a0) fun v1=>
 some (!v1)
def zb4(a1:(List UInt8)->Option Bool):List (List UInt8)->Nat->Option (Int ⊕ Unit)
 |[],n1=>
  some (.inr ())
 |y1::rest1,n1=>
  Option.bind (a1 (y1)) fun v1=>
  if v1=true then
  some (.inl (n1:Int))
  else
  zb4 a1 rest1 (n1+1)
def zbs(a0:List (List UInt8))(a1:(List UInt8)->Option Bool):Option Int:=
 Option.bind (α:=Int ⊕ Unit) (zb4 a1 a0 0) fun z=>match z with
 |(.inl r)=>some r
 |(.inr _)=>
 some (-1)
def zc4(a0:List UInt8)(c0:List UInt8):Option Bool:=
 some (a0==c0)
end Go.Proofs
namespace Go.Proofs
open Go.Tm Go.RowKit Go.WideShapes
set_option maxRecDepth 100000
set_option maxHeartbeats 4000000
set_option linter.unusedSimpArgs false
set_option linter.unusedVariables false
@[go_sem] def ya97:St:=⟨[],[],0⟩
@[go_sem] def ya96(a0:List Int)(Ka1:Nat)(ca1:List D)(n1:Nat):St:=⟨[(0,.imm 1 (a0.map (D.int .i64)) 4),(1,.fn (.func Ka1) ca1),(7,.int .i64 (a0.length:Int)),(8,.int .i64 (n1:Int))],[],0⟩
theorem zjh(a0:List Int)(Ka1:Nat)(ca1:List D)(hca1:∀hp,zei hp ca1=(ca1,true))(h2a1:∀hp,zex hp ca1=(ca1,true))(h3a1:∀hp,zjf hp ca1=[])(a1:Int->Option Bool)(ha1:∀x0 y,a1 x0=some y->zbi Tryz.prog Ka1 (.int .i64 x0::ca1) (.bool y))(r:Int)(h:ze1 a0 a1=some r):zbi Tryz.prog 119 [.imm 1 (a0.map (D.int .i64)) 4,.fn (.func Ka1) ca1] (.int .i64 r):=by
 refine zbp 2 Tryz.func119 ?_
 intro hwf
 unfold ze1 at h
 refine .sp [0,1] ?_
 obtain⟨x1,hx1,h⟩:=za3 h
 refine .seqM 0 (fun(j:Unit)=>ya97) (fun j=>x1=(.inr j)) (lb rfl) ?_ ?_
 refine .sp [0,1] ?_
 refine .block ?_
 refine .loopG 0 (fun(j:Nat)=>ya96 a0 Ka1 ca1 j) (fun j=>j<=a0.length/\zb9 a1 (a0.drop j) j=some x1) (fun j=>a0.length-j) (0) (lb rfl) ?_ ⟨Nat.zero_le _,hx1⟩ ?_
 exact .mq (zdk hca1) (zdf hca1) [0,1,7,8] [] []
 rintro n1 ⟨hi1,hx1⟩
 simp only[ya96]
 refine .wf 7 (.int .i64 (a0.length:Int)) rfl ?_
 intro hln1
 replace hln1:=wfn hln1
 refine .sp [0,1,7,8] ?_
 refine .seq (.cd (fun hc1=>?_) (fun hc1=>?_))
 have h1:n1<a0.length:=by simpa using hc1
 have hwn1:=zdr h1 hln1
 have hpn1:=ze3 h1 hln1
 rw[za7 h1,zb9] at hx1
 refine .skip (.seq (.block (.seq (.plx zS hwn1 [0,1,7,8] ?_))))
 refine .seq ?_
 obtain⟨v1,hv1,hx1⟩:=za3 hx1
 have e1:=zdb (D.int .i64) a0 n1 h1
 refine .rg zS [0,1,5,7,8] ?_
 refine .rnx 5 (ai e1 hwn1) ?_
 refine .call (r:=.bool v1) rfl rfl rfl rfl rfl (za2 rfl (hca1 _)) (ha1 _ v1 hv1) ?_
 refine .nn ?_
 refine .cd ?_ ?_<;>intro hc2
 replace hx1:=zab hx1 hc2
 refine .seq (.plx zS hwn1 [5] ?_)
 have hq:=sj hx1
 subst x1
 try dsimp only at h
 obtain rfl:=sj h
 exact .rr
 replace hx1:=zae hx1 hc2
 refine .skip (.plx zS hwn1 [0,1,7,8] ?_)
 refine⟨n1+1,?_,⟨by omega,hx1⟩,by dsimp only;omega⟩
 exact .mq (zdk hca1) (zdf hca1) [0,1,7,8] [] []
 have h2:n1=a0.length:=by have h2b:=of_decide_eq_false hc1;omega
 rw[zac (by omega),zb9] at hx1
 refine .exit ?_
 refine⟨_,?_,(sj hx1).symm⟩
 exact .mq (zdk hca1) (zdf hca1) [] [] []
 rintro⟨⟩ hj1
 subst x1
 try dsimp only at h
 simp only[ya97]
 refine .sp [] ?_
 obtain rfl:=sj h
 exact .rr
theorem zfn(a0:List Int)(Ka1:Nat)(ca1:List D)(hca1:∀hp,zei hp ca1=(ca1,true))(h2a1:∀hp,zex hp ca1=(ca1,true))(h3a1:∀hp,zjf hp ca1=[])(a1:Int->Option Bool)(ha1:∀x0 y,a1 x0=some y->zbi Tryz.prog Ka1 (.int .i64 x0::ca1) (.bool y))(r:Bool)(h:zci a0 a1=some r):zbi Tryz.prog 97 [.imm 1 (a0.map (D.int .i64)) 4,.fn (.func Ka1) ca1] (.bool r):=by
 refine zbp 2 Tryz.func97 ?_
 intro hwf
 unfold zci at h
 refine .sp [0,1] ?_
 obtain⟨v1,hv1,h⟩:=za3 h
 refine .sr [0,1] ?_
 refine .rn 2 ?_
 refine .lcall (r:=.int .i64 v1) [] rfl rfl rfl rfl rfl (za9 rfl (za9 (zk0 (h2a1 _)) zaj)) (by show zjf _ [.imm 1 (a0.map (D.int .i64)) 4,.fn (.func Ka1) ca1]=_;simp only[zjf,ids2,zag,zas,zb2,h3a1]) (zjh a0 Ka1 ca1 hca1 h2a1 h3a1 a1 ha1 v1 hv1) ?_
 refine .rn 2 ?_
 refine .nn ?_
 obtain rfl:=sj h
 exact .rr
theorem zkr(a0:Int)(c0:TGroup)(r:Bool)(h:zfa a0 c0=some r):zbi Tryz.prog 98 [.int .i64 a0,.iptr 0 [.imm 1 (c0.Roster.map (D.int .i64)) 4,.imm 1 (c0.Members.map (D.int .i64)) 4]] (.bool r):=by
 refine zbp 2 Tryz.func98 ?_
 intro hwf
 unfold zfa at h
 refine .sp [0,1] ?_
 obtain⟨v1,hv1,h⟩:=za3 h
 refine .sr [0,1] ?_
 refine .rn 3 ?_
 refine .cl (zdg c0.Roster a0 v1 hv1) ?_
 refine .rn 2 ?_
 refine .nn ?_
 obtain rfl:=sj h
 exact .rr
@[go_sem] def ya95:St:=⟨[],[],0⟩
@[go_sem] def ya94(a0:List (List UInt8))(Ka1:Nat)(ca1:List D)(n1:Nat):St:=⟨[(0,.imm 1 (a0.map D.str) 4),(1,.fn (.func Ka1) ca1),(7,.int .i64 (a0.length:Int)),(8,.int .i64 (n1:Int))],[],0⟩
theorem zhw(a0:List (List UInt8))(Ka1:Nat)(ca1:List D)(hca1:∀hp,zei hp ca1=(ca1,true))(h2a1:∀hp,zex hp ca1=(ca1,true))(h3a1:∀hp,zjf hp ca1=[])(a1:(List UInt8)->Option Bool)(ha1:∀x0 y,a1 x0=some y->zbi Tryz.prog Ka1 (.str x0::ca1) (.bool y))(r:Int)(h:zbs a0 a1=some r):zbi Tryz.prog 104 [.imm 1 (a0.map D.str) 4,.fn (.func Ka1) ca1] (.int .i64 r):=by
 refine zbp 2 Tryz.func104 ?_
 intro hwf
 unfold zbs at h
 refine .sp [0,1] ?_
 obtain⟨x1,hx1,h⟩:=za3 h
 refine .seqM 0 (fun(j:Unit)=>ya95) (fun j=>x1=(.inr j)) (lb rfl) ?_ ?_
 refine .sp [0,1] ?_
 refine .block ?_
 refine .loopG 0 (fun(j:Nat)=>ya94 a0 Ka1 ca1 j) (fun j=>j<=a0.length/\zb4 a1 (a0.drop j) j=some x1) (fun j=>a0.length-j) (0) (lb rfl) ?_ ⟨Nat.zero_le _,hx1⟩ ?_
 exact .mq (zdk hca1) (zdf hca1) [0,1,7,8] [] []
 rintro n1 ⟨hi1,hx1⟩
 simp only[ya94]
 refine .wf 7 (.int .i64 (a0.length:Int)) rfl ?_
 intro hln1
 replace hln1:=wfn hln1
 refine .sp [0,1,7,8] ?_
 refine .seq (.cd (fun hc1=>?_) (fun hc1=>?_))
 have h1:n1<a0.length:=by simpa using hc1
 have hwn1:=zdr h1 hln1
 have hpn1:=ze3 h1 hln1
 rw[za7 h1,zb4] at hx1
 refine .skip (.seq (.block (.seq (.plx zS hwn1 [0,1,7,8] ?_))))
 refine .seq ?_
 obtain⟨v1,hv1,hx1⟩:=za3 hx1
 have e1:=zdb D.str a0 n1 h1
 refine .rg zS [0,1,5,7,8] ?_
 refine .rnx 5 (ai e1 hwn1) ?_
 refine .call (r:=.bool v1) rfl rfl rfl rfl rfl (za2 rfl (hca1 _)) (ha1 _ v1 hv1) ?_
 refine .nn ?_
 refine .cd ?_ ?_<;>intro hc2
 replace hx1:=zab hx1 hc2
 refine .seq (.plx zS hwn1 [5] ?_)
 have hq:=sj hx1
 subst x1
 try dsimp only at h
 obtain rfl:=sj h
 exact .rr
 replace hx1:=zae hx1 hc2
 refine .skip (.plx zS hwn1 [0,1,7,8] ?_)
 refine⟨n1+1,?_,⟨by omega,hx1⟩,by dsimp only;omega⟩
 exact .mq (zdk hca1) (zdf hca1) [0,1,7,8] [] []
 have h2:n1=a0.length:=by have h2b:=of_decide_eq_false hc1;omega
 rw[zac (by omega),zb4] at hx1
 refine .exit ?_
 refine⟨_,?_,(sj hx1).symm⟩
 exact .mq (zdk hca1) (zdf hca1) [] [] []
 rintro⟨⟩ hj1
 subst x1
 try dsimp only at h
 simp only[ya95]
 refine .sp [] ?_
 obtain rfl:=sj h
 exact .rr
theorem zj0(a0:List UInt8)(c0:List UInt8)(r:Bool)(h:zc4 a0 c0=some r):zbi Tryz.prog 80 [.str a0,.iptr 0 [.str c0]] (.bool r):=by
 refine zbp 2 Tryz.func80 ?_
 intro hwf
 unfold zc4 at h
 refine .sp [0,1] ?_
 refine .sp [0,1] ?_
 obtain rfl:=sj h
 exact .rr
end Go.Proofs
namespace Go.Proofs
open Go.Tm
set_option linter.unusedVariables false
def zg5(a0:Int)(a1:Int)(a2:Int):Option Bool:=
 some ((decide (a0>=a1))&&(decide (a0<=a2)))
def zeb(a0:TMail)(a1:Int)(a2:Int):Option Bool:=
 Option.bind (α:=Unit ⊕ (Unit ⊕ (Bool ⊕ Unit))) (if a1=115 then
 Option.bind (zg5 a2 1 200) fun v1=>
 some (.inr (.inr (.inl (v1||((a0.Kind==7)&&(a2==201))))))
 else
 if a1=112 then
 if(a0.Kind=2)/\(a2=0) then
 some (.inr (.inr (.inl (a0.Value==[]))))
 else
 some (.inr (.inr (.inr ())))
 else
 if a1=98 then
 some (.inr (.inr (.inr ())))
 else
 if a1=105 then
 some (.inr (.inl ()))
 else
 some (.inl ())) fun z=>match z with
 |(.inl _)=>Option.bind (zg5 a2 1 1073741824) fun v5=>
 some v5
 |(.inr (.inl _))=>Option.bind (zg5 a2 0 6291455) fun v5=>
 some v5
 |(.inr (.inr (.inl r)))=>some r
 |(.inr (.inr (.inr _)))=>
 Option.bind (zcy a2) fun v4=>
 some (v4==0)
def zps{α:Type}(f:α->Option Bool):List α->Option (List α)
 |[]=>some []
 |y::r=>Option.bind (f y) fun b=>Option.bind (zps f r) fun q=>some (if b=true then q else y::q)
def zl6(g:TGroup):List TCommand->Option (Option TCommand)
 |[]=>some none
 |c::r=>if ¬(c.Kind=3) then zl6 g r else
  Option.bind (zci c.Members (fun x0=>zfa x0 g)) fun b=>if b=true then zl6 g r else some (some c)
def ziv(a0:TGroup)(a1:List (List UInt8)):Option (List Int×Int):=
 Option.bind (zbr a0) fun v1=>
 if ¬(v1=0) then some ([],v1)
 else Option.bind (zf3 a1) fun v2=>
 if ¬(v2.2=0) then some ([],v2.2)
 else Option.bind (zl6 a0 v2.1.reverse) fun z=>match z with
 |some y=>some (y.Members,0)
 |none=>Option.bind (zaz a0.Members) fun v3=>some (v3,0)
def zhe(k:Int):List UInt8:=if k=1 then [115,98] else if k=2 then [115,98,112,118] else if k=3 then [115,98,118] else if k=4 then [115,98] else if k=5 then [115,98,112] else if k=6 then [115,118] else if k=7 then [115] else if k=8 then [105,116] else if k=9 then [118] else []
def zq6(c:UInt8)(m:TMail):Int:=if c=115 then m.Slot else if c=98 then m.Ballot else if c=112 then m.Prior else if c=105 then m.Id else m.Time
def zri(c:UInt8)(n:Int)(p:TMail):TMail:=if c=115 then {p with Slot:=n} else if c=98 then {p with Ballot:=n} else if c=112 then {p with Prior:=n} else if c=105 then {p with Id:=n} else {p with Time:=n}
def zo4(m:TMail):List UInt8->TMail->Bool->Option (TMail×Bool)
 |[],p,ok=>some (p,ok)
 |c::r,p,ok=>if c=118 then zo4 m r {p with Value:=m.Value} ok else
  Option.bind (if ok=true then zeb m (c.toNat:Int) (zq6 c m) else some default) fun v=>zo4 m r (zri c (zq6 c m) p) (ok&&v)
def zic(m:TMail):Option Int:=
 Option.bind (if ¬(zhe m.Kind=[]) then zg5 m.From 0 5 else some default) fun v1=>
 Option.bind (if(¬(zhe m.Kind=[]))/\(v1=true) then zg5 m.To 0 5 else some default) fun v2=>
 Option.bind (if((¬(zhe m.Kind=[]))/\(v1=true))/\(v2=true) then zg5 m.Group 0 3 else some default) fun v3=>
 Option.bind (zo4 m (zhe m.Kind) ⟨m.From,m.To,m.Kind,m.Group,0,0,0,[],0,0⟩ ((((!(zhe m.Kind==[])&&v1)&&v2)&&v3)&&decide ((m.Value.length:Int)<=1024))) fun z=>
 some (if z.2=true/\z.1=m then 0 else 8)
end Go.Proofs
namespace Go.Tm
open Go.RowKit Go.WideShapes Go.ChangeShapes
section
variable {H : Type} {enc : TypeId × Value -> H} {P : Program}
end
end Go.Tm
namespace Go.Tm
section
variable {call : FuncId -> List D -> List (Nat × Blk) -> Nat -> Option Out} {tab : Nat -> TI} {pt : Nat -> List (Nat × Nat)} {base : Nat}
end
end Go.Tm
namespace Go.Tm
set_option linter.unusedVariables false
open Go.RowKit Go.WideShapes
structure Ent where
 K:FuncId
 args:List D
 heap:List (Nat×Blk)
 nx:Nat
 out:Out
section
variable {P : Program} {tab : Nat -> TI} (hT : zhz P tab) (hm : P.follows .mixedOrders = true) {ft : Nat -> Option Func} {pt : Nat -> Nat -> List (Nat × Nat)} (hft : FtOk P ft pt) {LF n : Nat} {l : List Ent}
end
inductive Vm where
 |nil
 |node (v:D) (a b c d:Vm)
noncomputable def sel4{α:Type}(i:Nat)(a b c d:α):α:=Nat.rec (motive:=fun _=>α) a (fun i _=>Nat.rec (motive:=fun _=>α) b (fun i _=>Nat.rec (motive:=fun _=>α) c (fun _ _=>d) i) i) i
noncomputable def Vm.single(y:D)(n:Nat):Nat->Vm:=
 Nat.rec (motive:=fun _=>Nat->Vm) (fun _=>.nil) (fun _ ih t=>Nat.rec (motive:=fun _=>Vm) (.node y .nil .nil .nil .nil) (fun k _=>
  sel4 (Nat.mod k 4) (.node .undef (ih (Nat.div k 4)) .nil .nil .nil) (.node .undef .nil (ih (Nat.div k 4)) .nil .nil) (.node .undef .nil .nil (ih (Nat.div k 4)) .nil) (.node .undef .nil .nil .nil (ih (Nat.div k 4)))) t) n
noncomputable def Vm.put(m:Vm)(y:D):Nat->Vm:=
 Vm.rec (motive:=fun _=>Nat->Vm) (fun t=>Vm.single y (Nat.succ t) t) (fun v a b c d ia ib ic id t=>Nat.rec (motive:=fun _=>Vm) (.node y a b c d) (fun k _=>
  sel4 (Nat.mod k 4) (.node v (ia (Nat.div k 4)) b c d) (.node v a (ib (Nat.div k 4)) c d) (.node v a b (ic (Nat.div k 4)) d) (.node v a b c (id (Nat.div k 4)))) t) m
noncomputable def putQ{α:Type}(l:List (Nat×α))(t:Nat)(y:α):List (Nat×α):=
 List.rec (motive:=fun _=>List (Nat×α)) [(t,y)] (fun p r ih=>Bool.rec (motive:=fun _=>List (Nat×α)) (p::ih) ((p.1,y)::r) (Nat.beq p.1 t)) l
noncomputable def delQ{α:Type}(l:List (Nat×α))(t:Nat):List (Nat×α):=
 List.rec (motive:=fun _=>List (Nat×α)) [] (fun p r ih=>Bool.rec (motive:=fun _=>List (Nat×α)) (p::ih) ih (Nat.beq p.1 t)) l
noncomputable def yaaz(h:List (Nat×Blk))(l:List (Nat×Option Blk)):List (Nat×Blk):=
 List.rec (motive:=fun _=>List (Nat×Blk)) h (fun p _ ih=>Option.rec (motive:=fun _=>List (Nat×Blk)) (delQ ih p.1) (fun x=>putQ ih p.1 x) p.2) l
structure SQ where
 vm:Vm
 heap:List (Nat×Blk)
 nx:Nat
noncomputable def SQ.app(s:SQ)(dst:Option Nat)(out:Out):SQ:=
 ⟨match dst with|some t=>s.vm.put out.d t|none=>s.vm,yaaz s.heap out.eff,bif Nat.blt out.nw.1 out.nw.2 then out.nw.2 else s.nx⟩
abbrev CallF:=FuncId->List D->List (Nat×Blk)->Nat->Option Out
section
variable {call : CallF} {tab : Nat -> TI}
end
section
variable {P : Program} {tab : Nat -> TI} (hT : zhz P tab) (hm : P.follows .mixedOrders = true) {ft : Nat -> Option Func} {pt : Nat -> Nat -> List (Nat × Nat)} (hft : FtOk P ft pt) {LF n : Nat} {l : List Ent}
end
def zlm(r:Option Nat):Fence:={Fence.wide with round:=r}
def zh4(a:Act):Act:={tmps:=a.tmps,defers:=[]}
def zrz(a:Act)(ds:List Deferred):Act:={tmps:=a.tmps,defers:=ds}
theorem znc(a:Act)(ds:List Deferred)(dst:Option Tmp)(v:Value):(zrz a ds).put dst v=zrz (a.put dst v) ds:=by
 cases dst<;>rfl
theorem zgj(a:Act)(dst:Option Tmp)(v:Value):(a.put dst v).defers=a.defers:=by
 cases dst<;>rfl
theorem ya15(a:Act)(ds:List Deferred):(zrz a ds).eval=a.eval:=by
 funext x;cases x<;>rfl
theorem zv3(a:Act):(zh4 a).eval=a.eval:=by
 funext x;cases x<;>rfl
section
variable {P : Program} {ops : Array Oper} {R : Act -> World -> Prop}
theorem ya6l{o:Oper}{a:Act}{next:Act->World->Prop}(hn:∀a w,next a w->a.defers=[]){res:Result Next}(h:o.upon P a next (fun e a w=>e=.normal/\R a w) res):a.defers=[]:=by
 cases res with
 |ok n w'=>
  cases n with
  |value v=>rw[<-zgj a o.dst v];exact hn _ _ h
  |skip=>rw[<-zgj a o.dst undef];exact hn _ _ h
  |defer d=>
   have:=hn _ _ h
   rw[zgj] at this
   cases this
  |enter f args=>
   obtain⟨e,w'',fr,hq,_⟩:=(show Calls P f args w' _ from h) []
   cases e with
   |returned v=>have:=hn _ _ hq;rwa [zgj] at this
   |panicked ch=>cases hq.1
   |outgrown=>obtain⟨_,_,h1,_⟩:=hq;cases h1
  |row row args=>
   obtain⟨v,w'',hq,_⟩:=(show Go.Rows P row args w' _ from h) default []
   have:=hn _ _ hq;rwa [zgj] at this
  | _=>exact h.elim
 |halt x w'=>
  cases x with
  |panic v=>cases (show Exit.panic _=Exit.normal/\_ from h).1
  | _=>exact h.elim
theorem zp4(hR:∀a w,R a w->a.defers=[]):∀(l:List Nat) (a:Act) (w:World),wpOps P ops (fun e a w=>e=.normal/\R a w) l a w->a.defers=[]
 |[],a,w,h=>hR a w h.2
 |i::l,a,w,h=>by
  simp only[wpOps] at h
  split at h
  exact zp4 hR l a w h
  rename_i o _
  split at h
  rcases h with h|⟨_,_,_,h,_⟩
  exact ya6l (zp4 hR l) h
  cases h
  have:=zp4 hR l _ w h
  rwa [zgj] at this
theorem ya10{r:Option Nat}{n:Nat}{f:FuncId}{args:Array Value}{w:World}{R:Ending->World->Prop}(h:Calls P f args w R):CallsIn (zlm r) n P f args w R:=
 show CallsIn Fence.wide n P f args w R from callsIn_wide.2 h
theorem ya6t{r:Option Nat}{n:Nat}{row:String}{args:Array Value}{w:World}{R:Value->World->Prop}(h:Go.Rows P row args w R):RowsIn (zlm r) n P row args w R:=
 fun c cs _=>let⟨v,w',h1,h2⟩:=h c cs;⟨v,w',h1,(show StepsIn (Machine.fenced P Fence.wide) P _ _ from stepsIn_wide.2 h2)⟩
theorem ya6k{r:Option Nat}{n:Nat}{o:Oper}{a:Act}{ds:List Deferred}{next next':Act->World->Prop}{Q':Exit->Act->World->Prop}(hn:∀a w,next a w->a.defers=[])(hnn:∀a w,next a w->next' (zrz a ds) w){res:Result Next}
  (h:o.upon P a next (fun e a w=>e=.normal/\R a w) res):o.uponIn (zlm r) n P (zrz a ds) next' Q' res:=by
 cases res with
 |ok x w'=>
  cases x with
  |value v=>rw[Oper.uponIn_value,znc];exact hnn _ _ h
  |skip=>rw[Oper.uponIn_skip,znc];exact hnn _ _ h
  |defer d=>
   have:=hn _ _ (show next _ w' from h)
   rw[zgj] at this
   cases this
  |enter f args=>
   rw[Oper.uponIn_enter]
   refine⟨nofun,ya10 (Calls.mono h fun e w'' hq=>?_)⟩
   cases e with
   |returned v=>
    show next' ((zrz a ds).put o.dst v) w''
    rw[znc];exact hnn _ _ hq
   |panicked ch=>cases hq.1
   |outgrown=>obtain⟨_,_,h1,_⟩:=hq;cases h1
  |row row args=>
   rw[Oper.uponIn_row]
   exact⟨nofun,ya6t (Go.Rows.mono h fun v w'' hq=>by rw[znc];exact hnn _ _ hq)⟩
  | _=>exact h.elim
 |halt x w'=>
  cases x with
  |panic v=>cases (show Exit.panic _=Exit.normal/\_ from h).1
  | _=>exact h.elim
theorem znu(hR:∀a w,R a w->a.defers=[])(r:Option Nat)(n:Nat)(ds:List Deferred):∀(l:List Nat) (a:Act) (w:World),wpOps P ops (fun e a w=>e=.normal/\R a w) l a w->
  wpOpsIn (zlm r) n P ops (fun e a' w'=>e=.normal/\a'.defers=ds/\R (zh4 a') w') l (zrz a ds) w
 |[],a,w,h=>by
  refine⟨rfl,rfl,?_⟩
  have hd:=hR a w h.2
  have:zh4 (zrz a ds)=a:=by cases a;cases hd;rfl
  rw[this];exact h.2
 |i::l,a,w,h=>by
  simp only[wpOps] at h
  simp only[wpOpsIn]
  cases ho:ops[i]? with
  |none=>
   simp only[ho] at h ⊢
   exact znu hR r n ds l a w h
  |some o=>
   simp only[ho] at h ⊢
   have ht:(zrz a ds).tmps=a.tmps:=rfl
   rw[ht]
   split at h
   rename_i hw
   rw[if_pos hw]
   rcases h with h|⟨_,_,_,h,_⟩
   refine⟨fun _ _=>trivial,?_⟩
   by_cases hdf:∃c,o.op=.defer c
   exfalso
   obtain⟨c,hc⟩:=hdf
   unfold Oper.wp at h
   have he:execOp a.eval o=(do pure (.defer (<-resolve a.eval c o.type)):Sem Next):=by unfold execOp;rw[hc]
   rw[he,Sem.run_bind] at h
   cases hr:(resolve a.eval c o.type).run P w with
   |ok d w'=>
    rw[hr] at h
    simp only[Result.andThen_ok,Sem.run_pure] at h
    have:=zp4 hR l _ w' h
    rw[zgj] at this
    cases this
   |halt x w'=>
    rw[hr] at h
    cases x with
    |panic v=>cases (show Exit.panic _=Exit.normal/\_ from h).1
    | _=>exact h.elim
   rw[Oper.semAt_eq _ _ _ (fun c hc=>hdf ⟨c,hc⟩),ya15]
   exact ya6k (zp4 hR l) (znu hR r n ds l) h
   cases h
   rename_i hw
   rw[if_neg hw]
   refine⟨fun _ _=>trivial,?_⟩
   rw[znc]
   exact znu hR r n ds l _ w h
end
def mark(D:Nat):Deferred:={target:=.collected D,args:=#[]}
def zzo(E:En)(ds:List Deferred)(w:World):Prop:=
 ∃Ds:List Nat,ds=Ds.map mark/\Ds.Nodup/\∀D∈Ds,E.w0.heap.size<=D/\w.heap[D]?=some (.deferred (some []))
section
variable {E : En} {n : Nat} {F F' : FrS} {a a' : Act} {w w' : World} {g g' : Gh}
theorem ya75{fr:Nat}{hp:Nat->Option Blk}{nu:Nat->Bool}(h:Mem fr w g hp nu){b:Nat}(hb:ownB g hp b):∃o,w.heap[b]?=some o/\((∃cs T f,o=.cells cs T f)\/∃es c,o=.map es c):=by
 obtain⟨id,o,h1,h2⟩:=hb
 obtain⟨x,hx⟩:=Option.ne_none_iff_exists'.1 h1
 have hd:=h.hd id x hx
 cases x with
 |box cells=>
  obtain⟨b1,cs,T,k1,k2,_⟩:=hd
  have e:=(show g.σ id=some (b1,0) from k1).symm.trans h2
  simp only[za5,zaa] at e
  obtain⟨rfl,_⟩:=e
  exact⟨_,k2,.inl ⟨_,_,_,rfl⟩⟩
 |arr e s p items=>
  rcases hd with⟨_,k1⟩|⟨b1,cs,k1,k2,_⟩
  have k1:g.σ id=none:=k1
  rw[h2] at k1;cases k1
  have e:=(show g.σ id=some (b1,0) from k1).symm.trans h2
  simp only[za5,zaa] at e
  obtain⟨rfl,_⟩:=e
  exact⟨_,k2,.inl ⟨_,_,_,rfl⟩⟩
 |map es=>
  obtain⟨b1,ens,clock,k1,k2,_⟩:=hd
  have e:=(show g.σ id=some (b1,0) from k1).symm.trans h2
  simp only[za5,zaa] at e
  obtain⟨rfl,_⟩:=e
  exact⟨_,k2,.inr ⟨_,_,rfl⟩⟩
theorem znd{fr:Nat}{hp:Nat->Option Blk}{nu:Nat->Bool}(h:Mem fr w g hp nu){b:Nat}{o:Obj}(ho:w.heap[b]?=some o)(hc:∀cs T f,o≠.cells cs T f)(hm:∀es c,o≠.map es c):¬ownB g hp b:=by
 intro hb
 obtain⟨o',h1,h2⟩:=ya75 h hb
 rw[ho] at h1
 cases h1
 rcases h2 with⟨cs,T,f,rfl⟩|⟨es,c,rfl⟩
 exact hc _ _ _ rfl
 exact hm _ _ rfl
def En.fork(E:En)(w:World)(g:Gh)(F:FrS):En:=⟨w,E.fr,ownB g F.hp,g,F.nu⟩
theorem Rel.fork(h:Rel E n F a w g):Rel (E.fork w g F) n F a w g:=
 ⟨h.sz,h.df,h.rd,h.mem,fun id _ o h1 h2=>.inr ⟨id,o,h1,h2⟩,Keep.refl _ _,⟨rfl,rfl⟩,fun _ _=>rfl,fun _ h=>h⟩
theorem Rel.join(h:Rel E n F a w g)(k:Rel (E.fork w g F) n F' a' w' g'):Rel E n F' a' w' g':=by
 refine⟨k.sz,k.df,k.rd,k.mem,fun id b o h1 h2=>?_,?_,⟨k.gz.1.trans h.gz.1,k.gz.2.trans h.gz.2⟩,fun id hid=>?_,fun id hid=>h.nu id (k.nu id hid)⟩
 rcases k.base id b o h1 h2 with hb|⟨id',o',h3,h4⟩
 exact .inl (zao h.keep.size hb)
 exact h.base id' b o' h3 h4
 refine h.keep.trans (k.keep.mono ?_)
 rintro b _ ⟨id,o,h1,h2⟩
 rcases h.base id b o h1 h2 with hb|hb
 exact .inr hb
 exact .inl hb
 have hf:F.nu id=false:=by
  cases hb:F.nu id
  rfl
  rw[h.nu id hb] at hid;cases hid
 exact(k.gs id hf).trans (h.gs id hid)
theorem zzo.keep{ds:List Deferred}(h:zzo E ds w)(hR:Rel E n F a w g){X:Nat->Prop}(hK:Keep X w w')(hX:∀b,X b->ownB g F.hp b):zzo E ds w':=by
 obtain⟨Ds,rfl,h1,h2⟩:=h
 refine⟨Ds,rfl,h1,fun D hD=>⟨(h2 D hD).1,?_⟩⟩
 have hd:=(h2 D hD).2
 rw[hK.block D (Array.getElem?_eq_some_iff.1 hd).1 fun hx=>znd hR.mem hd (by simp) (by simp) (hX D hx)]
 exact hd
theorem zr7{l:Nat}{o o':Obj}(hl:w.heap[l]?=some o)(ho:∀cs T f,o≠.cells cs T f)(ho':∀cs T f,o'≠.cells cs T f)(k:Nat):(w.putObj l o').shape? k=w.shape? k:=by
 by_cases e:k=l
 subst e
 unfold World.shape?
 rw[World.putObj_heap_same (Array.getElem?_eq_some_iff.1 hl).1,hl]
 cases o<;>cases o'<;>first|rfl|exact absurd rfl (ho _ _ _)|exact absurd rfl (ho' _ _ _)
 exact zle (World.putObj_heap_other e)
theorem Rel.setObj(h:Rel E n F a w g){l:Nat}{o o':Obj}(hl:w.heap[l]?=some o)(hlt:E.w0.heap.size<=l)(ho:∀cs T f,o≠.cells cs T f)(hm:∀es c,o≠.map es c)(ho':∀cs T f,o'≠.cells cs T f):Rel E n F a (w.putObj l o') g:=by
 have hno:=znd h.mem hl ho hm
 have hsh:=zr7 hl ho ho'
 have hle:Cx.Le (cx w g F.hp) (cx (w.putObj l o') g F.hp):=by
  refine⟨fun m _ Z' hZ'=>⟨Z',hZ',fun b k1 k2 k3=>⟨k1,k2,?_⟩⟩,fun b _=>hsh b,id,id,fun _ _ _=>rfl⟩
  refine⟨by show b<(w.putObj l o').heap.size;rw[World.putObj_size];exact k3,fun cs T r hc=>?_⟩
  have hne:b≠l:=by
   rintro rfl
   have hc:w.heap[b]?=some (.cells cs T r):=hc
   rw[hl] at hc
   cases hc
   exact ho _ _ _ rfl
  exact(World.putObj_heap_other hne).trans hc
 refine⟨h.sz,h.df,fun t=>zfv hle _ _ (h.rd t),⟨fun id blk hb=>?_,h.mem.inj,h.mem.nw,?_,h.mem.fl.obj hl ho⟩,h.base,?_,h.gz,h.gs,h.nu⟩
 refine zmi (C:=cx w g F.hp) hle rfl rfl (fun b o hσ=>World.putObj_heap_other ?_) (h.mem.hd id blk hb)
 rintro rfl
 exact hno ⟨id,o,by rw[hb];simp,hσ⟩
 rw[World.putObj_size];exact h.mem.zs
 refine h.keep.trans ⟨rfl,rfl,rfl,by rw[World.putObj_size];exact za4 _,fun k hk hx=>World.putObj_heap_other ?_,fun k _=>hsh k⟩
 rintro rfl
 exact hx (.inr hlt)
end
def OkR(P:Program)(lim n:Nat)(r:Option Nat)(c:Code)(st:St)(Q:Exit->St->Prop):Prop:=
 ∀(E:En) (F:FrS) (a:Act) (w:World) (g:Gh),F.on lim st->Rel E n F (zh4 a) w g->zzo E a.defers w->
  c.wpIn (zlm r) 0 P (fun e a' w'=>∃st' F' g',Q e st'/\F'.on lim st'/\Rel E n F' (zh4 a') w' g'/\zzo E a'.defers w') a w
section
variable {P : Program} {lim n : Nat} {r : Option Nat} {st : St} {Q : Exit -> St -> Prop}
theorem OkR.mono{c:Code}{Q':Exit->St->Prop}(h:OkR P lim n r c st Q)(hq:∀e s,Q e s->Q' e s):OkR P lim n r c st Q':=
 fun E F a w g hF hR hM=>wpIn_mono (h E F a w g hF hR hM) fun _ _ _ ⟨st',F',g',h1,h2⟩=>⟨st',F',g',hq _ _ h1,h2⟩
end
section
variable {E : En} {n : Nat} {F : FrS} {a : Act} {w w' : World} {g g' : Gh} {P : Program}
end
section
variable {P : Program} {lim n : Nat} {st : St} {Q : Exit -> St -> Prop} {call : FuncId -> List D -> List (Nat × Blk) -> Nat -> Option Out}
theorem ya3z{fn:Func}{tmps:Array Value}{R:Ending->World->Prop}{E:En}{n:Nat}{F:FrS}{g:Gh}:∀(Ds:List Nat) (w:World),Ds.Nodup->(∀D∈Ds,E.w0.heap.size<=D/\w.heap[D]?=some (.deferred (some [])))->Rel E n F {tmps:=tmps,defers:=[]} w g->
  (∀w',Rel E n F {tmps:=tmps,defers:=[]} w' g->∃v,(results fn tmps).run P w'=.ok v w'/\R (.returned v) w')->LeavesInM (zlm none) 0 P fn tmps R (Ds.map mark) .returning w
 |[],w,_,_,hR,hk=>hk w hR
 |D::Ds,w,hnd,hall,hR,hk=>by
  obtain⟨h1,h2⟩:=hall D (by simp)
  refine⟨by simp,.inl ⟨D,_,rfl,run_takeDeferred h2,?_⟩⟩
  refine ya3z Ds _ (List.nodup_cons.1 hnd).2 (fun D' hD'=>⟨(hall D' (by simp[hD'])).1,?_⟩) (hR.setObj h2 h1 (by simp) (by simp) (by simp)) hk
  have hne:D'≠D:=by
   rintro rfl
   exact(List.nodup_cons.1 hnd).1 hD'
  rw[World.putObj_heap_other hne]
  exact(hall D' (by simp[hD'])).2
theorem zy0{tab:Nat->TI}(hT:zhz P tab){K:FuncId}{fn:Func}{c:Code}{args:List D}{H:List (Nat×Blk)}{r:D}{eff:List (Nat×Option Blk)}{nw:Nat×Nat}(hf:P.funcs[K]?=some fn)(hb:fn.body=some c)(hname:fn.name≠ "runtime.NumGoroutine")(hlen:args.length<=fn.ntmps)
  (hE:∀x∈eff,x.1∈H.map (·.1)\/nw.1<=x.1/\x.1<nw.2)
  (h:OkR P nw.2 fn.ntmps none c ⟨zfj 0 args,H,nw.1⟩ fun e st=>(e=.normal\/e=.ret)/\ya87 tab fn H r eff st):zbv P K args H r eff nw:=by
 refine zrg hT hf hb hname hlen hE fun E F g w va R hF hR _ hk=>?_
 refine callsIn_wide.1 (callsIn_of_wp_marks (n:=0) (F:=Fence.wide) hf hb trivial (wpIn_mono (h E F _ w g hF hR ⟨[],rfl,List.nodup_nil,nofun⟩) ?_))
 rintro e a' w' ⟨st',F',g',⟨he,hp⟩,hF',hR',Ds,hds,hnd,hall⟩
 have fin:LeavesInM Fence.wide 0 P fn a'.tmps R a'.defers .returning w':=by
  rw[hds]
  refine ya3z Ds w' hnd hall hR' fun w'' hR''=>?_
  exact hk st' F' (zh4 a') w'' g' hp hF' hR''
 rcases he with rfl|rfl<;>exact fin
end
section
variable {P : Program} {tab : Nat -> TI} {call : FuncId -> List D -> List (Nat × Blk) -> Nat -> Option Out}
end
end Go.Tm
