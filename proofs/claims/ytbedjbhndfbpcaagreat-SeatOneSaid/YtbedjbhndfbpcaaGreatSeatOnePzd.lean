/- Texts of the proof. -/
import Derived.Test.YtbedjbhndfbpcaaGreatSeatOnePp
import Derived.Test.YtbedjbhndfbpcaaGreatSeatOnePo
import Derived.Test.YtbedjbhndfbpcaaGreatSeatOnePq
import Derived.Test.YtbedjbhndfbpcaaGreatSeatOnePr
import Derived.Test.YtbedjbhndfbpcaaGreatSeatOnePs
import Derived.Test.YtbedjbhndfbpcaaGreatSeatOnePt
import Derived.Test.YtbedjbhndfbpcaaGreatSeatOnePzc
import Derived.Test.YtbedjbhndfbpcaaGreatSeatOnePu
import Derived.Test.YtbedjbhndfbpcaaGreatSeatOnePx
namespace Go.Proofs
open Go.Tm Go.RowKit Go.WideShapes
set_option maxRecDepth 100000
set_option maxHeartbeats 4000000
set_option linter.unusedSimpArgs false
set_option linter.unusedVariables false
@[go_sem] def st79(l1:List Int)(n1:Int):St:=⟨[(0,.ref 0 1 0 l1.length (some uC)),(1,.int .i64 n1)],[(0,.arr 5 1 true (l1.map (D.int .u8)))],1⟩
@[go_sem] def st80(l2:List Int)(n2:Int):St:=⟨[(0,.ref 0 1 0 l2.length (some uC)),(1,.int .i64 n2)],[(0,.arr 5 1 true (l2.map (D.int .u8)))],1⟩
@[go_sem] def st21(r:(List Int)):St:=⟨[(4,.ref 0 1 0 r.length (some uC))],[(0,.arr 5 1 true (r.map (D.int .u8)))],1⟩
theorem zmo(a1:Int)(r:(List Int))(h:znf a1=some r):zbv Tryz.prog 112 [.imm 0 [] 0,.int .i64 a1] [] (.ref 0 1 0 r.length (some uC)) [(0,some (.arr 5 1 true (r.map (D.int .u8))))] (0,5):=by
 refine zct Tryz.func112 ?_
 intro hwf
 unfold znf at h
 refine .ends 0 (za4 _) ?_
 refine .sp [0,1] ?_
 obtain⟨x1,hx1,h⟩:=za3 h
 refine .seqM 0 (fun(j:(List Int)×Int)=>st79 j.1 j.2) (fun j=>x1=j) (lb rfl) ?_ ?_
 refine .block ?_
 refine .loopG 0 (fun(j:Nat×(List Int)×Int)=>st80 j.2.1 j.2.2) (fun j=>zh8 j.1 j.2.1 j.2.2=some x1) (fun j=>j.1) (11,[],a1) (lb rfl) ?_ hx1 ?_
 refine .n0 1 5 ?_
 refine .w0 0 0 1 ?_
 exact .m [0,1] [0] []
 rintro⟨fu1,l2,n2⟩ hx1
 simp only[st80]
 try simp only at hx1
 obtain⟨fu1,rfl⟩:∃k,fu1=k+1:=by cases fu1 with|zero=>(rw[zh8] at hx1;cases hx1)|succ k=>exact⟨k,rfl⟩
 rw[zh8] at hx1
 refine .seq (.seq (.pl zS [0,1] ?_))
 refine .cd ?_ ?_<;>intro hc1
 replace hx1:=zab hx1 hc1
 refine .skip (.seq (.block ?_))
 obtain⟨k1,hx1⟩:=zbc hx1
 refine .pl zS [0,1] ?_
 refine .pl zS [0,1] ?_
 refine⟨(fu1,_,_),?_,hx1,by dsimp only;omega⟩
 exact .m [0,1] [2] [(2,0)]
 replace hx1:=zae hx1 hc1
 refine .exit ?_
 refine⟨_,?_,(sj hx1).symm⟩
 exact .m [0,1] [0] []
 rintro⟨l1,n1⟩ hj1
 subst x1
 try dsimp only at h
 simp only[st79]
 obtain⟨k2,h⟩:=zbc h
 refine .sp [0,1] ?_
 obtain rfl:=sj h
 refine .ret ⟨st21 (l1++[(wr .u8 n1)]),?_,.inr rfl,retH [0] ?_ ?_⟩
 exact .m [4] [2] [(2,0)]
 exact rsi0
 rfl
@[go_sem] def st81(l1:List Int)(n1:Int):St:=⟨[(0,.ref 20100 1 0 l1.length (some uC)),(1,.int .i64 n1)],[(20100,.arr 5 1 true (l1.map (D.int .u8)))],20101⟩
@[go_sem] def st82(l2:List Int)(n2:Int):St:=⟨[(0,.ref 20100 1 0 l2.length (some uC)),(1,.int .i64 n2)],[(20100,.arr 5 1 true (l2.map (D.int .u8)))],20101⟩
@[go_sem] def st22(r:(List Int)):St:=⟨[(4,.ref 20100 1 0 r.length (some uC))],[(20100,.arr 5 1 true (r.map (D.int .u8)))],20101⟩
theorem ztt(a0:List Int)(a1:Int)(r:(List Int))(h:zor a0 a1=some r):zbv Tryz.prog 112 [.ref 20000 1 0 a0.length (some uC),.int .i64 a1] [(20000,.arr 5 1 true (a0.map (D.int .u8)))] (.ref 20100 1 0 r.length (some uC)) [(20000,none),(20100,some (.arr 5 1 true (r.map (D.int .u8))))] (20100,20105):=by
 refine zct Tryz.func112 ?_
 intro hwf
 unfold zor at h
 refine .ends 20100 (za4 _) ?_
 refine .sp [0,1] ?_
 obtain⟨x1,hx1,h⟩:=za3 h
 refine .seqM 20100 (fun(j:(List Int)×Int)=>st81 j.1 j.2) (fun j=>x1=j) (lb rfl) ?_ ?_
 refine .block ?_
 refine .loopG 20100 (fun(j:Nat×(List Int)×Int)=>st82 j.2.1 j.2.2) (fun j=>zg8 j.1 j.2.1 j.2.2=some x1) (fun j=>j.1) (11,a0,a1) (lb rfl) ?_ hx1 ?_
 exact .m [0,1] [20000] [(20000,20100)]
 rintro⟨fu1,l2,n2⟩ hx1
 simp only[st82]
 try simp only at hx1
 obtain⟨fu1,rfl⟩:∃k,fu1=k+1:=by cases fu1 with|zero=>(rw[zg8] at hx1;cases hx1)|succ k=>exact⟨k,rfl⟩
 rw[zg8] at hx1
 refine .seq (.seq (.pl zS [0,1] ?_))
 refine .cd ?_ ?_<;>intro hc1
 replace hx1:=zab hx1 hc1
 refine .skip (.seq (.block ?_))
 obtain⟨k1,hx1⟩:=zbc hx1
 refine .pl zS [0,1] ?_
 refine .pl zS [0,1] ?_
 refine⟨(fu1,_,_),?_,hx1,by dsimp only;omega⟩
 exact .m [0,1] [20102] [(20102,20100)]
 replace hx1:=zae hx1 hc1
 refine .exit ?_
 refine⟨_,?_,(sj hx1).symm⟩
 exact .m [0,1] [20100] []
 rintro⟨l1,n1⟩ hj1
 subst x1
 try dsimp only at h
 simp only[st81]
 obtain⟨k2,h⟩:=zbc h
 refine .sp [0,1] ?_
 obtain rfl:=sj h
 refine .ret ⟨st22 (l1++[(wr .u8 n1)]),?_,.inr rfl,retH [20100] ?_ ?_⟩
 exact .m [4] [20102] [(20102,20100)]
 exact rsi0
 rfl
@[go_sem] def st19(r:(List Int)×Int):St:=⟨[(2,.ref 0 1 0 r.1.length (some uC)),(3,.int .i64 r.2)],[(0,.arr 5 1 true (r.1.map (D.int .u8)))],1⟩
theorem zwb(a0:Int)(r:(List Int)×Int)(h:zsv a0=some r):zbv Tryz.prog 87 [.int .i64 a0] [] (.tuple [.ref 0 1 0 r.1.length (some uC),.int .i64 r.2]) [(0,some (.arr 5 1 true (r.1.map (D.int .u8))))] (0,12):=by
 refine zct Tryz.func87 ?_
 intro hwf
 unfold zsv at h
 refine .ends 0 (za4 _) ?_
 refine .sp [0] ?_
 refine .seq ?_
 obtain⟨v1,hv1,h⟩:=za3 h
 refine .sr [0] ?_
 refine .rn 1 ?_
 refine .cl (zno a0 v1 hv1) ?_
 refine .rn 1 ?_
 refine .nn ?_
 refine .cd ?_ ?_<;>intro hc1
 replace h:=zab h hc1
 refine .sp [] ?_
 obtain rfl:=sj h
 refine .ret ⟨st19 ([],2),?_,.inr rfl,retH [0] ?_ ?_⟩
 refine .n0 1 5 ?_
 refine .w0 2 0 1 ?_
 exact .m [2,3] [0] []
 exact rsi0
 rfl
 replace h:=zae h hc1
 refine .skip ?_
 obtain⟨v2,hv2,h⟩:=za3 h
 refine .sr [0] ?_
 refine .rn 1 ?_
 refine .ncall (r:=.ref 5 1 0 v2.length (some uC)) (eff:=[(5,some (.arr 5 1 true (v2.map (D.int .u8))))]) (nw:=(5,10)) [] rfl rfl rfl rfl rfl (za9 rfl (za9 rfl zaj)) rfl (zcu 5 (lb rfl) (zmo a0 v2 hv2)) (zay rfl rfl (zbb (zqf .u8) _ _ _) zd5) (by intro i hi;simp[D.ids,D.idsL] at hi<;>omega) rfl ⟨lb rfl,lb rfl⟩ ?_
 refine .rn 2 ?_
 refine .nn ?_
 obtain rfl:=sj h
 refine .ret ⟨st19 (v2,0),?_,.inr rfl,retH [0] ?_ ?_⟩
 exact .m [2,3] [5] [(5,0)]
 exact rsi0
 rfl
@[go_sem] def st20(r:(List Int)×Int):St:=⟨[(2,.ref 0 1 0 r.1.length (some uC)),(3,.int .i64 r.2)],[(0,.arr 5 1 true (r.1.map (D.int .u8)))],1⟩
theorem zuc(a0:List UInt8)(r:(List Int)×Int)(h:zqj a0=some r):zbv Tryz.prog 91 [.str a0] [] (.tuple [.ref 0 1 0 r.1.length (some uC),.int .i64 r.2]) [(0,some (.arr 5 1 true (r.1.map (D.int .u8))))] (0,13):=by
 refine zct Tryz.func91 ?_
 intro hwf
 unfold zqj at h
 refine .ends 0 (za4 _) ?_
 refine .sp [0] ?_
 refine .seq (.seq (.pl zS [0] ?_))
 refine .cd ?_ ?_<;>intro hc1
 replace h:=zab h hc1
 refine .sp [] ?_
 obtain rfl:=sj h
 refine .ret ⟨st20 ([],3),?_,.inr rfl,retH [0] ?_ ?_⟩
 refine .n0 1 5 ?_
 refine .w0 2 0 1 ?_
 exact .m [2,3] [0] []
 exact rsi0
 rfl
 replace h:=zae h hc1
 refine .skip ?_
 obtain⟨v1,hv1,h⟩:=za3 h
 obtain⟨k1,h⟩:=zbc h
 refine .sr [0] ?_
 refine .rn 2 ?_
 refine .ncall (r:=.ref 5 1 0 v1.length (some uC)) (eff:=[(5,some (.arr 5 1 true (v1.map (D.int .u8))))]) (nw:=(5,10)) [] rfl rfl rfl rfl rfl (za9 rfl (za9 rfl zaj)) rfl (zcu 5 (lb rfl) (zmo (a0.length:Int) v1 hv1)) (zay rfl rfl (zbb (zqf .u8) _ _ _) zd5) (by intro i hi;simp[D.ids,D.idsL] at hi<;>omega) rfl ⟨lb rfl,lb rfl⟩ ?_
 refine .rn 4 ?_
 refine .nn ?_
 obtain rfl:=sj h
 refine .ret ⟨st20 ((v1++(zkm a0)),0),?_,.inr rfl,retH [0] ?_ ?_⟩
 exact .m [2,3] [10] [(10,0)]
 exact rsi0
 rfl
@[go_sem] def st77(l1:List Int):St:=⟨[(4,.ref 10 1 0 l1.length (some uC))],[(10,.arr 5 1 true (l1.map (D.int .u8)))],11⟩
@[go_sem] def st78(a0:List Int)(n1:Nat)(l2:List Int):St:=⟨[(4,.ref 10 1 0 l2.length (some uC)),(13,.imm 1 (a0.map (D.int .i64)) 4),(14,.int .i64 (a0.length:Int)),(15,.int .i64 (n1:Int))],[(10,.arr 5 1 true (l2.map (D.int .u8)))],11⟩
@[go_sem] def st18(r:(List Int)×Int):St:=⟨[(2,.ref 0 1 0 r.1.length (some uC)),(3,.int .i64 r.2)],[(0,.arr 5 1 true (r.1.map (D.int .u8)))],1⟩
theorem zud(a0:List Int)(r:(List Int)×Int)(h:zqk a0=some r):zbv Tryz.prog 89 [.imm 1 (a0.map (D.int .i64)) 4] [] (.tuple [.ref 0 1 0 r.1.length (some uC),.int .i64 r.2]) [(0,some (.arr 5 1 true (r.1.map (D.int .u8))))] (0,18):=by
 refine zct Tryz.func89 ?_
 intro hwf
 unfold zqk at h
 refine .ends 0 (za4 _) ?_
 refine .sp [0] ?_
 refine .seq (.seq (.pl zS [0] ?_))
 refine .cd ?_ ?_<;>intro hc1
 replace h:=zab h hc1
 refine .sp [] ?_
 obtain rfl:=sj h
 refine .ret ⟨st18 ([],4),?_,.inr rfl,retH [0] ?_ ?_⟩
 refine .n0 1 5 ?_
 refine .w0 2 0 1 ?_
 exact .m [2,3] [0] []
 exact rsi0
 rfl
 replace h:=zae h hc1
 refine .skip ?_
 obtain⟨v1,hv1,h⟩:=za3 h
 refine .sr [0] ?_
 refine .rn 2 ?_
 refine .ncall (r:=.ref 5 1 0 v1.length (some uC)) (eff:=[(5,some (.arr 5 1 true (v1.map (D.int .u8))))]) (nw:=(5,10)) [] rfl rfl rfl rfl rfl (za9 rfl (za9 rfl zaj)) rfl (zcu 5 (lb rfl) (zmo (a0.length:Int) v1 hv1)) (zay rfl rfl (zbb (zqf .u8) _ _ _) zd5) (by intro i hi;simp[D.ids,D.idsL] at hi<;>omega) rfl ⟨lb rfl,lb rfl⟩ ?_
 refine .rn 1 ?_
 refine .nn ?_
 obtain⟨x1,hx1,h⟩:=za3 h
 refine .seqM 10 (fun(j:(List Int))=>st77 j) (fun j=>x1=(.inr j)) (lb rfl) ?_ ?_
 refine .sp [0,4] ?_
 refine .block ?_
 refine .loopG 10 (fun(j:Nat×(List Int))=>st78 a0 j.1 j.2) (fun j=>j.1<=a0.length/\zgq (a0.drop j.1) j.2=some x1) (fun j=>a0.length-j.1) (0,v1) (lb rfl) ?_ ⟨Nat.zero_le _,hx1⟩ ?_
 exact .m [4,13,14,15] [5] [(5,10)]
 rintro⟨n1,l2⟩ ⟨hi1,hx1⟩
 simp only[st78]
 simp only at hi1 hx1
 refine .wf 14 (.int .i64 (a0.length:Int)) rfl ?_
 intro hln1
 replace hln1:=wfn hln1
 refine .sp [4,13,14,15] ?_
 refine .seq (.cd (fun hc2=>?_) (fun hc2=>?_))
 have h1:n1<a0.length:=by simpa using hc2
 have hwn1:=zdr h1 hln1
 have hpn1:=ze3 h1 hln1
 rw[za7 h1,zgq] at hx1
 refine .skip (.seq (.block (.seq ?_)))
 have e1:=zdb (D.int .i64) a0 n1 h1
 refine .plx zS (ai e1 hwn1) [4,13,14,15] ?_
 refine .seq (.seq ?_)
 obtain⟨v2,hv2,hx1⟩:=za3 hx1
 refine .rg zS [4,6,13,14,15] ?_
 refine .rnx 1 hwn1 ?_
 refine .cl (zno (a0[n1]) v2 hv2) ?_
 refine .rnx 1 hwn1 ?_
 refine .nn ?_
 refine .cd ?_ ?_<;>intro hc3
 replace hx1:=zab hx1 hc3
 refine .seq (.plx zS hwn1 [] ?_)
 have hq:=sj hx1
 subst x1
 try dsimp only at h
 obtain rfl:=sj h
 refine .ret ⟨st18 ([],2),?_,.inr rfl,retH [0] ?_ ?_⟩
 refine .n0 1 5 ?_
 refine .w0 2 11 1 ?_
 exact .m [2,3] [11] [(11,0)]
 exact rsi0
 rfl
 replace hx1:=zae hx1 hc3
 refine .skip ?_
 obtain⟨v3,hv3,hx1⟩:=za3 hx1
 refine .rg zS [4,6,13,14,15] ?_
 refine .rnx 2 hwn1 ?_
 refine .hcall (H:=[(10,.arr 5 1 true (l2.map (D.int .u8)))]) (eff:=[(10,none),(11,some (.arr 5 1 true (v3.map (D.int .u8))))]) (nw:=(11,16)) (r:=.ref 11 1 0 v3.length (some uC)) rfl rfl rfl rfl rfl (zcg 11 (za6 20000 10 (ztt l2 (a0[n1]) v3 hv3))) (fun id b h=>zam [10] _ id b h) (by simp) (.inr ⟨lb rfl,lb rfl⟩) ?_
 refine .rnx 1 hwn1 ?_
 refine .nn ?_
 refine .plx zS hwn1 [4,13,14,15] ?_
 refine⟨(n1+1,_),?_,⟨by omega,hx1⟩,by dsimp only;omega⟩
 exact .m [4,13,14,15] [11] [(11,10)]
 have h2:n1=a0.length:=by have h2b:=of_decide_eq_false hc2;omega
 rw[zac (by omega),zgq] at hx1
 refine .exit ?_
 refine⟨_,?_,(sj hx1).symm⟩
 exact .m [4] [10] []
 rintro l1 hj1
 subst x1
 try dsimp only at h
 simp only[st77]
 refine .sp [4] ?_
 obtain rfl:=sj h
 refine .ret ⟨st18 (l1,0),?_,.inr rfl,retH [0] ?_ ?_⟩
 exact .m [2,3] [10] [(10,0)]
 exact rsi0
 rfl
@[go_sem] def st68(a0:List Int)(l1:List Int)(n1:Int):St:=⟨[(1,.ptr 20001 0),(7,.ref 20000 1 0 a0.length (some uC)),(8,.int .i64 (a0.length:Int)),(9,.int .i64 n1)],[(20000,.arr 3 1 true (a0.map (D.int .i64))),(20001,.box [.ref 20100 1 0 l1.length (some uC)]),(20100,.arr 5 1 true (l1.map (D.int .u8)))],20101⟩
@[go_sem] def st12(r:(List Int)):St:=⟨[(1,.ptr 20001 0)],[(20001,.box [.ref 20100 1 0 r.length (some uC)]),(20100,.arr 5 1 true (r.map (D.int .u8)))],20101⟩
theorem zez(a0:List Int)(c0:List Int)(r:(List Int))(h:zev a0 c0=some r):zbv Tryz.prog 86 [.ref 20000 1 0 a0.length (some uC),.ptr 20001 0] [(20000,.arr 3 1 true (a0.map (D.int .i64))),(20001,.box [.ref 20002 1 0 c0.length (some uC)]),(20002,.arr 5 1 true (c0.map (D.int .u8)))] (.tuple []) [(20000,none),(20001,some (.box [.ref 20100 1 0 r.length (some uC)])),(20002,none),(20100,some (.arr 5 1 true (r.map (D.int .u8))))] (20100,20116):=by
 refine zct Tryz.func86 ?_
 intro hwf
 unfold zev at h
 refine .ends 20100 (za4 _) ?_
 refine .sp [0,1] ?_
 refine .block ?_
 refine .loopG 20100 (fun(j:Nat×(List Int)×Int)=>st68 a0 j.2.1 j.2.2) (fun j=>ze2 a0 j.1 j.2.1 j.2.2=some r) (fun j=>j.1) (a0.length+1,c0,0) (lb rfl) ?_ h ?_
 exact .m [1,7,8,9] [20000,20001,20002] [(20002,20100)]
 rintro⟨fu1,l1,n1⟩ h
 simp only[st68]
 try simp only at h
 obtain⟨fu1,rfl⟩:∃k,fu1=k+1:=by cases fu1 with|zero=>(rw[ze2] at h;cases h)|succ k=>exact⟨k,rfl⟩
 rw[ze2] at h
 refine .sp [1,7,8,9] ?_
 refine .seq (.cd (fun hc1=>?_) (fun hc1=>?_))
 replace h:=zab h hc1
 refine .skip (.seq (.block (.seq ?_)))
 obtain⟨k1,h⟩:=zbc h
 have e1:=zdp (D.int .i64) a0 n1
 replace e1:=e1 k1
 refine .plx zS e1 [1,7,8,9] ?_
 obtain⟨v1,hv1,h⟩:=za3 h
 refine .sr [1,4,7,8,9] ?_
 refine .rn 1 ?_
 refine .ncall (r:=.tuple [.ref 20101 1 0 v1.1.length (some uC),.int .i64 v1.2]) (eff:=[(20101,some (.arr 5 1 true (v1.1.map (D.int .u8))))]) (nw:=(20101,20113)) [] rfl rfl rfl rfl rfl (za9 rfl zaj) rfl (zcu 20101 (lb rfl) (zwb (a0.getD n1.toNat default) v1 hv1)) (zay rfl rfl (zbb (zqf .u8) _ _ _) zd5) (by intro i hi;simp[D.ids,D.idsL] at hi<;>omega) rfl ⟨lb rfl,lb rfl⟩ ?_
 refine .rn 5 ?_
 refine .nn ?_
 obtain⟨k2,h⟩:=zbc h
 refine .pl zS [1,5,7,8,9] ?_
 refine .pl zS [1,7,8,9] ?_
 refine⟨(fu1,_,_),?_,h,by dsimp only;omega⟩
 exact .m [1,7,8,9] [20000,20001,20113] [(20113,20100)]
 replace h:=zae h hc1
 refine .exit ?_
 obtain rfl:=sj h
 refine⟨st12 l1,?_,.inl rfl,retH [20001,20100] ?_ ?_⟩
 exact .m [1] [20001,20100] []
 exact rsi0
 rfl
@[go_sem] def st13(r:(List Int)):St:=⟨[(1,.ptr 20000 0)],[(20000,.box [.ref 20100 1 0 r.length (some uC)]),(20100,.arr 5 1 true (r.map (D.int .u8)))],20101⟩
theorem zjv(a0:List Int)(c0:List Int)(r:(List Int))(h:zi2 a0 c0=some r):zbv Tryz.prog 88 [.imm 1 (a0.map (D.int .i64)) 4,.ptr 20000 0] [(20000,.box [.ref 20001 1 0 c0.length (some uC)]),(20001,.arr 5 1 true (c0.map (D.int .u8)))] (.tuple []) [(20000,some (.box [.ref 20100 1 0 r.length (some uC)])),(20001,none),(20100,some (.arr 5 1 true (r.map (D.int .u8))))] (20100,20121):=by
 refine zct Tryz.func88 ?_
 intro hwf
 unfold zi2 at h
 refine .ends 20100 (za4 _) ?_
 obtain⟨v1,hv1,h⟩:=za3 h
 refine .sr [0,1] ?_
 refine .rn 1 ?_
 refine .ncall (r:=.tuple [.ref 20100 1 0 v1.1.length (some uC),.int .i64 v1.2]) (eff:=[(20100,some (.arr 5 1 true (v1.1.map (D.int .u8))))]) (nw:=(20100,20118)) [] rfl rfl rfl rfl rfl (za9 rfl zaj) rfl (zcu 20100 (lb rfl) (zud a0 v1 hv1)) (zay rfl rfl (zbb (zqf .u8) _ _ _) zd5) (by intro i hi;simp[D.ids,D.idsL] at hi<;>omega) rfl ⟨lb rfl,lb rfl⟩ ?_
 refine .rn 5 ?_
 refine .nn ?_
 obtain⟨k1,h⟩:=zbc h
 refine .pl zS [1,3] ?_
 obtain rfl:=sj h
 refine⟨st13 (c0++v1.1),?_,.inl rfl,retH [20000,20100] ?_ ?_⟩
 exact .m [1] [20000,20118] [(20118,20100)]
 exact rsi0
 rfl
@[go_sem] def st14(r:(List Int)):St:=⟨[(1,.ptr 20000 0)],[(20000,.box [.ref 20100 1 0 r.length (some uC)]),(20100,.arr 5 1 true (r.map (D.int .u8)))],20101⟩
theorem zju(a0:List UInt8)(c0:List Int)(r:(List Int))(h:zi1 a0 c0=some r):zbv Tryz.prog 90 [.str a0,.ptr 20000 0] [(20000,.box [.ref 20001 1 0 c0.length (some uC)]),(20001,.arr 5 1 true (c0.map (D.int .u8)))] (.tuple []) [(20000,some (.box [.ref 20100 1 0 r.length (some uC)])),(20001,none),(20100,some (.arr 5 1 true (r.map (D.int .u8))))] (20100,20116):=by
 refine zct Tryz.func90 ?_
 intro hwf
 unfold zi1 at h
 refine .ends 20100 (za4 _) ?_
 obtain⟨v1,hv1,h⟩:=za3 h
 refine .sr [0,1] ?_
 refine .rn 1 ?_
 refine .ncall (r:=.tuple [.ref 20100 1 0 v1.1.length (some uC),.int .i64 v1.2]) (eff:=[(20100,some (.arr 5 1 true (v1.1.map (D.int .u8))))]) (nw:=(20100,20113)) [] rfl rfl rfl rfl rfl (za9 rfl zaj) rfl (zcu 20100 (lb rfl) (zuc a0 v1 hv1)) (zay rfl rfl (zbb (zqf .u8) _ _ _) zd5) (by intro i hi;simp[D.ids,D.idsL] at hi<;>omega) rfl ⟨lb rfl,lb rfl⟩ ?_
 refine .rn 5 ?_
 refine .nn ?_
 obtain⟨k1,h⟩:=zbc h
 refine .pl zS [1,3] ?_
 obtain rfl:=sj h
 refine⟨st14 (c0++v1.1),?_,.inl rfl,retH [20000,20100] ?_ ?_⟩
 exact .m [1] [20000,20113] [(20113,20100)]
 exact rsi0
 rfl
@[go_sem] def st67(l1:List Int):St:=⟨[(3,.ptr 2 0)],[(2,.box [.ref 3 1 0 l1.length (some uC)]),(3,.arr 5 1 true (l1.map (D.int .u8)))],4⟩
@[go_sem] def st69(a0:TCommand)(b1:Bool):St:=⟨[(1,.ptr 0 0),(3,.ptr 2 0),(4,.fn (.func 86) [.ptr 2 0]),(72,.bool b1)],[(0,.box [.int .u8 a0.Kind,.int .i64 a0.Message.Id,.imm 1 (a0.Message.Groups.map (D.int .i64)) 4,.int .i64 a0.Message.Topic,.str a0.Message.Key,.str a0.Message.Body,.int .i64 a0.Id,.int .i64 a0.Time,.imm 1 (a0.Members.map (D.int .i64)) 4,.int .i64 a0.Topic,.int .i64 a0.Who,.int .i64 a0.N]),(2,.box [.ref 3 1 0 ([a0.Kind].length) (some uC)]),(3,.arr 5 1 true ([a0.Kind].map (D.int .u8)))],4⟩
theorem zpv(a0:TCommand)(r:(List UInt8))(h:zli a0=some r):zbi Tryz.prog 59 [.agg [.int .u8 a0.Kind,.int .i64 a0.Message.Id,.imm 1 (a0.Message.Groups.map (D.int .i64)) 4,.int .i64 a0.Message.Topic,.str a0.Message.Key,.str a0.Message.Body,.int .i64 a0.Id,.int .i64 a0.Time,.imm 1 (a0.Members.map (D.int .i64)) 4,.int .i64 a0.Topic,.int .i64 a0.Who,.int .i64 a0.N]] (.str r):=by
 refine zbp 92 Tryz.func59 ?_
 intro hwf
 unfold zli at h
 refine .sp [0] ?_
 refine .sp [1] ?_
 refine .sp [1,3] ?_
 refine .sp [1,3,4] ?_
 refine .sp [1,3,4,5] ?_
 obtain⟨x1,hx1,h⟩:=za3 h
 refine .seqM 3 (fun(j:(List Int))=>st67 j) (fun j=>x1=j) (lb rfl) ?_ ?_
 refine .sp [1,3,4,5,6] ?_
 refine .block (.seq (.pl zS [1,3,4,5,6,14] ?_))
 refine .cd ?_ ?_<;>intro hc1
 replace hx1:=zab hx1 hc1
 refine .goes (.boxs 2 _ [.ref 1 1 0 1 (some uC)] rfl (.cons (.unk _ _ _ _ _) (.refl _)) .refl) ?_
 refine .seq ?_
 obtain⟨v1,hv1,hx1⟩:=za3 hx1
 refine .rg zS [1,3,4,5,6] ?_
 refine .rn 5 ?_
 refine .hcall (H:=[(3,.arr 3 1 true ([a0.Message.Id].map (D.int .i64))),(2,.box [.ref 1 1 0 1 (some uC)]),(1,.arr 5 1 true ([a0.Kind].map (D.int .u8)))]) (eff:=[(3,none),(2,some (.box [.ref 4 1 0 v1.length (some uC)])),(1,none),(4,some (.arr 5 1 true (v1.map (D.int .u8))))]) (nw:=(4,20)) (r:=.tuple []) rfl rfl rfl rfl rfl (zcg 4 (za6 20002 1 (za6 20001 2 (za6 20000 3 (zhc (.cons (.unk 20000 1 0 1 (some 1)) (.refl _)) (zez [a0.Message.Id] [a0.Kind] v1 hv1)))))) (fun id b h=>zam [3,2,1] _ id b h) (by simp) (.inr ⟨lb rfl,lb rfl⟩) ?_
 refine .nn ?_
 refine .seq ?_
 obtain⟨v2,hv2,hx1⟩:=za3 hx1
 refine .rg zS [1,3,4,5,6] ?_
 refine .rn 4 ?_
 refine .hcall (H:=[(2,.box [.ref 4 1 0 v1.length (some uC)]),(4,.arr 5 1 true (v1.map (D.int .u8)))]) (eff:=[(2,some (.box [.ref 20 1 0 v2.length (some uC)])),(4,none),(20,some (.arr 5 1 true (v2.map (D.int .u8))))]) (nw:=(20,41)) (r:=.tuple []) rfl rfl rfl rfl rfl (zcg 20 (za6 20001 4 (za6 20000 2 (zjv a0.Message.Groups v1 v2 hv2)))) (fun id b h=>zam [2,4] _ id b h) (by simp) (.inr ⟨lb rfl,lb rfl⟩) ?_
 refine .nn ?_
 refine .seq ?_
 obtain⟨v3,hv3,hx1⟩:=za3 hx1
 refine .rg zS [1,3,4,6] ?_
 refine .rn 5 ?_
 refine .hcall (H:=[(41,.arr 3 1 true ([a0.Message.Topic].map (D.int .i64))),(2,.box [.ref 20 1 0 v2.length (some uC)]),(20,.arr 5 1 true (v2.map (D.int .u8)))]) (eff:=[(41,none),(2,some (.box [.ref 42 1 0 v3.length (some uC)])),(20,none),(42,some (.arr 5 1 true (v3.map (D.int .u8))))]) (nw:=(42,58)) (r:=.tuple []) rfl rfl rfl rfl rfl (zcg 42 (za6 20002 20 (za6 20001 2 (za6 20000 41 (zhc (.cons (.unk 20000 1 0 1 (some 1)) (.refl _)) (zez [a0.Message.Topic] v2 v3 hv3)))))) (fun id b h=>zam [41,2,20] _ id b h) (by simp) (.inr ⟨lb rfl,lb rfl⟩) ?_
 refine .nn ?_
 refine .seq ?_
 obtain⟨v4,hv4,hx1⟩:=za3 hx1
 refine .rg zS [1,3,6] ?_
 refine .rn 4 ?_
 refine .hcall (H:=[(2,.box [.ref 42 1 0 v3.length (some uC)]),(42,.arr 5 1 true (v3.map (D.int .u8)))]) (eff:=[(2,some (.box [.ref 58 1 0 v4.length (some uC)])),(42,none),(58,some (.arr 5 1 true (v4.map (D.int .u8))))]) (nw:=(58,74)) (r:=.tuple []) rfl rfl rfl rfl rfl (zcg 58 (za6 20001 42 (za6 20000 2 (zju a0.Message.Key v3 v4 hv4)))) (fun id b h=>zam [2,42] _ id b h) (by simp) (.inr ⟨lb rfl,lb rfl⟩) ?_
 refine .nn ?_
 obtain⟨v5,hv5,hx1⟩:=za3 hx1
 refine .rg zS [1,3,6] ?_
 refine .rn 4 ?_
 refine .hcall (H:=[(2,.box [.ref 58 1 0 v4.length (some uC)]),(58,.arr 5 1 true (v4.map (D.int .u8)))]) (eff:=[(2,some (.box [.ref 74 1 0 v5.length (some uC)])),(58,none),(74,some (.arr 5 1 true (v5.map (D.int .u8))))]) (nw:=(74,90)) (r:=.tuple []) rfl rfl rfl rfl rfl (zcg 74 (za6 20001 58 (za6 20000 2 (zju a0.Message.Body v4 v5 hv5)))) (fun id b h=>zam [2,58] _ id b h) (by simp) (.inr ⟨lb rfl,lb rfl⟩) ?_
 refine .nn ?_
 refine⟨_,?_,(sj hx1).symm⟩
 exact .m [3] [2,74] [(74,3)]
 replace hx1:=zae hx1 hc1
 refine .sp [1,3,4,5,14] ?_
 refine .cd ?_ ?_<;>intro hc2
 replace hx1:=zab hx1 hc2
 refine .goes (.boxs 2 _ [.ref 1 1 0 1 (some uC)] rfl (.cons (.unk _ _ _ _ _) (.refl _)) .refl) ?_
 obtain⟨v6,hv6,hx1⟩:=za3 hx1
 refine .rg zS [1,3,4] ?_
 refine .rn 6 ?_
 refine .hcall (H:=[(3,.arr 3 1 true ([a0.Id,a0.Time].map (D.int .i64))),(2,.box [.ref 1 1 0 1 (some uC)]),(1,.arr 5 1 true ([a0.Kind].map (D.int .u8)))]) (eff:=[(3,none),(2,some (.box [.ref 4 1 0 v6.length (some uC)])),(1,none),(4,some (.arr 5 1 true (v6.map (D.int .u8))))]) (nw:=(4,20)) (r:=.tuple []) rfl rfl rfl rfl rfl (zcg 4 (za6 20002 1 (za6 20001 2 (za6 20000 3 (zhc (.cons (.unk 20000 1 0 2 (some 2)) (.refl _)) (zez [a0.Id,a0.Time] [a0.Kind] v6 hv6)))))) (fun id b h=>zam [3,2,1] _ id b h) (by simp) (.inr ⟨lb rfl,lb rfl⟩) ?_
 refine .nn ?_
 refine⟨_,?_,(sj hx1).symm⟩
 exact .m [3] [2,4] [(4,3)]
 replace hx1:=zae hx1 hc2
 refine .sp [1,3,4,5,14] ?_
 refine .cd ?_ ?_<;>intro hc3
 replace hx1:=zab hx1 hc3
 refine .goes (.boxs 2 _ [.ref 1 1 0 1 (some uC)] rfl (.cons (.unk _ _ _ _ _) (.refl _)) .refl) ?_
 obtain⟨v7,hv7,hx1⟩:=za3 hx1
 refine .rg zS [1,3,5] ?_
 refine .rn 3 ?_
 refine .hcall (H:=[(2,.box [.ref 1 1 0 1 (some uC)]),(1,.arr 5 1 true ([a0.Kind].map (D.int .u8)))]) (eff:=[(2,some (.box [.ref 3 1 0 v7.length (some uC)])),(1,none),(3,some (.arr 5 1 true (v7.map (D.int .u8))))]) (nw:=(3,24)) (r:=.tuple []) rfl rfl rfl rfl rfl (zcg 3 (za6 20001 1 (za6 20000 2 (zjv a0.Members [a0.Kind] v7 hv7)))) (fun id b h=>zam [2,1] _ id b h) (by simp) (.inr ⟨lb rfl,lb rfl⟩) ?_
 refine .nn ?_
 refine⟨_,?_,(sj hx1).symm⟩
 exact .m [3] [2,3] []
 replace hx1:=zae hx1 hc3
 refine .sp [1,3,4,14] ?_
 refine .cd ?_ ?_<;>intro hc4
 replace hx1:=zab hx1 hc4
 refine .goes (.boxs 2 _ [.ref 1 1 0 1 (some uC)] rfl (.cons (.unk _ _ _ _ _) (.refl _)) .refl) ?_
 obtain⟨v8,hv8,hx1⟩:=za3 hx1
 refine .rg zS [1,3,4] ?_
 refine .rn 6 ?_
 refine .rn 4 ?_
 refine .hcall (H:=[(3,.arr 3 1 true ([a0.Id,a0.Topic,a0.Who,a0.N].map (D.int .i64))),(2,.box [.ref 1 1 0 1 (some uC)]),(1,.arr 5 1 true ([a0.Kind].map (D.int .u8)))]) (eff:=[(3,none),(2,some (.box [.ref 4 1 0 v8.length (some uC)])),(1,none),(4,some (.arr 5 1 true (v8.map (D.int .u8))))]) (nw:=(4,20)) (r:=.tuple []) rfl rfl rfl rfl rfl (zcg 4 (za6 20002 1 (za6 20001 2 (za6 20000 3 (zhc (.cons (.unk 20000 1 0 4 (some 4)) (.refl _)) (zez [a0.Id,a0.Topic,a0.Who,a0.N] [a0.Kind] v8 hv8)))))) (fun id b h=>zam [3,2,1] _ id b h) (by simp) (.inr ⟨lb rfl,lb rfl⟩) ?_
 refine .nn ?_
 refine⟨_,?_,(sj hx1).symm⟩
 exact .m [3] [2,4] [(4,3)]
 replace hx1:=zae hx1 hc4
 obtain⟨x2,hx2,hx1⟩:=za3 hx1
 refine .seqM 3 (fun(j:Bool)=>st69 a0 j) (fun j=>x2=j) (lb rfl) ?_ ?_
 refine .sp [1,3,4,14] ?_
 refine .cd ?_ ?_<;>intro hc5
 replace hx2:=zab hx2 hc5
 refine .skip ?_
 refine⟨_,?_,(sj hx2).symm⟩
 refine .boxs 2 _ [.ref 1 1 0 1 (some uC)] rfl (.cons (.unk _ _ _ _ _) (.refl _)) ?_
 exact .m [1,3,4,72] [0,2,1] [(1,3)]
 replace hx2:=zae hx2 hc5
 refine .pl zS [1,3,4,14] ?_
 refine⟨_,?_,(sj hx2).symm⟩
 refine .boxs 2 _ [.ref 1 1 0 1 (some uC)] rfl (.cons (.unk _ _ _ _ _) (.refl _)) ?_
 exact .m [1,3,4,72] [0,2,1] [(1,3)]
 rintro b1 hj1
 subst x2
 try dsimp only at hx1
 simp only[st69]
 refine .cd ?_ ?_<;>intro hc6
 replace hx1:=zab hx1 hc6
 obtain⟨v9,hv9,hx1⟩:=za3 hx1
 refine .rg zS [1,3,4] ?_
 refine .rn 8 ?_
 refine .hcall (H:=[(4,.arr 3 1 true ([a0.Id,a0.Topic,a0.N].map (D.int .i64))),(2,.box [.ref 3 1 0 ([a0.Kind].length) (some uC)]),(3,.arr 5 1 true ([a0.Kind].map (D.int .u8)))]) (eff:=[(4,none),(2,some (.box [.ref 5 1 0 v9.length (some uC)])),(3,none),(5,some (.arr 5 1 true (v9.map (D.int .u8))))]) (nw:=(5,21)) (r:=.tuple []) rfl rfl rfl rfl rfl (zcg 5 (za6 20002 3 (za6 20001 2 (za6 20000 4 (zhc (.cons (.unk 20000 1 0 3 (some 3)) (.refl _)) (zez [a0.Id,a0.Topic,a0.N] [a0.Kind] v9 hv9)))))) (fun id b h=>zam [4,2,3] _ id b h) (by simp) (.inr ⟨lb rfl,lb rfl⟩) ?_
 refine .nn ?_
 refine⟨_,?_,(sj hx1).symm⟩
 exact .m [3] [2,5] [(5,3)]
 replace hx1:=zae hx1 hc6
 refine .skip ?_
 refine⟨_,?_,(sj hx1).symm⟩
 exact .m [3] [2,3] []
 rintro l1 hj2
 subst x1
 try dsimp only at h
 simp only[st67]
 refine .sp [3] ?_
 obtain rfl:=sj h
 exact .rr
theorem zoy(a0:TCommand)(r:(List UInt8)×Int)(h:zko a0=some r):zbi Tryz.prog 32 [.agg [.int .u8 a0.Kind,.int .i64 a0.Message.Id,.imm 1 (a0.Message.Groups.map (D.int .i64)) 4,.int .i64 a0.Message.Topic,.str a0.Message.Key,.str a0.Message.Body,.int .i64 a0.Id,.int .i64 a0.Time,.imm 1 (a0.Members.map (D.int .i64)) 4,.int .i64 a0.Topic,.int .i64 a0.Who,.int .i64 a0.N]] (.tuple [.str r.1,.int .i64 r.2]):=by
 refine zbp 3 Tryz.func32 ?_
 intro hwf
 unfold zko at h
 refine .sp [0] ?_
 refine .seq ?_
 obtain⟨v1,hv1,h⟩:=za3 h
 refine .sr [1] ?_
 refine .rn 1 ?_
 refine .cl (zks a0 v1 hv1) ?_
 refine .rn 1 ?_
 refine .nn ?_
 refine .sp [1,4] ?_
 refine .cd ?_ ?_<;>intro hc1
 replace h:=zab h hc1
 refine .sp [4] ?_
 obtain rfl:=sj h
 exact .rr
 replace h:=zae h hc1
 refine .skip ?_
 obtain⟨v2,hv2,h⟩:=za3 h
 refine .sr [1] ?_
 refine .rn 1 ?_
 refine .cl (zpv a0 v2 hv2) ?_
 refine .rn 2 ?_
 refine .nn ?_
 obtain rfl:=sj h
 exact .rr
end Go.Proofs
namespace Go.Proofs
open Go.Tm
set_option linter.unusedVariables false
def zb7(b:List (List UInt8)):List (List UInt8)->Nat->Option (Bool ⊕ Unit)
 |[],n1=>
  some (.inr ())
 |y1::rest1,n1=>
  if n1<b.length then
  if ¬(y1=(b.getD n1 default)) then
  some (.inl false)
  else
  zb7 b rest1 (n1+1)
  else none
def zd1(a:List (List UInt8))(b:List (List UInt8)):Option Bool:=
 if ¬((a.length:Int)=(b.length:Int)) then
 some false
 else
 Option.bind (α:=Bool ⊕ Unit) (zb7 b a 0) fun z=>match z with
 |(.inl r)=>some r
 |(.inr _)=>
 some true
def zfe:Option TGroup:=
 some (⟨[0,1,2],[0,1,2]⟩:TGroup)
def zir:Option ((List UInt8)):=
 Option.bind (zko (⟨3,(⟨0,[],0,[],[]⟩:TMessage),0,0,[0,1],0,0,0⟩:TCommand)) fun v1=>
 some v1.1
def zgv:Option (TSeat×(List TRecord)×(List TMail)×Bool):=
 Option.bind (zfe) fun v1=>
 Option.bind (zih 0 0 v1) fun v2=>
 Option.bind (zir) fun v3=>
 Option.bind (zi5 v2.1 v3) fun v4=>
 Option.bind (zi6 v4.1) fun v5=>
 some (v5.1,v5.2.1,v5.2.2.1,(((v2.2==0)&&(v4.2==0))&&(v5.2.2.2==0)))
def zff:Option Bool:=
 Option.bind (zgv) fun v1=>
 if((v1.2.2.2=true)/\((v1.2.1.length:Int)=1))->0<v1.2.1.length then
 if((((v1.2.2.2=true)/\((v1.2.1.length:Int)=1))/\(((v1.2.1.getD 0 default).Kind=1)/\((v1.2.1.getD 0 default).Group=0)/\((v1.2.1.getD 0 default).Slot=1)/\((v1.2.1.getD 0 default).Ballot=8)/\((v1.2.1.getD 0 default).Value=[])))/\((v1.2.2.1.length:Int)=4))->0<v1.2.2.1.length then
 if(((((v1.2.2.2=true)/\((v1.2.1.length:Int)=1))/\(((v1.2.1.getD 0 default).Kind=1)/\((v1.2.1.getD 0 default).Group=0)/\((v1.2.1.getD 0 default).Slot=1)/\((v1.2.1.getD 0 default).Ballot=8)/\((v1.2.1.getD 0 default).Value=[])))/\((v1.2.2.1.length:Int)=4))/\(((v1.2.2.1.getD 0 default).From=0)/\((v1.2.2.1.getD 0 default).To=1)/\((v1.2.2.1.getD 0 default).Kind=7)/\((v1.2.2.1.getD 0 default).Group=0)/\((v1.2.2.1.getD 0 default).Slot=1)/\((v1.2.2.1.getD 0 default).Ballot=0)/\((v1.2.2.1.getD 0 default).Prior=0)/\((v1.2.2.1.getD 0 default).Value=[])/\((v1.2.2.1.getD 0 default).Id=0)/\((v1.2.2.1.getD 0 default).Time=0)))->3<v1.2.2.1.length then
 some (((((v1.2.2.2&&((v1.2.1.length:Int)==1))&&(((v1.2.1.getD 0 default).Kind==1)&&(((v1.2.1.getD 0 default).Group==0)&&(((v1.2.1.getD 0 default).Slot==1)&&(((v1.2.1.getD 0 default).Ballot==8)&&(((v1.2.1.getD 0 default).Value==[])&&true))))))&&((v1.2.2.1.length:Int)==4))&&(((v1.2.2.1.getD 0 default).From==0)&&(((v1.2.2.1.getD 0 default).To==1)&&(((v1.2.2.1.getD 0 default).Kind==7)&&(((v1.2.2.1.getD 0 default).Group==0)&&(((v1.2.2.1.getD 0 default).Slot==1)&&(((v1.2.2.1.getD 0 default).Ballot==0)&&(((v1.2.2.1.getD 0 default).Prior==0)&&(((v1.2.2.1.getD 0 default).Value==[])&&(((v1.2.2.1.getD 0 default).Id==0)&&(((v1.2.2.1.getD 0 default).Time==0)&&true)))))))))))&&(((v1.2.2.1.getD 3 default).From==0)&&(((v1.2.2.1.getD 3 default).To==2)&&(((v1.2.2.1.getD 3 default).Kind==1)&&(((v1.2.2.1.getD 3 default).Group==0)&&(((v1.2.2.1.getD 3 default).Slot==1)&&(((v1.2.2.1.getD 3 default).Ballot==8)&&(((v1.2.2.1.getD 3 default).Prior==0)&&(((v1.2.2.1.getD 3 default).Value==[])&&(((v1.2.2.1.getD 3 default).Id==0)&&(((v1.2.2.1.getD 3 default).Time==0)&&true)))))))))))
 else none
 else none
 else none
def zc0(a1:List UInt8):List (List UInt8)->Option (Bool ⊕ Unit)
 |[]=>
  some (.inr ())
 |y1::rest1=>
  if y1=a1 then
  some (.inl true)
  else
  zc0 a1 rest1
def zg4(a0:List (List UInt8))(a1:List UInt8):Option Bool:=
 Option.bind (α:=Bool ⊕ Unit) (zc0 a1 a0) fun z=>match z with
 |(.inl r)=>some r
 |(.inr _)=>
 some false
def zb8(a0:Ttowncrierlaw25_town)(a1:Int):Nat->Int->Option (Int ⊕ Unit)
 |0,_=>none
 |fu1+1,n1=>
  if n1<(a0.fSeats.length:Int) then
  if(0<=n1/\n1<(a0.fSeats.length:Int)) then
  if(a0.fSeats.getD n1.toNat default).Me=a1 then
  some (.inl n1)
  else
  zb8 a0 a1 fu1 (wr .i64 (n1+1))
  else none
  else
  some (.inr ())
def zbz(a0:Ttowncrierlaw25_town)(a1:Int):Option Int:=
 Option.bind (α:=Int ⊕ Unit) (zb8 a0 a1 (a0.fSeats.length+1) 0) fun z=>match z with
 |(.inl r)=>some r
 |(.inr _)=>
 some (-1)
def zck(a0:Ttowncrierlaw25_town)(a1:Ttowncrierlaw25_Act):Option (Bool×Ttowncrierlaw25_town):=
 if((a1.Kind.tmod 6)>=1)/\((a1.Kind.tmod 6)<=3) then
 if(a1.At<0)\/(a1.At>=(a0.fMail.length:Int)) then
 some (true,a0)
 else
 if(0<=a1.At/\a1.At<(a0.fMail.length:Int)) then
 Option.bind (α:=(List TMail)) (if ¬((a1.Kind.tmod 6)=2) then
 if(0<=a1.At/\a1.At<=(a0.fMail.length:Int)) then
 if(a0.fMail.take a1.At.toNat).length*88<=140737488355328 then
 if(0<=(wr .i64 (a1.At+1))/\(wr .i64 (a1.At+1))<=(a0.fMail.length:Int)) then
 if(a0.fMail.take a1.At.toNat).length+(a0.fMail.drop (wr .i64 (a1.At+1)).toNat).length<1000000 then
 some ((a0.fMail.take a1.At.toNat)++(a0.fMail.drop (wr .i64 (a1.At+1)).toNat))
 else none
 else none
 else none
 else none
 else
 some a0.fMail) fun l1=>
 Option.bind (zbz (⟨a0.fSeats,l1⟩:Ttowncrierlaw25_town) ((a0.fMail.getD a1.At.toNat default).To)) fun v1=>
 if((a1.Kind.tmod 6)=3)\/(v1<0) then
 some (true,(⟨a0.fSeats,l1⟩:Ttowncrierlaw25_town))
 else
 if(0<=v1/\v1<(a0.fSeats.length:Int)) then
 Option.bind (zhi (a0.fSeats.getD v1.toNat default) (a0.fMail.getD a1.At.toNat default)) fun v2=>
 Option.bind (α:=(List TSeat)×(List TMail)) (if v2.2.2.2=0 then
 if(0<=v1/\v1<(a0.fSeats.length:Int)) then
 if l1.length+v2.2.2.1.length<1000000 then
 some ((a0.fSeats.set v1.toNat v2.1),(l1++v2.2.2.1))
 else none
 else none
 else
 some (a0.fSeats,l1)) fun(l2,l3)=>
 some ((v2.2.2.2==0),(⟨l2,l3⟩:Ttowncrierlaw25_town))
 else none
 else none
 else
 Option.bind (zbz a0 a1.Node) fun v3=>
 if v3<0 then
 some (true,a0)
 else
 if(0<=v3/\v3<(a0.fSeats.length:Int)) then
 Option.bind (α:=TSeat×Int×(List TMail)) (if(a1.Kind.tmod 6)=0 then
 Option.bind (zi6 (a0.fSeats.getD v3.toNat default)) fun v4=>
 some (v4.1,v4.2.2.2,v4.2.2.1)
 else
 if(a1.Kind.tmod 6)=4 then
 Option.bind (zii (a0.fSeats.getD v3.toNat default)) fun v5=>
 some (v5.1,v5.2,[])
 else
 Option.bind (zi5 (a0.fSeats.getD v3.toNat default) a1.Value) fun v6=>
 if v6.2=0 then
 some (v6.1,0,[])
 else
 some ((a0.fSeats.getD v3.toNat default),0,[])) fun(x3,n1,l4)=>
 Option.bind (α:=(List TSeat)×(List TMail)) (if n1=0 then
 if(0<=v3/\v3<(a0.fSeats.length:Int)) then
 if a0.fMail.length+l4.length<1000000 then
 some ((a0.fSeats.set v3.toNat x3),(a0.fMail++l4))
 else none
 else none
 else
 some (a0.fSeats,a0.fMail)) fun(l5,l6)=>
 some ((n1==0),(⟨l5,l6⟩:Ttowncrierlaw25_town))
 else none
def zbn(a0:TGroup)(a1:Int):List Int->(List TSeat)->Option (Bool ⊕ ((List TSeat)))
 |[],l2=>
  some (.inr l2)
 |y1::rest1,l2=>
  Option.bind (zih (y1) a1 a0) fun v3=>
  if ¬(v3.2=0) then
  some (.inl false)
  else
  if l2.length+[v3.1].length<1000000 then
  zbn a0 a1 rest1 (l2++[v3.1])
  else none
theorem zfy(a0:TGroup)(a1:Int)(l2:List TSeat):zbn a0 a1 [] l2=
  (some (.inr l2):Option (Bool ⊕ ((List TSeat)))):=rfl
theorem zfz(a0:TGroup)(a1:Int)(y1:Int)(rest1:List Int)(l2:List TSeat):zbn a0 a1 (y1::rest1) l2=
  (Option.bind (zih (y1) a1 a0) fun v3=>
  if ¬(v3.2=0) then
  some (.inl false)
  else
  if l2.length+[v3.1].length<1000000 then
  zbn a0 a1 rest1 (l2++[v3.1])
  else none:Option (Bool ⊕ ((List TSeat)))):=rfl
def zbm(v1:Bool):List Ttowncrierlaw25_Act->(List TSeat)->(List TMail)->(List (List UInt8))->Option (Bool ⊕ ((List TSeat)×(List TMail)×(List (List UInt8))))
 |[],l6,l7,l8=>
  some (.inr (l6,l7,l8))
 |y2::rest2,l6,l7,l8=>
  if(((y2.Value).length:Int)>1100)\/((l7.length:Int)>3000) then
  some (.inl v1)
  else
  Option.bind (zck (⟨l6,l7⟩:Ttowncrierlaw25_town) (y2)) fun v4=>
  if ¬(v4.1=true) then
  some (.inl false)
  else
  if l8.length+[y2.Value].length<1000000 then
  zbm v1 rest2 v4.2.fSeats v4.2.fMail (l8++[y2.Value])
  else none
theorem zfw(v1:Bool)(l6:List TSeat)(l7:List TMail)(l8:List (List UInt8)):zbm v1 [] l6 l7 l8=
  (some (.inr (l6,l7,l8)):Option (Bool ⊕ ((List TSeat)×(List TMail)×(List (List UInt8))))):=rfl
theorem zfx(v1:Bool)(y2:Ttowncrierlaw25_Act)(rest2:List Ttowncrierlaw25_Act)(l6:List TSeat)(l7:List TMail)(l8:List (List UInt8)):zbm v1 (y2::rest2) l6 l7 l8=
  (if(((y2.Value).length:Int)>1100)\/((l7.length:Int)>3000) then
  some (.inl v1)
  else
  Option.bind (zck (⟨l6,l7⟩:Ttowncrierlaw25_town) (y2)) fun v4=>
  if ¬(v4.1=true) then
  some (.inl false)
  else
  if l8.length+[y2.Value].length<1000000 then
  zbm v1 rest2 v4.2.fSeats v4.2.fMail (l8++[y2.Value])
  else none:Option (Bool ⊕ ((List TSeat)×(List TMail)×(List (List UInt8))))):=rfl
def zbk(l3:List TSeat)(n3:Int):Nat->Int->Option (Bool ⊕ Unit)
 |0,_=>none
 |fu2+1,n4=>
  if n4<n3 then
  if(0<=n4/\n4<(l3.length:Int)) then
  if(0<=n3/\n3<(l3.length:Int)) then
  if(0<=n4/\n4<(l3.length:Int)) then
  if(0<=(min (((l3.getD n4.toNat default).Log).length:Int) (((l3.getD n3.toNat default).Log).length:Int))/\(min (((l3.getD n4.toNat default).Log).length:Int) (((l3.getD n3.toNat default).Log).length:Int))<=(((l3.getD n4.toNat default).Log).length:Int)) then
  if(0<=n3/\n3<(l3.length:Int)) then
  if(0<=(min (((l3.getD n4.toNat default).Log).length:Int) (((l3.getD n3.toNat default).Log).length:Int))/\(min (((l3.getD n4.toNat default).Log).length:Int) (((l3.getD n3.toNat default).Log).length:Int))<=(((l3.getD n3.toNat default).Log).length:Int)) then
  Option.bind (zd1 (((l3.getD n4.toNat default).Log).take (min (((l3.getD n4.toNat default).Log).length:Int) (((l3.getD n3.toNat default).Log).length:Int)).toNat) (((l3.getD n3.toNat default).Log).take (min (((l3.getD n4.toNat default).Log).length:Int) (((l3.getD n3.toNat default).Log).length:Int)).toNat)) fun v5=>
  if ¬(v5=true) then
  some (.inl false)
  else
  zbk l3 n3 fu2 (wr .i64 (n4+1))
  else none
  else none
  else none
  else none
  else none
  else none
  else
  some (.inr ())
def zbj(l5:List (List UInt8)):List (List UInt8)->Option (Bool ⊕ Unit)
 |[]=>
  some (.inr ())
 |y3::rest3=>
  Option.bind (zg4 l5 (y3)) fun v6=>
  if ¬(v6=true) then
  some (.inl false)
  else
  zbj l5 rest3
def zbl(l3:List TSeat)(l5:List (List UInt8)):Nat->Int->Option (Bool ⊕ Unit)
 |0,_=>none
 |fu1+1,n3=>
  if n3<(l3.length:Int) then
  Option.bind (α:=Bool ⊕ Unit) (Option.bind (α:=Bool ⊕ Unit) (zbk l3 n3 (n3.toNat+1) 0) fun z=>match z with
  |(.inl r)=>some (.inl r)
  |(.inr _)=>
  if(0<=n3/\n3<(l3.length:Int)) then
  zbj l5 ((l3.getD n3.toNat default).Log)
  else none) fun z=>match z with
  |(.inl r)=>some (.inl r)
  |(.inr _)=>
  zbl l3 l5 fu1 (wr .i64 (n3+1))
  else
  some (.inr ())
def zek(a0:TGroup)(a1:Int)(a2:List Ttowncrierlaw25_Act):Option Bool:=
 Option.bind (zff) fun v1=>
 if v1=true then
 if ¬(v1=true) then
 some false
 else
 Option.bind (zbr a0) fun v2=>
 if(((¬(v2=0))\/(a1<0))\/(a1>3))\/((a2.length:Int)>120) then
 some v1
 else
 Option.bind (α:=Bool ⊕ ((List TSeat))) (zbn a0 a1 a0.Roster []) fun z=>match z with
 |(.inl r)=>some r
 |(.inr l1)=>
 Option.bind (α:=Bool ⊕ ((List TSeat)×(List TMail)×(List (List UInt8)))) (zbm v1 a2 l1 [] []) fun z=>match z with
 |(.inl r)=>some r
 |(.inr (l3,l4,l5))=>
 Option.bind (α:=Bool ⊕ Unit) (zbl l3 l5 (l3.length+1) 0) fun z=>match z with
 |(.inl r)=>some r
 |(.inr _)=>
 some v1
 else none
end Go.Proofs
