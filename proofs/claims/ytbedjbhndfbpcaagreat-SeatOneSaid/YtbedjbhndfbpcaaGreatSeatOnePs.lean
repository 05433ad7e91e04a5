/- Texts of the proof. -/
import Derived.Test.YtbedjbhndfbpcaaGreatSeatOnePp
import Derived.Test.YtbedjbhndfbpcaaGreatSeatOnePo
import Derived.Test.YtbedjbhndfbpcaaGreatSeatOnePq
import Derived.Test.YtbedjbhndfbpcaaGreatSeatOnePr
namespace Go.Proofs
open Go.Tm Go.RowKit Go.WideShapes
set_option maxRecDepth 100000
set_option maxHeartbeats 4000000
set_option linter.unusedSimpArgs false
set_option linter.unusedVariables false
theorem zm3(a0:Int)(c0:TAttempt)(c1:TPromise)(r:Bool)(h:zdy a0 c0 c1=some r):zbi Tryz.prog 100 [.int .i64 a0,.iptr 0 [.int .u8 c0.Phase,.int .i64 c0.Ballot,.imm 1 (c0.Members.map (D.int .i64)) 4,.str c0.Wish,.str c0.Value,.imm 3 (c0.Promises.map TPromise.d) 4,.imm 1 (c0.Accepted.map (D.int .i64)) 4],.iptr 0 [.int .i64 c1.Node,.int .i64 c1.Ballot,.str c1.Value]] (.bool r):=by
 refine zbp 2 Tryz.func100 ?_
 intro hwf
 unfold zdy at h
 refine .sp [0,1,2] ?_
 refine .seq ?_
 obtain⟨k1,h⟩:=zbc h
 have e1:=zdp TPromise.d c0.Promises a0
 replace e1:=e1 k1
 refine .rg zS [0,1,2] ?_
 refine .rdx 6 e1 ?_
 refine .rdx 4 e1 ?_
 refine .nd ?_
 obtain rfl:=sj h
 exact .rr
@[go_sem] def st54(p:TPromise)(v4:TAttempt)(v5:Int)(n1:Int)(s1:List UInt8):St:=⟨[(3,.ptr 0 0),(6,.ptr 2 0)],[(0,.box [.int .u8 n1,.int .i64 v4.Ballot,.ref 14 1 0 v4.Members.length (some uC),.str v4.Wish,.str s1,.ref 29 3 0 (((v4.Promises.take v5.toNat)++(p::(v4.Promises.drop v5.toNat))).length) (some uC),.ref 16 1 0 v4.Accepted.length (some uC)]),(2,.box [.int .u8 0,.int .i64 0,.imm 0 [] 0,.str [],.str [],.imm 0 [] 0,.imm 0 [] 0]),(14,.arr 3 1 true (v4.Members.map (D.int .i64))),(16,.arr 3 1 true (v4.Accepted.map (D.int .i64))),(29,.arr 93 3 true (((v4.Promises.take v5.toNat)++(p::(v4.Promises.drop v5.toNat))).map TPromise.d))],30⟩
@[go_sem] def st2(r:TAttempt×Int):St:=⟨[(6,.ptr 3 0),(7,.int .i64 r.2)],[(0,.arr 3 1 true (r.1.Members.map (D.int .i64))),(1,.arr 93 3 true (r.1.Promises.map TPromise.d)),(2,.arr 3 1 true (r.1.Accepted.map (D.int .i64))),(3,.box [.int .u8 r.1.Phase,.int .i64 r.1.Ballot,.ref 0 1 0 r.1.Members.length (some uC),.str r.1.Wish,.str r.1.Value,.ref 1 3 0 r.1.Promises.length (some uC),.ref 2 1 0 r.1.Accepted.length (some uC)])],4⟩
theorem zmz(a:TAttempt)(b:Int)(p:TPromise)(r:TAttempt×Int)(h:zen a b p=some r):zbv Tryz.prog 76 [.agg [.int .u8 a.Phase,.int .i64 a.Ballot,.imm 1 (a.Members.map (D.int .i64)) 4,.str a.Wish,.str a.Value,.imm 3 (a.Promises.map TPromise.d) 4,.imm 1 (a.Accepted.map (D.int .i64)) 4],.int .i64 b,.agg [.int .i64 p.Node,.int .i64 p.Ballot,.str p.Value]] [] (.tuple [.agg [.int .u8 r.1.Phase,.int .i64 r.1.Ballot,.ref 0 1 0 r.1.Members.length (some uC),.str r.1.Wish,.str r.1.Value,.ref 1 3 0 r.1.Promises.length (some uC),.ref 2 1 0 r.1.Accepted.length (some uC)],.int .i64 r.2]) [(0,some (.arr 3 1 true (r.1.Members.map (D.int .i64)))),(1,some (.arr 93 3 true (r.1.Promises.map TPromise.d))),(2,some (.arr 3 1 true (r.1.Accepted.map (D.int .i64))))] (0,38):=by
 refine zct Tryz.func76 ?_
 intro hwf
 unfold zen at h
 refine .ends 0 (za4 _) ?_
 refine .sp [0,1,2] ?_
 refine .seq ?_
 obtain⟨v1,hv1,h⟩:=za3 h
 refine .sr [1,3,5,6] ?_
 refine .rn 1 ?_
 refine .cl (zi8 a v1 hv1) ?_
 refine .rn 1 ?_
 refine .nn ?_
 refine .sp [1,3,5,6,8] ?_
 refine .cd ?_ ?_<;>intro hc1
 replace h:=zab h hc1
 refine .sp [6,8] ?_
 obtain rfl:=sj h
 refine .ret ⟨st2 ((⟨0,0,[],[],[],[],[]⟩:TAttempt),v1),?_,.inr rfl,retH [2,1,0] ?_ ?_⟩
 refine .n0 1 3 ?_
 refine .n0 3 93 ?_
 refine .n0 1 3 ?_
 refine .boxs 2 _ [_,_,.ref 3 1 0 0 (some uC),_,_,.ref 4 3 0 0 (some uC),.ref 5 1 0 0 (some uC)] rfl (.keep (.keep (.cons (.own0 3 _ _ _ (by decide)) (.keep (.keep (.cons (.own0 4 _ _ _ (by decide)) (.cons (.own0 5 _ _ _ (by decide)) (.refl _)))))))) ?_
 exact .m [6,7] [3,4,5,2] [(3,0),(4,1),(5,2),(2,3)]
 exact rsi0
 rfl
 replace h:=zae h hc1
 refine .skip (.seq ?_)
 obtain⟨v2,hv2,h⟩:=za3 h
 refine .sr [1,3,5,6] ?_
 refine .rn 6 ?_
 refine .rn 8 ?_
 refine .gcall rfl rfl rfl rfl rfl (fun hg=>⟨[],[.imm 1 (a.Members.map (D.int .i64)) 4,.int .i64 p.Node],_,rfl,gd hg,rfl,(zdg a.Members p.Node v2 (zab hv2 hg))⟩) ?_
 refine .rn 2 ?_
 refine .nn ?_
 refine .cd ?_ ?_<;>intro hc2
 replace h:=zab h hc2
 refine .sp [6] ?_
 obtain rfl:=sj h
 refine .ret ⟨st2 ((⟨0,0,[],[],[],[],[]⟩:TAttempt),6),?_,.inr rfl,retH [2,1,0] ?_ ?_⟩
 refine .n0 1 3 ?_
 refine .n0 3 93 ?_
 refine .n0 1 3 ?_
 refine .boxs 2 _ [_,_,.ref 3 1 0 0 (some uC),_,_,.ref 4 3 0 0 (some uC),.ref 5 1 0 0 (some uC)] rfl (.keep (.keep (.cons (.own0 3 _ _ _ (by decide)) (.keep (.keep (.cons (.own0 4 _ _ _ (by decide)) (.cons (.own0 5 _ _ _ (by decide)) (.refl _)))))))) ?_
 exact .m [6,7] [3,4,5,2] [(3,0),(4,1),(5,2),(2,3)]
 exact rsi0
 rfl
 replace h:=zae h hc2
 refine .skip (.seq ?_)
 obtain⟨v3,hv3,h⟩:=za3 h
 refine .sr [1,3,5,6] ?_
 refine .rn 2 ?_
 refine .cl (zm2 p b v3 hv3) ?_
 refine .rn 1 ?_
 refine .nn ?_
 refine .cd ?_ ?_<;>intro hc3
 replace h:=zab h hc3
 refine .sp [6] ?_
 obtain rfl:=sj h
 refine .ret ⟨st2 ((⟨0,0,[],[],[],[],[]⟩:TAttempt),8),?_,.inr rfl,retH [2,1,0] ?_ ?_⟩
 refine .n0 1 3 ?_
 refine .n0 3 93 ?_
 refine .n0 1 3 ?_
 refine .boxs 2 _ [_,_,.ref 3 1 0 0 (some uC),_,_,.ref 4 3 0 0 (some uC),.ref 5 1 0 0 (some uC)] rfl (.keep (.keep (.cons (.own0 3 _ _ _ (by decide)) (.keep (.keep (.cons (.own0 4 _ _ _ (by decide)) (.cons (.own0 5 _ _ _ (by decide)) (.refl _)))))))) ?_
 exact .m [6,7] [3,4,5,2] [(3,0),(4,1),(5,2),(2,3)]
 exact rsi0
 rfl
 replace h:=zae h hc3
 refine .skip ?_
 obtain⟨v4,hv4,h⟩:=za3 h
 refine .sr [3,5,6] ?_
 refine .rn 1 ?_
 refine .ncall (r:=.agg [.int .u8 v4.Phase,.int .i64 v4.Ballot,.ref 14 1 0 v4.Members.length (some uC),.str v4.Wish,.str v4.Value,.ref 15 3 0 v4.Promises.length (some uC),.ref 16 1 0 v4.Accepted.length (some uC)]) (eff:=[(14,some (.arr 3 1 true (v4.Members.map (D.int .i64)))),(15,some (.arr 93 3 true (v4.Promises.map TPromise.d))),(16,some (.arr 3 1 true (v4.Accepted.map (D.int .i64))))]) (nw:=(14,28)) [] rfl rfl rfl rfl rfl (za9 rfl zaj) rfl (zcu 14 (lb rfl) (zj1 a v4 hv4)) (zay rfl rfl (zbb zbt _ _ _) (zay rfl rfl (zbb zgd _ _ _) (zay rfl rfl (zbb zbt _ _ _) zd5))) (by intro i hi;simp[D.ids,D.idsL] at hi<;>omega) rfl ⟨lb rfl,lb rfl⟩ ?_
 refine .rn 1 ?_
 refine .nn ?_
 obtain⟨v5,hv5,h⟩:=za3 h
 refine .sr [3,5,6] ?_
 refine .rn 4 ?_
 refine .lcall (r:=.int .i64 v5) [14,15,16] rfl rfl rfl rfl rfl (za9 rfl (za9 (zk0 (za9 (zcc rfl (za2 rfl (za2 rfl (za2 (zaf (zdz .i64) (by first|rfl|(simp only[go_sem,Nat.reduceBEq];rfl)) (by first|rfl|(simp;done)|(simp<;>omega))) (za2 rfl (za2 rfl (za2 (zaf zmc (by first|rfl|(simp only[go_sem,Nat.reduceBEq];rfl)) (by first|rfl|(simp;done)|(simp<;>omega))) (za2 (zaf (zdz .i64) (by first|rfl|(simp only[go_sem,Nat.reduceBEq];rfl)) (by first|rfl|(simp;done)|(simp<;>omega))) zc3)))))))) (za9 (zcc rfl (za2 rfl (za2 rfl (za2 rfl zc3)))) zaj))) zaj)) rfl (zm0 (v4.Promises.length:Int) 100 [.iptr 0 [.int .u8 v4.Phase,.int .i64 v4.Ballot,.imm 1 (v4.Members.map (D.int .i64)) 4,.str v4.Wish,.str v4.Value,.imm 3 (v4.Promises.map TPromise.d) 4,.imm 1 (v4.Accepted.map (D.int .i64)) 4],.iptr 0 [.int .i64 p.Node,.int .i64 p.Ballot,.str p.Value]] (fun _=>rfl) (fun _=>rfl) (fun _=>rfl) (fun x0=>zdy x0 v4 p) (fun x0 y hy=>zm3 x0 v4 p y hy) v5 hv5) ?_
 refine .rn 1 ?_
 refine .nn ?_
 obtain⟨k1,h⟩:=zbc h
 refine .seq ?_
 refine .seqM 28 (fun(_:Unit)=>⟨[(3,.ptr 0 0),(5,.ptr 1 0),(6,.ptr 2 0),(9,.int .i64 v5),(61,.bool ((decide (v5<(v4.Promises.length:Int)))&&((v4.Promises.getD v5.toNat default).Node==p.Node)))],[(0,.box [.int .u8 v4.Phase,.int .i64 v4.Ballot,.ref 14 1 0 v4.Members.length (some uC),.str v4.Wish,.str v4.Value,.ref 15 3 0 v4.Promises.length (some uC),.ref 16 1 0 v4.Accepted.length (some uC)]),(1,.box [.int .i64 p.Node,.int .i64 p.Ballot,.str p.Value]),(2,.box [.int .u8 0,.int .i64 0,.imm 0 [] 0,.str [],.str [],.imm 0 [] 0,.imm 0 [] 0]),(14,.arr 3 1 true (v4.Members.map (D.int .i64))),(15,.arr 93 3 true (v4.Promises.map TPromise.d)),(16,.arr 3 1 true (v4.Accepted.map (D.int .i64)))],28⟩) (fun _=>True) (lb rfl) ?_ (fun _ _=>?_)
 by_cases hgd:v5<(v4.Promises.length:Int)
 have eg10:=zdp TPromise.d v4.Promises v5 (k1 hgd)
 refine .rg zS [3,5,6,9] ?_
 refine .rdx 6 eg10 ?_
 refine .rdx 6 eg10 ?_
 refine .rdx 4 eg10 ?_
 refine .nd ?_
 refine⟨(),?_,trivial⟩
 exact .m [3,5,6,9,61] [0,1,2,14,15,16] []
 have hgf1:(decide (v5<(v4.Promises.length:Int)))=false:=by first|simpa using hgd|(simp at hgd ⊢;omega)|grind
 rcases ya3k TPromise.d v4.Promises v5.toNat with eg10|eg10
 refine .rg zS [3,5,6,9] ?_
 refine .rdx 6 (ai eg10 hgf1) ?_
 refine .rdx 6 (ai eg10 hgf1) ?_
 refine .rdx 4 (ai eg10 hgf1) ?_
 refine .nd ?_
 refine⟨(),?_,trivial⟩
 exact .mx hgf1 [3,5,6,9,61] [0,1,2,14,15,16] []
 refine .rg zS [3,5,6,9] ?_
 refine .rdx 6 (ai eg10 hgf1) ?_
 refine .rdx 6 (ai eg10 hgf1) ?_
 refine .rdx 4 (ai eg10 hgf1) ?_
 refine .nd ?_
 refine⟨(),?_,trivial⟩
 exact .mx hgf1 [3,5,6,9,61] [0,1,2,14,15,16] []
 refine .cd ?_ ?_<;>intro hc4
 replace h:=zab h hc4
 refine .sp [3,6] ?_
 obtain rfl:=sj h
 refine .ret ⟨st2 (v4,0),?_,.inr rfl,retH [2,1,0] ?_ ?_⟩
 exact .m [6,7] [14,15,16,2] [(14,0),(15,1),(16,2),(2,3)]
 exact rsi0
 rfl
 replace h:=zae h hc4
 refine .skip ?_
 obtain⟨k2,h⟩:=zbc h
 obtain⟨k3,h⟩:=zbc h
 refine .sr [3,5,6,9] ?_
 refine .rn 5 ?_
 refine .hcall (r:=.ref 29 3 0 (((v4.Promises.take v5.toNat)++(p::(v4.Promises.drop v5.toNat))).length) (some uC)) rfl rfl rfl rfl rfl (ya7k 15 28 29 (by decide) (by decide) (by decide) v4.Promises p v5 k2 k3) (fun id b h=>zam [15,28] _ id b h) (by simp) (.inr ⟨za4 _,lb rfl⟩) ?_
 refine .rn 2 ?_
 refine .nn ?_
 obtain⟨x1,hx1,h⟩:=za3 h
 refine .seqM 30 (fun(j:Int×(List UInt8))=>st54 p v4 v5 j.1 j.2) (fun j=>x1=j) (lb rfl) ?_ ?_
 refine .seq ?_
 obtain⟨v6,hv6,hx1⟩:=za3 hx1
 obtain⟨v7,hv7,hx1⟩:=za3 hx1
 refine .rg zS [3,6] ?_
 refine .rd 4 ?_
 refine .ncall (r:=.ref 30 1 0 v6.length (some uC)) (eff:=[(30,some (.arr 3 1 true (v6.map (D.int .i64))))]) (nw:=(30,36)) [] rfl rfl rfl rfl rfl (za9 (zhk (zaf zmc (by first|rfl|(simp only[go_sem,Nat.reduceBEq];rfl)) (by first|rfl|(simp;done)|(simp<;>omega))) trivial) zaj) rfl (zcu 30 (lb rfl) (zku ((v4.Promises.take v5.toNat)++(p::(v4.Promises.drop v5.toNat))) v6 hv6)) (zay rfl rfl (zbb zbt _ _ _) zd5) (by intro i hi;simp[D.ids,D.idsL] at hi<;>omega) rfl ⟨lb rfl,lb rfl⟩ ?_
 refine .rd 0 ?_
 refine .lcall (r:=.bool v7) [] rfl rfl rfl rfl rfl (za9 (zhk (zaf (zdz .i64) (by first|rfl|(simp only[go_sem,Nat.reduceBEq];rfl)) (by first|rfl|(simp;done)|(simp<;>omega))) trivial) (za9 (zhk (zaf (zdz .i64) (by first|rfl|(simp only[go_sem,Nat.reduceBEq];rfl)) (by first|rfl|(simp;done)|(simp<;>omega))) trivial) zaj)) rfl (zh3 v4.Members v6 v7 hv7) ?_
 refine .nd ?_
 refine .cd ?_ ?_<;>intro hc5
 replace hx1:=zab hx1 hc5
 obtain⟨v8,hv8,hx1⟩:=za3 hx1
 refine .rg zS [3,6] ?_
 refine .rn 4 ?_
 refine .lcall (r:=.str v8) [] rfl rfl rfl rfl rfl (za9 (zhk (zaf zmc (by first|rfl|(simp only[go_sem,Nat.reduceBEq];rfl)) (by first|rfl|(simp;done)|(simp<;>omega))) trivial) (za9 rfl zaj)) rfl (zl9 ((v4.Promises.take v5.toNat)++(p::(v4.Promises.drop v5.toNat))) v4.Wish v8 hv8) ?_
 refine .rn 4 ?_
 refine .nn ?_
 refine⟨_,?_,(sj hx1).symm⟩
 exact .m [3,6] [0,2,14,16,29] []
 replace hx1:=zae hx1 hc5
 refine .skip ?_
 refine⟨_,?_,(sj hx1).symm⟩
 exact .m [3,6] [0,2,14,16,29] []
 rintro⟨n1,s1⟩ hj1
 subst x1
 try dsimp only at h
 simp only[st54]
 refine .sp [3,6] ?_
 obtain rfl:=sj h
 refine .ret ⟨st2 ((⟨n1,v4.Ballot,v4.Members,v4.Wish,s1,((v4.Promises.take v5.toNat)++(p::(v4.Promises.drop v5.toNat))),v4.Accepted⟩:TAttempt),0),?_,.inr rfl,retH [2,1,0] ?_ ?_⟩
 exact .m [6,7] [14,29,16,2] [(14,0),(29,1),(16,2),(2,3)]
 exact rsi0
 rfl
theorem zmw(a:TAttempt)(b:Int)(p:TPromise)(r:TAttempt×Int)(h:zen a b p=some r):zbi Tryz.prog 76 [.agg [.int .u8 a.Phase,.int .i64 a.Ballot,.imm 1 (a.Members.map (D.int .i64)) 4,.str a.Wish,.str a.Value,.imm 3 (a.Promises.map TPromise.d) 4,.imm 1 (a.Accepted.map (D.int .i64)) 4],.int .i64 b,.agg [.int .i64 p.Node,.int .i64 p.Ballot,.str p.Value]] (.tuple [.agg [.int .u8 r.1.Phase,.int .i64 r.1.Ballot,.imm 1 (r.1.Members.map (D.int .i64)) 13,.str r.1.Wish,.str r.1.Value,.imm 3 (r.1.Promises.map TPromise.d) 13,.imm 1 (r.1.Accepted.map (D.int .i64)) 13],.int .i64 r.2]):=
 zgb (zmj (za8 (zkp (za8 rfl (za8 rfl (za8 (zbd zbt rfl rfl) (za8 rfl (za8 rfl (za8 (zbd zgd rfl rfl) (za8 (zbd zbt rfl rfl) zep)))))))) (za8 rfl zep))) (zmz a b p r h)
@[go_sem] def st46(v3:TAttempt)(l1:List Int):St:=⟨[(3,.ptr 0 0),(6,.ptr 1 0)],[(0,.box [.int .u8 v3.Phase,.int .i64 v3.Ballot,.ref 14 1 0 v3.Members.length (some uC),.str v3.Wish,.str v3.Value,.ref 15 3 0 v3.Promises.length (some uC),.ref 28 1 0 l1.length (some uC)]),(1,.box [.int .u8 0,.int .i64 0,.imm 0 [] 0,.str [],.str [],.imm 0 [] 0,.imm 0 [] 0]),(14,.arr 3 1 true (v3.Members.map (D.int .i64))),(15,.arr 93 3 true (v3.Promises.map TPromise.d)),(28,.arr 3 1 true (l1.map (D.int .i64)))],29⟩
@[go_sem] def st47(v3:TAttempt)(l1:List Int)(n1:Int):St:=⟨[(3,.ptr 0 0),(6,.ptr 1 0)],[(0,.box [.int .u8 n1,.int .i64 v3.Ballot,.ref 14 1 0 v3.Members.length (some uC),.str v3.Wish,.str v3.Value,.ref 15 3 0 v3.Promises.length (some uC),.ref 28 1 0 l1.length (some uC)]),(1,.box [.int .u8 0,.int .i64 0,.imm 0 [] 0,.str [],.str [],.imm 0 [] 0,.imm 0 [] 0]),(14,.arr 3 1 true (v3.Members.map (D.int .i64))),(15,.arr 93 3 true (v3.Promises.map TPromise.d)),(28,.arr 3 1 true (l1.map (D.int .i64)))],29⟩
@[go_sem] def st0(r:TAttempt×Int):St:=⟨[(6,.ptr 3 0),(7,.int .i64 r.2)],[(0,.arr 3 1 true (r.1.Members.map (D.int .i64))),(1,.arr 93 3 true (r.1.Promises.map TPromise.d)),(2,.arr 3 1 true (r.1.Accepted.map (D.int .i64))),(3,.box [.int .u8 r.1.Phase,.int .i64 r.1.Ballot,.ref 0 1 0 r.1.Members.length (some uC),.str r.1.Wish,.str r.1.Value,.ref 1 3 0 r.1.Promises.length (some uC),.ref 2 1 0 r.1.Accepted.length (some uC)])],4⟩
theorem zn0(a:TAttempt)(b:Int)(node:Int)(r:TAttempt×Int)(h:zeo a b node=some r):zbv Tryz.prog 77 [.agg [.int .u8 a.Phase,.int .i64 a.Ballot,.imm 1 (a.Members.map (D.int .i64)) 4,.str a.Wish,.str a.Value,.imm 3 (a.Promises.map TPromise.d) 4,.imm 1 (a.Accepted.map (D.int .i64)) 4],.int .i64 b,.int .i64 node] [] (.tuple [.agg [.int .u8 r.1.Phase,.int .i64 r.1.Ballot,.ref 0 1 0 r.1.Members.length (some uC),.str r.1.Wish,.str r.1.Value,.ref 1 3 0 r.1.Promises.length (some uC),.ref 2 1 0 r.1.Accepted.length (some uC)],.int .i64 r.2]) [(0,some (.arr 3 1 true (r.1.Members.map (D.int .i64)))),(1,some (.arr 93 3 true (r.1.Promises.map TPromise.d))),(2,some (.arr 3 1 true (r.1.Accepted.map (D.int .i64))))] (0,32):=by
 refine zct Tryz.func77 ?_
 intro hwf
 unfold zeo at h
 refine .ends 0 (za4 _) ?_
 refine .sp [0,1,2] ?_
 refine .seq ?_
 obtain⟨v1,hv1,h⟩:=za3 h
 refine .sr [1,2,3,6] ?_
 refine .rn 1 ?_
 refine .cl (zi8 a v1 hv1) ?_
 refine .rn 1 ?_
 refine .nn ?_
 refine .sp [1,2,3,6,8] ?_
 refine .cd ?_ ?_<;>intro hc1
 replace h:=zab h hc1
 refine .sp [6,8] ?_
 obtain rfl:=sj h
 refine .ret ⟨st0 ((⟨0,0,[],[],[],[],[]⟩:TAttempt),v1),?_,.inr rfl,retH [2,1,0] ?_ ?_⟩
 refine .n0 1 3 ?_
 refine .n0 3 93 ?_
 refine .n0 1 3 ?_
 refine .boxs 1 _ [_,_,.ref 2 1 0 0 (some uC),_,_,.ref 3 3 0 0 (some uC),.ref 4 1 0 0 (some uC)] rfl (.keep (.keep (.cons (.own0 2 _ _ _ (by decide)) (.keep (.keep (.cons (.own0 3 _ _ _ (by decide)) (.cons (.own0 4 _ _ _ (by decide)) (.refl _)))))))) ?_
 exact .m [6,7] [2,3,4,1] [(2,0),(3,1),(4,2),(1,3)]
 exact rsi0
 rfl
 replace h:=zae h hc1
 refine .skip (.seq ?_)
 obtain⟨v2,hv2,h⟩:=za3 h
 refine .sr [1,2,3,6] ?_
 refine .rn 6 ?_
 refine .rn 7 ?_
 refine .gcall rfl rfl rfl rfl rfl (fun hg=>⟨[],[.imm 1 (a.Members.map (D.int .i64)) 4,.int .i64 node],_,rfl,gd hg,rfl,(zdg a.Members node v2 (zab hv2 hg))⟩) ?_
 refine .rn 2 ?_
 refine .nn ?_
 refine .cd ?_ ?_<;>intro hc2
 replace h:=zab h hc2
 refine .sp [6] ?_
 obtain rfl:=sj h
 refine .ret ⟨st0 ((⟨0,0,[],[],[],[],[]⟩:TAttempt),6),?_,.inr rfl,retH [2,1,0] ?_ ?_⟩
 refine .n0 1 3 ?_
 refine .n0 3 93 ?_
 refine .n0 1 3 ?_
 refine .boxs 1 _ [_,_,.ref 2 1 0 0 (some uC),_,_,.ref 3 3 0 0 (some uC),.ref 4 1 0 0 (some uC)] rfl (.keep (.keep (.cons (.own0 2 _ _ _ (by decide)) (.keep (.keep (.cons (.own0 3 _ _ _ (by decide)) (.cons (.own0 4 _ _ _ (by decide)) (.refl _)))))))) ?_
 exact .m [6,7] [2,3,4,1] [(2,0),(3,1),(4,2),(1,3)]
 exact rsi0
 rfl
 replace h:=zae h hc2
 refine .skip ?_
 obtain⟨v3,hv3,h⟩:=za3 h
 refine .sr [2,3,6] ?_
 refine .rn 1 ?_
 refine .ncall (r:=.agg [.int .u8 v3.Phase,.int .i64 v3.Ballot,.ref 14 1 0 v3.Members.length (some uC),.str v3.Wish,.str v3.Value,.ref 15 3 0 v3.Promises.length (some uC),.ref 16 1 0 v3.Accepted.length (some uC)]) (eff:=[(14,some (.arr 3 1 true (v3.Members.map (D.int .i64)))),(15,some (.arr 93 3 true (v3.Promises.map TPromise.d))),(16,some (.arr 3 1 true (v3.Accepted.map (D.int .i64))))]) (nw:=(14,28)) [] rfl rfl rfl rfl rfl (za9 rfl zaj) rfl (zcu 14 (lb rfl) (zj1 a v3 hv3)) (zay rfl rfl (zbb zbt _ _ _) (zay rfl rfl (zbb zgd _ _ _) (zay rfl rfl (zbb zbt _ _ _) zd5))) (by intro i hi;simp[D.ids,D.idsL] at hi<;>omega) rfl ⟨lb rfl,lb rfl⟩ ?_
 refine .rn 1 ?_
 refine .nn ?_
 obtain⟨v4,hv4,h⟩:=za3 h
 refine .sr [2,3,6] ?_
 refine .rn 3 ?_
 refine .lcall (r:=.int .i64 v4) [] rfl rfl rfl rfl rfl (za9 (zhk (zaf (zdz .i64) (by first|rfl|(simp only[go_sem,Nat.reduceBEq];rfl)) (by first|rfl|(simp;done)|(simp<;>omega))) trivial) (za9 rfl zaj)) rfl (znl v3.Accepted node v4 hv4) ?_
 refine .rn 1 ?_
 refine .nn ?_
 obtain⟨x1,hx1,h⟩:=za3 h
 refine .seqM 28 (fun(j:(List Int))=>st46 v3 j) (fun j=>x1=j) (lb rfl) ?_ ?_
 obtain⟨k1,hx1⟩:=zbc hx1
 refine .seqM 28 (fun(_:Unit)=>⟨[(2,.int .i64 node),(3,.ptr 0 0),(6,.ptr 1 0),(9,.int .i64 v4),(52,.bool ((v4==(v3.Accepted.length:Int))||((v3.Accepted.getD v4.toNat default) !=node)))],[(0,.box [.int .u8 v3.Phase,.int .i64 v3.Ballot,.ref 14 1 0 v3.Members.length (some uC),.str v3.Wish,.str v3.Value,.ref 15 3 0 v3.Promises.length (some uC),.ref 16 1 0 v3.Accepted.length (some uC)]),(1,.box [.int .u8 0,.int .i64 0,.imm 0 [] 0,.str [],.str [],.imm 0 [] 0,.imm 0 [] 0]),(14,.arr 3 1 true (v3.Members.map (D.int .i64))),(15,.arr 93 3 true (v3.Promises.map TPromise.d)),(16,.arr 3 1 true (v3.Accepted.map (D.int .i64)))],28⟩) (fun _=>True) (lb rfl) ?_ (fun _ _=>?_)
 by_cases hgd:¬(v4=(v3.Accepted.length:Int))
 have eg10:=zdp (D.int .i64) v3.Accepted v4 (k1 hgd)
 refine .rg zS [2,3,6,9] ?_
 refine .rnx 6 eg10 ?_
 refine .rnx 8 eg10 ?_
 refine .nn ?_
 refine⟨(),?_,trivial⟩
 exact .m [2,3,6,9,52] [0,1,14,15,16] []
 have hgf1:(!(v4==(v3.Accepted.length:Int)))=false:=by first|simpa using hgd|(simp at hgd ⊢;omega)|grind
 have hgf1t:(v4==(v3.Accepted.length:Int))=true:=by first|simpa using hgf1|grind
 rcases ya3k (D.int .i64) v3.Accepted v4.toNat with eg10|eg10
 refine .rg zS [2,3,6,9] ?_
 refine .rnx 6 (ai eg10 (ai hgf1 hgf1t)) ?_
 refine .rnx 8 (ai eg10 (ai hgf1 hgf1t)) ?_
 refine .nn ?_
 refine⟨(),?_,trivial⟩
 exact .mx (ai hgf1 hgf1t) [2,3,6,9,52] [0,1,14,15,16] []
 refine .rg zS [2,3,6,9] ?_
 refine .rnx 6 (ai eg10 (ai hgf1 hgf1t)) ?_
 refine .rnx 8 (ai eg10 (ai hgf1 hgf1t)) ?_
 refine .nn ?_
 refine⟨(),?_,trivial⟩
 exact .mx (ai hgf1 hgf1t) [2,3,6,9,52] [0,1,14,15,16] []
 refine .cd ?_ ?_<;>intro hc3
 replace hx1:=zab hx1 hc3
 obtain⟨k2,hx1⟩:=zbc hx1
 obtain⟨k3,hx1⟩:=zbc hx1
 refine .rg zS [2,3,6,9] ?_
 refine .rn 5 ?_
 refine .hcall (r:=.ref 29 1 0 (((v3.Accepted.take v4.toNat)++(node::(v3.Accepted.drop v4.toNat))).length) (some uC)) rfl rfl rfl rfl rfl (ya7j 16 28 29 (by decide) (by decide) (by decide) v3.Accepted node v4 k2 k3) (fun id b h=>zam [16,28] _ id b h) (by simp) (.inr ⟨za4 _,lb rfl⟩) ?_
 refine .rn 2 ?_
 refine .nn ?_
 refine⟨_,?_,(sj hx1).symm⟩
 exact .m [3,6] [0,1,14,15,29] [(29,28)]
 replace hx1:=zae hx1 hc3
 refine .skip ?_
 refine⟨_,?_,(sj hx1).symm⟩
 exact .m [3,6] [0,1,14,15,16] [(16,28)]
 rintro l1 hj1
 subst x1
 try dsimp only at h
 simp only[st46]
 obtain⟨x2,hx2,h⟩:=za3 h
 refine .seqM 29 (fun(j:Int)=>st47 v3 l1 j) (fun j=>x2=j) (lb rfl) ?_ ?_
 refine .seq ?_
 obtain⟨v5,hv5,hx2⟩:=za3 hx2
 refine .rg zS [3,6] ?_
 refine .rn 4 ?_
 refine .lcall (r:=.bool v5) [] rfl rfl rfl rfl rfl (za9 (zhk (zaf (zdz .i64) (by first|rfl|(simp only[go_sem,Nat.reduceBEq];rfl)) (by first|rfl|(simp;done)|(simp<;>omega))) trivial) (za9 (zhk (zaf (zdz .i64) (by first|rfl|(simp only[go_sem,Nat.reduceBEq];rfl)) (by first|rfl|(simp;done)|(simp<;>omega))) trivial) zaj)) rfl (zh3 v3.Members l1 v5 hv5) ?_
 refine .nn ?_
 refine .cd ?_ ?_<;>intro hc4
 replace hx2:=zab hx2 hc4
 refine .pl zS [3,6] ?_
 refine⟨_,?_,(sj hx2).symm⟩
 exact .m [3,6] [0,1,14,15,28] []
 replace hx2:=zae hx2 hc4
 refine .skip ?_
 refine⟨_,?_,(sj hx2).symm⟩
 exact .m [3,6] [0,1,14,15,28] []
 rintro n1 hj2
 subst x2
 try dsimp only at h
 simp only[st47]
 refine .sp [3,6] ?_
 obtain rfl:=sj h
 refine .ret ⟨st0 ((⟨n1,v3.Ballot,v3.Members,v3.Wish,v3.Value,v3.Promises,l1⟩:TAttempt),0),?_,.inr rfl,retH [2,1,0] ?_ ?_⟩
 exact .m [6,7] [14,15,28,1] [(14,0),(15,1),(28,2),(1,3)]
 exact rsi0
 rfl
theorem zmx(a:TAttempt)(b:Int)(node:Int)(r:TAttempt×Int)(h:zeo a b node=some r):zbi Tryz.prog 77 [.agg [.int .u8 a.Phase,.int .i64 a.Ballot,.imm 1 (a.Members.map (D.int .i64)) 4,.str a.Wish,.str a.Value,.imm 3 (a.Promises.map TPromise.d) 4,.imm 1 (a.Accepted.map (D.int .i64)) 4],.int .i64 b,.int .i64 node] (.tuple [.agg [.int .u8 r.1.Phase,.int .i64 r.1.Ballot,.imm 1 (r.1.Members.map (D.int .i64)) 13,.str r.1.Wish,.str r.1.Value,.imm 3 (r.1.Promises.map TPromise.d) 13,.imm 1 (r.1.Accepted.map (D.int .i64)) 13],.int .i64 r.2]):=
 zgb (zmj (za8 (zkp (za8 rfl (za8 rfl (za8 (zbd zbt rfl rfl) (za8 rfl (za8 rfl (za8 (zbd zgd rfl rfl) (za8 (zbd zbt rfl rfl) zep)))))))) (za8 rfl zep))) (zn0 a b node r h)
end Go.Proofs
namespace Go.Proofs
set_option linter.unusedVariables false
open Go.Tm
theorem yaad(i k:Nat)(hik:i≠k)(l:List TSeen)(at':Int)(h:0<=at'/\at'<(l.length:Int))(hl:l.length<1000000):
  zbv Tryz.prog 78 [.ref i 5 0 l.length (some uC),.int .i64 at',.int .i64 (wr .i64 (at'+1))] [(i,.arr 75 5 true (l.map TSeen.d))] (.ref k 5 0 (l.eraseIdx at'.toNat).length (some uC)) [(k,some (.arr 75 5 true ((l.eraseIdx at'.toNat).map TSeen.d))),(i,none)] (k,k+1):=by
 have t:=yab1 i k hik (l.map TSeen.d) true at'.toNat (by rw[List.length_map];omega) (by rw[List.length_map];exact hl)
 have hw:wr .i64 (at'+1)=((at'.toNat+1:Nat):Int):=by
  rw[zj6 _ _ (by show(-9223372036854775808:Int)<=_;omega) (by show _<=(9223372036854775807:Int);omega)]
  omega
 rw[Int.toNat_of_nonneg h.1,List.length_map,zfd,zfm,<-List.map_append,<-List.eraseIdx_eq_take_drop_succ,<-hw] at t
 have e:l.length-1=(l.eraseIdx at'.toNat).length:=by rw[List.length_eraseIdx_of_lt (by omega)]
 rw[e] at t
 exact t
def zme(a0:Int):Option Bool:=
 some ((decide (a0>=0))&&(decide (a0<=1099511627776)))
def zda(a0:Int)(a1:Int)(a2:Int):Option Bool:=
 some ((decide (a0>=a1))&&(decide (a0<=a2)))
def zha(a0:Int):Option Bool:=
 Option.bind (zda a0 0 6291455) fun v1=>
 some v1
def zbu(a0:TMessage):List Int->Nat->Bool->Option (Bool)
 |[],n1,b2=>
  some b2
 |y1::rest1,n1,b2=>
  Option.bind (if b2=true then zda (y1) 0 3 else some default) fun v1=>
  zbu a0 rest1 (n1+1) ((b2&&v1)&&(((n1:Int)==0)||(decide (y1>(a0.Groups.getD (n1-1) default)))))
def zcr(a0:TMessage):Option Int:=
 Option.bind (α:=Bool) (zbu a0 a0.Groups 0 ((decide ((a0.Groups.length:Int)>=1))&&(decide ((a0.Groups.length:Int)<=4)))) fun b1=>
 Option.bind (if ¬(¬(b1=true)) then zha a0.Id else some default) fun v2=>
 Option.bind (if ¬((¬(b1=true))\/(¬(v2=true))) then zda a0.Topic 0 3 else some default) fun v3=>
 if((((¬(b1=true))\/(¬(v2=true)))\/(¬(v3=true)))\/((a0.Key.length:Int)>16))\/((a0.Body.length:Int)>64) then
 some 120
 else
 some 0
def zee(a0:TMessage)(a1:TMessage):Option Bool:=
 Option.bind (if a0.Id=a1.Id then zbx a0.Groups a1.Groups else some default) fun v1=>
 some (((((a0.Id==a1.Id)&&v1)&&(a0.Topic==a1.Topic))&&(a0.Key==a1.Key))&&(a0.Body==a1.Body))
def zhu(a0:TCommand)(a1:TCommand):Option Bool:=
 Option.bind (if a0.Kind=a1.Kind then zee a0.Message a1.Message else some default) fun v1=>
 Option.bind (if(((a0.Kind=a1.Kind)/\(v1=true))/\(a0.Id=a1.Id))/\(a0.Time=a1.Time) then zbx a0.Members a1.Members else some default) fun v2=>
 some ((((((((a0.Kind==a1.Kind)&&v1)&&(a0.Id==a1.Id))&&(a0.Time==a1.Time))&&v2)&&(a0.Topic==a1.Topic))&&(a0.Who==a1.Who))&&(a0.N==a1.N))
def zh9(a0:TCommand):Option (TCommand×Bool):=
 Option.bind (zha a0.Id) fun v1=>
 Option.bind (if v1=true then zda a0.Topic 0 3 else some default) fun v2=>
 Option.bind (if(v1=true)/\(v2=true) then zda a0.N 0 1073741824 else some default) fun v3=>
 Option.bind (α:=Bool ⊕ ((TCommand×Bool) ⊕ (Int×Bool))) (if a0.Kind=0 then
 some (.inr (.inl ((⟨a0.Kind,(⟨0,[],0,[],[]⟩:TMessage),0,0,[],0,0,0⟩:TCommand),true)))
 else
 if a0.Kind=1 then
 Option.bind (zcr a0.Message) fun v4=>
 some (.inr (.inl ((⟨a0.Kind,a0.Message,0,0,[],0,0,0⟩:TCommand),(v4==0))))
 else
 if a0.Kind=2 then
 Option.bind (zha a0.Id) fun v5=>
 Option.bind (if v5=true then zda a0.Time 1 1073741824 else some default) fun v6=>
 some (.inr (.inl ((⟨a0.Kind,(⟨0,[],0,[],[]⟩:TMessage),a0.Id,a0.Time,[],0,0,0⟩:TCommand),(v5&&v6))))
 else
 if a0.Kind=3 then
 Option.bind (zcd a0.Members) fun v7=>
 some (.inr (.inl ((⟨a0.Kind,(⟨0,[],0,[],[]⟩:TMessage),0,0,a0.Members,0,0,0⟩:TCommand),(v7==0))))
 else
 if a0.Kind=4 then
 Option.bind (if((v1=true)/\(v2=true))/\(v3=true) then zda a0.Who 0 7 else some default) fun v8=>
 some (.inr (.inr (a0.Who,(((v1&&v2)&&v3)&&v8))))
 else
 Option.bind (α:=Bool) (if a0.Kind=5 then
 some (a0.Kind==5)
 else
 some (a0.Kind==6)) fun b3=>
 if b3=true then
 some (.inr (.inr (0,((v1&&v2)&&v3))))
 else
 some (.inl b3)) fun z=>match z with
 |(.inl b2)=>some ((⟨a0.Kind,(⟨0,[],0,[],[]⟩:TMessage),0,0,[],0,0,0⟩:TCommand),false)
 |(.inr (.inl r))=>some r
 |(.inr (.inr (n1,b1)))=>
 some ((⟨a0.Kind,(⟨0,[],0,[],[]⟩:TMessage),a0.Id,0,[],a0.Topic,n1,a0.N⟩:TCommand),b1)
def zef(a0:TCommand):Option Int:=
 Option.bind (zh9 a0) fun v1=>
 Option.bind (if ¬(¬(v1.2=true)) then zhu v1.1 a0 else some default) fun v2=>
 if(¬(v1.2=true))\/(¬(v2=true)) then
 some 120
 else
 some 0
end Go.Proofs
namespace Go.Proofs
open Go.Tm Go.RowKit Go.WideShapes
set_option maxRecDepth 100000
set_option maxHeartbeats 4000000
set_option linter.unusedSimpArgs false
set_option linter.unusedVariables false
theorem zno(a0:Int)(r:Bool)(h:zme a0=some r):zbi Tryz.prog 111 [.int .i64 a0] (.bool r):=by
 refine zbp 2 Tryz.func111 ?_
 intro hwf
 unfold zme at h
 refine .sp [0] ?_
 refine .sp [0] ?_
 obtain rfl:=sj h
 exact .rr
theorem zew(a0:Int)(a1:Int)(a2:Int)(r:Bool)(h:zda a0 a1 a2=some r):zbi Tryz.prog 108 [.int .i64 a0,.int .i64 a1,.int .i64 a2] (.bool r):=by
 refine zbp 2 Tryz.func108 ?_
 intro hwf
 unfold zda at h
 refine .sp [0,1,2] ?_
 refine .sr [0,1,2] ?_
 refine .rn 6 ?_
 refine .rn 3 ?_
 refine .nn ?_
 obtain rfl:=sj h
 exact .rr
theorem zjn(a0:Int)(r:Bool)(h:zha a0=some r):zbi Tryz.prog 107 [.int .i64 a0] (.bool r):=by
 refine zbp 2 Tryz.func107 ?_
 intro hwf
 unfold zha at h
 refine .sp [0] ?_
 obtain⟨v1,hv1,h⟩:=za3 h
 refine .sr [0] ?_
 refine .rn 1 ?_
 refine .cl (zew a0 0 6291455 v1 hv1) ?_
 refine .rn 1 ?_
 refine .nn ?_
 obtain rfl:=sj h
 exact .rr
@[go_sem] def st60(a0:TMessage)(b1:Bool):St:=⟨[(1,.ptr 0 0),(3,.bool b1)],[(0,.box [.int .i64 a0.Id,.imm 1 (a0.Groups.map (D.int .i64)) 4,.int .i64 a0.Topic,.str a0.Key,.str a0.Body])],1⟩
@[go_sem] def st61(a0:TMessage)(n1:Nat)(b2:Bool):St:=⟨[(1,.ptr 0 0),(3,.bool b2),(17,.imm 1 (a0.Groups.map (D.int .i64)) 4),(18,.int .i64 (a0.Groups.length:Int)),(19,.int .i64 (n1:Int))],[(0,.box [.int .i64 a0.Id,.imm 1 (a0.Groups.map (D.int .i64)) 4,.int .i64 a0.Topic,.str a0.Key,.str a0.Body])],1⟩
theorem zl3(a0:TMessage)(r:Int)(h:zcr a0=some r):zbi Tryz.prog 109 [.agg [.int .i64 a0.Id,.imm 1 (a0.Groups.map (D.int .i64)) 4,.int .i64 a0.Topic,.str a0.Key,.str a0.Body]] (.int .i64 r):=by
 refine zbp 3 Tryz.func109 ?_
 intro hwf
 unfold zcr at h
 refine .sp [0] ?_
 refine .sr [1] ?_
 refine .rn 6 ?_
 refine .rn 5 ?_
 refine .nn ?_
 obtain⟨x1,hx1,h⟩:=za3 h
 refine .seqM 1 (fun(j:Bool)=>st60 a0 j) (fun j=>x1=j) (lb rfl) ?_ ?_
 refine .sp [1,3] ?_
 refine .block ?_
 refine .loopG 1 (fun(j:Nat×Bool)=>st61 a0 j.1 j.2) (fun j=>j.1<=a0.Groups.length/\zbu a0 (a0.Groups.drop j.1) j.1 j.2=some x1) (fun j=>a0.Groups.length-j.1) (0,((decide ((a0.Groups.length:Int)>=1))&&(decide ((a0.Groups.length:Int)<=4)))) (lb rfl) ?_ ⟨Nat.zero_le _,hx1⟩ ?_
 exact .m [1,3,17,18,19] [0] []
 rintro⟨n1,b2⟩ ⟨hi1,hx1⟩
 simp only[st61]
 simp only at hi1 hx1
 refine .wf 18 (.int .i64 (a0.Groups.length:Int)) rfl ?_
 intro hln1
 replace hln1:=wfn hln1
 refine .sp [1,3,17,18,19] ?_
 refine .seq (.cd (fun hc1=>?_) (fun hc1=>?_))
 have h1:n1<a0.Groups.length:=by simpa using hc1
 have hwn1:=zdr h1 hln1
 have hpn1:=ze3 h1 hln1
 rw[za7 h1,zbu] at hx1
 refine .skip (.seq (.block (.seq ?_)))
 have e1:=zdb (D.int .i64) a0.Groups n1 h1
 refine .plx zS (ai e1 hwn1) [1,3,17,18,19] ?_
 obtain⟨v1,hv1,hx1⟩:=za3 hx1
 have e2:=zhf (D.int .i64) a0.Groups (n1-1) (by omega)
 refine .rg zS [1,3,4,5,17,18,19] ?_
 refine .rnx 3 (ai e2 (ai hpn1 hwn1)) ?_
 refine .gcall rfl rfl rfl rfl rfl (fun hg=>⟨[],[.int .i64 (a0.Groups[n1]),.int .i64 0,.int .i64 3],_,rfl,gd hg,rfl,(zew (a0.Groups[n1]) 0 3 v1 (zab hv1 hg))⟩) ?_
 refine .rnx 6 (ai e2 (ai hpn1 hwn1)) ?_
 refine .rnx 6 (ai e2 (ai hpn1 hwn1)) ?_
 refine .rnx 4 (ai e2 (ai hpn1 hwn1)) ?_
 refine .nn ?_
 refine .plx zS hwn1 [1,3,17,18,19] ?_
 refine⟨(n1+1,_),?_,⟨by omega,hx1⟩,by dsimp only;omega⟩
 exact .m [1,3,17,18,19] [0] []
 have h2:n1=a0.Groups.length:=by have h2b:=of_decide_eq_false hc1;omega
 rw[zac (by omega),zbu] at hx1
 refine .exit ?_
 refine⟨_,?_,(sj hx1).symm⟩
 exact .m [1,3] [0] []
 rintro b1 hj1
 subst x1
 try dsimp only at h
 simp only[st60]
 refine .seq ?_
 obtain⟨v2,hv2,h⟩:=za3 h
 obtain⟨v3,hv3,h⟩:=za3 h
 refine .sr [1,3] ?_
 refine .rn 5 ?_
 refine .gcall rfl rfl rfl rfl rfl (fun hg=>⟨[],[.int .i64 a0.Id],_,rfl,gd hg,rfl,(zjn a0.Id v2 (zab hv2 hg))⟩) ?_
 refine .rn 5 ?_
 refine .gcall rfl rfl rfl rfl rfl (fun hg=>⟨[],[.int .i64 a0.Topic,.int .i64 0,.int .i64 3],_,rfl,gd hg,rfl,(zew a0.Topic 0 3 v3 (zab hv3 hg))⟩) ?_
 refine .rn 6 ?_
 refine .rn 8 ?_
 refine .nn ?_
 refine .cd ?_ ?_<;>intro hc2
 replace h:=zab h hc2
 refine .sp [] ?_
 obtain rfl:=sj h
 exact .rr
 replace h:=zae h hc2
 refine .skip (.seq (.pl zS [] ?_))
 obtain rfl:=sj h
 exact .rr
theorem zlk(a0:TMessage)(a1:TMessage)(r:Bool)(h:zee a0 a1=some r):zbi Tryz.prog 110 [.agg [.int .i64 a0.Id,.imm 1 (a0.Groups.map (D.int .i64)) 4,.int .i64 a0.Topic,.str a0.Key,.str a0.Body],.agg [.int .i64 a1.Id,.imm 1 (a1.Groups.map (D.int .i64)) 4,.int .i64 a1.Topic,.str a1.Key,.str a1.Body]] (.bool r):=by
 refine zbp 4 Tryz.func110 ?_
 intro hwf
 unfold zee at h
 refine .sp [0,1] ?_
 obtain⟨v1,hv1,h⟩:=za3 h
 refine .sr [2,3] ?_
 refine .rn 6 ?_
 refine .rn 4 ?_
 refine .gcall rfl rfl rfl rfl rfl (fun hg=>⟨[],[.imm 1 (a0.Groups.map (D.int .i64)) 4,.imm 1 (a1.Groups.map (D.int .i64)) 4],_,rfl,gd hg,rfl,(zd2 a0.Groups a1.Groups v1 (zab hv1 hg))⟩) ?_
 refine .rn 6 ?_
 refine .rn 6 ?_
 refine .rn 6 ?_
 refine .rn 5 ?_
 refine .nn ?_
 obtain rfl:=sj h
 exact .rr
theorem zpw(a0:TCommand)(a1:TCommand)(r:Bool)(h:zhu a0 a1=some r):zbi Tryz.prog 85 [.agg [.int .u8 a0.Kind,.int .i64 a0.Message.Id,.imm 1 (a0.Message.Groups.map (D.int .i64)) 4,.int .i64 a0.Message.Topic,.str a0.Message.Key,.str a0.Message.Body,.int .i64 a0.Id,.int .i64 a0.Time,.imm 1 (a0.Members.map (D.int .i64)) 4,.int .i64 a0.Topic,.int .i64 a0.Who,.int .i64 a0.N],.agg [.int .u8 a1.Kind,.int .i64 a1.Message.Id,.imm 1 (a1.Message.Groups.map (D.int .i64)) 4,.int .i64 a1.Message.Topic,.str a1.Message.Key,.str a1.Message.Body,.int .i64 a1.Id,.int .i64 a1.Time,.imm 1 (a1.Members.map (D.int .i64)) 4,.int .i64 a1.Topic,.int .i64 a1.Who,.int .i64 a1.N]] (.bool r):=by
 refine zbp 4 Tryz.func85 ?_
 intro hwf
 unfold zhu at h
 refine .sp [0,1] ?_
 obtain⟨v1,hv1,h⟩:=za3 h
 obtain⟨v2,hv2,h⟩:=za3 h
 refine .sr [2,3] ?_
 refine .rn 6 ?_
 refine .rn 4 ?_
 refine .gcall rfl rfl rfl rfl rfl (fun hg=>⟨[],[.agg [.int .i64 a0.Message.Id,.imm 1 (a0.Message.Groups.map (D.int .i64)) 4,.int .i64 a0.Message.Topic,.str a0.Message.Key,.str a0.Message.Body],.agg [.int .i64 a1.Message.Id,.imm 1 (a1.Message.Groups.map (D.int .i64)) 4,.int .i64 a1.Message.Topic,.str a1.Message.Key,.str a1.Message.Body]],_,rfl,gd hg,rfl,(zlk a0.Message a1.Message v1 (zab hv1 hg))⟩) ?_
 refine .rn 6 ?_
 refine .rn 6 ?_
 refine .rn 8 ?_
 refine .gcall rfl rfl rfl rfl rfl (fun hg=>⟨[],[.imm 1 (a0.Members.map (D.int .i64)) 4,.imm 1 (a1.Members.map (D.int .i64)) 4],_,rfl,gd hg,rfl,(zd2 a0.Members a1.Members v2 (zab hv2 hg))⟩) ?_
 refine .rn 6 ?_
 refine .rn 6 ?_
 refine .rn 6 ?_
 refine .rn 5 ?_
 refine .nn ?_
 obtain rfl:=sj h
 exact .rr
@[go_sem] def st62(a0:TCommand)(n1:Int)(b1:Bool):St:=⟨[(1,.ptr 0 0),(2,.ptr 1 0),(4,.ptr 2 0),(5,.bool b1)],[(0,.box [.int .u8 a0.Kind,.int .i64 a0.Message.Id,.imm 1 (a0.Message.Groups.map (D.int .i64)) 4,.int .i64 a0.Message.Topic,.str a0.Message.Key,.str a0.Message.Body,.int .i64 a0.Id,.int .i64 a0.Time,.imm 1 (a0.Members.map (D.int .i64)) 4,.int .i64 a0.Topic,.int .i64 a0.Who,.int .i64 a0.N]),(1,.box [.int .u8 0,.int .i64 0,.imm 0 [] 0,.int .i64 0,.str [],.str [],.int .i64 0,.int .i64 0,.imm 0 [] 0,.int .i64 0,.int .i64 0,.int .i64 0]),(2,.box [.int .u8 a0.Kind,.int .i64 0,.imm 0 [] 0,.int .i64 0,.str [],.str [],.int .i64 0,.int .i64 0,.imm 0 [] 0,.int .i64 0,.int .i64 n1,.int .i64 0])],3⟩
@[go_sem] def st63(a0:TCommand)(v1:Bool)(v2:Bool)(v3:Bool)(b3:Bool):St:=⟨[(1,.ptr 0 0),(2,.ptr 1 0),(4,.ptr 2 0),(5,.bool ((v1&&v2)&&v3)),(34,.bool b3)],[(0,.box [.int .u8 a0.Kind,.int .i64 a0.Message.Id,.imm 1 (a0.Message.Groups.map (D.int .i64)) 4,.int .i64 a0.Message.Topic,.str a0.Message.Key,.str a0.Message.Body,.int .i64 a0.Id,.int .i64 a0.Time,.imm 1 (a0.Members.map (D.int .i64)) 4,.int .i64 a0.Topic,.int .i64 a0.Who,.int .i64 a0.N]),(1,.box [.int .u8 0,.int .i64 0,.imm 0 [] 0,.int .i64 0,.str [],.str [],.int .i64 0,.int .i64 0,.imm 0 [] 0,.int .i64 0,.int .i64 0,.int .i64 0]),(2,.box [.int .u8 a0.Kind,.int .i64 0,.imm 0 [] 0,.int .i64 0,.str [],.str [],.int .i64 0,.int .i64 0,.imm 0 [] 0,.int .i64 0,.int .i64 0,.int .i64 0])],3⟩
@[go_sem] def st6(r:TCommand×Bool):St:=⟨[(2,.ptr 0 0),(3,.bool r.2)],[(0,.box [.int .u8 r.1.Kind,.int .i64 r.1.Message.Id,.imm 1 (r.1.Message.Groups.map (D.int .i64)) 4,.int .i64 r.1.Message.Topic,.str r.1.Message.Key,.str r.1.Message.Body,.int .i64 r.1.Id,.int .i64 r.1.Time,.imm 1 (r.1.Members.map (D.int .i64)) 4,.int .i64 r.1.Topic,.int .i64 r.1.Who,.int .i64 r.1.N])],1⟩
theorem zp0(a0:TCommand)(r:TCommand×Bool)(h:zh9 a0=some r):zbv Tryz.prog 84 [.agg [.int .u8 a0.Kind,.int .i64 a0.Message.Id,.imm 1 (a0.Message.Groups.map (D.int .i64)) 4,.int .i64 a0.Message.Topic,.str a0.Message.Key,.str a0.Message.Body,.int .i64 a0.Id,.int .i64 a0.Time,.imm 1 (a0.Members.map (D.int .i64)) 4,.int .i64 a0.Topic,.int .i64 a0.Who,.int .i64 a0.N]] [] (.tuple [.agg [.int .u8 r.1.Kind,.int .i64 r.1.Message.Id,.imm 1 (r.1.Message.Groups.map (D.int .i64)) 4,.int .i64 r.1.Message.Topic,.str r.1.Message.Key,.str r.1.Message.Body,.int .i64 r.1.Id,.int .i64 r.1.Time,.imm 1 (r.1.Members.map (D.int .i64)) 4,.int .i64 r.1.Topic,.int .i64 r.1.Who,.int .i64 r.1.N],.bool r.2]) [] (0,5):=by
 refine zct Tryz.func84 ?_
 intro hwf
 unfold zh9 at h
 refine .ends 0 (za4 _) ?_
 refine .sp [0] ?_
 refine .sp [1,2] ?_
 obtain⟨v1,hv1,h⟩:=za3 h
 obtain⟨v2,hv2,h⟩:=za3 h
 obtain⟨v3,hv3,h⟩:=za3 h
 refine .sr [1,2,4] ?_
 refine .rn 2 ?_
 refine .cl (zjn a0.Id v1 hv1) ?_
 refine .rn 3 ?_
 refine .gcall rfl rfl rfl rfl rfl (fun hg=>⟨[],[.int .i64 a0.Topic,.int .i64 0,.int .i64 3],_,rfl,gd hg,rfl,(zew a0.Topic 0 3 v2 (zab hv2 hg))⟩) ?_
 refine .rn 4 ?_
 refine .gcall rfl rfl rfl rfl rfl (fun hg=>⟨[],[.int .i64 a0.N,.int .i64 0,.int .i64 1073741824],_,rfl,gd hg,rfl,(zew a0.N 0 1073741824 v3 (zab hv3 hg))⟩) ?_
 refine .rn 2 ?_
 refine .nn ?_
 refine .seq (.seq (.pl zS [1,2,4,5] ?_))
 obtain⟨x1,hx1,h⟩:=za3 h
 refine .block ?_
 refine .seqM 3 (fun(j:Int×Bool)=>st62 a0 j.1 j.2) (fun j=>x1=(.inr (.inr j))) (lb rfl) ?_ ?_
 refine .block (.seq (.block (.seq (.block (.seq (.block (.seq (.block (.seq (.block (.seq (.seq (.seq (.pl zS [1,2,4,5,23] ?_))))))))))))))
 refine .cd ?_ ?_<;>intro hc1
 replace hx1:=zab hx1 hc1
 refine .exit ?_
 refine .seq (.seq (.pl zS [2,4] ?_))
 have hq:=sj hx1
 subst x1
 try dsimp only at h
 obtain rfl:=sj h
 refine .ret ⟨st6 ((⟨a0.Kind,(⟨0,[],0,[],[]⟩:TMessage),0,0,[],0,0,0⟩:TCommand),true),?_,.inr rfl,retH [] ?_ ?_⟩
 refine .boxs 1 _ [_,_,.imm 1 [] 4,_,_,_,_,_,.imm 1 [] 4,_,_,_] rfl (.keep (.keep (.cons (.nil4 _ _ 0 rfl) (.keep (.keep (.keep (.keep (.keep (.cons (.nil4 _ _ 0 rfl) (.refl _)))))))))) ?_
 exact .m [2,3] [1] [(1,0)]
 exact rsi0
 rfl
 replace hx1:=zae hx1 hc1
 refine .skip (.seq (.seq (.pl zS [1,2,4,5,23] ?_)))
 refine .cd ?_ ?_<;>intro hc2
 replace hx1:=zab hx1 hc2
 refine .exit ?_
 refine .seq (.seq (.pl zS [1,2,4] ?_))
 refine .seq ?_
 obtain⟨v4,hv4,hx1⟩:=za3 hx1
 refine .rg zS [1,2,4] ?_
 refine .rd 3 ?_
 refine .cl (zl3 a0.Message v4 hv4) ?_
 refine .rd 3 ?_
 refine .nd ?_
 have hq:=sj hx1
 subst x1
 try dsimp only at h
 obtain rfl:=sj h
 refine .ret ⟨st6 ((⟨a0.Kind,a0.Message,0,0,[],0,0,0⟩:TCommand),(v4==0)),?_,.inr rfl,retH [] ?_ ?_⟩
 refine .boxs 1 _ [_,_,_,_,_,_,_,_,.imm 1 [] 4,_,_,_] rfl (.keep (.keep (.keep (.keep (.keep (.keep (.keep (.keep (.cons (.nil4 _ _ 0 rfl) (.refl _)))))))))) ?_
 exact .m [2,3] [1] [(1,0)]
 exact rsi0
 rfl
 replace hx1:=zae hx1 hc2
 refine .skip (.seq (.seq (.pl zS [1,2,4,5,23] ?_)))
 refine .cd ?_ ?_<;>intro hc3
 replace hx1:=zab hx1 hc3
 refine .exit ?_
 refine .seq (.seq ?_)
 refine .dr zS [1,2,4] ?_
 refine .seq ?_
 obtain⟨v5,hv5,hx1⟩:=za3 hx1
 obtain⟨v6,hv6,hx1⟩:=za3 hx1
 refine .rg zS [1,2,4] ?_
 refine .rd 3 ?_
 refine .cl (zjn a0.Id v5 hv5) ?_
 refine .rd 3 ?_
 refine .gcall rfl rfl rfl rfl rfl (fun hg=>⟨[],[.int .i64 a0.Time,.int .i64 1,.int .i64 1073741824],_,rfl,gd hg,rfl,(zew a0.Time 1 1073741824 v6 (zab hv6 hg))⟩) ?_
 refine .rd 3 ?_
 refine .nd ?_
 have hq:=sj hx1
 subst x1
 try dsimp only at h
 obtain rfl:=sj h
 refine .ret ⟨st6 ((⟨a0.Kind,(⟨0,[],0,[],[]⟩:TMessage),a0.Id,a0.Time,[],0,0,0⟩:TCommand),(v5&&v6)),?_,.inr rfl,retH [] ?_ ?_⟩
 refine .boxs 1 _ [_,_,.imm 1 [] 4,_,_,_,_,_,.imm 1 [] 4,_,_,_] rfl (.keep (.keep (.cons (.nil4 _ _ 0 rfl) (.keep (.keep (.keep (.keep (.keep (.cons (.nil4 _ _ 0 rfl) (.refl _)))))))))) ?_
 exact .m [2,3] [1] [(1,0)]
 exact rsi0
 rfl
 replace hx1:=zae hx1 hc3
 refine .skip (.seq (.seq (.pl zS [1,2,4,5,23] ?_)))
 refine .cd ?_ ?_<;>intro hc4
 replace hx1:=zab hx1 hc4
 refine .exit ?_
 refine .seq (.seq (.pl zS [1,2,4] ?_))
 refine .seq ?_
 obtain⟨v7,hv7,hx1⟩:=za3 hx1
 refine .rg zS [1,2,4] ?_
 refine .rd 3 ?_
 refine .cl (zer a0.Members v7 hv7) ?_
 refine .rd 3 ?_
 refine .nd ?_
 have hq:=sj hx1
 subst x1
 try dsimp only at h
 obtain rfl:=sj h
 refine .ret ⟨st6 ((⟨a0.Kind,(⟨0,[],0,[],[]⟩:TMessage),0,0,a0.Members,0,0,0⟩:TCommand),(v7==0)),?_,.inr rfl,retH [] ?_ ?_⟩
 refine .boxs 1 _ [_,_,.imm 1 [] 4,_,_,_,_,_,_,_,_,_] rfl (.keep (.keep (.cons (.nil4 _ _ 0 rfl) (.refl _)))) ?_
 exact .m [2,3] [1] [(1,0)]
 exact rsi0
 rfl
 replace hx1:=zae hx1 hc4
 refine .skip (.seq (.seq (.pl zS [1,2,4,5,23] ?_)))
 refine .cd ?_ ?_<;>intro hc5
 replace hx1:=zab hx1 hc5
 refine .exit ?_
 refine .sp [1,2,4,5] ?_
 obtain⟨v8,hv8,hx1⟩:=za3 hx1
 refine .rg zS [1,2,4,5] ?_
 refine .rn 4 ?_
 refine .gcall rfl rfl rfl rfl rfl (fun hg=>⟨[],[.int .i64 a0.Who,.int .i64 0,.int .i64 7],_,rfl,gd hg,rfl,(zew a0.Who 0 7 v8 (zab hv8 hg))⟩) ?_
 refine .rn 2 ?_
 refine .nn ?_
 refine⟨_,?_,(sj hx1).symm⟩
 exact .m [1,2,4,5] [0,1,2] []
 replace hx1:=zae hx1 hc5
 refine .skip ?_
 obtain⟨x2,hx2,hx1⟩:=za3 hx1
 refine .seqM 3 (fun(j:Bool)=>st63 a0 v1 v2 v3 j) (fun j=>x2=j) (lb rfl) ?_ ?_
 refine .sp [1,2,4,5,23] ?_
 refine .cd ?_ ?_<;>intro hc6
 replace hx2:=zab hx2 hc6
 refine .skip ?_
 refine⟨_,?_,(sj hx2).symm⟩
 exact .m [1,2,4,5,34] [0,1,2] []
 replace hx2:=zae hx2 hc6
 refine .pl zS [1,2,4,5,23] ?_
 refine⟨_,?_,(sj hx2).symm⟩
 exact .m [1,2,4,5,34] [0,1,2] []
 rintro b3 hj1
 subst x2
 try dsimp only at hx1
 simp only[st63]
 refine .cd ?_ ?_<;>intro hc7
 replace hx1:=zab hx1 hc7
 refine .exit ?_
 refine⟨_,?_,(sj hx1).symm⟩
 exact .m [1,2,4,5] [0,1,2] []
 replace hx1:=zae hx1 hc7
 refine .skip ?_
 refine .exit ?_
 have hq:=sj hx1
 subst x1
 try dsimp only at h
 refine .sp [2,4] ?_
 obtain rfl:=sj h
 refine .ret ⟨st6 ((⟨a0.Kind,(⟨0,[],0,[],[]⟩:TMessage),0,0,[],0,0,0⟩:TCommand),false),?_,.inr rfl,retH [] ?_ ?_⟩
 refine .boxs 1 _ [_,_,.imm 1 [] 4,_,_,_,_,_,.imm 1 [] 4,_,_,_] rfl (.keep (.keep (.cons (.nil4 _ _ 0 rfl) (.keep (.keep (.keep (.keep (.keep (.cons (.nil4 _ _ 0 rfl) (.refl _)))))))))) ?_
 exact .m [2,3] [1] [(1,0)]
 exact rsi0
 rfl
 rintro⟨n1,b1⟩ hj2
 subst x1
 try dsimp only at h
 simp only[st62]
 refine .seq (.seq (.rg zS [1,2,4,5] ?_))
 refine .rd 6 ?_
 refine .rd 6 ?_
 refine .nd ?_
 refine .sp [2,4,5] ?_
 obtain rfl:=sj h
 refine .ret ⟨st6 ((⟨a0.Kind,(⟨0,[],0,[],[]⟩:TMessage),a0.Id,0,[],a0.Topic,n1,a0.N⟩:TCommand),b1),?_,.inr rfl,retH [] ?_ ?_⟩
 refine .boxs 1 _ [_,_,.imm 1 [] 4,_,_,_,_,_,.imm 1 [] 4,_,_,_] rfl (.keep (.keep (.cons (.nil4 _ _ 0 rfl) (.keep (.keep (.keep (.keep (.keep (.cons (.nil4 _ _ 0 rfl) (.refl _)))))))))) ?_
 exact .m [2,3] [1] [(1,0)]
 exact rsi0
 rfl
theorem zks(a0:TCommand)(r:Int)(h:zef a0=some r):zbi Tryz.prog 58 [.agg [.int .u8 a0.Kind,.int .i64 a0.Message.Id,.imm 1 (a0.Message.Groups.map (D.int .i64)) 4,.int .i64 a0.Message.Topic,.str a0.Message.Key,.str a0.Message.Body,.int .i64 a0.Id,.int .i64 a0.Time,.imm 1 (a0.Members.map (D.int .i64)) 4,.int .i64 a0.Topic,.int .i64 a0.Who,.int .i64 a0.N]] (.int .i64 r):=by
 refine zbp 13 Tryz.func58 ?_
 intro hwf
 unfold zef at h
 refine .sp [0] ?_
 refine .seq ?_
 obtain⟨v1,hv1,h⟩:=za3 h
 refine .sr [1] ?_
 refine .rn 1 ?_
 refine .hcall (H:=[]) (eff:=[]) (nw:=(5,10)) (r:=.tuple [.agg [.int .u8 v1.1.Kind,.int .i64 v1.1.Message.Id,.imm 1 (v1.1.Message.Groups.map (D.int .i64)) 4,.int .i64 v1.1.Message.Topic,.str v1.1.Message.Key,.str v1.1.Message.Body,.int .i64 v1.1.Id,.int .i64 v1.1.Time,.imm 1 (v1.1.Members.map (D.int .i64)) 4,.int .i64 v1.1.Topic,.int .i64 v1.1.Who,.int .i64 v1.1.N],.bool v1.2]) rfl rfl rfl rfl rfl (zcu 5 (lb rfl) (zp0 a0 v1 hv1)) (fun id b h=>zam [] _ id b h) (by simp) (.inr ⟨lb rfl,lb rfl⟩) ?_
 refine .rn 6 ?_
 refine .nn ?_
 obtain⟨v2,hv2,h⟩:=za3 h
 refine .sr [1,3,4] ?_
 refine .rn 5 ?_
 refine .gcall rfl rfl rfl rfl rfl (fun hg=>⟨[],[.agg [.int .u8 v1.1.Kind,.int .i64 v1.1.Message.Id,.imm 1 (v1.1.Message.Groups.map (D.int .i64)) 4,.int .i64 v1.1.Message.Topic,.str v1.1.Message.Key,.str v1.1.Message.Body,.int .i64 v1.1.Id,.int .i64 v1.1.Time,.imm 1 (v1.1.Members.map (D.int .i64)) 4,.int .i64 v1.1.Topic,.int .i64 v1.1.Who,.int .i64 v1.1.N],.agg [.int .u8 a0.Kind,.int .i64 a0.Message.Id,.imm 1 (a0.Message.Groups.map (D.int .i64)) 4,.int .i64 a0.Message.Topic,.str a0.Message.Key,.str a0.Message.Body,.int .i64 a0.Id,.int .i64 a0.Time,.imm 1 (a0.Members.map (D.int .i64)) 4,.int .i64 a0.Topic,.int .i64 a0.Who,.int .i64 a0.N]],_,rfl,gd hg,rfl,(zpw v1.1 a0 v2 (zab hv2 hg))⟩) ?_
 refine .rn 2 ?_
 refine .nn ?_
 refine .cd ?_ ?_<;>intro hc1
 replace h:=zab h hc1
 refine .sp [] ?_
 obtain rfl:=sj h
 exact .rr
 replace h:=zae h hc1
 refine .skip (.seq (.pl zS [] ?_))
 obtain rfl:=sj h
 exact .rr
end Go.Proofs
