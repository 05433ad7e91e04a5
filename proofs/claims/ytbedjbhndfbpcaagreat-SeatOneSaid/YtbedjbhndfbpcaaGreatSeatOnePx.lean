/- Texts of the proof. -/
import Derived.Test.YtbedjbhndfbpcaaGreatSeatOnePu
import Derived.Test.YtbedjbhndfbpcaaGreatSeatOnePo
import Derived.Test.YtbedjbhndfbpcaaGreatSeatOnePq
import Derived.Test.YtbedjbhndfbpcaaGreatSeatOnePp
import Derived.Test.YtbedjbhndfbpcaaGreatSeatOnePr
import Derived.Test.YtbedjbhndfbpcaaGreatSeatOnePs
import Derived.Test.YtbedjbhndfbpcaaGreatSeatOnePw
import Derived.Test.YtbedjbhndfbpcaaGreatSeatOnePt
set_option linter.unusedVariables false
set_option linter.unusedSimpArgs false
namespace Go.Proofs
open Go.Tm Go.RowKit Go.WideShapes
set_option maxRecDepth 100000
set_option maxHeartbeats 4000000
set_option linter.unusedSimpArgs false
set_option linter.unusedVariables false
attribute [local go_sem] Tryz.f79
theorem ya0w(f:List UInt8->Option Bool):∀(l:List (List UInt8)) (n:Nat) (q:List (List UInt8)),zps f l=some q->∃z,zb4 f l n=some z/\match z with
  |.inl r=>∃j,r=((n+j:Nat):Int)/\j<l.length/\∃q',zps f (l.drop (j+1))=some q'/\q=l.take j++q'
  |.inr _=>q=l
 |[],n,q,h=>⟨.inr (),rfl,by rw[zps] at h;exact(sj h).symm⟩
 |y::l,n,q,h=>by
  rw[zps] at h
  obtain⟨b,hb,h⟩:=za3 h
  obtain⟨q0,hq0,h⟩:=za3 h
  have h:=sj h
  rw[zb4,hb]
  cases b with
  |true=>exact⟨.inl n,rfl,0,by simp,by simp,q0,by simpa using hq0,by simpa using h.symm⟩
  |false=>
   obtain⟨z,hz,k⟩:=ya0w f l (n+1) q0 hq0
   refine⟨z,by simpa using hz,?_⟩
   cases z with
   |inl r=>
    obtain⟨j,h1,h2,q',h3,h4⟩:=k
    exact⟨j+1,by rw[h1];congr 1;omega,by simp;omega,q',by simpa using h3,by rw[<-h,h4];simp⟩
   |inr u=>
    simp only at k ⊢
    rw[<-h,k];simp
@[go_sem] def st70(l M:List (List UInt8))(c0:List UInt8)(n j:Nat):St:=⟨[(0,.ref 20000 1 0 l.length (some uC)),(1,.fn (.func 80) [.ptr 20001 0]),(5,.int .i64 (n:Int)),(6,.int .i64 (j:Int))],[(20000,.arr 9 1 true (M.map D.str)),(20001,.box [.str c0])],20100⟩
@[go_sem] def st15(c0:List UInt8)(q:List (List UInt8)):St:=⟨[(4,.ref 20100 1 0 q.length (some uC))],[(20001,.box [.str c0]),(20100,.arr 9 1 true (q.map D.str))],20101⟩
theorem zy1(l:List (List UInt8))(c0:List UInt8)(hl:l.length<1000000)(q:List (List UInt8))(hq:zps (fun x0=>zc4 x0 c0) l=some q):
  zbv Tryz.prog 79 [.ref 20000 1 0 l.length (some uC),.fn (.func 80) [.ptr 20001 0]] [(20000,.arr 9 1 true (l.map D.str)),(20001,.box [.str c0])] (.ref 20100 1 0 q.length (some uC)) [(20000,none),(20100,some (.arr 9 1 true (q.map D.str)))] (20100,20101):=by
 obtain⟨z,hz,hz2⟩:=ya0w _ l 0 q hq
 refine zct Tryz.func79 ?_
 intro hwf
 refine .ends 20100 (za4 _) ?_
 obtain⟨v1,hv1⟩:∃v1,zbs l (fun x0=>zc4 x0 c0)=some v1:=by
  unfold zbs
  rw[hz]
  cases z<;>exact⟨_,rfl⟩
 refine .sp [0,1] ?_
 refine .sr [0,1] ?_
 refine .rn 2 ?_
 refine .lcall (r:=.int .i64 v1) [] rfl rfl rfl rfl rfl (za9 (zhk (zaf zf8 (by first|rfl|(simp only[go_sem,Nat.reduceBEq];rfl)) (by first|rfl|(simp;done)|(simp<;>omega))) trivial) (za9 (zk0 (za9 (zcc rfl (za2 rfl zc3)) zaj)) zaj)) rfl (zhw l 80 [.iptr 0 [.str c0]] (fun _=>rfl) (fun _=>rfl) (fun _=>rfl) (fun x0=>zc4 x0 c0) (fun x0 y hy=>zj0 x0 c0 y hy) v1 hv1) ?_
 refine .rn 1 ?_
 refine .nn ?_
 refine .seq (.seq (.pl zS [0,1,5] ?_))
 refine .cd ?_ ?_<;>intro hc1
 have hv:v1=-1:=by simpa using hc1
 have hql:q=l:=by
  unfold zbs at hv1
  rw[hz] at hv1
  cases z with
  |inl r=>
   obtain⟨j,h1,_⟩:=hz2
   have:r=v1:=sj hv1
   omega
  |inr u=>exact hz2
 subst hql
 refine .sp [0] ?_
 refine .ret ⟨st15 c0 q,?_,.inr rfl,retH [20001,20100] ?_ ?_⟩
 exact .m [4] [20001,20000] [(20000,20100)]
 exact rsi0
 rfl
 have hv:v1≠-1:=by simpa using hc1
 obtain⟨j0,rfl,hj0,q0,hq0,hqq⟩:∃j:Nat,v1=(j:Int)/\j<l.length/\∃q',zps (fun x0=>zc4 x0 c0) (l.drop (j+1))=some q'/\q=l.take j++q':=by
  unfold zbs at hv1
  rw[hz] at hv1
  cases z with
  |inl r=>
   obtain⟨j,h1,h2,h3⟩:=hz2
   have:r=v1:=sj hv1
   exact⟨j,by omega,h2,h3⟩
  |inr u=>exact absurd (sj hv1).symm hv
 have hll:(l.length:Int)<=9223372036854775807:=by omega
 have hw0:wr .i64 ((j0:Int)+1)=((j0+1:Nat):Int):=zdr hj0 hll
 refine .skip (.seq (.seq (.plx zS hw0 [0,1,5] ?_)))
 refine .block ?_
 refine .loopG 20100 (fun(s:List (List UInt8)×Nat×Nat)=>st70 l s.1 c0 s.2.1 s.2.2) (fun s=>s.1.length=l.length/\s.2.1<s.2.2/\s.2.2<=l.length/\s.1.drop s.2.2=l.drop s.2.2/\∃q',zps (fun x0=>zc4 x0 c0) (l.drop s.2.2)=some q'/\q=s.1.take s.2.1++q') (fun s=>l.length-s.2.2) (l,j0,j0+1) (lb rfl) ?_ ⟨rfl,by dsimp only;omega,by dsimp only;omega,rfl,q0,hq0,hqq⟩ ?_
 exact .m [0,1,5,6] [20000,20001] []
 rintro⟨M,n,j⟩ ⟨hM,hnj,hj,hd,q',hq',hqe⟩
 simp only at hM hnj hj hd hq' hqe
 simp only[st70]
 refine .seq (.seq (.pl zS [0,1,5,6] ?_))
 refine .cd ?_ ?_<;>intro hc2
 have h1:j<l.length:=by simpa using hc2
 have h1M:j<M.length:=by omega
 have hnM:n<M.length:=by omega
 have hwj:wr .i64 ((j:Int)+1)=((j+1:Nat):Int):=zdr h1 hll
 have hwn:wr .i64 ((n:Int)+1)=((n+1:Nat):Int):=zdr (by omega:n<l.length) hll
 have e1:=zdb D.str M j h1M
 rw[za7 h1,zps] at hq'
 have hMj:M[j]=l[j]:=by
  rw[za7 h1,za7 h1M] at hd
  exact(List.cons.inj hd).1
 have hd':M.drop (j+1)=l.drop (j+1):=by
  rw[za7 h1,za7 h1M] at hd
  exact(List.cons.inj hd).2
 obtain⟨b,hb,hq'⟩:=za3 hq'
 obtain⟨q1,hq1,hq'⟩:=za3 hq'
 have hq':=sj hq'
 refine .skip (.seq (.block (.seq (.plx zS e1 [0,1,5,6] ?_))))
 refine .sr [0,1,5,6,7] ?_
 refine .rn 2 ?_
 refine .lcall (r:=.bool b) [] rfl rfl rfl rfl rfl (za9 rfl (za9 (zcc rfl (za2 rfl zc3)) zaj)) rfl (zj0 M[j] c0 b (by rw[hMj];exact hb)) ?_
 refine .rn 1 ?_
 refine .nn ?_
 refine .cd ?_ ?_<;>intro hc3
 have hbf:b=false:=by simpa using hc3
 subst hbf
 have es1:=zro D.str M n M[j]
 have hnl:n<l.length:=by omega
 refine .seq ?_
 have en:=zdb D.str M n hnM
 refine .plx zS (ai es1 en) [0,1,5,6,7] ?_ (hv:=by simp;omega)
 refine .plx zS hwn [0,1,5,6] ?_
 refine .plx zS hwj [0,1,5,6] ?_
 refine⟨(M.set n M[j],n+1,j+1),?_,⟨by simpa using hM,by dsimp only;omega,by dsimp only;omega,?_,q1,hq1,?_⟩,by dsimp only;omega⟩
 exact .m [0,1,5,6] [20000,20001] []
 show(M.set n M[j]).drop (j+1)=l.drop (j+1)
 rw[List.drop_set_of_lt (by omega)];exact hd'
 show q=(M.set n M[j]).take (n+1)++q1
 rw[hqe,<-hq',List.take_succ_eq_append_getElem (by simpa using hnM),List.take_set_of_le (za4 _),List.getElem_set_self,hMj]
 simp
 have hbt:b=true:=by simpa using hc3
 subst hbt
 refine .skip (.plx zS hwj [0,1,5,6] ?_)
 refine⟨(M,n,j+1),?_,⟨hM,by dsimp only;omega,by dsimp only;omega,hd',q1,hq1,by rw[hqe,<-hq'];rfl⟩,by dsimp only;omega⟩
 exact .m [0,1,5,6] [20000,20001] []
 have h2:j=l.length:=by have:=of_decide_eq_false hc2;omega
 subst h2
 rw[List.drop_length,zps] at hq'
 have hq':=sj hq'
 have hqt:q=M.take n:=by rw[hqe,<-hq',zag]
 have hnM:n<=M.length:=by omega
 have hql:q.length=n:=by rw[hqt,List.length_take];omega
 refine .exit ?_
 refine .seq ?_
 have q1:((l.length:Int)-(n:Int)).toNat=l.length-n:=by omega
 refine .plx zS q1 [0,5] ?_ (hv:=by simp;omega)
 refine .seq ?_
 refine .pl zS [0,5] ?_ (hv:=by simp;omega)
 refine .goes (.pre 20000 n _ rfl .refl) ?_
 refine .ret ⟨st15 c0 q,?_,.inr rfl,retH [20001,20100] ?_ ?_⟩
 have c1:(bif decide (uC<=9223372036854775807) then uC-0 else uC)=uC:=by cases decide (uC<=9223372036854775807)<;>rfl
 have c2:((n:Int)-0).toNat=q.length:=by omega
 have c3:List.take n (List.map D.str (List.take n M)++List.replicate (l.length-n) (D.str [])++List.map D.str (List.drop (n+(l.length-n)) M))=List.map D.str q:=by
  rw[hqt,List.append_assoc,List.take_append_of_le_length (by simp;omega),List.take_of_length_le (by rw[List.length_map,List.length_take];omega)]
 simp only[go_sem,Nat.reduceBEq,c1,c2,c3]
 exact .m [4] [20001,20000] [(20000,20100)]
 exact rsi0
 rfl
end Go.Proofs
namespace Go.Proofs
open Go.Tm Go.RowKit Go.WideShapes
set_option maxRecDepth 100000
set_option maxHeartbeats 4000000
set_option linter.unusedSimpArgs false
set_option linter.unusedVariables false
theorem zhm(a0:Int)(a1:Int)(a2:Int)(r:Bool)(h:zg5 a0 a1 a2=some r):zbi Tryz.prog 45 [.int .i64 a0,.int .i64 a1,.int .i64 a2] (.bool r):=by
 refine zbp 2 Tryz.func45 ?_
 intro hwf
 unfold zg5 at h
 refine .sp [0,1,2] ?_
 refine .sr [0,1,2] ?_
 refine .rn 6 ?_
 refine .rn 3 ?_
 refine .nn ?_
 obtain rfl:=sj h
 exact .rr
@[go_sem] def ya8b(a2:Int):St:=⟨[(2,.int .i64 a2)],[],1⟩
theorem zgr(a0:TMail)(a1:Int)(a2:Int)(r:Bool)(h:zeb a0 a1 a2=some r):zbi Tryz.prog 47 [.agg [.int .i64 a0.From,.int .i64 a0.To,.int .u8 a0.Kind,.int .i64 a0.Group,.int .i64 a0.Slot,.int .i64 a0.Ballot,.int .i64 a0.Prior,.str a0.Value,.int .i64 a0.Id,.int .i64 a0.Time],.int .u8 a1,.int .i64 a2] (.bool r):=by
 refine zbp 3 Tryz.func47 ?_
 intro hwf
 unfold zeb at h
 refine .sp [0,1,2] ?_
 refine .seq (.seq (.pl zS [1,2,3] ?_))
 refine .block (.seq ?_)
 obtain⟨x1,hx1,h⟩:=za3 h
 refine .block ?_
 refine .seqM 1 (fun(j:Unit)=>ya8b a2) (fun j=>x1=(.inr (.inr (.inr j)))) (lb rfl) ?_ ?_
 refine .block (.seq (.block (.seq (.block (.seq (.seq (.seq (.pl zS [2,3,7] ?_))))))))
 refine .cd ?_ ?_<;>intro hc1
 replace hx1:=zab hx1 hc1
 refine .exit ?_
 refine .seq (.seq ?_)
 obtain⟨v1,hv1,hx1⟩:=za3 hx1
 refine .rg zS [2,3] ?_
 refine .rn 1 ?_
 refine .cl (zhm a2 1 200 v1 hv1) ?_
 refine .rn 6 ?_
 refine .rn 4 ?_
 refine .nn ?_
 have hq:=sj hx1
 subst x1
 try dsimp only at h
 obtain rfl:=sj h
 exact .rr
 replace hx1:=zae hx1 hc1
 refine .skip (.seq (.seq (.pl zS [2,3,7] ?_)))
 refine .cd ?_ ?_<;>intro hc2
 replace hx1:=zab hx1 hc2
 refine .exit ?_
 refine .sp [2,3] ?_
 refine .cd ?_ ?_<;>intro hc3
 replace hx1:=zab hx1 hc3
 refine .sp [3] ?_
 have hq:=sj hx1
 subst x1
 try dsimp only at h
 obtain rfl:=sj h
 exact .rr
 replace hx1:=zae hx1 hc3
 refine .skip ?_
 refine⟨_,?_,(sj hx1).symm⟩
 exact .m [2] [] []
 replace hx1:=zae hx1 hc2
 refine .skip (.seq (.seq (.pl zS [2,7] ?_)))
 refine .cd ?_ ?_<;>intro hc4
 replace hx1:=zab hx1 hc4
 refine .exit ?_
 refine⟨_,?_,(sj hx1).symm⟩
 exact .m [2] [] []
 replace hx1:=zae hx1 hc4
 refine .skip (.seq (.pl zS [2,7] ?_))
 refine .cd ?_ ?_<;>intro hc5
 replace hx1:=zab hx1 hc5
 refine .exit ?_
 have hq:=sj hx1
 subst x1
 try dsimp only at h
 refine .seq ?_
 obtain⟨v2,hv2,h⟩:=za3 h
 refine .sr [2] ?_
 refine .rn 1 ?_
 refine .cl (zhm a2 0 6291455 v2 hv2) ?_
 refine .rn 1 ?_
 refine .nn ?_
 obtain rfl:=sj h
 exact .rr
 replace hx1:=zae hx1 hc5
 refine .skip ?_
 refine .exit ?_
 have hq:=sj hx1
 subst x1
 try dsimp only at h
 obtain⟨v3,hv3,h⟩:=za3 h
 refine .sr [2] ?_
 refine .rn 1 ?_
 refine .cl (zhm a2 1 1073741824 v3 hv3) ?_
 refine .rn 1 ?_
 refine .nn ?_
 obtain rfl:=sj h
 exact .rr
 rintro⟨⟩ hj1
 subst x1
 try dsimp only at h
 simp only[ya8b]
 refine .seq ?_
 obtain⟨v4,hv4,h⟩:=za3 h
 refine .sr [2] ?_
 refine .rn 1 ?_
 refine .cl (zdw a2 v4 hv4) ?_
 refine .rn 2 ?_
 refine .nn ?_
 obtain rfl:=sj h
 exact .rr
end Go.Proofs
namespace Go.Proofs
open Go.Tm Go.RowKit Go.WideShapes
set_option maxRecDepth 100000
set_option maxHeartbeats 4000000
set_option linter.unusedSimpArgs false
set_option linter.unusedVariables false
attribute [local go_sem] Tryz.f28 Tryz.f44 Tryz.f46
theorem zqv(k:Int):zbi Tryz.prog 44 [.int .u8 k] (.str (zhe k)):=by
 refine zbp 2 Tryz.func44 ?_
 intro hwf
 have hk:0<=k/\k<=255:=by simp only[wfL,wf,IntKind.max,IntKind.min,IntKind.signed,IntKind.bits] at hwf;simp at hwf;omega
 refine .sp [0] ?_
 refine .sp [0] ?_
 refine .seq (.seq ?_)
 have hw:wr .i64 k=k:=zj6 _ _ (by show(-9223372036854775808:Int)<=_;omega) (by show _<=(9223372036854775807:Int);omega)
 refine .plx zS hw [0,3] ?_
 refine .cd ?_ ?_<;>intro hc1
 have h1:10<=k:=by have:=of_decide_eq_true hc1;omega
 have hn:zhe k=[]:=by
  unfold zhe
  rw[if_neg (by omega),if_neg (by omega),if_neg (by omega),if_neg (by omega),if_neg (by omega),if_neg (by omega),if_neg (by omega),if_neg (by omega),if_neg (by omega)]
 rw[hn]
 refine .sp [] ?_
 exact .rr
 have h1:k<10:=by have:=of_decide_eq_false hc1;omega
 refine .skip ?_
 have hcs:k=0\/k=1\/k=2\/k=3\/k=4\/k=5\/k=6\/k=7\/k=8\/k=9:=by omega
 rcases hcs with rfl|rfl|rfl|rfl|rfl|rfl|rfl|rfl|rfl|rfl
 all_goals
  simp only[zhe,Int.reduceEq,↓reduceIte]
  refine .sp [0,3] ?_
  exact .rr
def zv7(c:UInt8):Nat:=if c=115 then 4 else if c=98 then 5 else if c=112 then 6 else if c=105 then 8 else 9
def zlu(x:TMail):Blk:=.box [.int .i64 x.From,.int .i64 x.To,.int .u8 x.Kind,.int .i64 x.Group,.int .i64 x.Slot,.int .i64 x.Ballot,.int .i64 x.Prior,.str x.Value,.int .i64 x.Id,.int .i64 x.Time]
attribute [local go_sem, local simp] zlu
theorem ya2k{c d:UInt8}{n:Int}(hn:n=(d.toNat:Int))(h:((c.toNat:Int)==n)=true):c=d:=by
 subst hn
 have h:=beq_iff_eq.1 h
 exact UInt8.toNat_inj.1 (by omega)
theorem ya2j{c d:UInt8}{n:Int}(hn:n=(d.toNat:Int))(h:((c.toNat:Int)==n)=false):c≠d:=by
 intro e
 subst hn e
 simp at h
theorem zrm(x:TMail)(c:UInt8):zbv Tryz.prog 46 [.ptr 20000 0,.int .u8 (c.toNat:Int)] [(20000,zlu x)] (.ptr 20000 (zv7 c)) [] (20100,20102):=by
 refine zct Tryz.func46 ?_
 intro hwf
 refine .ends 20100 (za4 _) ?_
 refine .sp [0,1] ?_
 refine .seq (.seq (.pl zS [0,1] ?_))
 refine .block (.seq (.pl zS [0,5] ?_))
 refine .cd ?_ ?_<;>intro hc
 obtain rfl:=ya2k (d:=115) rfl hc
 rw[show zv7 115=4 from by decide]
 refine .sp [0] ?_
 refine .ret ⟨⟨[(4,.ptr 20000 4)],[(20000,zlu x)],20100⟩,?_,.inr rfl,retH [20000] ?_ ?_⟩
 exact .m [4] [20000] []
 exact rsi0
 rfl
 have n115:=ya2j (d:=115) rfl hc
 refine .sp [0,5] ?_
 refine .cd ?_ ?_<;>intro hc
 obtain rfl:=ya2k (d:=98) rfl hc
 rw[show zv7 98=5 from by decide]
 refine .sp [0] ?_
 refine .ret ⟨⟨[(4,.ptr 20000 5)],[(20000,zlu x)],20100⟩,?_,.inr rfl,retH [20000] ?_ ?_⟩
 exact .m [4] [20000] []
 exact rsi0
 rfl
 have n98:=ya2j (d:=98) rfl hc
 refine .sp [0,5] ?_
 refine .cd ?_ ?_<;>intro hc
 obtain rfl:=ya2k (d:=112) rfl hc
 rw[show zv7 112=6 from by decide]
 refine .sp [0] ?_
 refine .ret ⟨⟨[(4,.ptr 20000 6)],[(20000,zlu x)],20100⟩,?_,.inr rfl,retH [20000] ?_ ?_⟩
 exact .m [4] [20000] []
 exact rsi0
 rfl
 have n112:=ya2j (d:=112) rfl hc
 refine .sp [0,5] ?_
 refine .cd ?_ ?_<;>intro hc
 obtain rfl:=ya2k (d:=105) rfl hc
 rw[show zv7 105=8 from by decide]
 refine .sp [0] ?_
 refine .ret ⟨⟨[(4,.ptr 20000 8)],[(20000,zlu x)],20100⟩,?_,.inr rfl,retH [20000] ?_ ?_⟩
 exact .m [4] [20000] []
 exact rsi0
 rfl
 have n105:=ya2j (d:=105) rfl hc
 refine .skip (.seq (.pl zS [0] ?_))
 have ho:zv7 c=9:=by rw[zv7,if_neg n115,if_neg n98,if_neg n112,if_neg n105]
 rw[ho]
 refine .ret ⟨⟨[(4,.ptr 20000 9)],[(20000,zlu x)],20100⟩,?_,.inr rfl,retH [20000] ?_ ?_⟩
 exact .m [4] [20000] []
 exact rsi0
 rfl
theorem zph(x:TMail)(c:UInt8)(o:Nat)(h:zv7 c=o):zbv Tryz.prog 46 [.ptr 20000 0,.int .u8 (c.toNat:Int)] [(20000,zlu x)] (.ptr 20000 o) [] (20100,20102):=h▸zrm x c
@[go_sem] def ya8c(m p:TMail)(ok:Bool)(j:Nat):St:=⟨[(1,.ptr 0 0),(3,.str (zhe m.Kind)),(4,.ptr 1 0),(5,.bool ok),(44,.int .i64 ((zhe m.Kind).length:Int)),(45,.int .i64 (j:Int))],[(0,zlu m),(1,zlu p)],2⟩
theorem zrk(m:TMail)(r:Int)(h:zic m=some r):zbi Tryz.prog 28 [.agg [.int .i64 m.From,.int .i64 m.To,.int .u8 m.Kind,.int .i64 m.Group,.int .i64 m.Slot,.int .i64 m.Ballot,.int .i64 m.Prior,.str m.Value,.int .i64 m.Id,.int .i64 m.Time]] (.int .i64 r):=by
 refine zbp 7 Tryz.func28 ?_
 intro hwf
 unfold zic at h
 refine .sp [0] ?_
 refine .sr [1] ?_
 refine .rn 2 ?_
 refine .cl (zqv m.Kind) ?_
 refine .rn 1 ?_
 refine .nn ?_
 refine .sp [1,3] ?_
 obtain⟨v1,hv1,h⟩:=za3 h
 obtain⟨v2,hv2,h⟩:=za3 h
 obtain⟨v3,hv3,h⟩:=za3 h
 obtain⟨z,hz,h⟩:=za3 h
 refine .sr [1,3,4] ?_
 refine .rd 5 ?_
 refine .gcall rfl rfl rfl rfl rfl (fun hg=>⟨[],[.int .i64 m.From,.int .i64 0,.int .i64 5],_,rfl,gd hg,rfl,(zhm m.From 0 5 v1 (zab hv1 hg))⟩) ?_
 refine .rd 4 ?_
 refine .gcall rfl rfl rfl rfl rfl (fun hg=>⟨[],[.int .i64 m.To,.int .i64 0,.int .i64 5],_,rfl,gd hg,rfl,(zhm m.To 0 5 v2 (zab hv2 hg))⟩) ?_
 refine .rd 4 ?_
 refine .gcall rfl rfl rfl rfl rfl (fun hg=>⟨[],[.int .i64 m.Group,.int .i64 0,.int .i64 3],_,rfl,gd hg,rfl,(zhm m.Group 0 3 v3 (zab hv3 hg))⟩) ?_
 refine .rd 8 ?_
 refine .nd ?_
 refine .seq (.seq (.pl zS [1,3,4,5] ?_))
 refine .block ?_
 have hll:((zhe m.Kind).length:Int)<=9223372036854775807:=by
  have:(zhe m.Kind).length<=4:=by
   unfold zhe
   repeat' split
   all_goals decide
  omega
 refine .loopG 2 (fun(s:Nat×TMail×Bool)=>ya8c m s.2.1 s.2.2 s.1) (fun s=>s.1<=(zhe m.Kind).length/\zo4 m ((zhe m.Kind).drop s.1) s.2.1 s.2.2=some z) (fun s=>(zhe m.Kind).length-s.1) (0,_,_) (lb rfl) ?_ ⟨Nat.zero_le _,hz⟩ ?_
 exact .m [1,3,4,5,44,45] [0,1] []
 rintro⟨j,p,ok⟩ ⟨hj,hw⟩
 simp only at hj hw
 simp only[ya8c]
 refine .sp [1,3,4,5,44,45] ?_
 refine .seq (.cd (fun hc1=>?_) (fun hc1=>?_))
 have h1:j<(zhe m.Kind).length:=by simpa using hc1
 have hwj:wr .i64 ((j:Int)+1)=((j+1:Nat):Int):=zdr h1 hll
 obtain⟨c,hc⟩:∃c,c=(zhe m.Kind)[j]:=⟨_,rfl⟩
 have e1:(zhe m.Kind).getD j 0=c:=by rw[hc,List.getD_eq_getElem?_getD,List.getElem?_eq_getElem h1];rfl
 rw[za7 h1,<-hc,zo4] at hw
 refine .skip (.seq (.block (.seq (.pl zS [1,3,4,5,44,45] ?_))))
 refine .seq (.seq (.plx zS e1 [1,3,4,5,6,44,45] ?_))
 refine .cd ?_ ?_<;>intro hc2
 obtain rfl:=ya2k (d:=118) rfl hc2
 rw[if_pos rfl] at hw
 refine .sp [1,3,4,5,44,45] ?_
 refine .exit ?_
 refine .plx zS hwj [1,3,4,5,44,45] ?_
 refine⟨(j+1,_,ok),?_,⟨by dsimp only;omega,hw⟩,by dsimp only;omega⟩
 exact .m [1,3,4,5,44,45] [0,1] []
 rw[if_neg (ya2j (d:=118) rfl hc2)] at hw
 refine .skip ?_
 obtain⟨v4,hv4,hw⟩:=za3 hw
 by_cases g115:c=115
 subst g115
 have tp:=fun x=>zph x 115 4 (by decide)
 refine .sr [1,3,4,5,6,44,45] ?_
 refine .rnx 3 e1 ?_
 refine .hcall (H:=[(0,zlu m)]) (eff:=[]) (nw:=(2,4)) (r:=.ptr 0 4) rfl rfl rfl rfl rfl (zcg 2 (za6 20000 0 (tp m))) (fun id b h=>zam [0] _ id b h) (by simp) (.inr ⟨lb rfl,lb rfl⟩) ?_
 refine .rn 3 ?_
 refine .nn ?_
 refine .sr [1,3,4,5,6,7,44,45] ?_
 refine .rnx 3 e1 ?_
 refine .hcall (H:=[(1,zlu p)]) (eff:=[]) (nw:=(4,6)) (r:=.ptr 1 4) rfl rfl rfl rfl rfl (zcg 4 (za6 20000 1 (tp p))) (fun id b h=>zam [1] _ id b h) (by simp) (.inr ⟨lb rfl,lb rfl⟩) ?_
 refine .rn 3 ?_
 refine .nn ?_
 refine .rg zS [1,3,4,5,6,7,44,45] ?_
 refine .rdx 7 e1 ?_
 refine .gcall rfl rfl rfl rfl rfl (fun hg=>⟨[],[.agg [.int .i64 m.From,.int .i64 m.To,.int .u8 m.Kind,.int .i64 m.Group,.int .i64 m.Slot,.int .i64 m.Ballot,.int .i64 m.Prior,.str m.Value,.int .i64 m.Id,.int .i64 m.Time],.int .u8 (UInt8.toNat 115:Int),.int .i64 m.Slot],_,rfl,gd hg,rfl,(zgr m (UInt8.toNat 115:Int) m.Slot v4 (zab hv4 hg))⟩) ?_
 refine .rdx 2 e1 ?_
 refine .nd ?_
 refine .plx zS hwj [1,3,4,5,44,45] ?_
 refine⟨(j+1,_,(ok&&v4)),?_,⟨by dsimp only;omega,hw⟩,by dsimp only;omega⟩
 exact .m [1,3,4,5,44,45] [0,1] []
 by_cases g98:c=98
 subst g98
 have tp:=fun x=>zph x 98 5 (by decide)
 refine .sr [1,3,4,5,6,44,45] ?_
 refine .rnx 3 e1 ?_
 refine .hcall (H:=[(0,zlu m)]) (eff:=[]) (nw:=(2,4)) (r:=.ptr 0 5) rfl rfl rfl rfl rfl (zcg 2 (za6 20000 0 (tp m))) (fun id b h=>zam [0] _ id b h) (by simp) (.inr ⟨lb rfl,lb rfl⟩) ?_
 refine .rn 3 ?_
 refine .nn ?_
 refine .sr [1,3,4,5,6,7,44,45] ?_
 refine .rnx 3 e1 ?_
 refine .hcall (H:=[(1,zlu p)]) (eff:=[]) (nw:=(4,6)) (r:=.ptr 1 5) rfl rfl rfl rfl rfl (zcg 4 (za6 20000 1 (tp p))) (fun id b h=>zam [1] _ id b h) (by simp) (.inr ⟨lb rfl,lb rfl⟩) ?_
 refine .rn 3 ?_
 refine .nn ?_
 refine .rg zS [1,3,4,5,6,7,44,45] ?_
 refine .rdx 7 e1 ?_
 refine .gcall rfl rfl rfl rfl rfl (fun hg=>⟨[],[.agg [.int .i64 m.From,.int .i64 m.To,.int .u8 m.Kind,.int .i64 m.Group,.int .i64 m.Slot,.int .i64 m.Ballot,.int .i64 m.Prior,.str m.Value,.int .i64 m.Id,.int .i64 m.Time],.int .u8 (UInt8.toNat 98:Int),.int .i64 m.Ballot],_,rfl,gd hg,rfl,(zgr m (UInt8.toNat 98:Int) m.Ballot v4 (zab hv4 hg))⟩) ?_
 refine .rdx 2 e1 ?_
 refine .nd ?_
 refine .plx zS hwj [1,3,4,5,44,45] ?_
 refine⟨(j+1,_,(ok&&v4)),?_,⟨by dsimp only;omega,hw⟩,by dsimp only;omega⟩
 exact .m [1,3,4,5,44,45] [0,1] []
 by_cases g112:c=112
 subst g112
 have tp:=fun x=>zph x 112 6 (by decide)
 refine .sr [1,3,4,5,6,44,45] ?_
 refine .rnx 3 e1 ?_
 refine .hcall (H:=[(0,zlu m)]) (eff:=[]) (nw:=(2,4)) (r:=.ptr 0 6) rfl rfl rfl rfl rfl (zcg 2 (za6 20000 0 (tp m))) (fun id b h=>zam [0] _ id b h) (by simp) (.inr ⟨lb rfl,lb rfl⟩) ?_
 refine .rn 3 ?_
 refine .nn ?_
 refine .sr [1,3,4,5,6,7,44,45] ?_
 refine .rnx 3 e1 ?_
 refine .hcall (H:=[(1,zlu p)]) (eff:=[]) (nw:=(4,6)) (r:=.ptr 1 6) rfl rfl rfl rfl rfl (zcg 4 (za6 20000 1 (tp p))) (fun id b h=>zam [1] _ id b h) (by simp) (.inr ⟨lb rfl,lb rfl⟩) ?_
 refine .rn 3 ?_
 refine .nn ?_
 refine .rg zS [1,3,4,5,6,7,44,45] ?_
 refine .rdx 7 e1 ?_
 refine .gcall rfl rfl rfl rfl rfl (fun hg=>⟨[],[.agg [.int .i64 m.From,.int .i64 m.To,.int .u8 m.Kind,.int .i64 m.Group,.int .i64 m.Slot,.int .i64 m.Ballot,.int .i64 m.Prior,.str m.Value,.int .i64 m.Id,.int .i64 m.Time],.int .u8 (UInt8.toNat 112:Int),.int .i64 m.Prior],_,rfl,gd hg,rfl,(zgr m (UInt8.toNat 112:Int) m.Prior v4 (zab hv4 hg))⟩) ?_
 refine .rdx 2 e1 ?_
 refine .nd ?_
 refine .plx zS hwj [1,3,4,5,44,45] ?_
 refine⟨(j+1,_,(ok&&v4)),?_,⟨by dsimp only;omega,hw⟩,by dsimp only;omega⟩
 exact .m [1,3,4,5,44,45] [0,1] []
 by_cases g105:c=105
 subst g105
 have tp:=fun x=>zph x 105 8 (by decide)
 refine .sr [1,3,4,5,6,44,45] ?_
 refine .rnx 3 e1 ?_
 refine .hcall (H:=[(0,zlu m)]) (eff:=[]) (nw:=(2,4)) (r:=.ptr 0 8) rfl rfl rfl rfl rfl (zcg 2 (za6 20000 0 (tp m))) (fun id b h=>zam [0] _ id b h) (by simp) (.inr ⟨lb rfl,lb rfl⟩) ?_
 refine .rn 3 ?_
 refine .nn ?_
 refine .sr [1,3,4,5,6,7,44,45] ?_
 refine .rnx 3 e1 ?_
 refine .hcall (H:=[(1,zlu p)]) (eff:=[]) (nw:=(4,6)) (r:=.ptr 1 8) rfl rfl rfl rfl rfl (zcg 4 (za6 20000 1 (tp p))) (fun id b h=>zam [1] _ id b h) (by simp) (.inr ⟨lb rfl,lb rfl⟩) ?_
 refine .rn 3 ?_
 refine .nn ?_
 refine .rg zS [1,3,4,5,6,7,44,45] ?_
 refine .rdx 7 e1 ?_
 refine .gcall rfl rfl rfl rfl rfl (fun hg=>⟨[],[.agg [.int .i64 m.From,.int .i64 m.To,.int .u8 m.Kind,.int .i64 m.Group,.int .i64 m.Slot,.int .i64 m.Ballot,.int .i64 m.Prior,.str m.Value,.int .i64 m.Id,.int .i64 m.Time],.int .u8 (UInt8.toNat 105:Int),.int .i64 m.Id],_,rfl,gd hg,rfl,(zgr m (UInt8.toNat 105:Int) m.Id v4 (zab hv4 hg))⟩) ?_
 refine .rdx 2 e1 ?_
 refine .nd ?_
 refine .plx zS hwj [1,3,4,5,44,45] ?_
 refine⟨(j+1,_,(ok&&v4)),?_,⟨by dsimp only;omega,hw⟩,by dsimp only;omega⟩
 exact .m [1,3,4,5,44,45] [0,1] []
 have hG:zq6 c m=m.Time:=by rw[zq6,if_neg g115,if_neg g98,if_neg g112,if_neg g105]
 have hP:∀n,zri c n p={p with Time:=n}:=fun n=>by rw[zri,if_neg g115,if_neg g98,if_neg g112,if_neg g105]
 rw[hG] at hv4 hw
 rw[hP] at hw
 have tp:=fun x=>zph x c 9 (by rw[zv7,if_neg g115,if_neg g98,if_neg g112,if_neg g105])
 refine .sr [1,3,4,5,6,44,45] ?_
 refine .rnx 3 e1 ?_
 refine .hcall (H:=[(0,zlu m)]) (eff:=[]) (nw:=(2,4)) (r:=.ptr 0 9) rfl rfl rfl rfl rfl (zcg 2 (za6 20000 0 (tp m))) (fun id b h=>zam [0] _ id b h) (by simp) (.inr ⟨lb rfl,lb rfl⟩) ?_
 refine .rn 3 ?_
 refine .nn ?_
 refine .sr [1,3,4,5,6,7,44,45] ?_
 refine .rnx 3 e1 ?_
 refine .hcall (H:=[(1,zlu p)]) (eff:=[]) (nw:=(4,6)) (r:=.ptr 1 9) rfl rfl rfl rfl rfl (zcg 4 (za6 20000 1 (tp p))) (fun id b h=>zam [1] _ id b h) (by simp) (.inr ⟨lb rfl,lb rfl⟩) ?_
 refine .rn 3 ?_
 refine .nn ?_
 refine .rg zS [1,3,4,5,6,7,44,45] ?_
 refine .rdx 7 e1 ?_
 refine .gcall rfl rfl rfl rfl rfl (fun hg=>⟨[],[.agg [.int .i64 m.From,.int .i64 m.To,.int .u8 m.Kind,.int .i64 m.Group,.int .i64 m.Slot,.int .i64 m.Ballot,.int .i64 m.Prior,.str m.Value,.int .i64 m.Id,.int .i64 m.Time],.int .u8 (c.toNat:Int),.int .i64 m.Time],_,rfl,gd hg,rfl,(zgr m (c.toNat:Int) m.Time v4 (zab hv4 hg))⟩) ?_
 refine .rdx 2 e1 ?_
 refine .nd ?_
 refine .plx zS hwj [1,3,4,5,44,45] ?_
 refine⟨(j+1,_,(ok&&v4)),?_,⟨by dsimp only;omega,hw⟩,by dsimp only;omega⟩
 exact .m [1,3,4,5,44,45] [0,1] []
 have h2:j=(zhe m.Kind).length:=by have:=of_decide_eq_false hc1;omega
 rw[zac (by omega),zo4] at hw
 obtain rfl:=sj hw
 refine .exit ?_
 refine .seq (.seq (.pl zS [1,4,5] ?_))
 refine .cd ?_ ?_<;>intro hc2
 have hn:¬(ok=true/\p=m):=by
  rintro⟨rfl,rfl⟩
  simp at hc2
 have hq:=sj h
 rw[if_neg hn] at hq
 subst r
 refine .sp [] ?_
 exact .rr
 have hy:ok=true/\p=m:=by
  simp only[Bool.or_eq_false_iff,Bool.not_eq_false',za0,beq_iff_eq] at hc2
  obtain⟨h1,h3,h4,h5,h6,h7,h8,h9,h10,h11,h12⟩:=hc2
  exact⟨h1,by cases p;cases m;simp_all⟩
 have hq:=sj h
 rw[if_pos hy] at hq
 subst r
 refine .skip (.seq (.pl zS [] ?_))
 exact .rr
end Go.Proofs
section

end
namespace Go.Proofs
open Go.Tm
set_option linter.unusedVariables false
def zes(a0:List UInt8):Option Bool:=
 Option.bind (zcl a0) fun v1=>
 some (v1.2==0)
def zc8(a0:Tseat_seat):Option Int:=
 some (wr .i64 ((a0.Seat.Log.length:Int)+1))
def zeu(a0:TSeen)(a1:Int):Option Int:=
 some (wr .i64 (a0.Slot-a1))
def zar(a0:List TSeen)(a1:Int)(a2:TSeen->Int->Option Int):Nat->Int->Int->Option (Int)
 |0,_,_=>none
 |fu1+1,n2,n3=>
  if n2<n3 then
  if(0<=(wr .i64 (shw false .u64 (wr .u64 (wr .i64 (n2+n3))) 1))/\(wr .i64 (shw false .u64 (wr .u64 (wr .i64 (n2+n3))) 1))<(a0.length:Int)) then
  Option.bind (a2 (a0.getD (wr .i64 (shw false .u64 (wr .u64 (wr .i64 (n2+n3))) 1)).toNat default) a1) fun v1=>
  if v1<0 then
  zar a0 a1 a2 fu1 (wr .i64 ((wr .i64 (shw false .u64 (wr .u64 (wr .i64 (n2+n3))) 1))+1)) n3
  else
  zar a0 a1 a2 fu1 n2 (wr .i64 (shw false .u64 (wr .u64 (wr .i64 (n2+n3))) 1))
  else none
  else
  some n2
def zc1(a0:List TSeen)(a1:Int)(a2:TSeen->Int->Option Int):Option (Int×Bool):=
 Option.bind (α:=Int) (zar a0 a1 a2 (a0.length+1) 0 (a0.length:Int)) fun n1=>
 if(n1<(a0.length:Int))->(0<=n1/\n1<(a0.length:Int)) then
 Option.bind (if n1<(a0.length:Int) then a2 (a0.getD n1.toNat default) a1 else some default) fun v2=>
 some (n1,((decide (n1<(a0.length:Int)))&&(v2==0)))
 else none
def zdc(a0:Tseat_seat)(a1:Int):Option (TVote×Int×Bool):=
 Option.bind (zc1 a0.Seat.Votes a1 zeu) fun v1=>
 if v1.2=true then
 if(0<=v1.1/\v1.1<(a0.Seat.Votes.length:Int)) then
 some ((a0.Seat.Votes.getD v1.1.toNat default).Vote,v1.1,true)
 else none
 else
 some ((⟨0,0,[]⟩:TVote),v1.1,false)
def ze4(a0:Tseat_seat):Option ((List Int)):=
 Option.bind (ziv a0.Seat.Group a0.Seat.Log) fun v1=>
 some v1.1
def zdu(a0:TSeat):List TSeen->Int->Option (Int ⊕ Unit)
 |[],n1=>
  some (.inr ())
 |y1::rest1,n1=>
  Option.bind (if ¬(((¬(y1.Group=a0.Number))\/(y1.Slot<=n1))\/(y1.Slot>200)) then zie (y1.Vote) else some default) fun v5=>
  Option.bind (if(¬(((((¬(y1.Group=a0.Number))\/(y1.Slot<=n1))\/(y1.Slot>200))\/(¬(v5=0)))\/(y1.Vote.Promised=0)))/\(y1.Vote.Ballot>0) then zes (y1.Vote.Value) else some default) fun v6=>
  if(((((¬(y1.Group=a0.Number))\/(y1.Slot<=n1))\/(y1.Slot>200))\/(¬(v5=0)))\/(y1.Vote.Promised=0))\/((y1.Vote.Ballot>0)/\(¬(v6=true))) then
  some (.inl 8)
  else
  zdu a0 rest1 (y1.Slot)
def zdt:List TPromise->Option (Int ⊕ Unit)
 |[]=>
  some (.inr ())
 |y2::rest2=>
  Option.bind (if y2.Ballot>0 then zes (y2.Value) else some default) fun v13=>
  if(y2.Ballot>0)/\(¬(v13=true)) then
  some (.inl 8)
  else
  zdt rest2
def zd9:List (List UInt8)->(List ((List UInt8)×Int))->Option ((List ((List UInt8)×Int)))
 |[],m2=>
  some m2
 |y3::rest3,m2=>
  zd9 rest3 (mput (y3) 1 m2)
def zd8:List (List UInt8)->(List ((List UInt8)×Int))->Option (Int ⊕ Unit)
 |[],m3=>
  some (.inr ())
 |y4::rest4,m3=>
  Option.bind (if ¬(((mget (y4) m3).getD 0)>0) then zes (y4) else some default) fun v14=>
  if(((mget (y4) m3).getD 0)>0)\/(¬(v14=true)) then
  some (.inl 8)
  else
  zd8 rest4 (mput (y4) 1 m3)
def zge(a0:TSeat):Option Int:=
 Option.bind (if(((a0.Me>=0)/\(a0.Me<6))/\(a0.Number>=0))/\(a0.Number<4) then zbr a0.Group else some default) fun v1=>
 Option.bind (if((((a0.Me>=0)/\(a0.Me<6))/\(a0.Number>=0))/\(a0.Number<4))/\(v1=0) then zdl a0.Group.Roster a0.Me else some default) fun v2=>
 Option.bind (if(((((a0.Me>=0)/\(a0.Me<6))/\(a0.Number>=0))/\(a0.Number<4))/\(v1=0))/\(v2=true) then zkn a0.Log else some default) fun v3=>
 Option.bind (if(((((((((a0.Me>=0)/\(a0.Me<6))/\(a0.Number>=0))/\(a0.Number<4))/\(v1=0))/\(v2=true))/\(v3=0))/\(a0.Heard>=0))/\(a0.Heard<=8388613))/\((a0.Wishes.length:Int)<=200) then zfb a0.Try else some default) fun v4=>
 if ¬((((((((((((a0.Me>=0)/\(a0.Me<6))/\(a0.Number>=0))/\(a0.Number<4))/\(v1=0))/\(v2=true))/\(v3=0))/\(a0.Heard>=0))/\(a0.Heard<=8388613))/\((a0.Wishes.length:Int)<=200))/\(v4=0))/\(a0.Try.Phase<3)) then
 some 8
 else
 Option.bind (α:=Int ⊕ Unit) (zdu a0 a0.Votes (a0.Log.length:Int)) fun z=>match z with
 |(.inl r)=>some r
 |(.inr _)=>
 Option.bind (α:=Int ⊕ Unit) (if ¬(a0.Try.Phase=0) then
 Option.bind (zi7 a0.Try.Ballot) fun v7=>
 Option.bind (zc8 (⟨a0,[],[]⟩:Tseat_seat)) fun v8=>
 Option.bind (zdc (⟨a0,[],[]⟩:Tseat_seat) v8) fun v9=>
 Option.bind (if ¬(¬(v7.2.1=a0.Me)) then ze4 (⟨a0,[],[]⟩:Tseat_seat) else some default) fun v10=>
 Option.bind (if ¬(¬(v7.2.1=a0.Me)) then zbx a0.Try.Members v10 else some default) fun v11=>
 Option.bind (if ¬(((¬(v7.2.1=a0.Me))\/(¬(v11=true)))\/(v9.1.Promised<a0.Try.Ballot)) then zes a0.Try.Wish else some default) fun v12=>
 if(((¬(v7.2.1=a0.Me))\/(¬(v11=true)))\/(v9.1.Promised<a0.Try.Ballot))\/(¬(v12=true)) then
 some (.inl 8)
 else
 zdt a0.Try.Promises
 else
 some (.inr ())) fun z=>match z with
 |(.inl r)=>some r
 |(.inr _)=>
 Option.bind (α:=(List ((List UInt8)×Int))) (zd9 a0.Log []) fun m1=>
 Option.bind (α:=Int ⊕ Unit) (zd8 a0.Wishes m1) fun z=>match z with
 |(.inl r)=>some r
 |(.inr _)=>
 some 0
def zc5(a0:List (List UInt8)):Option ((List (List UInt8))):=
 if a0.length*16<=140737488355328 then
 some a0
 else none
def zel(a0:List TSeen):Option ((List TSeen)):=
 if a0.length*48<=140737488355328 then
 some a0
 else none
def zfr(a0:TSeat):Option TSeat:=
 Option.bind (zaz a0.Group.Roster) fun v1=>
 Option.bind (zaz a0.Group.Members) fun v2=>
 Option.bind (zc5 a0.Log) fun v3=>
 Option.bind (zel a0.Votes) fun v4=>
 Option.bind (zc5 a0.Wishes) fun v5=>
 Option.bind (zf4 a0.Try) fun v6=>
 some (⟨a0.Me,a0.Number,(⟨v1,v2⟩:TGroup),v3,v4,v6,v5,a0.Heard⟩:TSeat)
def zih(a0:Int)(a1:Int)(a2:TGroup):Option (TSeat×Int):=
 if(((a0<0)\/(a0>=6))\/(a1<0))\/(a1>=4) then
 some ((⟨0,0,(⟨[],[]⟩:TGroup),[],[],(⟨0,0,[],[],[],[],[]⟩:TAttempt),[],0⟩:TSeat),2)
 else
 Option.bind (zbr a2) fun v1=>
 if ¬(v1=0) then
 some ((⟨0,0,(⟨[],[]⟩:TGroup),[],[],(⟨0,0,[],[],[],[],[]⟩:TAttempt),[],0⟩:TSeat),v1)
 else
 Option.bind (zdl a2.Roster a0) fun v2=>
 if ¬(v2=true) then
 some ((⟨0,0,(⟨[],[]⟩:TGroup),[],[],(⟨0,0,[],[],[],[],[]⟩:TAttempt),[],0⟩:TSeat),6)
 else
 Option.bind (zfr (⟨a0,a1,a2,[],[],(⟨0,0,[],[],[],[],[]⟩:TAttempt),[],0⟩:TSeat)) fun v3=>
 some (v3,0)
def zii(a0:TSeat):Option (TSeat×Int):=
 Option.bind (zge a0) fun v1=>
 if ¬(v1=0) then
 some ((⟨0,0,(⟨[],[]⟩:TGroup),[],[],(⟨0,0,[],[],[],[],[]⟩:TAttempt),[],0⟩:TSeat),v1)
 else
 Option.bind (zfr a0) fun v2=>
 some ((⟨v2.Me,v2.Number,v2.Group,v2.Log,v2.Votes,(⟨0,0,[],[],[],[],[]⟩:TAttempt),[],0⟩:TSeat),0)
def zb6(v:List UInt8):List (List UInt8)->Nat->Option (Int ⊕ Unit)
 |[],n1=>
  some (.inr ())
 |y1::rest1,n1=>
  if v=y1 then
  some (.inl (n1:Int))
  else
  zb6 v rest1 (n1+1)
def zdq(s:List (List UInt8))(v:List UInt8):Option Int:=
 Option.bind (α:=Int ⊕ Unit) (zb6 v s 0) fun z=>match z with
 |(.inl r)=>some r
 |(.inr _)=>
 some (-1)
def zbw(a0:List (List UInt8))(a1:List UInt8):Option Bool:=
 Option.bind (zdq a0 a1) fun v1=>
 some (decide (v1>=0))
def zfk(a0:Tseat_seat)(a1:List UInt8):Option (Int×Tseat_seat):=
 Option.bind (zes a1) fun v1=>
 if ¬(v1=true) then
 some (8,a0)
 else
 Option.bind (zbw a0.Seat.Log a1) fun v2=>
 Option.bind (if ¬(v2=true) then zbw a0.Seat.Wishes a1 else some default) fun v3=>
 if(v2=true)\/(v3=true) then
 some (0,a0)
 else
 if(a0.Seat.Wishes.length:Int)=200 then
 some (9,a0)
 else
 if a0.Seat.Wishes.length+[a1].length<1000000 then
 some (0,(⟨(⟨a0.Seat.Me,a0.Seat.Number,a0.Seat.Group,a0.Seat.Log,a0.Seat.Votes,a0.Seat.Try,(a0.Seat.Wishes++[a1]),a0.Seat.Heard⟩:TSeat),a0.fRecs,a0.fMail⟩:Tseat_seat))
 else none
def zi5(a0:TSeat)(a1:List UInt8):Option (TSeat×Int):=
 Option.bind (zge a0) fun v1=>
 if ¬(v1=0) then
 some ((⟨0,0,(⟨[],[]⟩:TGroup),[],[],(⟨0,0,[],[],[],[],[]⟩:TAttempt),[],0⟩:TSeat),v1)
 else
 Option.bind (zfr a0) fun v2=>
 Option.bind (zfk (⟨v2,[],[]⟩:Tseat_seat) a1) fun v3=>
 if ¬(v3.1=0) then
 some ((⟨0,0,(⟨[],[]⟩:TGroup),[],[],(⟨0,0,[],[],[],[],[]⟩:TAttempt),[],0⟩:TSeat),v3.1)
 else
 some (v3.2.Seat,0)
def zcq(a0:Tseat_seat)(a2:TMail):List Int->(List TMail)->Int->Option (Tseat_seat)
 |[],l1,n1=>
  some (⟨a0.Seat,a0.fRecs,l1⟩:Tseat_seat)
 |y1::rest1,l1,n1=>
  Option.bind (α:=(List TMail)) (if ¬(y1=a0.Seat.Me) then
  if l1.length+[(⟨a0.Seat.Me,y1,a2.Kind,a0.Seat.Number,a2.Slot,a2.Ballot,a2.Prior,a2.Value,a2.Id,a2.Time⟩:TMail)].length<1000000 then
  some (l1++[(⟨a0.Seat.Me,y1,a2.Kind,a0.Seat.Number,a2.Slot,a2.Ballot,a2.Prior,a2.Value,a2.Id,a2.Time⟩:TMail)])
  else none
  else
  some l1) fun l2=>
  zcq a0 a2 rest1 l2 (y1)
theorem zif(a0:Tseat_seat)(a2:TMail)(l1:List TMail)(n1:Int):zcq a0 a2 [] l1 n1=
  (some (⟨a0.Seat,a0.fRecs,l1⟩:Tseat_seat):Option (Tseat_seat)):=rfl
theorem zig(a0:Tseat_seat)(a2:TMail)(y1:Int)(rest1:List Int)(l1:List TMail)(n1:Int):zcq a0 a2 (y1::rest1) l1 n1=
  (Option.bind (α:=(List TMail)) (if ¬(y1=a0.Seat.Me) then
  if l1.length+[(⟨a0.Seat.Me,y1,a2.Kind,a0.Seat.Number,a2.Slot,a2.Ballot,a2.Prior,a2.Value,a2.Id,a2.Time⟩:TMail)].length<1000000 then
  some (l1++[(⟨a0.Seat.Me,y1,a2.Kind,a0.Seat.Number,a2.Slot,a2.Ballot,a2.Prior,a2.Value,a2.Id,a2.Time⟩:TMail)])
  else none
  else
  some l1) fun l2=>
  zcq a0 a2 rest1 l2 (y1):Option (Tseat_seat)):=rfl
def zet(a0:Tseat_seat)(a1:List Int)(a2:TMail):Option Tseat_seat:=
 zcq a0 a2 a1 a0.fMail a2.To
def zcb(a0:Tseat_seat)(a1:List Int)(a2:TMail):Nat->(List TMail)->Int->Int->Option (Tseat_seat)
 |0,_,_,_=>none
 |fu1+1,l1,n1,n2=>
  if n2<(a1.length:Int) then
  Option.bind (α:=(List TMail)) (if(0<=n2/\n2<(a1.length:Int)) then
  if ¬((a1.getD n2.toNat default)=a0.Seat.Me) then
  if l1.length+[(⟨a0.Seat.Me,(a1.getD n2.toNat default),a2.Kind,a0.Seat.Number,a2.Slot,a2.Ballot,a2.Prior,a2.Value,a2.Id,a2.Time⟩:TMail)].length<1000000 then
  some (l1++[(⟨a0.Seat.Me,(a1.getD n2.toNat default),a2.Kind,a0.Seat.Number,a2.Slot,a2.Ballot,a2.Prior,a2.Value,a2.Id,a2.Time⟩:TMail)])
  else none
  else
  some l1
  else none) fun l2=>
  zcb a0 a1 a2 fu1 l2 (a1.getD n2.toNat default) (wr .i64 (n2+1))
  else
  some (⟨a0.Seat,a0.fRecs,l1⟩:Tseat_seat)
def zd7(a0:Tseat_seat)(a1:List Int)(a2:TMail):Option Tseat_seat:=
 zcb a0 a1 a2 (a1.length+1) a0.fMail a2.To 0
def zca(a0:Tseat_seat)(a2:TMail):Nat->(List TMail)->Int->Int->Option (Tseat_seat)
 |0,_,_,_=>none
 |fu1+1,l1,n1,n2=>
  if n2<(a0.Seat.Group.Roster.length:Int) then
  Option.bind (α:=(List TMail)) (if(0<=n2/\n2<(a0.Seat.Group.Roster.length:Int)) then
  if ¬((a0.Seat.Group.Roster.getD n2.toNat default)=a0.Seat.Me) then
  if l1.length+[(⟨a0.Seat.Me,(a0.Seat.Group.Roster.getD n2.toNat default),a2.Kind,a0.Seat.Number,a2.Slot,a2.Ballot,a2.Prior,a2.Value,a2.Id,a2.Time⟩:TMail)].length<1000000 then
  some (l1++[(⟨a0.Seat.Me,(a0.Seat.Group.Roster.getD n2.toNat default),a2.Kind,a0.Seat.Number,a2.Slot,a2.Ballot,a2.Prior,a2.Value,a2.Id,a2.Time⟩:TMail)])
  else none
  else
  some l1
  else none) fun l2=>
  zca a0 a2 fu1 l2 (a0.Seat.Group.Roster.getD n2.toNat default) (wr .i64 (n2+1))
  else
  some (⟨a0.Seat,a0.fRecs,l1⟩:Tseat_seat)
def zem(a0:Tseat_seat)(a2:TMail):Option Tseat_seat:=
 zca a0 a2 (a0.Seat.Group.Roster.length+1) a0.fMail a2.To 0
def zds(a0:Tseat_seat)(a1:TRecord)(a2:TVote):Option Tseat_seat:=
 Option.bind (zdc a0 a1.Slot) fun v1=>
 if(a2.Promised=v1.1.Promised)/\(a2.Ballot=v1.1.Ballot)/\(a2.Value=v1.1.Value) then
 some a0
 else
 Option.bind (α:=(List TSeen)) (if ¬(v1.2.2=true) then
 if 0<=v1.2.1/\v1.2.1<=(a0.Seat.Votes.length:Int) then
 if a0.Seat.Votes.length<1000000 then
 some ((a0.Seat.Votes.take v1.2.1.toNat)++((⟨a0.Seat.Number,a1.Slot,(⟨0,0,[]⟩:TVote)⟩:TSeen)::(a0.Seat.Votes.drop v1.2.1.toNat)))
 else none
 else none
 else
 some a0.Seat.Votes) fun l1=>
 if(0<=v1.2.1/\v1.2.1<(l1.length:Int)) then
 if a0.fRecs.length+[(⟨a1.Kind,a0.Seat.Number,a1.Slot,a1.Ballot,a1.Value⟩:TRecord)].length<1000000 then
 some (⟨(⟨a0.Seat.Me,a0.Seat.Number,a0.Seat.Group,a0.Seat.Log,(l1.set v1.2.1.toNat (⟨(l1.getD v1.2.1.toNat default).Group,(l1.getD v1.2.1.toNat default).Slot,a2⟩:TSeen)),a0.Seat.Try,a0.Seat.Wishes,a0.Seat.Heard⟩:TSeat),(a0.fRecs++[(⟨a1.Kind,a0.Seat.Number,a1.Slot,a1.Ballot,a1.Value⟩:TRecord)]),a0.fMail⟩:Tseat_seat)
 else none
 else none
def zf7(a0:Tseat_seat)(a1:List UInt8):Option Tseat_seat:=
 Option.bind (zc8 a0) fun v1=>
 if a0.fRecs.length+[(⟨3,a0.Seat.Number,v1,0,a1⟩:TRecord)].length<1000000 then
 Option.bind (α:=(List TSeen)) (Option.bind (zdc (⟨a0.Seat,(a0.fRecs++[(⟨3,a0.Seat.Number,v1,0,a1⟩:TRecord)]),a0.fMail⟩:Tseat_seat) v1) fun v2=>
 if v2.2.2=true then
 if 0<=v2.2.1/\v2.2.1<(a0.Seat.Votes.length:Int) then
 if a0.Seat.Votes.length<1000000 then
 some (a0.Seat.Votes.eraseIdx v2.2.1.toNat)
 else none
 else none
 else
 some a0.Seat.Votes) fun l1=>
 if a0.Seat.Log.length+[a1].length<1000000 then
 if a0.Seat.Wishes.length<1000000 then
 Option.bind (zps (fun x0=>zc4 x0 a1) a0.Seat.Wishes) fun v3=>
 some (⟨(⟨a0.Seat.Me,a0.Seat.Number,a0.Seat.Group,(a0.Seat.Log++[a1]),l1,(⟨0,0,[],[],[],[],[]⟩:TAttempt),v3,0⟩:TSeat),(a0.fRecs++[(⟨3,a0.Seat.Number,v1,0,a1⟩:TRecord)]),a0.fMail⟩:Tseat_seat)
 else none
 else none
 else none
def zf6(a0:Tseat_seat)(a1:Int)(a2:Int):Option Tseat_seat:=
 Option.bind (zeo a0.Seat.Try a1 a2) fun v1=>
 if ¬(v1.2=0) then
 some a0
 else
 if v1.1.Phase=3 then
 Option.bind (zc8 (⟨(⟨a0.Seat.Me,a0.Seat.Number,a0.Seat.Group,a0.Seat.Log,a0.Seat.Votes,v1.1,a0.Seat.Wishes,a0.Seat.Heard⟩:TSeat),a0.fRecs,a0.fMail⟩:Tseat_seat)) fun v2=>
 Option.bind (zf7 (⟨(⟨a0.Seat.Me,a0.Seat.Number,a0.Seat.Group,a0.Seat.Log,a0.Seat.Votes,v1.1,a0.Seat.Wishes,a0.Seat.Heard⟩:TSeat),a0.fRecs,a0.fMail⟩:Tseat_seat) v1.1.Value) fun v3=>
 Option.bind (zem v3 (⟨0,0,6,0,v2,0,0,v1.1.Value,0,0⟩:TMail)) fun v4=>
 some v4
 else
 some (⟨(⟨a0.Seat.Me,a0.Seat.Number,a0.Seat.Group,a0.Seat.Log,a0.Seat.Votes,v1.1,a0.Seat.Wishes,a0.Seat.Heard⟩:TSeat),a0.fRecs,a0.fMail⟩:Tseat_seat)
def zdx(a0:Tseat_seat)(a1:Int)(a2:TPromise):Option Tseat_seat:=
 Option.bind (zen a0.Seat.Try a1 a2) fun v1=>
 if ¬(v1.2=0) then
 some a0
 else
 if ¬(v1.1.Phase=2) then
 some (⟨(⟨a0.Seat.Me,a0.Seat.Number,a0.Seat.Group,a0.Seat.Log,a0.Seat.Votes,v1.1,a0.Seat.Wishes,a0.Seat.Heard⟩:TSeat),a0.fRecs,a0.fMail⟩:Tseat_seat)
 else
 Option.bind (zc8 (⟨(⟨a0.Seat.Me,a0.Seat.Number,a0.Seat.Group,a0.Seat.Log,a0.Seat.Votes,v1.1,a0.Seat.Wishes,a0.Seat.Heard⟩:TSeat),a0.fRecs,a0.fMail⟩:Tseat_seat)) fun v2=>
 Option.bind (zet (⟨(⟨a0.Seat.Me,a0.Seat.Number,a0.Seat.Group,a0.Seat.Log,a0.Seat.Votes,v1.1,a0.Seat.Wishes,a0.Seat.Heard⟩:TSeat),a0.fRecs,a0.fMail⟩:Tseat_seat) v1.1.Members (⟨0,0,3,0,v2,a1,0,v1.1.Value,0,0⟩:TMail)) fun v3=>
 Option.bind (zdl v1.1.Members v3.Seat.Me) fun v4=>
 if ¬(v4=true) then
 some v3
 else
 Option.bind (zdc v3 v2) fun v5=>
 Option.bind (zhh v5.1 a1 v1.1.Value) fun v6=>
 if v6.2=0 then
 Option.bind (zds v3 (⟨2,0,v2,a1,v1.1.Value⟩:TRecord) v6.1) fun v7=>
 Option.bind (zf6 v7 a1 v7.Seat.Me) fun v8=>
 some v8
 else
 some v3
def zgp(a0:Tseat_seat):Option Tseat_seat:=
 Option.bind (zc8 a0) fun v1=>
 Option.bind (ze4 a0) fun v2=>
 Option.bind (zem a0 (⟨0,0,7,0,v1,0,0,[],0,0⟩:TMail)) fun v3=>
 if((v3.Seat.Wishes.length:Int)=0)\/(v1>200) then
 some v3
 else
 Option.bind (zdl v2 v3.Seat.Me) fun v4=>
 if ¬(v4=true) then
 if 0<v3.Seat.Wishes.length then
 Option.bind (zet v3 v2 (⟨0,0,9,0,0,0,0,(v3.Seat.Wishes.getD 0 default),0,0⟩:TMail)) fun v5=>
 some v5
 else none
 else
 Option.bind (zdc v3 v1) fun v6=>
 Option.bind (ziw (max v6.1.Promised v3.Seat.Heard) v3.Seat.Me) fun v7=>
 if ¬(v7.2=0) then
 some v3
 else
 Option.bind (zgt v6.1 v7.1) fun v8=>
 Option.bind (zds v3 (⟨1,0,v1,v7.1,[]⟩:TRecord) v8.1) fun v9=>
 if 0<v9.Seat.Wishes.length then
 Option.bind (zg9 v2 v7.1 (v9.Seat.Wishes.getD 0 default)) fun v10=>
 Option.bind (zet (⟨(⟨v9.Seat.Me,v9.Seat.Number,v9.Seat.Group,v9.Seat.Log,v9.Seat.Votes,v10.1,v9.Seat.Wishes,v9.Seat.Heard⟩:TSeat),v9.fRecs,v9.fMail⟩:Tseat_seat) v2 (⟨0,0,1,0,v1,v7.1,0,[],0,0⟩:TMail)) fun v11=>
 Option.bind (zdx v11 v7.1 (⟨v11.Seat.Me,v6.1.Ballot,v6.1.Value⟩:TPromise)) fun v12=>
 some v12
 else none
def zg7(a0:Tseat_seat)(a1:TMail):Option Tseat_seat:=
 Option.bind (zc8 a0) fun v1=>
 if a1.Slot<v1 then
 if(0<=(wr .i64 (a1.Slot-1))/\(wr .i64 (a1.Slot-1))<(a0.Seat.Log.length:Int)) then
 Option.bind (zd7 a0 [a1.From] (⟨0,0,6,0,a1.Slot,0,0,(a0.Seat.Log.getD (wr .i64 (a1.Slot-1)).toNat default),0,0⟩:TMail)) fun v2=>
 some v2
 else none
 else
 Option.bind (zdc a0 a1.Slot) fun v3=>
 Option.bind (zgt v3.1 a1.Ballot) fun v4=>
 Option.bind (α:=Int×(List UInt8)×TVote×Int) (if a1.Kind=3 then
 Option.bind (zhh v3.1 a1.Ballot a1.Value) fun v5=>
 some (2,a1.Value,v5.1,v5.2)
 else
 some (1,[],v4.1,v4.2)) fun(n1,s1,x1,n2)=>
 Option.bind (α:=Int×Int×(List UInt8)) (if ¬(n2=0) then
 some (5,v3.1.Promised,[])
 else
 if a1.Kind=3 then
 some (4,0,[])
 else
 some (2,v3.1.Ballot,v3.1.Value)) fun(n3,n4,s2)=>
 Option.bind (α:=Tseat_seat) (if n2=0 then
 Option.bind (zds a0 (⟨n1,0,a1.Slot,a1.Ballot,s1⟩:TRecord) x1) fun v6=>
 some v6
 else
 some a0) fun x4=>
 Option.bind (zd7 x4 [a1.From] (⟨0,0,n3,0,a1.Slot,a1.Ballot,n4,s2,0,0⟩:TMail)) fun v7=>
 some v7
def zby(a1:TMail):Nat->Tseat_seat->Int->Option (Tseat_seat)
 |0,_,_=>none
 |fu1+1,x2,n1=>
  Option.bind (zc8 x2) fun v10=>
  if n1<(min v10 (wr .i64 (a1.Slot+8))) then
  if(0<=(wr .i64 (n1-1))/\(wr .i64 (n1-1))<(x2.Seat.Log.length:Int)) then
  Option.bind (zd7 x2 [a1.From] (⟨0,0,6,0,n1,0,0,(x2.Seat.Log.getD (wr .i64 (n1-1)).toNat default),0,0⟩:TMail)) fun v11=>
  zby a1 fu1 v11 (wr .i64 (n1+1))
  else none
  else
  some x2
def zfl(a0:Tseat_seat)(a1:TMail):Option Tseat_seat:=
 Option.bind (zc8 a0) fun v1=>
 Option.bind (α:=Bool) (if a1.Kind=1 then
 some (a1.Kind==1)
 else
 some (a1.Kind==3)) fun b1=>
 if b1=true then
 Option.bind (if ¬(a1.Kind=1) then zes a1.Value else some default) fun v2=>
 if(a1.Kind=1)\/(v2=true) then
 Option.bind (zg7 a0 a1) fun v3=>
 some v3
 else
 some a0
 else
 if a1.Kind=2 then
 Option.bind (if(a1.Slot=v1)/\(¬(a1.Prior=0)) then zes a1.Value else some default) fun v4=>
 if(a1.Slot=v1)/\((a1.Prior=0)\/(v4=true)) then
 Option.bind (zdx a0 a1.Ballot (⟨a1.From,a1.Prior,a1.Value⟩:TPromise)) fun v5=>
 some v5
 else
 some a0
 else
 if a1.Kind=4 then
 if a1.Slot=v1 then
 Option.bind (zf6 a0 a1.Ballot a1.From) fun v6=>
 some v6
 else
 some a0
 else
 if a1.Kind=5 then
 if a1.Slot=v1 then
 some (⟨(⟨a0.Seat.Me,a0.Seat.Number,a0.Seat.Group,a0.Seat.Log,a0.Seat.Votes,a0.Seat.Try,a0.Seat.Wishes,(max a0.Seat.Heard a1.Prior)⟩:TSeat),a0.fRecs,a0.fMail⟩:Tseat_seat)
 else
 some a0
 else
 if a1.Kind=6 then
 Option.bind (if a1.Slot=v1 then zes a1.Value else some default) fun v7=>
 if(a1.Slot=v1)/\(v7=true) then
 Option.bind (zf7 a0 a1.Value) fun v8=>
 some v8
 else
 some a0
 else
 if a1.Kind=7 then
 zby a1 (9) a0 a1.Slot
 else
 if a1.Kind=9 then
 Option.bind (zfk a0 a1.Value) fun v12=>
 some v12.2
 else
 some a0
def zi6(a0:TSeat):Option (TSeat×(List TRecord)×(List TMail)×Int):=
 Option.bind (zge a0) fun v1=>
 if ¬(v1=0) then
 some ((⟨0,0,(⟨[],[]⟩:TGroup),[],[],(⟨0,0,[],[],[],[],[]⟩:TAttempt),[],0⟩:TSeat),[],[],v1)
 else
 Option.bind (zfr a0) fun v2=>
 Option.bind (zgp (⟨v2,[],[]⟩:Tseat_seat)) fun v3=>
 some (v3.Seat,v3.fRecs,v3.fMail,0)
def zhi(a0:TSeat)(a1:TMail):Option (TSeat×(List TRecord)×(List TMail)×Int):=
 Option.bind (zge a0) fun v1=>
 if ¬(v1=0) then
 some ((⟨0,0,(⟨[],[]⟩:TGroup),[],[],(⟨0,0,[],[],[],[],[]⟩:TAttempt),[],0⟩:TSeat),[],[],v1)
 else
 Option.bind (zic a1) fun v2=>
 if ¬(v2=0) then
 some ((⟨0,0,(⟨[],[]⟩:TGroup),[],[],(⟨0,0,[],[],[],[],[]⟩:TAttempt),[],0⟩:TSeat),[],[],v2)
 else
 Option.bind (if(¬(((¬(a1.To=a0.Me))\/(¬(a1.Group=a0.Number)))\/(a1.Kind=8)))/\(¬(a1.Kind=9)) then zdl a0.Group.Roster a1.From else some default) fun v3=>
 if(((¬(a1.To=a0.Me))\/(¬(a1.Group=a0.Number)))\/(a1.Kind=8))\/((¬(a1.Kind=9))/\(¬(v3=true))) then
 some ((⟨0,0,(⟨[],[]⟩:TGroup),[],[],(⟨0,0,[],[],[],[],[]⟩:TAttempt),[],0⟩:TSeat),[],[],6)
 else
 Option.bind (zfr a0) fun v4=>
 Option.bind (zfl (⟨v4,[],[]⟩:Tseat_seat) a1) fun v5=>
 some (v5.Seat,v5.fRecs,v5.fMail,0)
end Go.Proofs
