/- Texts of the proof. -/
import Derived.Test.YtbedjbhndfbpcaaGreatSeatOnePp
import Derived.Test.YtbedjbhndfbpcaaGreatSeatOnePo
import Derived.Test.YtbedjbhndfbpcaaGreatSeatOnePn
set_option linter.unusedVariables false
set_option linter.unusedSimpArgs false
namespace Go.Proofs
open Go.Tm Go.RowKit Go.WideShapes
attribute [go_sem] zfj runE runK ziy zrj aop opd zo5 opds opdO ev zu9 keep List.any natbeq Bool.false_or Bool.true_or zgc cond_true cond_false Bool.cond_false_right Bool.cond_true_left beq_true beq_false imp_self implies_true getR getL put St.app effL del nwB ztw Nat.lt_irrefl Nat.lt_add_one ztz za4 Nat.beq_refl zjr zho capS capK zpj zne zdi D.ids D.idsL bin zy2 zp7 binT zua Tm.part zn7 zqp oneD zql zn4 srcD zgn zo8 decide_true gval zqr D.cells zai List.map_nil List.take List.drop List.length_map List.append Int.toNat_natCast and_true true_and decide_false zak zbo zag zas Bool.and_true Bool.true_and Bool.not_false Bool.not_true ne_eq not_false_eq_true BEq.rfl List.getElem?_cons_zero List.getElem?_cons_succ List.getElem?_nil Nat.zero_add List.all_cons List.all_nil List.isEmpty_cons List.isEmpty_nil Option.getD_some Option.getD_none List.any_cons List.any_nil List.drop_succ_cons List.drop_zero unfL unf okM okML low3 zb2 true_or or_true Nat.zero_mul Nat.zero_le ya4e ya4d ya5y ya5x ya48 Option.isSome_map keyD List.length_replicate List.map_replicate ya1c List.length_set ya21 ya9y ya9w ya7b ya5q mkM mkML ya7d ya7c ya5r zfm zfd zdj List.take_length Int.toNat_zero ya16 fpOf zmr zo6 mvV mvH mvF zf5 D.ren D.renL Blk.ren List.map_append zaq Bool.not_not Bool.or_not_self Bool.not_or_self Bool.or_true
attribute [go_sem] Tryz.tm_3 Tryz.tm_4 Tryz.tm_5 Tryz.tm_9 Tryz.tm_22 Tryz.tm_24 Tryz.tm_25 Tryz.tm_27 Tryz.tm_30 Tryz.tm_31 Tryz.tm_33 Tryz.tm_34 Tryz.tm_35 Tryz.tm_36 Tryz.tm_38 Tryz.tm_40 Tryz.tm_44 Tryz.tm_49 Tryz.tm_53 Tryz.tm_55 Tryz.tm_57 Tryz.tm_73 Tryz.tm_75 Tryz.tm_81 Tryz.tm_87 Tryz.tm_89 Tryz.tm_93 Tryz.tm_105 Tryz.tm_125 Tryz.tm_143 Tryz.tm_155 Tryz.tm_168 Tryz.tm_193 TPromise.d TAttempt.d TAttempt.n TRecord.d TMessage.d TMessage.n TCommand.d TCommand.n zxa zyu Tcommand_reader.d Tcommand_reader.n TGroup.d TGroup.n TVote.d TSeen.d TSeat.d TSeat.n TMail.d Tseat_seat.d Tseat_seat.n ya3u ya3v ya3w Ttowncrierlaw25_town.d Ttowncrierlaw25_town.n Ttowncrierlaw25_Act.d zmd Tryz.f71 Tryz.f69 Tryz.f64 Tryz.f33 Tryz.f22 Tryz.f13 Tryz.f11 Tryz.f39 Tryz.f62 Tryz.f113 Tryz.f63 Tryz.f67 Tryz.f42 Tryz.f92 Tryz.f93 Tryz.f65 Tryz.f99 Tryz.f122 Tryz.f102 Tryz.f127 Tryz.f114 Tryz.f12 Tryz.f94 Tryz.f68 Tryz.f61 Tryz.f66 Tryz.f36 Tryz.f23 Tryz.f34 Tryz.f26 Tryz.f56 Tryz.f100 Tryz.f76 Tryz.f77 Tryz.f111 Tryz.f108 Tryz.f107 Tryz.f109 Tryz.f110 Tryz.f85 Tryz.f84 Tryz.f58 Tryz.f128 Tryz.f131 Tryz.f130 Tryz.f129 Tryz.f115 Tryz.f117 Tryz.f116 Tryz.f95 Tryz.f70 Tryz.f60 Tryz.f5 Tryz.f37 Tryz.f81 Tryz.f54 Tryz.f75 Tryz.f53 Tryz.f35 Tryz.f119 Tryz.f97 Tryz.f98 Tryz.f104 Tryz.f80 Tryz.f38 Tryz.f41 Tryz.f73 Tryz.f72 Tryz.f40 Tryz.f43 Tryz.f27 Tryz.f24 Tryz.f25 Tryz.f14 Tryz.f6 Tryz.f18 Tryz.f83 Tryz.f57 Tryz.f31 Tryz.f19 Tryz.f52 Tryz.f55 Tryz.f51 Tryz.f50 Tryz.f49 Tryz.f30 Tryz.f48 Tryz.f29 Tryz.f17 Tryz.f16 Tryz.f45 Tryz.f47 Tryz.f112 Tryz.f87 Tryz.f91 Tryz.f89 Tryz.f86 Tryz.f88 Tryz.f90 Tryz.f59 Tryz.f32 Tryz.f8 Tryz.f20 Tryz.f21 Tryz.f10 Tryz.f4 Tryz.f9 Tryz.f15 Tryz.f7 Tryz.f3
theorem _root_.Go.Tm.Ok.sr{lim n id:Nat}{ops:Array Oper}{draw:Bool}{c:Code}{st:St}{Q:Exit->St->Prop}(V:List Nat)(h:RegA Tryz.prog Tryz.tm true lim ops draw ⟨keep V st.vars,st.heap,st.nx⟩ (seqQ Tryz.prog lim n c Q .normal))(hok:zjl n ops draw=true:=by decide+kernel):Ok Tryz.prog lim n (.seq (.region id ops draw) c) st Q:=.seq (.rg zS V h hok)
theorem zbp{K:FuncId}{fn:Func}{c:Code}{args:List D}{r:D}(lim:Nat)(hf:Tryz.prog.funcs[K]?=some fn)
  (h:wfL args->Ok Tryz.prog lim fn.ntmps c ⟨zfj 0 args,[],0⟩ fun e st=>(e=.normal\/e=.ret)/\∃ds,resL Tryz.tm st fn.results.toList=some (ds,true)/\resT ds=r)
  (hb:fn.body=some c:=by exact rfl) (hname:fn.name≠ "runtime.NumGoroutine":=by decide) (hr:r.ids=[]:=by exact rfl) (hk:okM new1 r=true:=by exact rfl) (hlen:args.length<=fn.ntmps:=by exact lb rfl):zbi Tryz.prog K args r:=
 zzh Tryz.tmOk lim hf hb hname hr hk hlen h
theorem zct{K:FuncId}{fn:Func}{c:Code}{args:List D}{H:List (Nat×Blk)}{r:D}{eff:List (Nat×Option Blk)}{nw:Nat×Nat}(hf:Tryz.prog.funcs[K]?=some fn)
  (h:wfL args->Ok Tryz.prog nw.2 fn.ntmps c ⟨zfj 0 args,H,nw.1⟩ fun e st=>(e=.normal\/e=.ret)/\∃ds,resL Tryz.tm st fn.results.toList=some (ds,true)/\resT ds=r/\∃h2:List (Nat×Blk),(∀i x,getL h2 i=some x->getL st.heap i=some x)/\getL h2=effH (getL H) eff)
  (hb:fn.body=some c:=by exact rfl) (hname:fn.name≠ "runtime.NumGoroutine":=by decide) (hlen:args.length<=fn.ntmps:=by exact lb rfl) (hE:∀x∈eff,x.1∈H.map (·.1)\/nw.1<=x.1/\x.1<nw.2:=by simp):zbv Tryz.prog K args H r eff nw:=
 zeh Tryz.tmOk hf hb hname hlen hE h
theorem _root_.Go.Tm.Ok.sp{lim n id:Nat}{ops:Array Oper}{c:Code}{st st':St}{vc:Bool}{acc:List FP}{Q:Exit->St->Prop}(V:List Nat)(hQ:seqQ Tryz.prog lim n c Q .normal st')(hok:zjl n ops false=true:=by decide+kernel)
  (h:zk8 (runE Tryz.tm true false ops.toList ops.toList ⟨keep V st.vars,st.heap,st.nx⟩ true []) st' vc acc []:=by intro q hq;simp only[go_sem,Nat.reduceSub,Int.reduceEq,Nat.reduceLT,Nat.reduceDiv,Nat.reduceAdd,Nat.reduceBEq,Nat.reduceLeDiff,reduceCtorEq,Nat.reduceEqDiff,Nat.reduceMod,Nat.reduceMul,zat];exact hq)
  (hv:vc=true:=by first|rfl|(simp only[go_sem,Nat.reduceLeDiff];done)|(simp only[go_sem,Nat.reduceLeDiff];rfl)|(simp;done)|(simp[oneD]<;>omega)|(simp_all;done)|(simp_all[oneD]<;>omega)) (hlim:st'.nx<=lim:=by first|exact za4 _|exact lb rfl|(dsimp only;omega)|(simp<;>omega)):Ok Tryz.prog lim n (.seq (.region id ops false) c) st Q:=
 .seq (.plain Tryz.tmOk Tryz.tmMixed V hok h hv hlim hQ)
end Go.Proofs
namespace Go.Tm
open Go.RowKit Go.WideShapes
section
variable {fr : Nat} {w : World} {g : Gh} {hp : Nat -> Option Blk}
end
end Go.Tm
namespace Go.Tm
theorem zvu{α:Type}[Inhabited α](f:α->D)(l:List α)(i:Nat)(j:Int)(hj:j.toNat=i)(h:i<l.length):nth (l.map f) j.toNat=f (l.getD i default):=by rw[hj];exact zhf f l i h
end Go.Tm
namespace Go.Tm
open Go.RowKit Go.WideShapes
section
variable {P : Program} {tab : Nat -> TI} {lim n : Nat}
end
end Go.Tm
namespace Go.Tm
theorem WkG.newR(s:Nat)(l:List D){c:Nat}(hc:c/8=1):WkG (.imm s l c) (.imm s l 12):=by
 intro fr w g hp nu hM v h
 simp only[rep,hc] at h ⊢
 obtain⟨a,cap,rfl,h1,h2,_,_,_,h6,hfl,h7⟩:=h
 refine⟨a,cap,rfl,h1,h2,by simp,by simp,by simp,h6,fun _=>hfl (by omega),h7.imp id fun h Z hz=>?_⟩
 obtain⟨a0,k1,k2,k3,k4,k5,k6⟩:=h Z hz
 exact⟨a0,k1,k2,k3,k4,k5.any (by decide),k6⟩
end Go.Tm
namespace Go.Tm
end Go.Tm
namespace Go.Tm
open Go.RowKit Go.WideShapes
section
variable {P : Program} {tab : Nat -> TI} {lim n : Nat}
end
end Go.Tm
namespace Go.Tm
theorem ya46{a:Int}{n:Nat}(h:0<=a/\a<=(n:Int)):(0+a.toNat<=n)=True/\(a.toNat<=n)=True/\min a.toNat n=a.toNat:=⟨eq_true (by omega),eq_true (by omega),by omega⟩
theorem ya3x{a:Int}{n:Nat}(h:0<=a/\a<=(n:Int)):(a.toNat+((n:Int)-a).toNat<=n)=True/\(0+a.toNat+((n:Int)-a).toNat<=n)=True:=⟨eq_true (by omega),eq_true (by omega)⟩
theorem zcz{α:Type}(l:List α)(a:Int):(l.drop a.toNat).take ((l.length:Int)-a).toNat=l.drop a.toNat:=List.take_of_length_le (by rw[List.length_drop];omega)
def appR(nid el esz eby id s' off len:Nat)(xs:List D)(px vx:Bool):Option Blk->Option Out
 |some (.arr e s'' p items)=>some ⟨.ref nid esz 0 (len+xs.length) none,vx&&Nat.beq e el&&Nat.beq s' esz&&Nat.beq s'' esz&&Nat.beq off 0&&Nat.beq len items.length&&decide ((items.length+xs.length)*eby<=140737488355328),[(nid,some (.arr el esz (p&&px) (items++xs))),(id,none)],(nid,nid+1),[]⟩
 | _=>none
theorem zgi{hp:Nat->Option Blk}{nid el esz eby id s' off len:Nat}{xs:List D}{px vx:Bool}:zat hp nid el esz eby (.ref id s' off len none) xs px vx=appR nid el esz eby id s' off len xs px vx (hp id):=by
 simp only[zat]
 cases hp id with
 |none=>rfl
 |some b=>cases b<;>rfl
theorem Ok.cutM{P:Program}{lim n:Nat}{x:Code}{st:St}{Q:Exit->St->Prop}{ι:Type}(n0:Nat)(M:ι->St)(Pr:ι->Prop)(hn:st.nx<=n0)(h1:Ok P lim n x st (cutQ lim n0 M Pr Q))(h2:∀j,Pr j->Q .normal (M j)):Ok P lim n x st Q:=by
 intro E F a w g hF hR
 have hE:∀id,n0<=id->id<lim->E.nu0 id=true:=fun id h1 h2=>hR.nu id (hF.2.2 id (zao hn h1) h2)
 refine wp_mono (h1 E F a w g hF hR) ?_
 rintro e a' w' ⟨st',F',g',hq,hF',hR'⟩
 cases e with
 |normal=>
  obtain⟨j,h3,h4⟩:=hq
  obtain⟨F2,g2,hF2,hR2⟩:=h3 E n F' a' w' g' hE hF' hR'
  exact⟨M j,F2,g2,h2 j h4,hF2,hR2⟩
 |exit id=>exact⟨st',F',g',hq,hF',hR'⟩
 |goto l=>exact⟨st',F',g',hq,hF',hR'⟩
 |ret=>exact⟨st',F',g',hq,hF',hR'⟩
 |panic ch=>exact⟨st',F',g',hq,hF',hR'⟩
 |outgrown=>exact⟨st',F',g',hq,hF',hR'⟩
end Go.Tm
namespace Go.Proofs
open Go.Tm
set_option linter.unusedVariables false
def zgl(a0:Int):Option Bool:=
 some ((decide (a0>=0))&&(decide (a0<6)))
def zd4:List TPromise->(List UInt8)->Int->Option ((List UInt8))
 |[],s2,n1=>
  some s2
 |y1::rest1,s2,n1=>
  Option.bind (α:=(List UInt8)×Int) (if y1.Ballot>n1 then
  some (y1.Value,y1.Ballot)
  else
  some (s2,n1)) fun(s3,n3)=>
  zd4 rest1 s3 n3
def zfs(l:List TPromise)(wish:List UInt8):Option ((List UInt8)):=
 Option.bind (α:=(List UInt8)) (zd4 l wish 0) fun s1=>
 some s1
def zc2:List TPromise->(List Int)->Option ((List Int))
 |[],l2=>
  some l2
 |y1::rest1,l2=>
  if l2.length+[y1.Node].length<1000000 then
  zc2 rest1 (l2++[y1.Node])
  else none
theorem zmf(l2:List Int):zc2 [] l2=
  (some l2:Option ((List Int))):=rfl
theorem zmg(y1:TPromise)(rest1:List TPromise)(l2:List Int):zc2 (y1::rest1) l2=
  (if l2.length+[y1.Node].length<1000000 then
  zc2 rest1 (l2++[y1.Node])
  else none:Option ((List Int))):=rfl
def zdd(l:List TPromise):Option ((List Int)):=
 Option.bind (α:=(List Int)) (zc2 l []) fun l1=>
 some l1
def zbg(v:Int):List Int->Nat->Option (Int ⊕ Unit)
 |[],n1=>
  some (.inr ())
 |y1::rest1,n1=>
  if v=y1 then
  some (.inl (n1:Int))
  else
  zbg v rest1 (n1+1)
def zfg(s:List Int)(v:Int):Option Int:=
 Option.bind (α:=Int ⊕ Unit) (zbg v s 0) fun z=>match z with
 |(.inl r)=>some r
 |(.inr _)=>
 some (-1)
def zea(a0:List Int)(a1:Int):Option Bool:=
 Option.bind (zfg a0 a1) fun v1=>
 some (decide (v1>=0))
def zdl(a0:List Int)(a1:Int):Option Bool:=
 Option.bind (zea a0 a1) fun v1=>
 some v1
def zcm:List Int->Int->Option (Int ⊕ Int)
 |[],n2=>
  some (.inr n2)
 |y1::rest1,n2=>
  if(y1<=n2)\/(y1>=6) then
  some (.inl 60)
  else
  zcm rest1 (y1)
def zcd(a0:List Int):Option Int:=
 if(a0.length:Int)>6 then
 some 4
 else
 Option.bind (α:=Int ⊕ Int) (zcm a0 (-1)) fun z=>match z with
 |(.inl r)=>some r
 |(.inr n1)=>
 if n1<0 then
 some 60
 else
 some 0
def zi7(a0:Int):Option (Int×Int×Int):=
 Option.bind (if ¬(((wr .i64 (a0.tdiv 8))<1)\/((wr .i64 (a0.tdiv 8))>1048576)) then zgl (a0.tmod 8) else some default) fun v1=>
 if(((wr .i64 (a0.tdiv 8))<1)\/((wr .i64 (a0.tdiv 8))>1048576))\/(¬(v1=true)) then
 some (0,0,50)
 else
 some ((wr .i64 (a0.tdiv 8)),(a0.tmod 8),0)
def zcy(a0:Int):Option Int:=
 Option.bind (zi7 a0) fun v1=>
 if ¬(v1.2.2=0) then
 some v1.2.2
 else
 some 0
def zjz(a0:List Int):Option (Int×Int):=
 Option.bind (zcd a0) fun v1=>
 if ¬(v1=0) then
 some (0,v1)
 else
 some ((wr .i64 ((wr .i64 ((a0.length:Int).tdiv 2))+1)),0)
def zc6(a0:List Int)(a1:List Int):List Int->Nat->Option (Bool ⊕ Unit)
 |[],n1=>
  some (.inr ())
 |y1::rest1,n1=>
  Option.bind (if ¬(((n1:Int)>0)/\(y1<=(a0.getD (n1-1) default))) then zdl a1 (y1) else some default) fun v1=>
  if(((n1:Int)>0)/\(y1<=(a0.getD (n1-1) default)))\/(¬(v1=true)) then
  some (.inl false)
  else
  zc6 a0 a1 rest1 (n1+1)
def ze0(a0:List Int)(a1:List Int):Option Bool:=
 Option.bind (α:=Bool ⊕ Unit) (zc6 a0 a1 a0 0) fun z=>match z with
 |(.inl r)=>some r
 |(.inr _)=>
 some true
def zhj(a0:TPromise)(a1:Int):Option Bool:=
 if a0.Ballot=0 then
 some (a0.Value==[])
 else
 Option.bind (zcy a0.Ballot) fun v1=>
 some (((v1==0)&&(decide (a0.Ballot<a1)))&&(decide ((a0.Value.length:Int)<=1024)))
end Go.Proofs
namespace Go.Proofs
open Go.Tm Go.RowKit Go.WideShapes
set_option maxRecDepth 100000
set_option maxHeartbeats 4000000
set_option linter.unusedSimpArgs false
set_option linter.unusedVariables false
theorem zm1(a0:Int)(r:Bool)(h:zgl a0=some r):zbi Tryz.prog 71 [.int .i64 a0] (.bool r):=by
 refine zbp 2 Tryz.func71 ?_
 intro hwf
 unfold zgl at h
 refine .sp [0] ?_
 refine .sp [0] ?_
 obtain rfl:=sj h
 exact .rr
@[go_sem] def st48(s1:List UInt8):St:=⟨[(1,.str s1)],[],0⟩
@[go_sem] def st49(l:List TPromise)(n2:Nat)(s2:List UInt8)(n1:Int):St:=⟨[(1,.str s2),(5,.int .i64 n1),(8,.imm 3 (l.map TPromise.d) 4),(9,.int .i64 (l.length:Int)),(10,.int .i64 (n2:Int))],[],0⟩
@[go_sem] def st50(l:List TPromise)(n2:Nat)(s3:List UInt8)(n3:Int):St:=⟨[(1,.str s3),(5,.int .i64 n3),(8,.imm 3 (l.map TPromise.d) 4),(9,.int .i64 (l.length:Int)),(10,.int .i64 (n2:Int))],[],0⟩
theorem zl9(l:List TPromise)(wish:List UInt8)(r:(List UInt8))(h:zfs l wish=some r):zbi Tryz.prog 69 [.imm 3 (l.map TPromise.d) 4,.str wish] (.str r):=by
 refine zbp 3 Tryz.func69 ?_
 intro hwf
 unfold zfs at h
 refine .sp [0,1] ?_
 refine .sp [0,1] ?_
 obtain⟨x1,hx1,h⟩:=za3 h
 refine .seqM 0 (fun(j:(List UInt8))=>st48 j) (fun j=>x1=j) (lb rfl) ?_ ?_
 refine .sp [0,1,5] ?_
 refine .block ?_
 refine .loopG 0 (fun(j:Nat×(List UInt8)×Int)=>st49 l j.1 j.2.1 j.2.2) (fun j=>j.1<=l.length/\zd4 (l.drop j.1) j.2.1 j.2.2=some x1) (fun j=>l.length-j.1) (0,wish,0) (lb rfl) ?_ ⟨Nat.zero_le _,hx1⟩ ?_
 exact .m [1,5,8,9,10] [] []
 rintro⟨n2,s2,n1⟩ ⟨hi1,hx1⟩
 simp only[st49]
 simp only at hi1 hx1
 refine .wf 9 (.int .i64 (l.length:Int)) rfl ?_
 intro hln2
 replace hln2:=wfn hln2
 refine .sp [1,5,8,9,10] ?_
 refine .seq (.cd (fun hc1=>?_) (fun hc1=>?_))
 have h1:n2<l.length:=by simpa using hc1
 have hwn2:=zdr h1 hln2
 have hpn2:=ze3 h1 hln2
 rw[za7 h1,zd4] at hx1
 refine .skip ?_
 obtain⟨x2,hx2,hx1⟩:=za3 hx1
 refine .seqM 0 (fun(j:(List UInt8)×Int)=>st50 l n2 j.1 j.2) (fun j=>x2=j) (lb rfl) ?_ ?_
 refine .block (.seq ?_)
 have e1:=zdb TPromise.d l n2 h1
 refine .plx zS (ai e1 hwn2) [1,5,8,9,10] ?_
 refine .seq (.plx zS hwn2 [1,5,7,8,9,10] ?_)
 refine .cd ?_ ?_<;>intro hc2
 replace hx2:=zab hx2 hc2
 refine .drx zS hwn2 [7,8,9,10] ?_
 refine⟨_,?_,(sj hx2).symm⟩
 exact .m [1,5,8,9,10] [] []
 replace hx2:=zae hx2 hc2
 refine .skip ?_
 refine⟨_,?_,(sj hx2).symm⟩
 exact .m [1,5,8,9,10] [] []
 rintro⟨s3,n3⟩ hj1
 subst x2
 try dsimp only at hx1
 simp only[st50]
 refine .plx zS hwn2 [1,5,8,9,10] ?_
 refine⟨(n2+1,_,_),?_,⟨by omega,hx1⟩,by dsimp only;omega⟩
 exact .m [1,5,8,9,10] [] []
 have h2:n2=l.length:=by have h2b:=of_decide_eq_false hc1;omega
 rw[zac (by omega),zd4] at hx1
 refine .exit ?_
 refine⟨_,?_,(sj hx1).symm⟩
 exact .m [1] [] []
 rintro s1 hj2
 subst x1
 try dsimp only at h
 simp only[st48]
 refine .sp [1] ?_
 obtain rfl:=sj h
 exact .rr
@[go_sem] def st55(l1:List Int):St:=⟨[(2,.ref 0 1 0 l1.length (some uC))],[(0,.arr 3 1 true (l1.map (D.int .i64)))],1⟩
@[go_sem] def st56(l:List TPromise)(n1:Nat)(l2:List Int):St:=⟨[(2,.ref 0 1 0 l2.length (some uC)),(5,.imm 3 (l.map TPromise.d) 4),(6,.int .i64 (l.length:Int)),(7,.int .i64 (n1:Int))],[(0,.arr 3 1 true (l2.map (D.int .i64)))],1⟩
@[go_sem] def st4(r:(List Int)):St:=⟨[(2,.ref 0 1 0 r.length (some uC))],[(0,.arr 3 1 true (r.map (D.int .i64)))],1⟩
theorem zku(l:List TPromise)(r:(List Int))(h:zdd l=some r):zbv Tryz.prog 64 [.imm 3 (l.map TPromise.d) 4] [] (.ref 0 1 0 r.length (some uC)) [(0,some (.arr 3 1 true (r.map (D.int .i64))))] (0,6):=by
 refine zct Tryz.func64 ?_
 intro hwf
 unfold zdd at h
 refine .ends 0 (za4 _) ?_
 refine .sp [0] ?_
 obtain⟨x1,hx1,h⟩:=za3 h
 refine .seqM 0 (fun(j:(List Int))=>st55 j) (fun j=>x1=j) (lb rfl) ?_ ?_
 refine .sp [0,2] ?_
 refine .block ?_
 refine .loopG 0 (fun(j:Nat×(List Int))=>st56 l j.1 j.2) (fun j=>j.1<=l.length/\zc2 (l.drop j.1) j.2=some x1) (fun j=>l.length-j.1) (0,[]) (lb rfl) ?_ ⟨Nat.zero_le _,hx1⟩ ?_
 refine .n0 1 3 ?_
 refine .w0 2 0 1 ?_
 exact .m [2,5,6,7] [0] []
 rintro⟨n1,l2⟩ ⟨hi1,hx1⟩
 simp only[st56]
 simp only at hi1 hx1
 refine .wf 6 (.int .i64 (l.length:Int)) rfl ?_
 intro hln1
 replace hln1:=wfn hln1
 refine .sp [2,5,6,7] ?_
 refine .seq (.cd (fun hc1=>?_) (fun hc1=>?_))
 have h1:n1<l.length:=by simpa using hc1
 have hwn1:=zdr h1 hln1
 have hpn1:=ze3 h1 hln1
 rw[za7 h1,zmg] at hx1
 refine .skip (.seq (.block (.seq ?_)))
 have e1:=zdb TPromise.d l n1 h1
 refine .plx zS (ai e1 hwn1) [2,5,6,7] ?_
 obtain⟨k1,hx1⟩:=zbc hx1
 refine .plx zS hwn1 [2,4,5,6,7] ?_
 refine .plx zS hwn1 [2,5,6,7] ?_
 refine⟨(n1+1,_),?_,⟨by omega,hx1⟩,by dsimp only;omega⟩
 exact .m [2,5,6,7] [3] [(3,0)]
 have h2:n1=l.length:=by have h2b:=of_decide_eq_false hc1;omega
 rw[zac (by omega),zmf] at hx1
 refine .exit ?_
 refine⟨_,?_,(sj hx1).symm⟩
 exact .m [2] [0] []
 rintro l1 hj1
 subst x1
 try dsimp only at h
 simp only[st55]
 refine .sp [2] ?_
 obtain rfl:=sj h
 refine .ret ⟨st4 l1,?_,.inr rfl,retH [0] ?_ ?_⟩
 exact .m [2] [0] []
 exact rsi0
 rfl
theorem zkt(l:List TPromise)(r:(List Int))(h:zdd l=some r):zbi Tryz.prog 64 [.imm 3 (l.map TPromise.d) 4] (.imm 1 (r.map (D.int .i64)) 13):=
 zgb (zbd zbt rfl rfl) (zku l r h)
@[go_sem] def ya93:St:=⟨[],[],0⟩
@[go_sem] def ya92(s:List Int)(v:Int)(n1:Nat):St:=⟨[(0,.imm 1 (s.map (D.int .i64)) 4),(1,.int .i64 v),(7,.int .i64 (s.length:Int)),(8,.int .i64 (n1:Int))],[],0⟩
theorem zl1(s:List Int)(v:Int)(r:Int)(h:zfg s v=some r):zbi Tryz.prog 33 [.imm 1 (s.map (D.int .i64)) 4,.int .i64 v] (.int .i64 r):=by
 refine zbp 2 Tryz.func33 ?_
 intro hwf
 unfold zfg at h
 refine .sp [0,1] ?_
 obtain⟨x1,hx1,h⟩:=za3 h
 refine .seqM 0 (fun(j:Unit)=>ya93) (fun j=>x1=(.inr j)) (lb rfl) ?_ ?_
 refine .sp [0,1] ?_
 refine .block ?_
 refine .loopG 0 (fun(j:Nat)=>ya92 s v j) (fun j=>j<=s.length/\zbg v (s.drop j) j=some x1) (fun j=>s.length-j) (0) (lb rfl) ?_ ⟨Nat.zero_le _,hx1⟩ ?_
 exact .m [0,1,7,8] [] []
 rintro n1 ⟨hi1,hx1⟩
 simp only[ya92]
 refine .wf 7 (.int .i64 (s.length:Int)) rfl ?_
 intro hln1
 replace hln1:=wfn hln1
 refine .sp [0,1,7,8] ?_
 refine .seq (.cd (fun hc1=>?_) (fun hc1=>?_))
 have h1:n1<s.length:=by simpa using hc1
 have hwn1:=zdr h1 hln1
 have hpn1:=ze3 h1 hln1
 rw[za7 h1,zbg] at hx1
 refine .skip (.seq (.block (.seq (.plx zS hwn1 [0,1,7,8] ?_))))
 refine .seq ?_
 have e1:=zdb (D.int .i64) s n1 h1
 refine .plx zS (ai e1 hwn1) [0,1,5,7,8] ?_
 refine .cd ?_ ?_<;>intro hc2
 replace hx1:=zab hx1 hc2
 refine .seq (.plx zS hwn1 [5] ?_)
 have hq:=sj hx1
 subst x1
 try dsimp only at h
 obtain rfl:=sj h
 exact .rr
 replace hx1:=zae hx1 hc2
 refine .skip (.plx zS hwn1 [0,1,7,8] ?_)
 refine⟨n1+1,?_,⟨by omega,hx1⟩,by dsimp only;omega⟩
 exact .m [0,1,7,8] [] []
 have h2:n1=s.length:=by have h2b:=of_decide_eq_false hc1;omega
 rw[zac (by omega),zbg] at hx1
 refine .exit ?_
 refine⟨_,?_,(sj hx1).symm⟩
 exact .m [] [] []
 rintro⟨⟩ hj1
 subst x1
 try dsimp only at h
 simp only[ya93]
 refine .sp [] ?_
 obtain rfl:=sj h
 exact .rr
theorem zjm(a0:List Int)(a1:Int)(r:Bool)(h:zea a0 a1=some r):zbi Tryz.prog 22 [.imm 1 (a0.map (D.int .i64)) 4,.int .i64 a1] (.bool r):=by
 refine zbp 2 Tryz.func22 ?_
 intro hwf
 unfold zea at h
 refine .sp [0,1] ?_
 obtain⟨v1,hv1,h⟩:=za3 h
 refine .sr [0,1] ?_
 refine .rn 2 ?_
 refine .cl (zl1 a0 a1 v1 hv1) ?_
 refine .rn 2 ?_
 refine .nn ?_
 obtain rfl:=sj h
 exact .rr
theorem zdg(a0:List Int)(a1:Int)(r:Bool)(h:zdl a0 a1=some r):zbi Tryz.prog 13 [.imm 1 (a0.map (D.int .i64)) 4,.int .i64 a1] (.bool r):=by
 refine zbp 2 Tryz.func13 ?_
 intro hwf
 unfold zdl at h
 refine .sp [0,1] ?_
 obtain⟨v1,hv1,h⟩:=za3 h
 refine .sr [0,1] ?_
 refine .rn 2 ?_
 refine .cl (zjm a0 a1 v1 hv1) ?_
 refine .rn 1 ?_
 refine .nn ?_
 obtain rfl:=sj h
 exact .rr
@[go_sem] def st83(n1:Int):St:=⟨[(3,.int .i64 n1)],[],0⟩
@[go_sem] def st84(a0:List Int)(n3:Nat)(n2:Int):St:=⟨[(3,.int .i64 n2),(9,.imm 1 (a0.map (D.int .i64)) 4),(10,.int .i64 (a0.length:Int)),(11,.int .i64 (n3:Int))],[],0⟩
theorem zer(a0:List Int)(r:Int)(h:zcd a0=some r):zbi Tryz.prog 11 [.imm 1 (a0.map (D.int .i64)) 4] (.int .i64 r):=by
 refine zbp 2 Tryz.func11 ?_
 intro hwf
 unfold zcd at h
 refine .sp [0] ?_
 refine .seq (.seq (.pl zS [0] ?_))
 refine .cd ?_ ?_<;>intro hc1
 replace h:=zab h hc1
 refine .sp [] ?_
 obtain rfl:=sj h
 exact .rr
 replace h:=zae h hc1
 refine .skip (.seq (.pl zS [0] ?_))
 obtain⟨x1,hx1,h⟩:=za3 h
 refine .seqM 0 (fun(j:Int)=>st83 j) (fun j=>x1=(.inr j)) (lb rfl) ?_ ?_
 refine .sp [0,3] ?_
 refine .block ?_
 refine .loopG 0 (fun(j:Nat×Int)=>st84 a0 j.1 j.2) (fun j=>j.1<=a0.length/\zcm (a0.drop j.1) j.2=some x1) (fun j=>a0.length-j.1) (0,(-1)) (lb rfl) ?_ ⟨Nat.zero_le _,hx1⟩ ?_
 exact .m [3,9,10,11] [] []
 rintro⟨n3,n2⟩ ⟨hi1,hx1⟩
 simp only[st84]
 simp only at hi1 hx1
 refine .wf 10 (.int .i64 (a0.length:Int)) rfl ?_
 intro hln3
 replace hln3:=wfn hln3
 refine .sp [3,9,10,11] ?_
 refine .seq (.cd (fun hc2=>?_) (fun hc2=>?_))
 have h1:n3<a0.length:=by simpa using hc2
 have hwn3:=zdr h1 hln3
 have hpn3:=ze3 h1 hln3
 rw[za7 h1,zcm] at hx1
 refine .skip (.seq (.block (.seq ?_)))
 have e1:=zdb (D.int .i64) a0 n3 h1
 refine .plx zS (ai e1 hwn3) [3,9,10,11] ?_
 refine .seq (.seq (.plx zS hwn3 [3,5,9,10,11] ?_))
 refine .cd ?_ ?_<;>intro hc3
 replace hx1:=zab hx1 hc3
 refine .seq (.plx zS hwn3 [] ?_)
 have hq:=sj hx1
 subst x1
 try dsimp only at h
 obtain rfl:=sj h
 exact .rr
 replace hx1:=zae hx1 hc3
 refine .skip (.plx zS hwn3 [5,9,10,11] ?_)
 refine .plx zS hwn3 [3,9,10,11] ?_
 refine⟨(n3+1,_),?_,⟨by omega,hx1⟩,by dsimp only;omega⟩
 exact .m [3,9,10,11] [] []
 have h2:n3=a0.length:=by have h2b:=of_decide_eq_false hc2;omega
 rw[zac (by omega),zcm] at hx1
 refine .exit ?_
 refine⟨_,?_,(sj hx1).symm⟩
 exact .m [3] [] []
 rintro n1 hj1
 subst x1
 try dsimp only at h
 simp only[st83]
 refine .seq (.seq (.pl zS [3] ?_))
 refine .cd ?_ ?_<;>intro hc4
 replace h:=zab h hc4
 refine .sp [] ?_
 obtain rfl:=sj h
 exact .rr
 replace h:=zae h hc4
 refine .skip (.seq (.pl zS [] ?_))
 obtain rfl:=sj h
 exact .rr
theorem znp(a0:Int)(r:Int×Int×Int)(h:zi7 a0=some r):zbi Tryz.prog 39 [.int .i64 a0] (.tuple [.int .i64 r.1,.int .i64 r.2.1,.int .i64 r.2.2]):=by
 refine zbp 2 Tryz.func39 ?_
 intro hwf
 unfold zi7 at h
 refine .sp [0] ?_
 refine .sp [0] ?_
 refine .seq ?_
 obtain⟨v1,hv1,h⟩:=za3 h
 refine .sr [2,3] ?_
 refine .rn 8 ?_
 refine .gcall rfl rfl rfl rfl rfl (fun hg=>⟨[],[.int .i64 (a0.tmod 8)],_,rfl,gd hg,rfl,(zm1 (a0.tmod 8) v1 (zab hv1 hg))⟩) ?_
 refine .rn 2 ?_
 refine .nn ?_
 refine .cd ?_ ?_<;>intro hc1
 replace h:=zab h hc1
 refine .sp [] ?_
 obtain rfl:=sj h
 exact .rr
 replace h:=zae h hc1
 refine .skip (.seq (.pl zS [2,3] ?_))
 obtain rfl:=sj h
 exact .rr
theorem zdw(a0:Int)(r:Int)(h:zcy a0=some r):zbi Tryz.prog 62 [.int .i64 a0] (.int .i64 r):=by
 refine zbp 2 Tryz.func62 ?_
 intro hwf
 unfold zcy at h
 refine .sp [0] ?_
 refine .seq ?_
 obtain⟨v1,hv1,h⟩:=za3 h
 refine .sr [0] ?_
 refine .rn 1 ?_
 refine .cl (znp a0 v1 hv1) ?_
 refine .rn 7 ?_
 refine .nn ?_
 refine .sp [5] ?_
 refine .cd ?_ ?_<;>intro hc1
 replace h:=zab h hc1
 refine .sp [5] ?_
 obtain rfl:=sj h
 exact .rr
 replace h:=zae h hc1
 refine .skip (.seq (.pl zS [] ?_))
 obtain rfl:=sj h
 exact .rr
theorem zqx(a0:List Int)(r:Int×Int)(h:zjz a0=some r):zbi Tryz.prog 113 [.imm 1 (a0.map (D.int .i64)) 4] (.tuple [.int .i64 r.1,.int .i64 r.2]):=by
 refine zbp 2 Tryz.func113 ?_
 intro hwf
 unfold zjz at h
 refine .sp [0] ?_
 refine .seq ?_
 obtain⟨v1,hv1,h⟩:=za3 h
 refine .sr [0] ?_
 refine .rn 1 ?_
 refine .cl (zer a0 v1 hv1) ?_
 refine .rn 1 ?_
 refine .nn ?_
 refine .sp [0,4] ?_
 refine .cd ?_ ?_<;>intro hc1
 replace h:=zab h hc1
 refine .sp [4] ?_
 obtain rfl:=sj h
 exact .rr
 replace h:=zae h hc1
 refine .skip (.seq (.pl zS [0] ?_))
 obtain rfl:=sj h
 exact .rr
@[go_sem] def st57:St:=⟨[],[],0⟩
@[go_sem] def st58(a0:List Int)(a1:List Int)(n1:Nat):St:=⟨[(0,.imm 1 (a0.map (D.int .i64)) 4),(1,.imm 1 (a1.map (D.int .i64)) 4),(7,.imm 1 (a0.map (D.int .i64)) 4),(8,.int .i64 (a0.length:Int)),(9,.int .i64 (n1:Int))],[],0⟩
theorem zjs(a0:List Int)(a1:List Int)(r:Bool)(h:ze0 a0 a1=some r):zbi Tryz.prog 63 [.imm 1 (a0.map (D.int .i64)) 4,.imm 1 (a1.map (D.int .i64)) 4] (.bool r):=by
 refine zbp 2 Tryz.func63 ?_
 intro hwf
 unfold ze0 at h
 refine .sp [0,1] ?_
 obtain⟨x1,hx1,h⟩:=za3 h
 refine .seqM 0 (fun(j:Unit)=>st57) (fun j=>x1=(.inr j)) (lb rfl) ?_ ?_
 refine .sp [0,1] ?_
 refine .block ?_
 refine .loopG 0 (fun(j:Nat)=>st58 a0 a1 j) (fun j=>j<=a0.length/\zc6 a0 a1 (a0.drop j) j=some x1) (fun j=>a0.length-j) (0) (lb rfl) ?_ ⟨Nat.zero_le _,hx1⟩ ?_
 exact .m [0,1,7,8,9] [] []
 rintro n1 ⟨hi1,hx1⟩
 simp only[st58]
 refine .wf 8 (.int .i64 (a0.length:Int)) rfl ?_
 intro hln1
 replace hln1:=wfn hln1
 refine .sp [0,1,7,8,9] ?_
 refine .seq (.cd (fun hc1=>?_) (fun hc1=>?_))
 have h1:n1<a0.length:=by simpa using hc1
 have hwn1:=zdr h1 hln1
 have hpn1:=ze3 h1 hln1
 rw[za7 h1,zc6] at hx1
 refine .skip (.seq (.block (.seq ?_)))
 have e1:=zdb (D.int .i64) a0 n1 h1
 refine .plx zS (ai e1 hwn1) [0,1,7,8,9] ?_
 refine .seq ?_
 obtain⟨v1,hv1,hx1⟩:=za3 hx1
 have e2:=zhf (D.int .i64) a0 (n1-1) (by omega)
 refine .rg zS [0,1,5,6,7,8,9] ?_
 refine .rnx 6 (ai e2 (ai hpn1 hwn1)) ?_
 refine .rnx 8 (ai e2 (ai hpn1 hwn1)) ?_
 refine .gcall rfl rfl rfl rfl rfl (fun hg=>⟨[],[.imm 1 (a1.map (D.int .i64)) 4,.int .i64 (a0[n1])],_,rfl,gd hg,rfl,(zdg a1 (a0[n1]) v1 (zab hv1 hg))⟩) ?_
 refine .rnx 2 (ai e2 (ai hpn1 hwn1)) ?_
 refine .nn ?_
 refine .cd ?_ ?_<;>intro hc2
 replace hx1:=zab hx1 hc2
 refine .seq (.plx zS hwn1 [] ?_)
 have hq:=sj hx1
 subst x1
 try dsimp only at h
 obtain rfl:=sj h
 exact .rr
 replace hx1:=zae hx1 hc2
 refine .skip (.plx zS hwn1 [0,1,7,8,9] ?_)
 refine⟨n1+1,?_,⟨by omega,hx1⟩,by dsimp only;omega⟩
 exact .m [0,1,7,8,9] [] []
 have h2:n1=a0.length:=by have h2b:=of_decide_eq_false hc1;omega
 rw[zac (by omega),zc6] at hx1
 refine .exit ?_
 refine⟨_,?_,(sj hx1).symm⟩
 exact .m [] [] []
 rintro⟨⟩ hj1
 subst x1
 try dsimp only at h
 simp only[st57]
 refine .sp [] ?_
 obtain rfl:=sj h
 exact .rr
theorem zm2(a0:TPromise)(a1:Int)(r:Bool)(h:zhj a0 a1=some r):zbi Tryz.prog 67 [.agg [.int .i64 a0.Node,.int .i64 a0.Ballot,.str a0.Value],.int .i64 a1] (.bool r):=by
 refine zbp 3 Tryz.func67 ?_
 intro hwf
 unfold zhj at h
 refine .sp [0,1] ?_
 refine .seq (.seq (.pl zS [1,2] ?_))
 refine .cd ?_ ?_<;>intro hc1
 replace h:=zab h hc1
 refine .sp [2] ?_
 obtain rfl:=sj h
 exact .rr
 replace h:=zae h hc1
 refine .skip ?_
 obtain⟨v1,hv1,h⟩:=za3 h
 refine .sr [1,2] ?_
 refine .rn 2 ?_
 refine .cl (zdw a0.Ballot v1 hv1) ?_
 refine .rn 6 ?_
 refine .rn 8 ?_
 refine .nn ?_
 obtain rfl:=sj h
 exact .rr
end Go.Proofs
namespace Go.Proofs
open Go.Tm
set_option linter.unusedVariables false
def zbh(a1:List Int):List Int->Nat->Option (Bool ⊕ Unit)
 |[],n1=>
  some (.inr ())
 |y1::rest1,n1=>
  if n1<a1.length then
  if ¬(y1=(a1.getD n1 default)) then
  some (.inl false)
  else
  zbh a1 rest1 (n1+1)
  else none
def zbx(a0:List Int)(a1:List Int):Option Bool:=
 if ¬((a0.length:Int)=(a1.length:Int)) then
 some false
 else
 Option.bind (α:=Bool ⊕ Unit) (zbh a1 a0 0) fun z=>match z with
 |(.inl r)=>some r
 |(.inr _)=>
 some true
def zb1(a1:List TPromise):List TPromise->Nat->Option (Bool ⊕ Unit)
 |[],n1=>
  some (.inr ())
 |y1::rest1,n1=>
  if n1<a1.length then
  if ¬((y1.Node=(a1.getD n1 default).Node)/\(y1.Ballot=(a1.getD n1 default).Ballot)/\(y1.Value=(a1.getD n1 default).Value)) then
  some (.inl false)
  else
  zb1 a1 rest1 (n1+1)
  else none
def zce(a0:List TPromise)(a1:List TPromise):Option Bool:=
 if ¬((a0.length:Int)=(a1.length:Int)) then
 some false
 else
 Option.bind (α:=Bool ⊕ Unit) (zb1 a1 a0 0) fun z=>match z with
 |(.inl r)=>some r
 |(.inr _)=>
 some true
def zax(f:TPromise->Option Bool):List TPromise->Nat->Option (Int ⊕ Unit)
 |[],n1=>
  some (.inr ())
 |y1::rest1,n1=>
  Option.bind (f (y1)) fun v1=>
  if v1=true then
  some (.inl (n1:Int))
  else
  zax f rest1 (n1+1)
def zcj(s:List TPromise)(f:TPromise->Option Bool):Option Int:=
 Option.bind (α:=Int ⊕ Unit) (zax f s 0) fun z=>match z with
 |(.inl r)=>some r
 |(.inr _)=>
 some (-1)
def zbf(s:List TPromise)(f:TPromise->Option Bool):Option Bool:=
 Option.bind (zcj s f) fun v1=>
 some (decide (v1>=0))
def zcv(f:Int->Option Bool):Nat->Int->Int->Option (Int)
 |0,_,_=>none
 |fu1+1,n2,n3=>
  if n2<n3 then
  Option.bind (f (wr .i64 (shw false .u64 (wr .u64 (wr .i64 (n2+n3))) 1))) fun v1=>
  if ¬(v1=true) then
  zcv f fu1 (wr .i64 ((wr .i64 (shw false .u64 (wr .u64 (wr .i64 (n2+n3))) 1))+1)) n3
  else
  zcv f fu1 n2 (wr .i64 (shw false .u64 (wr .u64 (wr .i64 (n2+n3))) 1))
  else
  some n2
def zgk(n:Int)(f:Int->Option Bool):Option Int:=
 Option.bind (α:=Int) (zcv f (n.toNat+1) 0 n) fun n1=>
 some n1
def zf9(a0:Int)(c0:List Int)(c1:Int):Option Bool:=
 if(0<=a0/\a0<(c0.length:Int)) then
 some (decide ((c0.getD a0.toNat default)>=c1))
 else none
def zg6(a0:List Int)(a1:Int):Option Int:=
 Option.bind (zgk (a0.length:Int) (fun x0=>zf9 x0 a0 a1)) fun v1=>
 some v1
end Go.Proofs
namespace Go.Proofs
open Go.Tm Go.RowKit Go.WideShapes
set_option maxRecDepth 100000
set_option maxHeartbeats 4000000
set_option linter.unusedSimpArgs false
set_option linter.unusedVariables false
@[go_sem] def ya9b:St:=⟨[],[],0⟩
@[go_sem] def ya9a(a0:List Int)(a1:List Int)(n1:Nat):St:=⟨[(0,.imm 1 (a0.map (D.int .i64)) 4),(1,.imm 1 (a1.map (D.int .i64)) 4),(12,.int .i64 (a0.length:Int)),(13,.int .i64 (n1:Int))],[],0⟩
theorem zd2(a0:List Int)(a1:List Int)(r:Bool)(h:zbx a0 a1=some r):zbi Tryz.prog 42 [.imm 1 (a0.map (D.int .i64)) 4,.imm 1 (a1.map (D.int .i64)) 4] (.bool r):=by
 refine zbp 2 Tryz.func42 ?_
 intro hwf
 unfold zbx at h
 refine .sp [0,1] ?_
 refine .seq (.seq (.pl zS [0,1] ?_))
 refine .cd ?_ ?_<;>intro hc1
 replace h:=zab h hc1
 refine .sp [] ?_
 obtain rfl:=sj h
 exact .rr
 replace h:=zae h hc1
 obtain⟨x1,hx1,h⟩:=za3 h
 refine .skip ?_
 refine .seqM 0 (fun(j:Unit)=>ya9b) (fun j=>x1=(.inr j)) (lb rfl) ?_ ?_
 refine .sp [0,1] ?_
 refine .block ?_
 refine .loopG 0 (fun(j:Nat)=>ya9a a0 a1 j) (fun j=>j<=a0.length/\zbh a1 (a0.drop j) j=some x1) (fun j=>a0.length-j) (0) (lb rfl) ?_ ⟨Nat.zero_le _,hx1⟩ ?_
 exact .m [0,1,12,13] [] []
 rintro n1 ⟨hi1,hx1⟩
 simp only[ya9a]
 refine .wf 12 (.int .i64 (a0.length:Int)) rfl ?_
 intro hln1
 replace hln1:=wfn hln1
 refine .sp [0,1,12,13] ?_
 refine .seq (.cd (fun hc2=>?_) (fun hc2=>?_))
 have h1:n1<a0.length:=by simpa using hc2
 have hwn1:=zdr h1 hln1
 have hpn1:=ze3 h1 hln1
 rw[za7 h1,zbh] at hx1
 refine .skip (.seq (.block (.seq (.plx zS hwn1 [0,1,12,13] ?_))))
 refine .seq ?_
 obtain⟨k1,hx1⟩:=zbc hx1
 have e1:=zdb (D.int .i64) a0 n1 h1
 have e2:=zhf (D.int .i64) a1 n1
 replace e2:=e2 k1
 refine .rg zS [0,1,5,12,13] ?_
 refine .rdx 6 (ai e1 (ai e2 hwn1)) ?_
 refine .rdx 3 (ai e1 (ai e2 hwn1)) ?_
 refine .nd ?_
 refine .cd ?_ ?_<;>intro hc3
 replace hx1:=zab hx1 hc3
 refine .seq (.plx zS hwn1 [] ?_)
 have hq:=sj hx1
 subst x1
 try dsimp only at h
 obtain rfl:=sj h
 exact .rr
 replace hx1:=zae hx1 hc3
 refine .skip (.plx zS hwn1 [0,1,12,13] ?_)
 refine⟨n1+1,?_,⟨by omega,hx1⟩,by dsimp only;omega⟩
 exact .m [0,1,12,13] [] []
 have h2:n1=a0.length:=by have h2b:=of_decide_eq_false hc2;omega
 rw[zac (by omega),zbh] at hx1
 refine .exit ?_
 refine⟨_,?_,(sj hx1).symm⟩
 exact .m [] [] []
 rintro⟨⟩ hj1
 subst x1
 try dsimp only at h
 simp only[ya9b]
 refine .sp [] ?_
 obtain rfl:=sj h
 exact .rr
@[go_sem] def ya9d:St:=⟨[],[],0⟩
@[go_sem] def ya9c(a0:List TPromise)(a1:List TPromise)(n1:Nat):St:=⟨[(0,.imm 3 (a0.map TPromise.d) 4),(1,.imm 3 (a1.map TPromise.d) 4),(12,.int .i64 (a0.length:Int)),(13,.int .i64 (n1:Int))],[],0⟩
theorem zim(a0:List TPromise)(a1:List TPromise)(r:Bool)(h:zce a0 a1=some r):zbi Tryz.prog 92 [.imm 3 (a0.map TPromise.d) 4,.imm 3 (a1.map TPromise.d) 4] (.bool r):=by
 refine zbp 2 Tryz.func92 ?_
 intro hwf
 unfold zce at h
 refine .sp [0,1] ?_
 refine .seq (.seq (.pl zS [0,1] ?_))
 refine .cd ?_ ?_<;>intro hc1
 replace h:=zab h hc1
 refine .sp [] ?_
 obtain rfl:=sj h
 exact .rr
 replace h:=zae h hc1
 obtain⟨x1,hx1,h⟩:=za3 h
 refine .skip ?_
 refine .seqM 0 (fun(j:Unit)=>ya9d) (fun j=>x1=(.inr j)) (lb rfl) ?_ ?_
 refine .sp [0,1] ?_
 refine .block ?_
 refine .loopG 0 (fun(j:Nat)=>ya9c a0 a1 j) (fun j=>j<=a0.length/\zb1 a1 (a0.drop j) j=some x1) (fun j=>a0.length-j) (0) (lb rfl) ?_ ⟨Nat.zero_le _,hx1⟩ ?_
 exact .m [0,1,12,13] [] []
 rintro n1 ⟨hi1,hx1⟩
 simp only[ya9c]
 refine .wf 12 (.int .i64 (a0.length:Int)) rfl ?_
 intro hln1
 replace hln1:=wfn hln1
 refine .sp [0,1,12,13] ?_
 refine .seq (.cd (fun hc2=>?_) (fun hc2=>?_))
 have h1:n1<a0.length:=by simpa using hc2
 have hwn1:=zdr h1 hln1
 have hpn1:=ze3 h1 hln1
 rw[za7 h1,zb1] at hx1
 refine .skip (.seq (.block (.seq (.plx zS hwn1 [0,1,12,13] ?_))))
 refine .seq ?_
 obtain⟨k1,hx1⟩:=zbc hx1
 have e1:=zdb TPromise.d a0 n1 h1
 have e2:=zhf TPromise.d a1 n1
 replace e2:=e2 k1
 refine .rg zS [0,1,5,12,13] ?_
 refine .rdx 6 (ai e1 (ai e2 hwn1)) ?_
 refine .rdx 3 (ai e1 (ai e2 hwn1)) ?_
 refine .nd ?_
 refine .cd ?_ ?_<;>intro hc3
 replace hx1:=zab hx1 hc3
 refine .seq (.plx zS hwn1 [] ?_)
 have hq:=sj hx1
 subst x1
 try dsimp only at h
 obtain rfl:=sj h
 exact .rr
 replace hx1:=zae hx1 hc3
 refine .skip (.plx zS hwn1 [0,1,12,13] ?_)
 refine⟨n1+1,?_,⟨by omega,hx1⟩,by dsimp only;omega⟩
 exact .m [0,1,12,13] [] []
 have h2:n1=a0.length:=by have h2b:=of_decide_eq_false hc2;omega
 rw[zac (by omega),zb1] at hx1
 refine .exit ?_
 refine⟨_,?_,(sj hx1).symm⟩
 exact .m [] [] []
 rintro⟨⟩ hj1
 subst x1
 try dsimp only at h
 simp only[ya9d]
 refine .sp [] ?_
 obtain rfl:=sj h
 exact .rr
@[go_sem] def ya99:St:=⟨[],[],0⟩
@[go_sem] def ya98(s:List TPromise)(Kf:Nat)(cf:List D)(n1:Nat):St:=⟨[(0,.imm 3 (s.map TPromise.d) 4),(1,.fn (.func Kf) cf),(7,.int .i64 (s.length:Int)),(8,.int .i64 (n1:Int))],[],0⟩
theorem zhn(s:List TPromise)(Kf:Nat)(cf:List D)(hcf:∀hp,zei hp cf=(cf,true))(h2f:∀hp,zex hp cf=(cf,true))(h3f:∀hp,zjf hp cf=[])(f:TPromise->Option Bool)(hf:∀x0 y,f x0=some y->zbi Tryz.prog Kf (.agg [.int .i64 x0.Node,.int .i64 x0.Ballot,.str x0.Value]::cf) (.bool y))(r:Int)(h:zcj s f=some r):zbi Tryz.prog 93 [.imm 3 (s.map TPromise.d) 4,.fn (.func Kf) cf] (.int .i64 r):=by
 refine zbp 2 Tryz.func93 ?_
 intro hwf
 unfold zcj at h
 refine .sp [0,1] ?_
 obtain⟨x1,hx1,h⟩:=za3 h
 refine .seqM 0 (fun(j:Unit)=>ya99) (fun j=>x1=(.inr j)) (lb rfl) ?_ ?_
 refine .sp [0,1] ?_
 refine .block ?_
 refine .loopG 0 (fun(j:Nat)=>ya98 s Kf cf j) (fun j=>j<=s.length/\zax f (s.drop j) j=some x1) (fun j=>s.length-j) (0) (lb rfl) ?_ ⟨Nat.zero_le _,hx1⟩ ?_
 exact .mq (zdk hcf) (zdf hcf) [0,1,7,8] [] []
 rintro n1 ⟨hi1,hx1⟩
 simp only[ya98]
 refine .wf 7 (.int .i64 (s.length:Int)) rfl ?_
 intro hln1
 replace hln1:=wfn hln1
 refine .sp [0,1,7,8] ?_
 refine .seq (.cd (fun hc1=>?_) (fun hc1=>?_))
 have h1:n1<s.length:=by simpa using hc1
 have hwn1:=zdr h1 hln1
 have hpn1:=ze3 h1 hln1
 rw[za7 h1,zax] at hx1
 refine .skip (.seq (.block (.seq (.plx zS hwn1 [0,1,7,8] ?_))))
 refine .seq ?_
 obtain⟨v1,hv1,hx1⟩:=za3 hx1
 have e1:=zdb TPromise.d s n1 h1
 refine .rg zS [0,1,5,7,8] ?_
 refine .rnx 5 (ai e1 hwn1) ?_
 refine .call (r:=.bool v1) rfl rfl rfl rfl rfl (za2 rfl (hcf _)) (hf _ v1 hv1) ?_
 refine .nn ?_
 refine .cd ?_ ?_<;>intro hc2
 replace hx1:=zab hx1 hc2
 refine .seq (.plx zS hwn1 [5] ?_)
 have hq:=sj hx1
 subst x1
 try dsimp only at h
 obtain rfl:=sj h
 exact .rr
 replace hx1:=zae hx1 hc2
 refine .skip (.plx zS hwn1 [0,1,7,8] ?_)
 refine⟨n1+1,?_,⟨by omega,hx1⟩,by dsimp only;omega⟩
 exact .mq (zdk hcf) (zdf hcf) [0,1,7,8] [] []
 have h2:n1=s.length:=by have h2b:=of_decide_eq_false hc1;omega
 rw[zac (by omega),zax] at hx1
 refine .exit ?_
 refine⟨_,?_,(sj hx1).symm⟩
 exact .mq (zdk hcf) (zdf hcf) [] [] []
 rintro⟨⟩ hj1
 subst x1
 try dsimp only at h
 simp only[ya99]
 refine .sp [] ?_
 obtain rfl:=sj h
 exact .rr
theorem zgz(s:List TPromise)(Kf:Nat)(cf:List D)(hcf:∀hp,zei hp cf=(cf,true))(h2f:∀hp,zex hp cf=(cf,true))(h3f:∀hp,zjf hp cf=[])(f:TPromise->Option Bool)(hf:∀x0 y,f x0=some y->zbi Tryz.prog Kf (.agg [.int .i64 x0.Node,.int .i64 x0.Ballot,.str x0.Value]::cf) (.bool y))(r:Bool)(h:zbf s f=some r):zbi Tryz.prog 65 [.imm 3 (s.map TPromise.d) 4,.fn (.func Kf) cf] (.bool r):=by
 refine zbp 2 Tryz.func65 ?_
 intro hwf
 unfold zbf at h
 refine .sp [0,1] ?_
 obtain⟨v1,hv1,h⟩:=za3 h
 refine .sr [0,1] ?_
 refine .rn 2 ?_
 refine .lcall (r:=.int .i64 v1) [] rfl rfl rfl rfl rfl (za9 rfl (za9 (zk0 (h2f _)) zaj)) (by show zjf _ [.imm 3 (s.map TPromise.d) 4,.fn (.func Kf) cf]=_;simp only[zjf,ids2,zag,zas,zb2,h3f]) (zhn s Kf cf hcf h2f h3f f hf v1 hv1) ?_
 refine .rn 2 ?_
 refine .nn ?_
 obtain rfl:=sj h
 exact .rr
@[go_sem] def ya8z(n1:Int):St:=⟨[(5,.int .i64 n1)],[],0⟩
@[go_sem] def ya8y(Kf:Nat)(cf:List D)(n2:Int)(n3:Int):St:=⟨[(1,.fn (.func Kf) cf),(5,.int .i64 n2),(6,.int .i64 n3)],[],0⟩
theorem zm0(n:Int)(Kf:Nat)(cf:List D)(hcf:∀hp,zei hp cf=(cf,true))(h2f:∀hp,zex hp cf=(cf,true))(h3f:∀hp,zjf hp cf=[])(f:Int->Option Bool)(hf:∀x0 y,f x0=some y->zbi Tryz.prog Kf (.int .i64 x0::cf) (.bool y))(r:Int)(h:zgk n f=some r):zbi Tryz.prog 99 [.int .i64 n,.fn (.func Kf) cf] (.int .i64 r):=by
 refine zbp 2 Tryz.func99 ?_
 intro hwf
 unfold zgk at h
 refine .sp [0,1] ?_
 refine .sp [0,1] ?_
 obtain⟨x1,hx1,h⟩:=za3 h
 refine .seqM 0 (fun(j:Int)=>ya8z j) (fun j=>x1=j) (lb rfl) ?_ ?_
 refine .block ?_
 refine .loopG 0 (fun(j:Nat×Int×Int)=>ya8y Kf cf j.2.1 j.2.2) (fun j=>zcv f j.1 j.2.1 j.2.2=some x1) (fun j=>j.1) (n.toNat+1,0,n) (lb rfl) ?_ hx1 ?_
 exact .mq (zdk hcf) (zdf hcf) [1,5,6] [] []
 rintro⟨fu1,n2,n3⟩ hx1
 simp only[ya8y]
 try simp only at hx1
 obtain⟨fu1,rfl⟩:∃k,fu1=k+1:=by cases fu1 with|zero=>(rw[zcv] at hx1;cases hx1)|succ k=>exact⟨k,rfl⟩
 rw[zcv] at hx1
 refine .seq (.seq (.pl zS [1,5,6] ?_))
 refine .cd ?_ ?_<;>intro hc1
 replace hx1:=zab hx1 hc1
 refine .skip (.block (.seq (.pl zS [1,5,6] ?_)))
 refine .seq ?_
 obtain⟨v1,hv1,hx1⟩:=za3 hx1
 refine .rg zS [1,5,6,7] ?_
 refine .rn 2 ?_
 refine .call (r:=.bool v1) rfl rfl rfl rfl rfl (za2 rfl (hcf _)) (hf _ v1 hv1) ?_
 refine .rn 1 ?_
 refine .nn ?_
 refine .cd ?_ ?_<;>intro hc2
 replace hx1:=zab hx1 hc2
 refine .pl zS [1,6,7] ?_
 refine⟨(fu1,_,_),?_,hx1,by dsimp only;omega⟩
 exact .mq (zdk hcf) (zdf hcf) [1,5,6] [] []
 replace hx1:=zae hx1 hc2
 refine .pl zS [1,5,7] ?_
 refine⟨(fu1,_,_),?_,hx1,by dsimp only;omega⟩
 exact .mq (zdk hcf) (zdf hcf) [1,5,6] [] []
 replace hx1:=zae hx1 hc1
 refine .exit ?_
 refine⟨_,?_,(sj hx1).symm⟩
 exact .mq (zdk hcf) (zdf hcf) [5] [] []
 rintro n1 hj1
 subst x1
 try dsimp only at h
 simp only[ya8z]
 refine .sp [5] ?_
 obtain rfl:=sj h
 exact .rr
theorem zmn(a0:Int)(c0:List Int)(c1:Int)(r:Bool)(h:zf9 a0 c0 c1=some r):zbi Tryz.prog 122 [.int .i64 a0,.iptr 0 [.imm 1 (c0.map (D.int .i64)) 4],.iptr 0 [.int .i64 c1]] (.bool r):=by
 refine zbp 2 Tryz.func122 ?_
 intro hwf
 unfold zf9 at h
 refine .sp [0,1,2] ?_
 refine .seq ?_
 obtain⟨k1,h⟩:=zbc h
 have e1:=zdp (D.int .i64) c0 a0
 replace e1:=e1 k1
 refine .drx zS e1 [0,1,2] ?_
 obtain rfl:=sj h
 exact .rr
theorem znl(a0:List Int)(a1:Int)(r:Int)(h:zg6 a0 a1=some r):zbi Tryz.prog 102 [.imm 1 (a0.map (D.int .i64)) 4,.int .i64 a1] (.int .i64 r):=by
 refine zbp 4 Tryz.func102 ?_
 intro hwf
 unfold zg6 at h
 refine .sp [0,1] ?_
 obtain⟨v1,hv1,h⟩:=za3 h
 refine .sr [2,3] ?_
 refine .rn 3 ?_
 refine .lcall (r:=.int .i64 v1) [] rfl rfl rfl rfl rfl (za9 rfl (za9 (zk0 (za9 (zcc rfl (za2 rfl zc3)) (za9 (zcc rfl (za2 rfl zc3)) zaj))) zaj)) rfl (zm0 (a0.length:Int) 122 [.iptr 0 [.imm 1 (a0.map (D.int .i64)) 4],.iptr 0 [.int .i64 a1]] (fun _=>rfl) (fun _=>rfl) (fun _=>rfl) (fun x0=>zf9 x0 a0 a1) (fun x0 y hy=>zmn x0 a0 a1 y hy) v1 hv1) ?_
 refine .rn 1 ?_
 refine .nn ?_
 obtain rfl:=sj h
 exact .rr
end Go.Proofs
namespace Go.Proofs
open Go.Tm
set_option linter.unusedVariables false
def zf1(a0:Int):Option Int:=
 some (bitw .and .i64 (wr .i64 (wr .u64 ((wr .u64 ((wr .u64 ((bitw .and .u64 (wr .u64 ((shw false .u64 (wr .u64 ((bitw .and .u64 (shw false .u64 (wr .u64 ((bitw .and .u64 (shw false .u64 a0 1) 6148914691236517205)+(bitw .and .u64 a0 6148914691236517205))) 2) 3689348814741910323)+(bitw .and .u64 (wr .u64 ((bitw .and .u64 (shw false .u64 a0 1) 6148914691236517205)+(bitw .and .u64 a0 6148914691236517205))) 3689348814741910323))) 4)+(wr .u64 ((bitw .and .u64 (shw false .u64 (wr .u64 ((bitw .and .u64 (shw false .u64 a0 1) 6148914691236517205)+(bitw .and .u64 a0 6148914691236517205))) 2) 3689348814741910323)+(bitw .and .u64 (wr .u64 ((bitw .and .u64 (shw false .u64 a0 1) 6148914691236517205)+(bitw .and .u64 a0 6148914691236517205))) 3689348814741910323))))) 1085102592571150095)+(shw false .u64 (bitw .and .u64 (wr .u64 ((shw false .u64 (wr .u64 ((bitw .and .u64 (shw false .u64 (wr .u64 ((bitw .and .u64 (shw false .u64 a0 1) 6148914691236517205)+(bitw .and .u64 a0 6148914691236517205))) 2) 3689348814741910323)+(bitw .and .u64 (wr .u64 ((bitw .and .u64 (shw false .u64 a0 1) 6148914691236517205)+(bitw .and .u64 a0 6148914691236517205))) 3689348814741910323))) 4)+(wr .u64 ((bitw .and .u64 (shw false .u64 (wr .u64 ((bitw .and .u64 (shw false .u64 a0 1) 6148914691236517205)+(bitw .and .u64 a0 6148914691236517205))) 2) 3689348814741910323)+(bitw .and .u64 (wr .u64 ((bitw .and .u64 (shw false .u64 a0 1) 6148914691236517205)+(bitw .and .u64 a0 6148914691236517205))) 3689348814741910323))))) 1085102592571150095) 8)))+(shw false .u64 (wr .u64 ((bitw .and .u64 (wr .u64 ((shw false .u64 (wr .u64 ((bitw .and .u64 (shw false .u64 (wr .u64 ((bitw .and .u64 (shw false .u64 a0 1) 6148914691236517205)+(bitw .and .u64 a0 6148914691236517205))) 2) 3689348814741910323)+(bitw .and .u64 (wr .u64 ((bitw .and .u64 (shw false .u64 a0 1) 6148914691236517205)+(bitw .and .u64 a0 6148914691236517205))) 3689348814741910323))) 4)+(wr .u64 ((bitw .and .u64 (shw false .u64 (wr .u64 ((bitw .and .u64 (shw false .u64 a0 1) 6148914691236517205)+(bitw .and .u64 a0 6148914691236517205))) 2) 3689348814741910323)+(bitw .and .u64 (wr .u64 ((bitw .and .u64 (shw false .u64 a0 1) 6148914691236517205)+(bitw .and .u64 a0 6148914691236517205))) 3689348814741910323))))) 1085102592571150095)+(shw false .u64 (bitw .and .u64 (wr .u64 ((shw false .u64 (wr .u64 ((bitw .and .u64 (shw false .u64 (wr .u64 ((bitw .and .u64 (shw false .u64 a0 1) 6148914691236517205)+(bitw .and .u64 a0 6148914691236517205))) 2) 3689348814741910323)+(bitw .and .u64 (wr .u64 ((bitw .and .u64 (shw false .u64 a0 1) 6148914691236517205)+(bitw .and .u64 a0 6148914691236517205))) 3689348814741910323))) 4)+(wr .u64 ((bitw .and .u64 (shw false .u64 (wr .u64 ((bitw .and .u64 (shw false .u64 a0 1) 6148914691236517205)+(bitw .and .u64 a0 6148914691236517205))) 2) 3689348814741910323)+(bitw .and .u64 (wr .u64 ((bitw .and .u64 (shw false .u64 a0 1) 6148914691236517205)+(bitw .and .u64 a0 6148914691236517205))) 3689348814741910323))))) 1085102592571150095) 8))) 16)))+(shw false .u64 (wr .u64 ((wr .u64 ((bitw .and .u64 (wr .u64 ((shw false .u64 (wr .u64 ((bitw .and .u64 (shw false .u64 (wr .u64 ((bitw .and .u64 (shw false .u64 a0 1) 6148914691236517205)+(bitw .and .u64 a0 6148914691236517205))) 2) 3689348814741910323)+(bitw .and .u64 (wr .u64 ((bitw .and .u64 (shw false .u64 a0 1) 6148914691236517205)+(bitw .and .u64 a0 6148914691236517205))) 3689348814741910323))) 4)+(wr .u64 ((bitw .and .u64 (shw false .u64 (wr .u64 ((bitw .and .u64 (shw false .u64 a0 1) 6148914691236517205)+(bitw .and .u64 a0 6148914691236517205))) 2) 3689348814741910323)+(bitw .and .u64 (wr .u64 ((bitw .and .u64 (shw false .u64 a0 1) 6148914691236517205)+(bitw .and .u64 a0 6148914691236517205))) 3689348814741910323))))) 1085102592571150095)+(shw false .u64 (bitw .and .u64 (wr .u64 ((shw false .u64 (wr .u64 ((bitw .and .u64 (shw false .u64 (wr .u64 ((bitw .and .u64 (shw false .u64 a0 1) 6148914691236517205)+(bitw .and .u64 a0 6148914691236517205))) 2) 3689348814741910323)+(bitw .and .u64 (wr .u64 ((bitw .and .u64 (shw false .u64 a0 1) 6148914691236517205)+(bitw .and .u64 a0 6148914691236517205))) 3689348814741910323))) 4)+(wr .u64 ((bitw .and .u64 (shw false .u64 (wr .u64 ((bitw .and .u64 (shw false .u64 a0 1) 6148914691236517205)+(bitw .and .u64 a0 6148914691236517205))) 2) 3689348814741910323)+(bitw .and .u64 (wr .u64 ((bitw .and .u64 (shw false .u64 a0 1) 6148914691236517205)+(bitw .and .u64 a0 6148914691236517205))) 3689348814741910323))))) 1085102592571150095) 8)))+(shw false .u64 (wr .u64 ((bitw .and .u64 (wr .u64 ((shw false .u64 (wr .u64 ((bitw .and .u64 (shw false .u64 (wr .u64 ((bitw .and .u64 (shw false .u64 a0 1) 6148914691236517205)+(bitw .and .u64 a0 6148914691236517205))) 2) 3689348814741910323)+(bitw .and .u64 (wr .u64 ((bitw .and .u64 (shw false .u64 a0 1) 6148914691236517205)+(bitw .and .u64 a0 6148914691236517205))) 3689348814741910323))) 4)+(wr .u64 ((bitw .and .u64 (shw false .u64 (wr .u64 ((bitw .and .u64 (shw false .u64 a0 1) 6148914691236517205)+(bitw .and .u64 a0 6148914691236517205))) 2) 3689348814741910323)+(bitw .and .u64 (wr .u64 ((bitw .and .u64 (shw false .u64 a0 1) 6148914691236517205)+(bitw .and .u64 a0 6148914691236517205))) 3689348814741910323))))) 1085102592571150095)+(shw false .u64 (bitw .and .u64 (wr .u64 ((shw false .u64 (wr .u64 ((bitw .and .u64 (shw false .u64 (wr .u64 ((bitw .and .u64 (shw false .u64 a0 1) 6148914691236517205)+(bitw .and .u64 a0 6148914691236517205))) 2) 3689348814741910323)+(bitw .and .u64 (wr .u64 ((bitw .and .u64 (shw false .u64 a0 1) 6148914691236517205)+(bitw .and .u64 a0 6148914691236517205))) 3689348814741910323))) 4)+(wr .u64 ((bitw .and .u64 (shw false .u64 (wr .u64 ((bitw .and .u64 (shw false .u64 a0 1) 6148914691236517205)+(bitw .and .u64 a0 6148914691236517205))) 2) 3689348814741910323)+(bitw .and .u64 (wr .u64 ((bitw .and .u64 (shw false .u64 a0 1) 6148914691236517205)+(bitw .and .u64 a0 6148914691236517205))) 3689348814741910323))))) 1085102592571150095) 8))) 16))) 32)))) 127)
def zed(a0:Int):Option Int:=
 Option.bind (zf1 a0) fun v1=>
 some v1
end Go.Proofs
namespace Go.Proofs
open Go.Tm Go.RowKit Go.WideShapes
set_option maxRecDepth 100000
set_option maxHeartbeats 4000000
set_option linter.unusedSimpArgs false
set_option linter.unusedVariables false
theorem zkq(a0:Int)(r:Int)(h:zf1 a0=some r):zbi Tryz.prog 127 [.int .u64 a0] (.int .i64 r):=by
 refine zbp 2 Tryz.func127 ?_
 intro hwf
 unfold zf1 at h
 refine .sp [0] ?_
 refine .sp [0] ?_
 refine .sp [0] ?_
 refine .sp [0] ?_
 refine .sp [0] ?_
 refine .sp [0] ?_
 refine .sp [0] ?_
 refine .sp [0] ?_
 obtain rfl:=sj h
 exact .rr
theorem zlj(a0:Int)(r:Int)(h:zed a0=some r):zbi Tryz.prog 114 [.int .u64 a0] (.int .i64 r):=by
 refine zbp 2 Tryz.func114 ?_
 intro hwf
 unfold zed at h
 refine .sp [0] ?_
 refine .seq ?_
 refine .cond rfl rfl (fun hc=>by cases hc) (fun hc=>?_)
 refine .skip ?_
 obtain⟨v1,hv1,h⟩:=za3 h
 refine .sr [0] ?_
 refine .rn 1 ?_
 refine .cl (zkq a0 v1 hv1) ?_
 refine .rn 1 ?_
 refine .nn ?_
 obtain rfl:=sj h
 exact .rr
end Go.Proofs
