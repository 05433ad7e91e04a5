/- Texts of the proof. -/
import Derived.Test.YtbedjbhndfbpcaaGreatSeatOnePv
import Derived.Test.YtbedjbhndfbpcaaGreatSeatOnePu
import Derived.Test.YtbedjbhndfbpcaaGreatSeatOnePq
import Derived.Test.YtbedjbhndfbpcaaGreatSeatOnePo
import Derived.Test.YtbedjbhndfbpcaaGreatSeatOnePt
set_option linter.unusedVariables false
set_option linter.unusedSimpArgs false
namespace Go.Tm
open Go.RowKit Go.WideShapes
section
variable {P : Program} {lim n : Nat} {st : St} {B : List (Nat × Obj)} {tab : Nat -> TI}
theorem OkG.rangeY(hT:zhz P tab)(hB:zp2 B){gop:Operand}{ps:Array Tmp}{assign body:Code}{K:FuncId}{caps:List D}{fn:Func}{ci:Code}(hk:zd0 gop=true)(hg:ev (getR st.vars) gop=.fn (.func K) caps)
  (hf:P.funcs[K]?=some fn) (hname:fn.name≠ "runtime.NumGoroutine") (hb:fn.body=some ci) (hlen:caps.length+1<=fn.ntmps) {sti:St} {p:Option Code} {ds:List D} (hres:resL tab sti fn.results.toList=some (ds,true))
  (hi:∀l,OkG P lim fn.ntmps none (YAt ⟨0,n,st.vars,ps,assign,body⟩ l) ci ⟨zfj 0 (.undef::caps),st.heap,st.nx⟩ none fun e s q=>(e=.normal\/e=.ret)/\s=sti/\q=p)
  {e0:Ex} (hp:e0.pend=p):OkG P lim n none (JM B) (.rangeFunc gop ps assign body) st () fun e s _=>e=e0.to/\s=⟨st.vars,sti.heap,sti.nx⟩:=by
 intro E F a w g hF hR hJ
 have hgv:=ya01 hR.rd gop hk
 rw[hF.1,hg,zv3] at hgv
 simp only[rep] at hgv
 obtain⟨cv,hgv,hcv⟩:=hgv
 replace hgv:_=Value.func (.func K) #[] cv.toArray:=hgv
 have hEn:zrh P K:=⟨fn,hf,hname,by rw[hb];rfl⟩
 refine wpIn_rangeFunc ?_
 intro fn0 _
 obtain⟨rc,hrc⟩:∃rc:Loop,rc={state:=.ready,pending:=none,fn:=fn0,tmps:=a.tmps,params:=ps,assign,body,defers:=w.heap.size}:=⟨_,rfl⟩
 obtain⟨W1,hW1⟩:∃W1,(w.alloc (.deferred (some []))).alloc (.loop rc)=W1:=⟨_,rfl⟩
 obtain⟨l,hl0⟩:∃l,l=w.heap.size+1:=⟨_,rfl⟩
 have hsz1:W1.heap.size=w.heap.size+2:=by rw[<-hW1];simp
 have hL1:W1.heap[l]?=some (.loop rc):=by
  rw[<-hW1,hl0];have:=World.alloc_heap_new (w.alloc (.deferred (some []))) (.loop rc);rwa [World.size_alloc] at this
 have hK1:W1.heap[w.heap.size]?=some (.deferred (some [])):=by
  rw[<-hW1];exact(Below.heap_alloc _ _ _ (by simp)).trans (World.alloc_heap_new w _)
 have hkeep:Keep (fun _=>False) w W1:=by
  rw[<-hW1];exact(Keep.alloc _ w _).trans (Keep.alloc _ _ _)
 have hR1:Rel E n F (zh4 a) W1 g:=Rel.ext hR hkeep
 have hcv1:reps (cx W1 g F.hp) (.undef::caps) (.func (.yield l) #[] #[]::cv):=by
  simp only[reps]
  exact⟨_,_,rfl,by simp only[rep],zhr (Rel.ext_le hkeep) _ _ hcv⟩
 have harr:(Value.func (.yield l) #[] #[]::cv).toArray=#[.func (.yield l) #[] #[]]++cv.toArray:=by simp
 have hcl:cv.length=caps.length:=zdh _ _ hcv
 refine⟨l,[mark w.heap.size],W1,{target:=.fn (.func K) cv.toArray,args:=#[.func (.yield l) #[] #[]]},W1,K,
  #[.func (.yield l) #[] #[]]++cv.toArray,W1,?_,?_,fun _ _=>trivial,?_,nofun,?_⟩
 rw[<-hW1,hrc,hl0];exact run_enterLoop_outer _ _ _ _ _
 simp only[resolve,hgv]
 simp[go_sem]
 simp[invoke,go_sem,zsc hEn]
 ·have hRi:Rel (E.forkX W1 g F (zo7 l)) fn.ntmps ⟨getR (zfj 0 (.undef::caps)),F.hp,F.nu⟩ {tmps:=(#[.func (.yield l) #[] #[]]++cv.toArray)++Array.replicate (fn.ntmps-(#[Value.func (.yield l) #[] #[]]++cv.toArray).size) undef,defers:=[]} W1 g:=by
   refine⟨by simp;omega,rfl,fun t=>?_,hR1.mem,fun id b o h1 h2=>.inr (.inl ⟨id,o,h1,h2⟩),Keep.refl _ _,⟨rfl,rfl⟩,fun _ _=>rfl,fun _ h=>h⟩
   refine zt3 (.undef::caps) (.func (.yield l) #[] #[]::cv) 0 t hcv1 _ fun j v hj=>?_
   rw[<-harr,Nat.zero_add,Array.getElem?_append_left (by simpa using (List.getElem?_eq_some_iff.1 hj).1)]
   simpa using hj
  have hJi:YAt ⟨0,n,st.vars,ps,assign,body⟩ l (E.forkX W1 g F (zo7 l)) none ⟨getR (zfj 0 (.undef::caps)),F.hp,F.nu⟩ {tmps:=(#[.func (.yield l) #[] #[]]++cv.toArray)++Array.replicate (fn.ntmps-(#[Value.func (.yield l) #[] #[]]++cv.toArray).size) undef,defers:=[]} W1 g:=by
   refine⟨rfl,?_,.inr (.inr rfl),rc,hL1,?_⟩
   rw[<-harr]
   show(_++_:Array Value)[0]?=_
   rw[Array.getElem?_append_left (by simp)]
   simp
   rw[hrc]
   refine⟨rfl,rfl,rfl,rfl,rfl,hR.sz,fun t=>?_⟩
   have:=hR1.rd t
   rw[hF.1] at this
   exact this
  refine ya10 (calls_of_wp hf hb (wpIn_wide.1 (wpIn_mono (hi l (E.forkX W1 g F (zo7 l)) ⟨getR (zfj 0 (.undef::caps)),F.hp,F.nu⟩ _ W1 g ⟨rfl,hF.2.1,hF.2.2⟩ hRi hJi) ?_)))
  rintro e' a' w' ⟨s,q,F',g',⟨he,rfl,rfl⟩,hF',hR',hd',hy',_,rcp,hl',hrcp⟩
  rw[zmp hd'] at hR'
  obtain⟨v,hv,_⟩:=zun hT hR' hF'.1 hF'.2.1 hres
  obtain⟨W4,hW4⟩:∃W4,W4=w'.putObj l (.loop {rcp with state:=.exhausted}):=⟨_,rfl⟩
  have hl4:W4.heap[l]?=some (.loop {rcp with state:=.exhausted}):=by
   rw[hW4];exact World.putObj_heap_same (Array.getElem?_eq_some_iff.1 hl').1
  have hR4:Rel (E.forkX W1 g F (zo7 l)) fn.ntmps F' a' W4 g':=by
   rw[hW4];exact hR'.setObjX hl' (.inr (.inr rfl)) (by simp) (by simp) (by simp)
  have hX:∀b,zo7 l b->∃o,W1.heap[b]?=some o/\∀cs T f,o≠.cells cs T f:=by
   intro b hb;rw[show b=l from hb];exact⟨_,hL1,by simp⟩
  have hX2:∀b,zo7 l b->¬ownB g' F'.hp b:=by
   intro b hb;rw[show b=l from hb];exact znd hR4.mem hl4 (by simp) (by simp)
  have hlE:E.w0.heap.size<=w.heap.size:=hR.keep.size
  have hnewX:∀b,zo7 l b->E.w0.heap.size<=b\/E.X b:=by
   intro b hb;rw[show b=l from hb];exact .inl (by omega)
  have hR5:=hR1.swap hR4 hX hX2 hnewX
  have hstay:∀(b:Nat) (o:Obj),W1.heap[b]?=some o->b≠l->(∀cs T f,o≠.cells cs T f)->(∀es c,o≠.map es c)->W4.heap[b]?=some o:=by
   intro b o hb hne h1 h2
   rw[hR4.keep.block b (Array.getElem?_eq_some_iff.1 hb).1 ?_]
   exact hb
   rintro(h|h)
   exact znd hR1.mem hb h1 h2 h
   exact hne h
  have hJ5:JM B E () ⟨F.rd,F'.hp,F'.nu⟩ {a with defers:=[mark w.heap.size]++a.defers} W4 g':=by
   obtain⟨⟨Ds,hDs,hnd,hall⟩,hBs⟩:=hJ
   have old:∀D∈Ds,D<w.heap.size:=fun D hD=>(Array.getElem?_eq_some_iff.1 (hall D hD).2).1
   refine⟨⟨w.heap.size::Ds,by simp[hDs,mark],List.nodup_cons.2 ⟨fun h=>by have:=old _ h;omega,hnd⟩,fun D hD=>?_⟩,fun x hx=>?_⟩
   rcases List.mem_cons.1 hD with rfl|h
   exact⟨hlE,hstay _ _ hK1 (by omega) (by simp) (by simp)⟩
   refine⟨(hall D h).1,hstay _ _ ?_ (by have:=old D h;omega) (by simp) (by simp)⟩
   rw[hkeep.block D (old D h) id];exact(hall D h).2
   have h:=hBs x hx
   have hlt:x.1<w.heap.size:=(Array.getElem?_eq_some_iff.1 h).1
   refine hstay _ _ ?_ (by omega) (hB x hx).1 (hB x hx).2
   rw[hkeep.block _ hlt id];exact h
  have hend:(Instr.endLoop l).run P w'=.ok q W4:=by
   have:=run_endLoop (P:=P) hl' (by rw[hrcp.st];cases q<;>simp)
   rw[<-hW4] at this
   rw[this,hrcp.pe]
  have post:rangePost (zlm none) 0 P l (fun e a' w'=>∃st' s' F' g',(e=e0.to/\st'=⟨st.vars,s.heap,s.nx⟩)/\F'.on lim st'/\Rel E n F' (zh4 a') w' g'/\JM B E s' F' a' w' g') {a with defers:=[mark w.heap.size]++a.defers} (.returned v) w':=by
   refine⟨q,W4,hend,?_⟩
   have fin:∃st' s' F' g',(e0.to=e0.to/\st'=⟨st.vars,s.heap,s.nx⟩)/\F'.on lim st'/\Rel E n F' (zh4 {a with defers:=[mark w.heap.size]++a.defers}) W4 g'/\JM B E s' F' {a with defers:=[mark w.heap.size]++a.defers} W4 g':=
    ⟨_,(),⟨F.rd,F'.hp,F'.nu⟩,g',⟨rfl,rfl⟩,⟨hF.1,hF'.2.1,hF'.2.2⟩,hR5,hJ5⟩
   subst hp
   cases e0 with
   |normal=>exact fin
   |exit i=>exact wpIn_exit fin
   |ret=>exact wpIn_ret fin
  rcases he with rfl|rfl<;>exact⟨hd',v,hv,post⟩
end
section
variable {P : Program} {tab : Nat -> TI} {call : FuncId -> List D -> List (Nat × Blk) -> Nat -> Option Out}
theorem OkG.toR{lim n:Nat}{c:Code}{st:St}{Q:Exit->St->Unit->Prop}(h:OkG P lim n none (JM []) c st () Q):OkR P lim n none c st fun e s=>Q e s ():=
 fun E F a w g hF hR hM=>wpIn_mono (h E F a w g hF hR ⟨hM,nofun⟩) fun _ _ _ ⟨st',_,F',g',h1,h2,h3,h4⟩=>⟨st',F',g',h1,h2,h3,h4.1⟩
end
def noCall:CallF:=fun _ _ _ _=>none
theorem zx9{P:Program}:zkx P noCall:=fun _ _ _ _ _ h=>by cases h
section
variable {P : Program} {tab : Nat -> TI} (hT : zhz P tab) (hm : P.follows .mixedOrders = true) {ft fr : Nat -> Option Func} {pt : Nat -> Nat -> List (Nat × Nat)} (hft : FtOk P ft pt) {LF n : Nat} {l : List Ent}
end
end Go.Tm
namespace Go.Tm
open Go.RowKit Go.WideShapes
theorem ya1s(ops:Array Oper):zog [] ops=true:=by
 unfold zog
 refine List.all_eq_true.2 fun o _=>?_
 cases o.dst<;>rfl
def OkB(P:Program)(lim n:Nat)(r:Option Nat)(B:List (Nat×Obj))(c:Code)(st:St)(Q:Exit->St->Prop):Prop:=
 OkG P lim n r (JM B) c st () fun e s _=>Q e s
def seqB(P:Program)(lim n:Nat)(r:Option Nat)(B:List (Nat×Obj))(y:Code)(Q:Exit->St->Prop):Exit->St->Prop:=fun e s=>match e with|.normal=>OkB P lim n r B y s Q|e=>Q e s
section
variable {P : Program} {tab : Nat -> TI} {lim n : Nat} {r : Option Nat} {B : List (Nat × Obj)} {st : St} {Q : Exit -> St -> Prop}
theorem OkB.seq{x y:Code}(h:OkB P lim n r B x st (seqB P lim n r B y Q)):OkB P lim n r B (.seq x y) st Q:=by
 refine OkG.seq (OkG.mono h fun e s _ k=>?_)
 cases e with
 |normal=>exact k
 | _=>exact k
theorem OkB.block{id:Nat}{c:Code}(h:OkB P lim n r B c st (ya4q id Q)):OkB P lim n r B (.block id c) st Q:=by
 refine OkG.block (OkG.mono h fun e s _ k=>?_)
 cases e with
 |exit i=>exact k
 | _=>exact k
theorem OkB.cond{c:Operand}{x y:Code}{b:Bool}(hk:zd0 c=true)(hc:ev (getR st.vars) c=.bool b)(h1:b=true->OkB P lim n r B x st Q)(h2:b=false->OkB P lim n r B y st Q):OkB P lim n r B (.cond c x y) st Q:=OkG.cond hk hc h1 h2
theorem OkB.skip(h:Q .normal st):OkB P lim n r B .skip st Q:=OkG.skip h
theorem OkB.exit{id:Nat}(h:Q (.exit id) st):OkB P lim n r B (.exit id) st Q:=OkG.exit h
theorem OkB.ret(h:Q .ret st):OkB P lim n r B .ret st Q:=OkG.ret h
theorem OkB.goes{c:Code}{s:St}(h:Goes lim st.nx st s)(k:OkB P lim n r B c s Q):OkB P lim n r B c st Q:=by
 intro E F a w g hF hR hJ
 obtain⟨F',g',hF',hR'⟩:=h E n F (zh4 a) w g (fun id h1 h2=>hR.nu id (hF.2.2 id h1 h2)) hF hR
 exact k E F' a w g' hF' hR' hJ
theorem OkB.rg{id:Nat}{ops:Array Oper}{draw:Bool}(S:Seat P tab)(V:List Nat)(hB:zp2 B)(h:RegA P tab true lim ops draw ⟨keep V st.vars,st.heap,st.nx⟩ (Q .normal))(hok:zjl n ops draw=true:=by decide+kernel):OkB P lim n r B (.region id ops draw) st Q:=by
 intro E F a w g hF hR hJ
 obtain⟨F',hF',hR'⟩:=hR.sub hF (st':=⟨keep V st.vars,st.heap,st.nx⟩) ⟨fun t d h=>zt6 V _ t d h,fun _ _ h=>h,za4 _⟩
 exact OkG.region0 (s:=()) (K:=[]) (yaam hB) S.tm S.mixed hok (ya1s ops) h E F' a w g hF' hR' hJ
theorem zxz(hT:zhz P tab){K:FuncId}{fn:Func}{c:Code}{args:List D}{res:D}(lim:Nat)(hf:P.funcs[K]?=some fn)(hb:fn.body=some c)(hname:fn.name≠ "runtime.NumGoroutine")(hr:res.ids=[])(hk:okM new1 res=true)(hlen:args.length<=fn.ntmps)
  (h:wfL args->OkB P lim fn.ntmps none [] c ⟨zfj 0 args,[],0⟩ fun e st=>(e=.normal\/e=.ret)/\∃ds,resL tab st fn.results.toList=some (ds,true)/\resT ds=res):zbi P K args res:=by
 refine zok (eff:=[]) (nw:=(0,lim)) hr hk (zwa ⟨fn,hf,hname,by rw[hb];rfl⟩ fun hwf=>?_)
 refine zy0 hT hf hb hname hlen (fun x hx=>by cases hx) ((OkG.toR (h hwf)).mono ?_)
 rintro e st ⟨h1,ds,h2,h3⟩
 exact⟨h1,ds,h2,h3,[],(fun i x h=>by cases h),rfl⟩
end
open Classical in
noncomputable def yb1(ds:List D)(heap:List (Nat×Blk))(nx:Nat)(e:Ex)(heap':List (Nat×Blk))(nx':Nat):YbF:=fun ds2 heap2 nx2 ws=>if ds2=ds/\heap2=heap/\nx2=nx then some (e,heap',nx',ws) else none
theorem ya2g{P:Program}{Y:YC}{ds:List D}{heap:List (Nat×Blk)}{nx:Nat}{e:Ex}{heap':List (Nat×Blk)}{nx':Nat}(hn:nx<=nx')(hO:∀lim,nx'<=lim->zwl P lim Y ds heap nx e heap' nx'):zwk P 0 Y (yb1 ds heap nx e heap' nx'):=by
 intro ds2 heap2 nx2 ws e2 heap2' nx2' ws2 h
 unfold yb1 at h
 split at h
 rename_i hc
 obtain⟨rfl,rfl,rfl⟩:=hc
 simp only[za5,zaa] at h
 obtain⟨rfl,rfl,rfl,rfl⟩:=h
 exact⟨hn,fun id hid=>absurd hid (Nat.not_lt_zero _),hO⟩
 cases h
theorem ya88{ds:List D}{heap:List (Nat×Blk)}{nx:Nat}{e:Ex}{heap':List (Nat×Blk)}{nx':Nat}{ws:List Nat}:yb1 ds heap nx e heap' nx' ds heap nx ws=some (e,heap',nx',ws):=by
 unfold yb1
 rw[if_pos ⟨rfl,rfl,rfl⟩]
section
variable {P : Program} {tab : Nat -> TI} {lim n : Nat} {st : St} {Y : YC} {l : Nat} {p : Option Code} {Q : Exit -> St -> Option Code -> Prop}
theorem OkG.varsY{c:Code}(V:List Nat)(h:OkG P lim n none (YAt Y l) c ⟨keep V st.vars,st.heap,st.nx⟩ p Q):OkG P lim n none (YAt Y l) c st p Q:=by
 intro E F a w g hF hR hJ
 obtain⟨F',hF',hR'⟩:=hR.sub hF (st':=⟨keep V st.vars,st.heap,st.nx⟩) ⟨fun t d h=>zt6 V _ t d h,fun _ _ h=>h,za4 _⟩
 have e:F'.hp=F.hp:=hF'.2.1.trans hF.2.1.symm
 refine h E F' a w g hF' hR' ?_
 obtain⟨h1,h2,h3,rc,h4,h5⟩:=hJ
 exact⟨h1,h2,h3,rc,h4,⟨h5.st,h5.pe,h5.ps,h5.asg,h5.bd,h5.sz,by rw[e];exact h5.rd⟩⟩
theorem OkG.plY{id:Nat}{ops:Array Oper}{st':St}{vc:Bool}{acc:List FP}(S:Seat P tab)(hK:zog [Y.k] ops=true)(hok:zjl n ops false=true)
  (h:zk8 (runE tab true false ops.toList ops.toList st true []) st' vc acc []) (hv:vc=true) (hlim:st'.nx<=lim) (hQ:Q .normal st' p):OkG P lim n none (YAt Y l) (.region id ops false) st p Q:=
 OkG.region0 (own:=true) ya6q S.tm S.mixed hok hK (WRun.E h.eq (.inr fun _ _ _ h=>⟨nofun,h.2⟩) hv hlim (.nil ⟨nofun,hQ⟩)).2
end
end Go.Tm
namespace Go.Tm
open Go.RowKit Go.WideShapes
def shf(N:Nat):List (Nat×D)->List (Nat×D)
 |[]=>[]
 |(t,d)::r=>(N+t,d)::shf N r
def cmb(N:Nat)(a b:List (Nat×D)):List (Nat×D):=a++shf N b
theorem ya0m(N t:Nat):∀l:List (Nat×D),getL (shf N l) (N+t)=getL l t
 |[]=>rfl
 |(u,d)::r=>by
  simp only[shf,getL,ya0m N t r]
  have:Nat.beq (N+u) (N+t)=Nat.beq u t:=by
   cases h:Nat.beq u t
   cases h2:Nat.beq (N+u) (N+t)
   rfl
   have:=nb h2
   rw[show u=t by omega,Nat.beq_refl] at h;cases h
   rw[nb h,Nat.beq_refl]
  rw[this]
theorem zt4(N t:Nat)(h:t<N):∀l:List (Nat×D),getL (shf N l) t=none
 |[]=>rfl
 |(u,d)::r=>by
  simp only[shf,getL,zt4 N t h r]
  have:Nat.beq (N+u) t=false:=by
   cases h2:Nat.beq (N+u) t
   rfl
   have:=nb h2;omega
  rw[this];rfl
theorem zw4(t:Nat)(b:List (Nat×D)):∀a:List (Nat×D),getL (a++b) t=match getL a t with|some d=>some d|none=>getL b t
 |[]=>rfl
 |(u,d)::r=>by
  simp only[zb2,getL,zw4 t b r]
  cases Nat.beq u t<;>rfl
theorem zw3(N t:Nat)(h:N<=t):∀a:List (Nat×D),(∀p∈a,p.1<N)->getL a t=none
 |[],_=>rfl
 |(u,d)::r,hN=>by
  simp only[getL,zw3 N t h r fun p hp=>hN p (zaw _ hp)]
  have hu:=hN (u,d) (List.mem_cons_self ..)
  have:Nat.beq u t=false:=by
   cases h2:Nat.beq u t
   rfl
   have:=nb h2;simp only at hu;omega
  rw[this];rfl
theorem zt1{N t:Nat}(h:t<N)(a b:List (Nat×D)):getR (cmb N a b) t=getR a t:=by
 unfold getR cmb
 rw[zw4,zt4 N t h]
 cases getL a t<;>rfl
theorem zt2{N:Nat}(t:Nat){a:List (Nat×D)}(hN:∀p∈a,p.1<N)(b:List (Nat×D)):getR (cmb N a b) (N+t)=getR b t:=by
 unfold getR cmb
 rw[zw4,zw3 N (N+t) (by omega) a hN,ya0m]
section
variable {P : Program} {tab : Nat -> TI} {lim n : Nat} {Y : YC} {l : Nat} {Q : Exit -> St -> Option Code -> Prop}
theorem YAt.goes{E:En}{F:FrS}{a:Act}{w:World}{g:Gh}{st s:St}{n0 N:Nat}{p:Option Code}(hN:∀p∈Y.vars,p.1<N)(h:Goes lim n0 ⟨cmb N Y.vars st.vars,st.heap,st.nx⟩ ⟨cmb N Y.vars s.vars,s.heap,s.nx⟩)
  (hE:∀id,n0<=id->id<lim->E.nu0 id=true) (hF:F.on lim st) (hR:Rel E n F (zh4 a) w g) (hJ:YAt Y l E p F a w g):∃F' g',F'.on lim s/\Rel E n F' (zh4 a) w g'/\YAt Y l E p F' a w g':=by
 obtain⟨h1,h2,h3,rc,h4,h5⟩:=hJ
 obtain⟨tm,htm⟩:∃tm:Array Value,tm=Array.ofFn (n:=N+a.tmps.size) fun i=>if i.1<N then rc.tmps.getD i.1 undef else a.tmps.getD (i.1-N) undef:=⟨_,rfl⟩
 have g1:∀t,t<N->tm.getD t undef=rc.tmps.getD t undef:=fun t ht=>by
  rw[htm,Array.getD_eq_getD_getElem?,Array.getElem?_ofFn]
  rw[dif_pos (by omega),if_pos ht];rfl
 have g2:∀t,tm.getD (N+t) undef=a.tmps.getD t undef:=fun t=>by
  rw[htm,Array.getD_eq_getD_getElem?,Array.getElem?_ofFn]
  by_cases ht:t<a.tmps.size
  rw[dif_pos (by omega)]
  simp only[Nat.not_lt.2 (Nat.le_add_right N t),if_false,Nat.add_sub_cancel_left,Option.getD_some]
  rw[dif_neg (by omega),Array.getD_eq_getD_getElem?,Array.getElem?_eq_none (by omega)]
 have hR0:Rel E 0 ⟨getR (cmb N Y.vars st.vars),F.hp,F.nu⟩ {tmps:=tm,defers:=[]} w g:=by
  refine⟨Nat.zero_le _,rfl,fun t=>?_,hR.mem,hR.base,hR.keep,hR.gz,hR.gs,hR.nu⟩
  show rep (cx w g F.hp) (getR (cmb N Y.vars st.vars) t) (tm.getD t undef)
  by_cases ht:t<N
  rw[zt1 ht,g1 t ht];exact h5.rd t
  obtain⟨u,rfl⟩:∃u,t=N+u:=⟨t-N,by omega⟩
  rw[zt2 u hN,g2 u,<-hF.1];exact hR.rd u
 obtain⟨F',g',k1,k2⟩:=h E 0 ⟨getR (cmb N Y.vars st.vars),F.hp,F.nu⟩ {tmps:=tm,defers:=[]} w g hE ⟨rfl,hF.2.1,hF.2.2⟩ hR0
 have rd:=fun t=>k1.1▸k2.rd t
 refine⟨⟨getR s.vars,F'.hp,F'.nu⟩,g',⟨rfl,k1.2.1,k1.2.2⟩,⟨hR.sz,hR.df,fun t=>?_,k2.mem,k2.base,k2.keep,k2.gz,k2.gs,k2.nu⟩,h1,h2,h3,rc,h4,⟨h5.st,h5.pe,h5.ps,h5.asg,h5.bd,h5.sz,fun t=>?_⟩⟩
 have k:=rd (N+t)
 have k:rep (cx w g' F'.hp) (getR (cmb N Y.vars s.vars) (N+t)) (tm.getD (N+t) undef):=k
 rw[zt2 t hN,g2 t] at k
 exact k
 by_cases ht:t<N
 have k:=rd t
 have k:rep (cx w g' F'.hp) (getR (cmb N Y.vars s.vars) t) (tm.getD t undef):=k
 rw[zt1 ht,g1 t ht] at k
 exact k
 have:getR Y.vars t=.undef:=by
  unfold getR;rw[zw3 N t (by omega) _ hN]
 show rep _ (getR Y.vars t) _
 rw[this];simp only[rep]
def YAtE(Y:YC)(l lim n0:Nat)(E:En)(p:Option Code)(F:FrS)(a:Act)(w:World)(g:Gh):Prop:=(∀id,n0<=id->id<lim->E.nu0 id=true)/\YAt Y l E p F a w g
theorem OkG.toE{c:Code}{st:St}{p:Option Code}(n0:Nat)(h:OkG P lim n none (YAt Y l) c st p Q):OkG P lim n none (YAtE Y l lim n0) c st p Q:=
 fun E F a w g hF hR hJ=>wpIn_mono (h E F a w g hF hR hJ.2) fun _ _ _ ⟨st',s',F',g',q,k1,k2,k3⟩=>⟨st',s',F',g',q,k1,k2,hJ.1,k3⟩
theorem OkG.ofE{c:Code}{st:St}{p:Option Code}{n0:Nat}(hn:st.nx<=n0)(h:OkG P lim n none (YAtE Y l lim n0) c st p Q):OkG P lim n none (YAt Y l) c st p Q:=
 fun E F a w g hF hR hJ=>wpIn_mono (h E F a w g hF hR ⟨fun id k1 k2=>hR.nu id (hF.2.2 id (zao hn k1) k2),hJ⟩) fun _ _ _ ⟨st',s',F',g',q,k1,k2,k3⟩=>⟨st',s',F',g',q,k1,k2,k3.2⟩
def ya86(Y:YC)(lim n0 N:Nat)(st s:St):Prop:=Goes lim n0 ⟨cmb N Y.vars st.vars,st.heap,st.nx⟩ ⟨cmb N Y.vars s.vars,s.heap,s.nx⟩
def ya9z{ι:Type}(Y:YC)(lim n0 N:Nat)(S:ι->St)(Pr:ι->Prop)(μ:ι->Nat)(i:ι)(Q:Exit->St->Option Code->Prop):Exit->St->Option Code->Prop:=fun e s q=>match e with|.normal=>q=none/\∃j,ya86 Y lim n0 N s (S j)/\Pr j/\μ j<μ i|e=>Q e s q
theorem OkG.loopYG{c:Code}{st:St}{ι:Type}(n0 N:Nat)(S:ι->St)(Pr:ι->Prop)(μ:ι->Nat)(i0:ι)(hn:st.nx<=n0)(hN:∀p∈Y.vars,p.1<N)(hs:ya86 Y lim n0 N st (S i0))(h0:Pr i0)
  (round:∀i,Pr i->OkG P lim n none (YAt Y l) c (S i) none (ya9z Y lim n0 N S Pr μ i Q)):OkG P lim n none (YAt Y l) (.loop c) st none Q:=by
 have key:∀m i,μ i=m->Pr i->OkGL P lim n none (YAtE Y l lim n0) c (S i) none Q:=by
  intro m
  induction m using Nat.strongRecOn with
  | _ m ih=>
   intro i hm hI
   refine OkGL.round (OkG.mono (OkG.toE n0 (round i hI)) fun e s q hq=>?_)
   cases e with
   |normal=>
    obtain⟨rfl,j,h1,h2,h3⟩:=hq
    have k:=ih (μ j) (hm▸h3) j rfl h2
    intro E F a w g hF hR hJ
    obtain⟨F',g',hF',hR',hJ'⟩:=YAt.goes hN h1 hJ.1 hF hR hJ.2
    exact k E F' a w g' hF' hR' ⟨hJ.1,hJ'⟩
   | _=>exact hq
 refine OkG.ofE hn ?_
 intro E F a w g hF hR hJ
 obtain⟨F',g',hF',hR',hJ'⟩:=YAt.goes hN hs hJ.1 hF hR hJ.2
 exact OkGL.to (key _ i0 rfl h0) E F' a w g' hF' hR' ⟨hJ.1,hJ'⟩
end
section
variable {P : Program} {tab : Nat -> TI} {lim n : Nat} {r : Option Nat} {B : List (Nat × Obj)} {st : St} {Q : Exit -> St -> Prop}
end
theorem nc0:zp2 []:=by intro x hx;cases hx
section
variable {P : Program} {tab : Nat -> TI} {lim n : Nat} {st : St} {Y : YC} {l : Nat} {p : Option Code} {Q : Exit -> St -> Option Code -> Prop}
theorem OkG.pY{id:Nat}{ops:Array Oper}{st':St}{vc:Bool}{acc:List FP}(S:Seat P tab)(hQ:Q .normal st' p)(hK:zog [Y.k] ops=true:=by decide+kernel)(hok:zjl n ops false=true:=by decide+kernel)
  (h:zk8 (runE tab true false ops.toList ops.toList st true []) st' vc acc []:=by intro q hq;simp only[go_sem,Nat.reduceSub,Int.reduceEq,Nat.reduceLT,Nat.reduceDiv,Nat.reduceAdd,Nat.reduceBEq,Nat.reduceLeDiff,reduceCtorEq,Nat.reduceEqDiff,Nat.reduceMod,Nat.reduceMul,zat];exact hq)
  (hv:vc=true:=by first|rfl|(simp only[go_sem,Nat.reduceLeDiff];done)|(simp only[go_sem,Nat.reduceLeDiff];rfl)|(simp;done)) (hlim:st'.nx<=lim:=by first|exact za4 _|exact lb rfl):OkG P lim n none (YAt Y l) (.region id ops false) st p Q:=
 OkG.plY S hK hok h hv hlim hQ
theorem OkG.pYx{X:Prop}{id:Nat}{ops:Array Oper}{st':St}{vc:Bool}{acc:List FP}(S:Seat P tab)(x:X)(hQ:Q .normal st' p)(hK:zog [Y.k] ops=true:=by decide+kernel)(hok:zjl n ops false=true:=by decide+kernel)
  (h:X->zk8 (runE tab true false ops.toList ops.toList st true []) st' vc acc []:=by intro x q hq;simp only[go_sem,Nat.reduceSub,Int.reduceEq,Nat.reduceLT,Nat.reduceDiv,Nat.reduceAdd,Nat.reduceBEq,Nat.reduceLeDiff,reduceCtorEq,Nat.reduceEqDiff,Nat.reduceMod,Nat.reduceMul,zat,x];exact hq)
  (hv:vc=true:=by first|rfl|(simp only[go_sem,Nat.reduceLeDiff];done)|(simp only[go_sem,Nat.reduceLeDiff];rfl)|(simp;done)) (hlim:st'.nx<=lim:=by first|exact za4 _|exact lb rfl):OkG P lim n none (YAt Y l) (.region id ops false) st p Q:=
 OkG.plY S hK hok (h x) hv hlim hQ
end
def ya06(ks ys:List Nat)(o:Oper):Bool:=o.guard.isNone&&(zsz ks o).isNone&&!zny ks o&&!ziy o&&decide (zsw ys o.dst=ys)
theorem ya4l(call:FuncId->List D->List (Nat×Blk)->Nat->Option Out)(tab:Nat->TI)(o:Oper)(st:St)(h:ziy o=false):ya20 call tab o st=aopX tab o st:=by
 unfold ya20
 cases ho:o.op with
 |call c=>
  cases hc:c.callee with
  |value f=>simp[ziy,ho,hc] at h
  | _=>simp only[hc]
 | _=>rfl
theorem ya84(tab:Nat->TI)(o:Oper)(st:St):aopX tab o st=match aop tab true o.op st.nx true (getR st.vars) (getL st.heap) with
 |some out=>bif out.vc&&nwB st.nx out.nw then some out else none
 |none=>none:=by
 unfold aopX;rw[ya4w]
 cases aop tab true o.op st.nx true (getR st.vars) (getL st.heap)<;>rfl
theorem ya30{yb:YbF}{tab:Nat->TI}{k:Nat}{O:List Oper}{ys:List Nat}{p:Option Code}:∀(m:Nat) (l l':List Oper) (st st':St) (v0 vc:Bool) (acc acc':List FP) (ws:List Nat),runK tab true false O m l st v0 acc=some (st',vc,acc',l')->vc=true->(l.take m).all (ya06 (k::ys) ys)=true->
  v0=true/\∃ws',runY yb noCall tab 0 k O l ys st ws p=runY yb noCall tab 0 k O l' ys st' ws' p
 |0,l,l',st,st',v0,vc,acc,acc',ws,h,hv,_=>by
  simp only[runK,za5,zaa] at h
  obtain⟨rfl,rfl,rfl,rfl⟩:=h
  exact⟨hv,ws,rfl⟩
 |m+1,[],l',st,st',v0,vc,acc,acc',ws,h,hv,_=>by
  simp only[runK,za5,zaa] at h
  obtain⟨rfl,rfl,rfl,rfl⟩:=h
  exact⟨hv,ws,rfl⟩
 |m+1,o::l,l',st,st',v0,vc,acc,acc',ws,h,hv,ha=>by
  simp only[List.take_succ_cons,List.all_cons,za0] at ha
  obtain⟨ha1,ha2⟩:=ha
  simp only[ya06,za0,Bool.not_eq_true',decide_eq_true_eq,Option.isNone_iff_eq_none] at ha1
  obtain⟨⟨⟨⟨g1,g2⟩,g3⟩,g4⟩,g5⟩:=ha1
  simp only[runK,g4,cond_false] at h
  split at h
  ·rename_i out v hs
   obtain⟨hvv,ws',hq⟩:=ya30 m _ _ _ _ _ _ _ _ (addW 0 ws out.eff) h hv ha2
   simp only[za0] at hvv
   refine⟨hvv.1,ws',?_⟩
   rw[<-hq]
   have hst:ya17 noCall tab O o st=some out:=by
    unfold ya17
    rw[g1]
    simp only
    rw[ya4l _ _ _ _ g4,ya84]
    unfold zrj at hs
    rw[g1] at hs
    simp only at hs
    cases hA:aop tab true o.op st.nx true (getR st.vars) (getL st.heap) with
    |none=>rw[hA] at hs;cases hs
    |some out2=>
     rw[hA] at hs
     simp only[za5,zaa] at hs
     obtain⟨rfl,hv2⟩:=hs
     have h3:(out2.vc&&nwB st.nx out2.nw)=true:=hv2.trans hvv.2
     simp only[h3,cond_true]
   conv=>lhs;unfold runY
   rw[g2]
   simp only[g3,cond_false,hst,g5]
  cases h
section
variable {P : Program} {tab : Nat -> TI} {lim n : Nat} {st : St} {Y : YC} {l : Nat} {Q : Exit -> St -> Option Code -> Prop}
theorem OkG.ryB{X:Prop}{id:Nat}{ops:Array Oper}{o0 oy:Oper}{l0 l1:List Oper}{d0:Nat}{ds:List D}{heap':List (Nat×Blk)}{nx':Nat}{e:Ex}{st1 st2:St}{vc1 vc2:Bool}{acc1 acc2:List FP}(S:Seat P tab)(x:X)(m1 m2:Nat)
  (hO:∀lim,nx'<=lim->zwl P lim Y ds st1.heap st1.nx e heap' nx') (hQ:Q .normal st2 e.pend) (hok:zjl n ops false=true:=by decide+kernel) (hK:zog [Y.k] ops=true:=by decide+kernel)
  (h0:ops.toList=o0::l0:=by rfl) (hm:zsz [Y.k] o0=some d0:=by rfl)
  (h1:X->zk8 (runK tab true false ops.toList m1 l0 (st.putD (some d0) .undef) true []) st1 vc1 acc1 (oy::l1):=by intro x q hq;simp only[go_sem,Nat.reduceSub,Int.reduceEq,Nat.reduceLT,Nat.reduceDiv,Nat.reduceAdd,Nat.reduceBEq,Nat.reduceLeDiff,reduceCtorEq,Nat.reduceEqDiff,Nat.reduceMod,Nat.reduceMul,zat,St.putD,Ex.isN,x];exact hq) (hv1:vc1=true:=by first|rfl|(simp only[go_sem,Nat.reduceLeDiff];done)|(simp only[go_sem,Nat.reduceLeDiff];rfl)|(simp;done)|(simp_all;done)|(simp<;>omega))
  (hn:st1.nx<=nx':=by exact lb rfl)
  (hp1:(l0.take m1).all (ya06 [Y.k,d0] [d0])=true:=by decide+kernel) (hy:zny [Y.k,d0] oy=true:=by rfl) (hym:zsz [Y.k,d0] oy=none:=by rfl) (hg:oy.guard=none:=by rfl)
  (ho:X->opds true (getR st1.vars) (ya14 oy)=(ds,true):=by intro x;first|rfl|(simp only[ya14,go_sem,Nat.reduceBEq,x];done)|(simp only[ya14,go_sem,Nat.reduceBEq,x];rfl))
  (h2:X->zk8 (runK tab true false ops.toList m2 l1 ((⟨st1.vars,heap',nx'⟩:St).putD oy.dst (.bool e.isN)) true []) st2 vc2 acc2 []:=by intro x q hq;simp only[go_sem,Nat.reduceSub,Int.reduceEq,Nat.reduceLT,Nat.reduceDiv,Nat.reduceAdd,Nat.reduceBEq,Nat.reduceLeDiff,reduceCtorEq,Nat.reduceEqDiff,Nat.reduceMod,Nat.reduceMul,zat,St.putD,Ex.isN,x];exact hq) (hv2:vc2=true:=by first|rfl|(simp only[go_sem,Nat.reduceLeDiff];done)|(simp only[go_sem,Nat.reduceLeDiff];rfl)|(simp;done)|(simp_all;done)|(simp<;>omega))
  (hp2:(l1.take m2).all (ya06 (Y.k::zsw [d0] oy.dst) (zsw [d0] oy.dst))=true:=by decide+kernel) (hlim:st2.nx<=lim:=by exact lb rfl):OkG P lim n none (YAt Y l) (.region id ops false) st none Q:=by
 obtain⟨_,ws1,e1⟩:=ya30 (yb:=yb1 ds st1.heap st1.nx e heap' nx') (tab:=tab) (k:=Y.k) (O:=ops.toList) (ys:=[d0]) (p:=none) m1 l0 _ _ _ _ _ _ _ [] (h1 x).eq hv1 hp1
 obtain⟨_,ws2,e2⟩:=ya30 (yb:=yb1 ds st1.heap st1.nx e heap' nx') (tab:=tab) (k:=Y.k) (O:=ops.toList) (ys:=zsw [d0] oy.dst) (p:=e.pend) m2 l1 _ _ _ _ _ _ _ ws1 (h2 x).eq hv2 hp2
 have key:runY (yb1 ds st1.heap st1.nx e heap' nx') noCall tab 0 Y.k ops.toList ops.toList [] st [] none=some (st2,ws2,e.pend):=by
  conv=>lhs;arg 7;rw[h0]
  conv=>lhs;unfold runY
  rw[hm]
  simp only
  rw[e1]
  conv=>lhs;unfold runY
  rw[hym]
  simp only[hy,cond_true]
  unfold ya2f
  rw[hg]
  simp only
  unfold zti
  rw[ho x]
  simp only
  rw[ya88]
  simp only
  rw[e2]
  rfl
 obtain⟨_,_,h3⟩:=ya34 (pt:=fun _=>[]) zx9 S.tm S.mixed (ya2g hn hO) l id ops false st [] none st2 ws2 e.pend (by simp only[rgoK,za0,Bool.not_false,Bool.true_or];exact⟨⟨hok,trivial⟩,hK⟩) key
 refine(h3 lim hlim).mono ?_
 rintro e t q ⟨rfl,rfl,rfl⟩
 exact hQ
end
theorem OkB.drop{P:Program}{lim n:Nat}{r:Option Nat}{B:List (Nat×Obj)}{c:Code}{st:St}{e0:Exit}{H:List (Nat×Blk)}{N:Nat}(h:OkB P lim n r B c st fun e s=>e=e0/\s.heap=H/\s.nx=N):OkG P lim n r (JM B) c st () fun e s _=>e=e0/\s=⟨[],H,N⟩:=
 fun E F a w g hF hR hJ=>wpIn_mono (h E F a w g hF hR hJ) fun e a' w' ⟨st',s',F',g',q,k1,k2,k3⟩=>by
  obtain⟨rfl,rfl,rfl⟩:=q
  obtain⟨F2,hF2,hR2⟩:=k2.sub k1 (st':=⟨zf5 [] st'.vars,st'.heap,st'.nx⟩) ⟨fun t d h=>zam [] _ t d h,fun _ _ h=>h,za4 _⟩
  exact⟨_,s',F2,g',⟨rfl,rfl⟩,hF2,hR2,k3⟩
end Go.Tm
namespace Go.Proofs
open Go.Tm Go.RowKit Go.WideShapes
set_option maxRecDepth 100000
set_option maxHeartbeats 4000000
set_option linter.unusedSimpArgs false
set_option linter.unusedVariables false
attribute [local go_sem] Tryz.f96 Tryz.f118 Tryz.f74
theorem ya7g{α:Type}{p:Prop}[Decidable p]{x y:Option α}{r:α}(h:(if ¬p then x else y)=some r)(hp:p):y=some r:=by rwa [if_neg (not_not_intro hp)] at h
theorem OkG.goesY{P:Program}{lim n:Nat}{Y:YC}{l:Nat}{Q:Exit->St->Option Code->Prop}{c:Code}{st s:St}{p:Option Code}(N:Nat)(hN:∀p∈Y.vars,p.1<N)(h:ya86 Y lim st.nx N st s)(k:OkG P lim n none (YAt Y l) c s p Q):OkG P lim n none (YAt Y l) c st p Q:=by
 intro E F a w g hF hR hJ
 obtain⟨F',g',hF',hR',hJ'⟩:=YAt.goes hN h (fun id h1 h2=>hR.nu id (hF.2.2 id h1 h2)) hF hR hJ
 exact k E F' a w g' hF' hR' hJ'
theorem zjp(a0:List TCommand):zbv Tryz.prog 96 [.ref 20000 12 0 a0.length (some uC)] [(20000,.arr 89 12 true (a0.map TCommand.n))] (.fn (.func 118) [.ptr 20100 0]) [(20100,some (.box [.ref 20000 12 0 a0.length (some uC)]))] (20100,20103):=by
 refine zct Tryz.func96 ?_
 intro hwf
 refine .ends 20100 (za4 _) ?_
 refine .sp [0] ?_
 refine .sp [1] ?_
 refine .ret ⟨⟨[(2,.fn (.func 118) [.ptr 20100 0])],[(20000,.arr 89 12 true (a0.map TCommand.n)),(20100,.box [.ref 20000 12 0 a0.length (some uC)])],20101⟩,?_,.inr rfl,retH [20000,20100] ?_ ?_⟩
 exact .m [2] [20000,20100] []
 exact rsi0
 rfl
def Tryz.MbI(a0:TGroup)(l:List TCommand):List (Nat×Blk):=[(0,.box [.imm 1 (a0.Roster.map (D.int .i64)) 4,.imm 1 (a0.Members.map (D.int .i64)) 4]),(1,.box [.imm 0 [] 0]),(2,.box [.int .i64 0]),(6,.arr 89 12 true (l.map TCommand.n)),(12,.box [.ref 6 12 0 l.length (some uC)])]
def Tryz.MbS(a0:TGroup)(l:List TCommand)(k:Nat):St:=⟨[(1,.ptr 12 0),(3,.int .i64 ((k:Int)-1))],Tryz.MbI a0 l,15⟩
attribute [local go_sem] Tryz.MbI Tryz.MbS
@[go_sem] def Tryz.MbH(a0:TGroup)(l:List TCommand):Option TCommand->List (Nat×Blk)
 |none=>Tryz.MbI a0 l
 |some y=>[(0,.box [.imm 1 (a0.Roster.map (D.int .i64)) 4,.imm 1 (a0.Members.map (D.int .i64)) 4]),(1,.box [.imm 1 (y.Members.map (D.int .i64)) 13]),(2,.box [.int .i64 0]),(6,.arr 89 12 true (l.map TCommand.n)),(12,.box [.ref 6 12 0 l.length (some uC)])]
def yaat:Option TCommand->Nat
 |none=>15
 |some _=>16
def ya9x:Option TCommand->Ex
 |none=>.normal
 |some _=>.ret
theorem zxx:∀(l:List (List UInt8)) (acc:List TCommand) {z:(List TCommand×Int) ⊕ List TCommand},zcn l acc=some z->acc.length<1000000->(match z with|.inl r=>r.1.length|.inr l1=>l1.length)<1000000
 |[],acc,z,h,k=>by rw[zgw] at h;rw[<-sj h];exact k
 |y::l,acc,z,h,k=>by
  rw[zgx] at h
  obtain⟨v,_,h⟩:=za3 h
  split at h
  rw[<-sj h];decide
  obtain⟨k1,h⟩:=zbc h
  exact zxx l _ h (by rw[zaq];exact k1)
theorem ya62{l:List (List UInt8)}{v:List TCommand×Int}(h:zf3 l=some v):v.1.length<1000000:=by
 unfold zf3 at h
 split at h
 rw[<-sj h];decide
 obtain⟨z,hz,h⟩:=za3 h
 have k:=zxx l [] hz (by decide)
 cases z with
 |inl r=>rw[<-sj h];exact k
 |inr l1=>rw[<-sj h];exact k
theorem zr0(a0:TGroup)(a1:List (List UInt8))(r:List Int×Int)(h:ziv a0 a1=some r):zbi Tryz.prog 74 [.agg [.imm 1 (a0.Roster.map (D.int .i64)) 4,.imm 1 (a0.Members.map (D.int .i64)) 4],.imm 1 (a1.map D.str) 4] (.tuple [.imm 1 (r.1.map (D.int .i64)) 13,.int .i64 r.2]):=by
 refine zxz Tryz.tmOk 20110 Tryz.func74 rfl (by decide) rfl rfl (lb rfl) ?_
 intro hwf
 unfold ziv at h
 refine OkB.seq ?_
 refine OkB.rg zS [0,1] nc0 ?_
 refine .rn 3 ?_
 refine .nn ?_
 refine OkB.seq ?_
 refine OkB.seq ?_
 obtain⟨v1,hv1,h⟩:=za3 h
 refine OkB.rg zS [1,2,4,5] nc0 ?_
 refine .rn 1 ?_
 refine .cl (zf2 a0 v1 hv1) ?_
 refine .rn 1 ?_
 refine .nn ?_
 refine OkB.seq ?_
 refine OkB.rg zS [1,2,4,5,6] nc0 ?_
 refine .rn 2 ?_
 refine .nn ?_
 refine OkB.cond rfl rfl (fun hc1=>?_) (fun hc1=>?_)
 replace h:=zab h hc1
 refine OkB.seq ?_
 refine OkB.rg zS [4,5,6] nc0 ?_
 refine .rn 3 ?_
 refine .nn ?_
 obtain rfl:=sj h
 refine OkB.goes (.boxs 1 _ [.imm 1 [] 13] rfl (.cons (.nil12 _ _ 0 (by decide)) (.refl _)) .refl) ?_
 exact OkB.ret ⟨.inr rfl,rsi⟩
 replace h:=zae h hc1
 refine OkB.skip ?_
 refine OkB.seq ?_
 obtain⟨v2,hv2,h⟩:=za3 h
 refine OkB.rg zS [1,2,4,5] nc0 ?_
 refine .rn 1 ?_
 refine .hcall (H:=[]) (eff:=[(6,some (.arr 89 12 true (v2.1.map TCommand.n)))]) (nw:=(6,12)) (r:=.tuple [.ref 6 12 0 v2.1.length (some uC),.int .i64 v2.2]) rfl rfl rfl rfl rfl (zcu 6 (lb rfl) (zla a1 v2 hv2)) (fun id b h=>zam [] _ id b h) (by simp) (.inr ⟨lb rfl,lb rfl⟩) ?_
 refine .rn 5 ?_
 refine .nn ?_
 refine OkB.seq ?_
 refine OkB.seq ?_
 refine OkB.rg zS [2,4,5,7,8] nc0 ?_
 refine .rn 2 ?_
 refine .nn ?_
 refine OkB.cond rfl rfl (fun hc2=>?_) (fun hc2=>?_)
 replace h:=zab h hc2
 refine OkB.seq ?_
 refine OkB.rg zS [4,5,8] nc0 ?_
 refine .rn 3 ?_
 refine .nn ?_
 obtain rfl:=sj h
 refine OkB.goes (.boxs 1 _ [.imm 1 [] 13] rfl (.cons (.nil12 _ _ 0 (by decide)) (.refl _)) .refl) ?_
 exact OkB.ret ⟨.inr rfl,rsi⟩
 replace h:=zae h hc2
 refine OkB.skip ?_
 obtain⟨z,hz,h⟩:=za3 h
 refine OkB.seq ?_
 refine OkB.seq ?_
 refine OkB.rg zS [2,4,5,7] nc0 ?_
 refine .rn 1 ?_
 refine .hcall (H:=[(6,.arr 89 12 true (v2.1.map TCommand.n))]) (eff:=[(12,some (.box [.ref 6 12 0 v2.1.length (some uC)]))]) (nw:=(12,15)) (r:=.fn (.func 118) [.ptr 12 0]) rfl rfl rfl rfl rfl (zcg 12 (za6 20000 6 (zjp v2.1))) (fun id b h=>zam [6] _ id b h) (by simp) (.inr ⟨lb rfl,lb rfl⟩) ?_
 refine .rn 0 ?_
 refine .nn ?_
 refine OkB.goes (s:=⟨[(2,.ptr 0 0),(4,.ptr 1 0),(5,.ptr 2 0),(25,.fn (.func 118) [.ptr 12 0])],Tryz.MbI a0 v2.1,15⟩) (.m [2,4,5,25] [0,1,2,6,12] []) ?_
 refine OkB.block ?_
 have hlen:(v2.1.length:Int)<=9223372036854775807:=by have:=ya62 hv2;omega
 have hw0:wr .i64 ((v2.1.length:Int)-1)=(v2.1.length:Int)-1:=zj6 _ _ (by show(-9223372036854775808:Int)<=_;omega) (by show _<=(9223372036854775807:Int);omega)
 refine(OkG.rangeY Tryz.tmOk nc0 rfl rfl Tryz.func118 (by decide) rfl (by decide) (sti:=⟨[(1,.ptr 12 0)],Tryz.MbH a0 v2.1 z,yaat z⟩) (p:=(ya9x z).pend) (ds:=[]) rfl (fun l=>?_) (e0:=ya9x z) rfl).mono (fun e s _ hes=>?_)
 refine OkG.seq ?_
 simp only[Tryz.MbI]
 refine OkG.pYx zS hw0 ?_
 refine OkG.block ?_
 refine OkG.loopYG 15 41 (fun(j:Nat)=>Tryz.MbS a0 v2.1 j) (fun j=>j<=v2.1.length/\zl6 a0 (v2.1.take j).reverse=some z) (fun j=>j) v2.1.length (lb rfl) (by decide) ?_ ⟨za4 _,by rw[List.take_length];exact hz⟩ ?_
 show Goes _ _ _ _
 simp only[cmb,shf,zb2,zas,Tryz.MbS,Tryz.MbI,Nat.reduceAdd]
 exact .m [2,4,5,25,42,44] [0,1,2,6,12] []
 rintro k ⟨hk,hb⟩
 simp only[Tryz.MbS,Tryz.MbI]
 refine OkG.seq ?_
 refine OkG.seq ?_
 refine OkG.pY zS ?_
 refine OkG.cond rfl rfl (fun hc5=>?_) (fun hc5=>?_)
 obtain⟨j,rfl⟩:∃j,k=j+1:=⟨k-1,by have:=of_decide_eq_true hc5;omega⟩
 have hj:(((j+1:Nat):Int)-1)=(j:Int):=by omega
 have h1:j<v2.1.length:=by omega
 have e1:=zdb TCommand.n v2.1 j h1
 have hw1:wr .i64 ((j:Int)-1)=(j:Int)-1:=ze3 h1 hlen
 have hr:(v2.1.take (j+1)).reverse=v2.1[j]::(v2.1.take j).reverse:=by rw[List.take_succ_eq_append_getElem h1,List.reverse_append];rfl
 rw[hr,zl6] at hb
 simp only[hj]
 refine OkG.skip ?_
 refine OkG.seq ?_
 refine OkG.block ?_
 refine OkG.seq ?_
 by_cases hK:(v2.1[j]).Kind=3
 replace hb:=ya7g hb hK
 obtain⟨b,hb0,hb⟩:=za3 hb
 cases b with
 |true=>
  replace hb:=zab hb rfl
  refine OkG.ryB (ds:=[.int .i64 (j:Int),.agg [.int .u8 (v2.1[j]).Kind,.int .i64 (v2.1[j]).Message.Id,.imm 1 ((v2.1[j]).Message.Groups.map (D.int .i64)) 13,.int .i64 (v2.1[j]).Message.Topic,.str (v2.1[j]).Message.Key,.str (v2.1[j]).Message.Body,.int .i64 (v2.1[j]).Id,.int .i64 (v2.1[j]).Time,.imm 1 ((v2.1[j]).Members.map (D.int .i64)) 13,.int .i64 (v2.1[j]).Topic,.int .i64 (v2.1[j]).Who,.int .i64 (v2.1[j]).N]]) (heap':=[(0,.box [.imm 1 (a0.Roster.map (D.int .i64)) 4,.imm 1 (a0.Members.map (D.int .i64)) 4]),(1,.box [.imm 0 [] 0]),(2,.box [.int .i64 0]),(6,.arr 89 12 true (v2.1.map TCommand.n)),(12,.box [.ref 6 12 0 v2.1.length (some uC)]),(15,.box [.int .u8 (v2.1[j]).Kind,.int .i64 (v2.1[j]).Message.Id,.imm 1 ((v2.1[j]).Message.Groups.map (D.int .i64)) 13,.int .i64 (v2.1[j]).Message.Topic,.str (v2.1[j]).Message.Key,.str (v2.1[j]).Message.Body,.int .i64 (v2.1[j]).Id,.int .i64 (v2.1[j]).Time,.imm 1 ((v2.1[j]).Members.map (D.int .i64)) 13,.int .i64 (v2.1[j]).Topic,.int .i64 (v2.1[j]).Who,.int .i64 (v2.1[j]).N])]) (nx':=16) (e:=.normal) zS e1 5 1 ?_ ?_ (hv1:=by simp;omega)
  intro lim hlim
  refine⟨rfl,by decide,⟨[(2,.ptr 0 0),(4,.ptr 1 0),(5,.ptr 2 0),(27,.agg [.int .u8 (v2.1[j]).Kind,.int .i64 (v2.1[j]).Message.Id,.imm 1 ((v2.1[j]).Message.Groups.map (D.int .i64)) 13,.int .i64 (v2.1[j]).Message.Topic,.str (v2.1[j]).Message.Key,.str (v2.1[j]).Message.Body,.int .i64 (v2.1[j]).Id,.int .i64 (v2.1[j]).Time,.imm 1 ((v2.1[j]).Members.map (D.int .i64)) 13,.int .i64 (v2.1[j]).Topic,.int .i64 (v2.1[j]).Who,.int .i64 (v2.1[j]).N]),(10,.ptr 15 0)],[(0,.box [.imm 1 (a0.Roster.map (D.int .i64)) 4,.imm 1 (a0.Members.map (D.int .i64)) 4]),(1,.box [.imm 0 [] 0]),(2,.box [.int .i64 0]),(6,.arr 89 12 true (v2.1.map TCommand.n)),(12,.box [.ref 6 12 0 v2.1.length (some uC)]),(15,.box [.int .u8 (v2.1[j]).Kind,.int .i64 (v2.1[j]).Message.Id,.imm 1 ((v2.1[j]).Message.Groups.map (D.int .i64)) 13,.int .i64 (v2.1[j]).Message.Topic,.str (v2.1[j]).Message.Key,.str (v2.1[j]).Message.Body,.int .i64 (v2.1[j]).Id,.int .i64 (v2.1[j]).Time,.imm 1 ((v2.1[j]).Members.map (D.int .i64)) 13,.int .i64 (v2.1[j]).Topic,.int .i64 (v2.1[j]).Who,.int .i64 (v2.1[j]).N])],16⟩,⟨[],_,_⟩,rfl,rfl,fun l B hB=>?_,fun l B hB=>OkB.drop ?_⟩
  refine OkB.rg zS [2,4,5,27] hB ?_
  refine .rn 2 ?_
  exact .nil ⟨nofun,rfl,rfl⟩
  refine OkB.block ?_
  refine OkB.seq ?_
  refine OkB.seq ?_
  refine OkB.rg zS [2,4,5,10] hB ?_
  refine .rn 3 ?_
  refine .nn ?_
  refine OkB.cond rfl rfl (fun h6=>?_) (fun h6=>?_)
  exact absurd h6 (by simp[hK])
  refine OkB.skip ?_
  refine OkB.seq ?_
  refine OkB.rg zS [2,4,5,10] hB ?_
  refine .rn 3 ?_
  refine .lcall (r:=.bool true) [] rfl rfl rfl rfl rfl (za9 rfl (za9 (zk0 (za9 (zcc rfl (za2 rfl (za2 rfl zc3))) zaj)) zaj)) rfl (zfn (v2.1[j]).Members 98 [.iptr 0 [.imm 1 (a0.Roster.map (D.int .i64)) 4,.imm 1 (a0.Members.map (D.int .i64)) 4]] (fun _=>rfl) (fun _=>rfl) (fun _=>rfl) (fun x0=>zfa x0 a0) (fun x0 y hy=>zkr x0 a0 y hy) true hb0) ?_
  refine .rn 1 ?_
  refine .nn ?_
  refine OkB.cond rfl rfl (fun h7=>?_) (fun h7=>?_)
  exact absurd h7 (by simp)
  exact OkB.skip ⟨rfl,rfl,rfl⟩
  refine OkG.cond rfl rfl (fun h=>by cases h) (fun _=>?_)
  refine OkG.skip ?_
  refine OkG.pYx zS hw1 ?_
  refine⟨rfl,j,?_,⟨by omega,hb⟩,by dsimp only;omega⟩
  show Goes _ _ _ _
  simp only[cmb,shf,zb2,zas,Tryz.MbS,Tryz.MbI,Nat.reduceAdd]
  exact .m [2,4,5,25,42,44] [0,1,2,6,12] []
 |false=>
  replace hb:some (v2.1[j])=z:=by simpa using hb
  subst hb
  refine OkG.ryB (ds:=[.int .i64 (j:Int),.agg [.int .u8 (v2.1[j]).Kind,.int .i64 (v2.1[j]).Message.Id,.imm 1 ((v2.1[j]).Message.Groups.map (D.int .i64)) 13,.int .i64 (v2.1[j]).Message.Topic,.str (v2.1[j]).Message.Key,.str (v2.1[j]).Message.Body,.int .i64 (v2.1[j]).Id,.int .i64 (v2.1[j]).Time,.imm 1 ((v2.1[j]).Members.map (D.int .i64)) 13,.int .i64 (v2.1[j]).Topic,.int .i64 (v2.1[j]).Who,.int .i64 (v2.1[j]).N]]) (heap':=[(0,.box [.imm 1 (a0.Roster.map (D.int .i64)) 4,.imm 1 (a0.Members.map (D.int .i64)) 4]),(1,.box [.imm 1 ((v2.1[j]).Members.map (D.int .i64)) 13]),(2,.box [.int .i64 0]),(6,.arr 89 12 true (v2.1.map TCommand.n)),(12,.box [.ref 6 12 0 v2.1.length (some uC)]),(15,.box [.int .u8 (v2.1[j]).Kind,.int .i64 (v2.1[j]).Message.Id,.imm 1 ((v2.1[j]).Message.Groups.map (D.int .i64)) 13,.int .i64 (v2.1[j]).Message.Topic,.str (v2.1[j]).Message.Key,.str (v2.1[j]).Message.Body,.int .i64 (v2.1[j]).Id,.int .i64 (v2.1[j]).Time,.imm 1 ((v2.1[j]).Members.map (D.int .i64)) 13,.int .i64 (v2.1[j]).Topic,.int .i64 (v2.1[j]).Who,.int .i64 (v2.1[j]).N])]) (nx':=16) (e:=.ret) zS e1 5 1 ?_ ?_ (hv1:=by simp;omega)
  intro lim hlim
  refine⟨rfl,by decide,⟨[(2,.ptr 0 0),(4,.ptr 1 0),(5,.ptr 2 0),(27,.agg [.int .u8 (v2.1[j]).Kind,.int .i64 (v2.1[j]).Message.Id,.imm 1 ((v2.1[j]).Message.Groups.map (D.int .i64)) 13,.int .i64 (v2.1[j]).Message.Topic,.str (v2.1[j]).Message.Key,.str (v2.1[j]).Message.Body,.int .i64 (v2.1[j]).Id,.int .i64 (v2.1[j]).Time,.imm 1 ((v2.1[j]).Members.map (D.int .i64)) 13,.int .i64 (v2.1[j]).Topic,.int .i64 (v2.1[j]).Who,.int .i64 (v2.1[j]).N]),(10,.ptr 15 0)],[(0,.box [.imm 1 (a0.Roster.map (D.int .i64)) 4,.imm 1 (a0.Members.map (D.int .i64)) 4]),(1,.box [.imm 0 [] 0]),(2,.box [.int .i64 0]),(6,.arr 89 12 true (v2.1.map TCommand.n)),(12,.box [.ref 6 12 0 v2.1.length (some uC)]),(15,.box [.int .u8 (v2.1[j]).Kind,.int .i64 (v2.1[j]).Message.Id,.imm 1 ((v2.1[j]).Message.Groups.map (D.int .i64)) 13,.int .i64 (v2.1[j]).Message.Topic,.str (v2.1[j]).Message.Key,.str (v2.1[j]).Message.Body,.int .i64 (v2.1[j]).Id,.int .i64 (v2.1[j]).Time,.imm 1 ((v2.1[j]).Members.map (D.int .i64)) 13,.int .i64 (v2.1[j]).Topic,.int .i64 (v2.1[j]).Who,.int .i64 (v2.1[j]).N])],16⟩,⟨[],_,_⟩,rfl,rfl,fun l B hB=>?_,fun l B hB=>OkB.drop ?_⟩
  refine OkB.rg zS [2,4,5,27] hB ?_
  refine .rn 2 ?_
  exact .nil ⟨nofun,rfl,rfl⟩
  refine OkB.block ?_
  refine OkB.seq ?_
  refine OkB.seq ?_
  refine OkB.rg zS [2,4,5,10] hB ?_
  refine .rn 3 ?_
  refine .nn ?_
  refine OkB.cond rfl rfl (fun h6=>?_) (fun h6=>?_)
  exact absurd h6 (by simp[hK])
  refine OkB.skip ?_
  refine OkB.seq ?_
  refine OkB.rg zS [2,4,5,10] hB ?_
  refine .rn 3 ?_
  refine .lcall (r:=.bool false) [] rfl rfl rfl rfl rfl (za9 rfl (za9 (zk0 (za9 (zcc rfl (za2 rfl (za2 rfl zc3))) zaj)) zaj)) rfl (zfn (v2.1[j]).Members 98 [.iptr 0 [.imm 1 (a0.Roster.map (D.int .i64)) 4,.imm 1 (a0.Members.map (D.int .i64)) 4]] (fun _=>rfl) (fun _=>rfl) (fun _=>rfl) (fun x0=>zfa x0 a0) (fun x0 y hy=>zkr x0 a0 y hy) false hb0) ?_
  refine .rn 1 ?_
  refine .nn ?_
  refine OkB.cond rfl rfl (fun h7=>?_) (fun h7=>?_)
  refine OkB.seq ?_
  refine OkB.rg zS [4,5,10] hB ?_
  refine .rn 4 ?_
  refine .nn ?_
  exact OkB.ret ⟨rfl,rfl,rfl⟩
  exact absurd h7 (by simp)
  refine OkG.cond rfl rfl (fun _=>?_) (fun h=>by cases h)
  refine OkG.goesY (s:=⟨[(1,.ptr 12 0)],Tryz.MbH a0 v2.1 (some v2.1[j]),16⟩) 41 ?_ ?_ ?_
  decide
  show Goes _ _ _ _
  simp only[cmb,shf,zb2,zas,Tryz.MbH,Nat.reduceAdd]
  exact .m [2,4,5,25,42] [0,1,2,6,12] []
  exact OkG.ret ⟨by simp,rfl,rfl⟩
 replace hb:=zab hb hK
 refine OkG.ryB (ds:=[.int .i64 (j:Int),.agg [.int .u8 (v2.1[j]).Kind,.int .i64 (v2.1[j]).Message.Id,.imm 1 ((v2.1[j]).Message.Groups.map (D.int .i64)) 13,.int .i64 (v2.1[j]).Message.Topic,.str (v2.1[j]).Message.Key,.str (v2.1[j]).Message.Body,.int .i64 (v2.1[j]).Id,.int .i64 (v2.1[j]).Time,.imm 1 ((v2.1[j]).Members.map (D.int .i64)) 13,.int .i64 (v2.1[j]).Topic,.int .i64 (v2.1[j]).Who,.int .i64 (v2.1[j]).N]]) (heap':=[(0,.box [.imm 1 (a0.Roster.map (D.int .i64)) 4,.imm 1 (a0.Members.map (D.int .i64)) 4]),(1,.box [.imm 0 [] 0]),(2,.box [.int .i64 0]),(6,.arr 89 12 true (v2.1.map TCommand.n)),(12,.box [.ref 6 12 0 v2.1.length (some uC)]),(15,.box [.int .u8 (v2.1[j]).Kind,.int .i64 (v2.1[j]).Message.Id,.imm 1 ((v2.1[j]).Message.Groups.map (D.int .i64)) 13,.int .i64 (v2.1[j]).Message.Topic,.str (v2.1[j]).Message.Key,.str (v2.1[j]).Message.Body,.int .i64 (v2.1[j]).Id,.int .i64 (v2.1[j]).Time,.imm 1 ((v2.1[j]).Members.map (D.int .i64)) 13,.int .i64 (v2.1[j]).Topic,.int .i64 (v2.1[j]).Who,.int .i64 (v2.1[j]).N])]) (nx':=16) (e:=.normal) zS e1 5 1 ?_ ?_ (hv1:=by simp;omega)
 intro lim hlim
 refine⟨rfl,by decide,⟨[(2,.ptr 0 0),(4,.ptr 1 0),(5,.ptr 2 0),(27,.agg [.int .u8 (v2.1[j]).Kind,.int .i64 (v2.1[j]).Message.Id,.imm 1 ((v2.1[j]).Message.Groups.map (D.int .i64)) 13,.int .i64 (v2.1[j]).Message.Topic,.str (v2.1[j]).Message.Key,.str (v2.1[j]).Message.Body,.int .i64 (v2.1[j]).Id,.int .i64 (v2.1[j]).Time,.imm 1 ((v2.1[j]).Members.map (D.int .i64)) 13,.int .i64 (v2.1[j]).Topic,.int .i64 (v2.1[j]).Who,.int .i64 (v2.1[j]).N]),(10,.ptr 15 0)],[(0,.box [.imm 1 (a0.Roster.map (D.int .i64)) 4,.imm 1 (a0.Members.map (D.int .i64)) 4]),(1,.box [.imm 0 [] 0]),(2,.box [.int .i64 0]),(6,.arr 89 12 true (v2.1.map TCommand.n)),(12,.box [.ref 6 12 0 v2.1.length (some uC)]),(15,.box [.int .u8 (v2.1[j]).Kind,.int .i64 (v2.1[j]).Message.Id,.imm 1 ((v2.1[j]).Message.Groups.map (D.int .i64)) 13,.int .i64 (v2.1[j]).Message.Topic,.str (v2.1[j]).Message.Key,.str (v2.1[j]).Message.Body,.int .i64 (v2.1[j]).Id,.int .i64 (v2.1[j]).Time,.imm 1 ((v2.1[j]).Members.map (D.int .i64)) 13,.int .i64 (v2.1[j]).Topic,.int .i64 (v2.1[j]).Who,.int .i64 (v2.1[j]).N])],16⟩,⟨[],_,_⟩,rfl,rfl,fun l B hB=>?_,fun l B hB=>OkB.drop ?_⟩
 refine OkB.rg zS [2,4,5,27] hB ?_
 refine .rn 2 ?_
 exact .nil ⟨nofun,rfl,rfl⟩
 refine OkB.block ?_
 refine OkB.seq ?_
 refine OkB.seq ?_
 refine OkB.rg zS [2,4,5,10] hB ?_
 refine .rn 3 ?_
 refine .nn ?_
 refine OkB.cond rfl rfl (fun h6=>?_) (fun h6=>?_)
 exact OkB.exit ⟨rfl,rfl,rfl⟩
 exact absurd h6 (by simp[hK])
 refine OkG.cond rfl rfl (fun h=>by cases h) (fun _=>?_)
 refine OkG.skip ?_
 refine OkG.pYx zS hw1 ?_
 refine⟨rfl,j,?_,⟨by omega,hb⟩,by dsimp only;omega⟩
 show Goes _ _ _ _
 simp only[cmb,shf,zb2,zas,Tryz.MbS,Tryz.MbI,Nat.reduceAdd]
 exact .m [2,4,5,25,42,44] [0,1,2,6,12] []
 obtain rfl:k=0:=by have:=of_decide_eq_false hc5;omega
 simp only[List.take_zero,List.reverse_nil,zl6,za5] at hb
 subst hb
 refine OkG.varsY [1] ?_
 exact OkG.exit ⟨by simp,rfl,rfl⟩
 obtain⟨rfl,rfl⟩:=hes
 cases z with
 |some y=>
  obtain rfl:=sj h
  exact⟨.inr rfl,rsi⟩
 |none=>
  obtain⟨v3,hv3,h⟩:=za3 h
  obtain rfl:=sj h
  simp only[Tryz.MbH,Tryz.MbI]
  refine OkB.seq ?_
  refine OkB.rg zS [2,4,5] nc0 ?_
  refine .rn 2 ?_
  refine .cl (zl2 a0.Members v3 hv3) ?_
  refine .rn 2 ?_
  refine .nn ?_
  exact OkB.ret ⟨.inr rfl,rsi⟩
end Go.Proofs
