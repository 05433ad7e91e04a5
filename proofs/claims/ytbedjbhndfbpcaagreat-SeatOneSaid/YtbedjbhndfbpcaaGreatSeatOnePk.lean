/- Texts of the proof. -/
import Derived.Test.YtbedjbhndfbpcaaGreatSeatOnePj
set_option linter.unusedVariables false
set_option linter.unusedSimpArgs false
namespace Go.Tm
open Go.RowKit Go.WideShapes
structure St where
 vars:List (Nat×D)
 heap:List (Nat×Blk)
 nx:Nat
def put{α:Type}:List (Nat×α)->Nat->α->List (Nat×α)
 |[],t,y=>[(t,y)]
 |(a,x)::r,t,y=>bif Nat.beq a t then(a,y)::r else(a,x)::put r t y
def del{α:Type}:List (Nat×α)->Nat->List (Nat×α)
 |[],_=>[]
 |(a,x)::r,t=>bif Nat.beq a t then del r t else(a,x)::del r t
def effL(h:List (Nat×Blk)):List (Nat×Option Blk)->List (Nat×Blk)
 |[]=>h
 |(a,some x)::r=>put (effL h r) a x
 |(a,none)::r=>del (effL h r) a
def keep{α:Type}(V:List Nat):List (Nat×α)->List (Nat×α)
 |[]=>[]
 |(a,x)::r=>bif V.any (Nat.beq a) then(a,x)::keep V r else keep V r
def getR(l:List (Nat×D))(t:Nat):D:=match getL l t with
 |some d=>d
 |none=>.undef
def St.fs(lim:Nat)(st:St):FrS:=⟨getR st.vars,getL st.heap,fun id=>decide (st.nx<=id)&&decide (id<lim)⟩
def St.app(st:St)(dst:Option Nat)(out:Out):St:=
 ⟨match dst with|some t=>put st.vars t out.d|none=>st.vars,effL st.heap out.eff,bif Nat.blt out.nw.1 out.nw.2 then out.nw.2 else st.nx⟩
theorem zk2{α:Type}(l:List (Nat×α))(t:Nat)(y:α)(u:Nat):getL (put l t y) u=if t=u then some y else getL l u:=by
 induction l with
 |nil=>
  by_cases h:t=u
  subst h;simp[put,getL]
  simp[put,getL,zbq h,h]
 |cons x l ih=>
  obtain⟨a,z⟩:=x
  simp only[put]
  cases hat:Nat.beq a t
  simp only[cond_false,getL]
  cases hau:Nat.beq a u
  simp only[cond_false];exact ih
  have:=nb hau
  subst this
  have hne:t≠a:=fun e=>by subst e;simp at hat
  simp[hne]
  have:=nb hat
  subst this
  simp only[cond_true,getL]
  cases hau:Nat.beq a u
  have hne:a≠u:=fun e=>by subst e;simp at hau
  simp[hne]
  have:=nb hau
  subst this
  simp
theorem ya5w{α:Type}(l:List (Nat×α))(t u:Nat):getL (del l t) u=if t=u then none else getL l u:=by
 induction l with
 |nil=>simp[del,getL]
 |cons x l ih=>
  obtain⟨a,z⟩:=x
  simp only[del]
  cases hat:Nat.beq a t
  simp only[cond_false,getL]
  cases hau:Nat.beq a u
  simp only[cond_false];exact ih
  have:=nb hau
  subst this
  have hne:t≠a:=fun e=>by subst e;simp at hat
  simp[hne]
  have:=nb hat
  subst this
  simp only[cond_true,getL]
  rw[ih]
  by_cases e:a=u
  simp[e]
  simp[e,zbq e]
theorem zpo(h:List (Nat×Blk))(l:List (Nat×Option Blk)):getL (effL h l)=effH (getL h) l:=by
 induction l with
 |nil=>simp only[effL];rw[ya0v]
 |cons x l ih=>
  obtain⟨a,z⟩:=x
  funext t
  cases z with
  |some b=>
   simp only[effL,zk2,ih,effH,getL]
   by_cases e:a=t
   subst e;simp
   simp[e,zbq e]
  |none=>
   simp only[effL,ya5w,ih,effH,getL]
   by_cases e:a=t
   subst e;simp
   simp[e,zbq e]
def FrS.on(F:FrS)(lim:Nat)(st:St):Prop:=F.rd=getR st.vars/\F.hp=getL st.heap/\∀id,st.nx<=id->id<lim->F.nu id=true
theorem ya3j{F:FrS}{lim:Nat}{st:St}(h:F.on lim st)(o:Oper)(out:Out)(hn:∀id,out.nw.1<=id->id<out.nw.2->st.nx<=id):(F.app o out).on lim (st.app o.dst out):=by
 obtain⟨h1,h2,h3⟩:=h
 refine⟨?_,?_,?_⟩
 funext u
 simp only[FrS.app,FrS.put,FrS.eff,St.app,h1]
 cases o.dst with
 |none=>simp
 |some t=>
  simp only[getR,zk2]
  by_cases e:t=u
  subst e;simp
  have:(some t==some u)=false:=by simpa using e
  simp[e,this]
 simp only[zu2,St.app,h2,zpo]
 intro id k1 k2
 rw[zu1]
 simp only[St.app] at k1
 simp only[effN,za0,Bool.not_eq_true',Bool.and_eq_false_iff,decide_eq_false_iff_not]
 cases hb:Nat.blt out.nw.1 out.nw.2
 rw[hb] at k1
 refine⟨h3 id k1 k2,?_⟩
 have:¬out.nw.1<out.nw.2:=by
  intro h
  have:Nat.blt out.nw.1 out.nw.2=true:=zap h
  rw[hb] at this;cases this
 by_cases h:out.nw.1<=id
 right;omega
 exact .inl h
 rw[hb] at k1
 simp only[cond_true] at k1
 have hlt:out.nw.1<out.nw.2:=lb hb
 have:=hn out.nw.1 (za4 _) hlt
 exact⟨h3 id (by omega) k2,.inr (by omega)⟩
theorem zw8{P tab own}{ops:Array Oper}{o:Oper}{F:FrS}{lim:Nat}{st:St}{out:Out}(h:F.on lim st)(hf:zm4 P tab own ops o (st.fs lim) out):zm4 P tab own ops o F out:=by
 obtain⟨h1,h2,h3⟩:=h
 refine zou (F:=st.fs lim) (fun t _=>by rw[h1];rfl) (fun i _=>by rw[h2];rfl) (fun i _ _ hi=>?_) hf
 simp only[St.fs,za0,decide_eq_true_eq] at hi
 exact h3 i hi.1 hi.2
inductive Chain (P:Program) (tab:Nat->TI) (own:Bool) (lim:Nat) (ops:Array Oper):List Oper->St->List (Out×FP)->St->Prop where
 |nil (st:St):Chain P tab own lim ops [] st [] st
 |cons {o:Oper} {l:List Oper} {st st':St} {out:Out} {os:List (Out×FP)} (hf:zm4 P tab own ops o (st.fs lim) out) (hn:∀id,out.nw.1<=id->id<out.nw.2->st.nx<=id) (h:Chain P tab own lim ops l (st.app o.dst out) os st'):
   Chain P tab own lim ops (o::l) st ((out,fpOf o (st.fs lim) out)::os) st'
def WRun(P:Program)(tab:Nat->TI)(own:Bool)(lim:Nat)(ops:Array Oper)(l:List Oper)(st:St)(acc:List FP)(Q:St->List FP->Prop):Prop:=
 ∃os st',Chain P tab own lim ops l st os st'/\Q st' (acc++os.map (·.2))
theorem WRun.nil{P tab own lim ops st acc Q}(h:Q st acc):WRun P tab own lim ops [] st acc Q:=⟨[],st,.nil st,by simpa using h⟩
def zqr:List Oper->Nat->Option Nat
 |[],_=>none
 |o::_,0=>o.dst
 | _::r,j+1=>zqr r j
theorem zo0(l:List Oper)(j:Nat):zqr l j=(l[j]?).bind (·.dst):=by
 induction l generalizing j with
 |nil=>rfl
 |cons o l ih=>cases j<;>simp[zqr,ih]
def ziy(o:Oper):Bool:=match o.op with
 |.call c=>match c.callee with
  |.value _=>true
  |.invoke _ _=>true
  | _=>false
 | _=>false
def nwB(nx:Nat)(nw:Nat×Nat):Bool:=(Nat.beq nw.1 0&&Nat.beq nw.2 0)||(Nat.beq nw.1 nx&&Nat.beq nw.2 (nx+1))
def zrj(tab:Nat->TI)(own:Bool)(ops:List Oper)(o:Oper)(st:St):Option (Out×Bool):=
 match o.guard with
 |none=>match aop tab own o.op st.nx true (getR st.vars) (getL st.heap) with
  |some out=>some (out,out.vc&&nwB st.nx out.nw)
  |none=>none
 |some (j,want)=>match zqr ops j with
  |none=>none
  |some t=>match gval want (getR st.vars t) with
   |none=>none
   |some g=>match aop tab own o.op st.nx g (getR st.vars) (getL st.heap) with
    |some out=>some ({d:=.when g out.d,vc:=true,met:=out.met},(!g||out.vc)&&out.eff.isEmpty&&Nat.beq out.nw.1 0&&Nat.beq out.nw.2 0)
    |none=>some ({d:=.when g .undef,vc:=true},!g)
theorem ya0a{nx:Nat}{nw:Nat×Nat}(h:nwB nx nw=true):nw=(0,0)\/nw=(nx,nx+1):=by
 unfold nwB at h
 simp only[zau,za0] at h
 rcases h with⟨h1,h2⟩|⟨h1,h2⟩
 ·left
  have h1:=nb h1
  have h2:=nb h2
  cases nw;simp_all
 ·right
  have h1:=nb h1
  have h2:=nb h2
  cases nw;simp_all
theorem zva{tab:Nat->TI}{own:Bool}{ops:List Oper}{o:Oper}{st:St}{out:Out}{v:Bool}(h:zrj tab own ops o st=some (out,v))(hv:v=true):out.nw=(0,0)\/out.nw=(st.nx,st.nx+1):=by
 unfold zrj at h
 split at h
 split at h
 cases h
 simp only[za0] at hv
 exact ya0a hv.2
 cases h
 split at h
 cases h
 split at h
 cases h
 split at h
 cases h
 exact .inl rfl
 cases h
 exact .inl rfl
theorem ya4t{st:St}{dst:Option Nat}{out:Out}(h:out.nw=(0,0)\/out.nw=(st.nx,st.nx+1)):st.nx<=(st.app dst out).nx:=by
 unfold St.app
 rcases h with h|h<;>rw[h]
 show st.nx<=st.nx
 exact za4 _
 have:Nat.blt st.nx (st.nx+1)=true:=zap (za4 _)
 simp only[this,cond_true]
 omega
theorem zs5{P tab own lim}{ops:Array Oper}{o:Oper}{st:St}{out:Out}{v:Bool}(hc:ziy o=false)(h:zrj tab own ops.toList o st=some (out,v))(hv:v=true)(hlim:(st.app o.dst out).nx<=lim):zm4 P tab own ops o (st.fs lim) out/\∀id,out.nw.1<=id->id<out.nw.2->st.nx<=id:=by
 have hnw:=zva h hv
 refine⟨?_,?_⟩
 ·have core:∀out,aop tab own o.op st.nx true (getR st.vars) (getL st.heap)=some out->out.vc=true->(out.nw=(st.nx,st.nx+1)->st.nx<lim)->Core P tab own o (st.fs lim) out:=by
   intro out h1 h2 h3
   have hx:∃nid,aop tab own o.op nid true (st.fs lim).rd (st.fs lim).hp=some out/\out.vc=true/\(out.nw=(nid,nid+1)->(st.fs lim).nu nid=true):=
    ⟨st.nx,h1,h2,fun e=>by simp[St.fs,h3 e]⟩
   unfold Core
   split
   rename_i c hop
   split
   rename_i f hcc
   simp[ziy,hop,hcc] at hc
   exact hx
   exact hx
  unfold zrj at h
  unfold zm4
  split at h
  rename_i hg
  simp only[hg]
  split at h
  rename_i out' ha
  cases h
  simp only[za0] at hv
  refine core _ ha hv.1 fun e=>?_
  unfold St.app at hlim
  rw[e] at hlim
  simp only[Nat.blt,zap (za4 _),cond_true] at hlim
  omega
  cases h
  ·rename_i j want hg
   simp only[hg]
   split at h
   cases h
   ·rename_i t ht
    split at h
    cases h
    ·rename_i g hgv
     split at h
     ·rename_i out' ha
      cases h
      simp only[za0,zau,Bool.not_eq_true',List.isEmpty_iff] at hv
      obtain⟨⟨⟨v1,v2⟩,v3⟩,v4⟩:=hv
      have hz:out'.nw=(0,0):=by
       have h3:=nb v3
       have h4:=nb v4
       cases hh:out'.nw;simp_all
      refine⟨t,g,out',?_,hgv,fun hgt=>?_,by rw[v2,hz];cases g<;>rfl⟩
      rw[zo0] at ht
      simpa[zo9] using ht
      subst hgt
      exact core _ ha (by simpa using v1) fun e=>by
       rw[hz] at e
       simp only[zaa] at e
       omega
     cases h
     have hgf:g=false:=by simpa using hv
     subst hgf
     refine⟨t,false,⟨.undef,true,[],(0,0),[]⟩,?_,hgv,(fun h=>by cases h),rfl⟩
     rw[zo0] at ht
     simpa[zo9] using ht
 intro id h1 h2
 rcases hnw with e|e<;>rw[e] at h1 h2
 exact absurd h2 (by simp)
 exact h1
def runE(tab:Nat->TI)(own dr:Bool)(ops:List Oper):List Oper->St->Bool->List FP->Option (St×Bool×List FP×List Oper)
 |[],st,vc,fps=>some (st,vc,fps,[])
 |o::l,st,vc,fps=>
  bif ziy o then some (st,vc,fps,o::l) else
  match zrj tab own ops o st with
  |some (out,v)=>runE tab own dr ops l (st.app o.dst out) (vc&&v) (bif dr then fps++[fpOf o ⟨getR st.vars,getL st.heap,fun _=>true⟩ out] else fps)
  |none=>none
theorem zz7(o:Oper)(st:St)(lim:Nat)(out:Out):fpOf o ⟨getR st.vars,getL st.heap,fun _=>true⟩ out=fpOf o (st.fs lim) out:=rfl
theorem WRun.E{P tab own lim}{ops:Array Oper}{dr:Bool}{l l':List Oper}{st st':St}{acc acc':List FP}{Q:St->List FP->Prop}{vc:Bool}
  (h:runE tab own dr ops.toList l st true acc=some (st',vc,acc',l')) (hdr:dr=true\/∀st a b,Q st a->Q st b) (hv:vc=true) (hlim:st'.nx<=lim) (hQ:WRun P tab own lim ops l' st' acc' Q):st.nx<=st'.nx/\WRun P tab own lim ops l st acc Q:=by
 have key:∀(l:List Oper) (st:St) (v0:Bool) (acc:List FP),runE tab own dr ops.toList l st v0 acc=some (st',vc,acc',l')->v0=true/\st.nx<=st'.nx/\WRun P tab own lim ops l st acc Q:=by
  intro l
  induction l with
  |nil=>
   intro st v0 acc h
   simp only[runE,za5,zaa] at h
   obtain⟨rfl,rfl,rfl,rfl⟩:=h
   exact⟨hv,za4 _,hQ⟩
  |cons o l ih=>
   intro st v0 acc h
   simp only[runE] at h
   cases hc:ziy o with
   |true=>
    rw[hc] at h
    simp only[cond_true,za5,zaa] at h
    obtain⟨rfl,rfl,rfl,rfl⟩:=h
    exact⟨hv,za4 _,hQ⟩
   |false=>
    rw[hc] at h
    simp only[cond_false] at h
    split at h
    rename_i out v hs
    obtain⟨hvv,hnx,os,st2,hch,hq⟩:=ih _ _ _ h
    simp only[za0] at hvv
    obtain⟨f1,f2⟩:=zs5 (P:=P) (lim:=lim) hc hs hvv.2 (zao hnx hlim)
    refine⟨hvv.1,zao (ya4t (zva hs hvv.2)) hnx,(out,fpOf o (st.fs lim) out)::os,st2,.cons f1 f2 hch,?_⟩
    rcases hdr with hd|hd
    subst hd
    simp only[cond_true,zz7 o st lim] at hq
    simpa using hq
    exact hd _ _ _ hq
    cases h
 exact(key l st true acc h).2
section
variable {P : Program} {tab : Nat -> TI} {own : Bool} {lim : Nat} {E : En} {n : Nat}
theorem zow(hT:zhz P tab){ops:Array Oper}(hok:zyq n ops=true){Q:Exit->Act->World->Prop}:∀(l:List Oper) (k:Nat) (st st':St) (os:List (Out×FP)) (F:FrS) (a:Act) (w:World) (g:Gh),
  (∀i,l[i]?=ops[k+i]?)->Chain P tab own lim ops l st os st'->F.on lim st->Rel E n F a w g->(∀F' a' w' g',F'.on lim st'->Rel E n F' a' w' g'->Q .normal a' w')->wpOps P ops Q (List.range' k l.length) a w
 |[],k,st,st',os,F,a,w,g,_,h,hF,hR,hQ=>by
  cases h
  exact hQ _ _ _ _ hF hR
 |o::l,k,st,st',os,F,a,w,g,hl,h,hF,hR,hQ=>by
  cases h with
  |cons hf hn h=>
   have hi:ops[k]?=some o:=by have:=hl 0;simpa using this.symm
   obtain⟨h1,h2,h3⟩:=zvr hok hi
   simp only[zak,List.range'_succ]
   rw[wpOps_cons]
   refine zot hT hi h1 h2 h3 hR (zw8 hF hf) fun v w' g' hrel=>?_
   exact zow hT hok l (k+1) _ _ _ _ _ _ _ (fun i=>by have:=hl (i+1);simpa[Nat.add_assoc,Nat.add_comm 1 i] using this) h (ya3j hF o _ hn) hrel hQ
theorem zul{ops:Array Oper}{outs outs':Nat->Out}{fps fps':Nat->FP}:∀(l:List Nat) (F F':FrS),(∀i∈l,outs' i=outs i/\fps' i=fps i)->RunS P tab own ops outs fps l F F'->RunS P tab own ops outs' fps' l F F'
 |[],F,F',_,h=>by cases h;exact .nil _
 |i::l,F,F',he,h=>by
  cases h with
  |cons hs h=>
   obtain⟨e1,e2⟩:=he i (by simp)
   refine .cons ?_ ?_
   obtain⟨o,ho,hf,hp⟩:=hs
   exact⟨o,ho,by rw[e1];exact hf,by rw[e1,e2];exact hp⟩
   have:FrS.at ops outs' i F=FrS.at ops outs i F:=by simp only[FrS.at,e1]
   rw[this]
   exact zul l _ _ (fun j hj=>he j (by simp[hj])) h
def zl7:FP:=⟨[],[],0,0⟩
theorem zqt{ops:Array Oper}:∀(l:List Oper) (k:Nat) (st st':St) (os:List (Out×FP)) (F:FrS),(∀i,l[i]?=ops[k+i]?)->Chain P tab own lim ops l st os st'->F.on lim st->
  os.length=l.length/\∃F',F'.on lim st'/\RunS P tab own ops (fun i=>((os.map (·.1))[i-k]?).getD {d:=.undef,vc:=true}) (fun i=>((os.map (·.2))[i-k]?).getD zl7) (List.range' k l.length) F F'
 |[],k,st,st',os,F,_,h,hF=>by cases h;exact⟨rfl,F,hF,.nil _⟩
 |o::l,k,st,st',os,F,hl,h,hF=>by
  cases h with
  |@cons _ _ _ _ out os' hf hn h=>
   have hi:ops[k]?=some o:=by have:=hl 0;simpa using this.symm
   obtain⟨hlen,F',hF',hrun⟩:=zqt l (k+1) _ _ _ (F.app o out) (fun i=>by have:=hl (i+1);simpa[Nat.add_assoc,Nat.add_comm 1 i] using this) h (ya3j hF o _ hn)
   refine⟨by simp[hlen],F',hF',?_⟩
   simp only[zak,List.range'_succ]
   refine .cons ⟨o,hi,by simpa using zw8 hF hf,?_⟩ ?_
   simp only[Nat.sub_self,zai,List.getElem?_cons_zero,Option.getD_some]
   simp only[fpOf,hF.1,St.fs]
   have hat:FrS.at ops (fun i=>((((out,fpOf o (st.fs lim) out)::os').map (·.1))[i-k]?).getD {d:=.undef,vc:=true}) k F=F.app o out:=by
    simp[FrS.at,hi]
   rw[hat]
   refine zul _ _ _ (fun i hi=>?_) hrun
   have:k+1<=i:=by
    have:=List.mem_range'.1 hi
    omega
   have e:i-k=(i-(k+1))+1:=by omega
   rw[e]
   simp
def RegA(P:Program)(tab:Nat->TI)(own:Bool)(lim:Nat)(ops:Array Oper)(draw:Bool)(st:St)(Q:St->Prop):Prop:=
 WRun P tab own lim ops ops.toList st [] fun st' fps=>(draw=true->zl5 ops (fun i=>(fps[i]?).getD zl7)=true)/\Q st'
theorem zx0(hT:zhz P tab)(hm:P.follows .mixedOrders=true){id:Nat}{ops:Array Oper}{draw:Bool}(hok:zyq n ops=true)(hsl:draw=true->zvd ops=true){st:St}{Q:St->Prop}
  (h:RegA P tab own lim ops draw st Q) {F:FrS} {a:Act} {w:World} {g:Gh} (hF:F.on lim st) (hR:Rel E n F a w g) {Q':Exit->Act->World->Prop}
  (hQ:∀st' F' a' w' g',Q st'->F'.on lim st'->Rel E n F' a' w' g'->Q' .normal a' w'):(Code.region id ops draw).wp P Q' a w:=by
 obtain⟨os,st',hch,hs,hq⟩:=h
 cases draw with
 |false=>
  refine wp_region ?_
  have:=zow hT hok (Q:=Q') ops.toList 0 st st' os F a w g (fun i=>by simp) hch hF hR (fun F' a' w' g' hf hr=>hQ _ _ _ _ _ hq hf hr)
  rw[List.range_eq_range']
  simpa using this
 |true=>
  obtain⟨hlen,F',hF',hrun⟩:=zqt ops.toList 0 st st' os F (fun i=>by simp) hch hF
  have hs':=hs rfl
  simp only[zas] at hs'
  refine zyk (own:=own) hT hm hok (hsl rfl) (outs:=fun i=>((os.map (·.1))[i-0]?).getD {d:=.undef,vc:=true}) (fps:=fun i=>((os.map (·.2))[i-0]?).getD zl7) (by simpa using hs') (F':=F') ?_ hR fun a' w' g' hr=>hQ _ _ _ _ _ hq hF' hr
  rw[List.range_eq_range']
  exact hrun
end
def Sub(a b:St):Prop:=(∀t d,getL a.vars t=some d->getL b.vars t=some d)/\(∀i x,getL a.heap i=some x->getL b.heap i=some x)/\b.nx<=a.nx
def Ok(P:Program)(lim n:Nat)(c:Code)(st:St)(Q:Exit->St->Prop):Prop:=
 ∀(E:En) (F:FrS) (a:Act) (w:World) (g:Gh),F.on lim st->Rel E n F a w g->c.wp P (fun e a' w'=>∃st' F' g',Q e st'/\F'.on lim st'/\Rel E n F' a' w' g') a w
theorem Rel.sub{E n a w g}{F:FrS}{lim:Nat}{st st':St}(hF:F.on lim st)(h:Rel E n F a w g)(hs:Sub st' st):∃F',F'.on lim st'/\Rel E n F' a w g:=by
 obtain⟨h1,h2,h3⟩:=hF
 have hne:∀id,getL st'.heap id≠none->F.hp id≠none:=by
  intro id hid h0
  obtain⟨b,hb⟩:=Option.ne_none_iff_exists'.1 hid
  have:=hs.2.1 id b hb
  rw[h2,this] at h0;cases h0
 have hown:∀b,ownB g (getL st'.heap) b->w.heap.size<=b\/ownB g F.hp b:=by
  rintro b ⟨x,o,hx,hss⟩
  exact .inr ⟨x,o,hne x hx,hss⟩
 have hsome:∀id blk,getL st'.heap id=some blk->F.hp id=some blk:=fun id blk hb=>by rw[h2];exact hs.2.1 id blk hb
 have hrel:=Rel.change h (g':=g) (w':=w) (hp':=getL st'.heap) (nu':=F.nu) (ch:=fun _=>False) ((Keep.refl _ w).mono fun _ _ h=>h) rfl rfl (fun _ _=>rfl) hown (fun id blk hb=>.inl ⟨fun h=>h,hsome id blk hb⟩)
  (fun id id' b o o' k1 k2=>h.mem.inj id id' b o o' (hne _ k1) (hne _ k2)) (fun id hid=>by
   obtain⟨k1,k2⟩:=h.mem.nw id hid
   refine⟨k1,?_⟩
   cases hg:getL st'.heap id with
   |none=>rfl
   |some b=>rw[hsome id b hg] at k2;cases k2) (fun _ _=>rfl) (fun _ h=>h)
 refine⟨⟨getR st'.vars,getL st'.heap,F.nu⟩,⟨rfl,rfl,fun id k1 k2=>h3 id (zao hs.2.2 k1) k2⟩,⟨hrel.sz,hrel.df,fun t=>?_,hrel.mem,hrel.base,hrel.keep,hrel.gz,hrel.gs,hrel.nu⟩⟩
 have hr:=hrel.rd t
 simp only at hr ⊢
 rw[h1] at hr
 cases hg:getL st'.vars t with
 |none=>simp only[getR,hg,rep]
 |some d=>
  have:=hs.1 t d hg
  simp only[getR,hg,this] at hr ⊢
  exact hr
theorem Ok.mono{P lim n c st}{Q Q':Exit->St->Prop}(h:Ok P lim n c st Q)(hq:∀e s,Q e s->Q' e s):Ok P lim n c st Q':=
 fun E F a w g hF hR=>wp_mono (h E F a w g hF hR) fun _ _ _ ⟨st',F',g',h1,h2,h3⟩=>⟨st',F',g',hq _ _ h1,h2,h3⟩
theorem Ok.skip{P lim n st}{Q:Exit->St->Prop}(h:Q .normal st):Ok P lim n .skip st Q:=fun _ F _ _ g hF hR=>wp_skip ⟨st,F,g,h,hF,hR⟩
theorem Ok.exit{P lim n id st}{Q:Exit->St->Prop}(h:Q (.exit id) st):Ok P lim n (.exit id) st Q:=fun _ F _ _ g hF hR=>wp_exit ⟨st,F,g,h,hF,hR⟩
theorem Ok.ret{P lim n st}{Q:Exit->St->Prop}(h:Q .ret st):Ok P lim n .ret st Q:=fun _ F _ _ g hF hR=>wp_ret ⟨st,F,g,h,hF,hR⟩
def seqQ(P:Program)(lim n:Nat)(y:Code)(Q:Exit->St->Prop):Exit->St->Prop:=fun e st'=>match e with|.normal=>Ok P lim n y st' Q|e=>Q e st'
def ya4q(id:Nat)(Q:Exit->St->Prop):Exit->St->Prop:=fun e st'=>match e with|.exit i=>bif Nat.beq i id then Q .normal st' else Q (.exit i) st'|e=>Q e st'
theorem Ok.seq{P lim n x y st}{Q:Exit->St->Prop}(h:Ok P lim n x st (seqQ P lim n y Q)):Ok P lim n (.seq x y) st Q:=by
 intro E F a w g hF hR
 refine wp_seq (wp_mono (h E F a w g hF hR) ?_)
 rintro e a' w' ⟨st',F',g',h1,h2,h3⟩
 cases e with
 |normal=>exact h1 E F' a' w' g' h2 h3
 | _=>exact⟨st',F',g',h1,h2,h3⟩
theorem Ok.block{P lim n id c st}{Q:Exit->St->Prop}(h:Ok P lim n c st (ya4q id Q)):Ok P lim n (.block id c) st Q:=by
 intro E F a w g hF hR
 refine wp_block (wp_mono (h E F a w g hF hR) ?_)
 rintro e a' w' ⟨st',F',g',h1,h2,h3⟩
 cases e with
 |exit i=>
  simp only[Exit.inBlock]
  simp only[ya4q] at h1
  by_cases hi:i=id
  subst hi;simp only[Nat.beq_refl,cond_true,if_true] at h1 ⊢;exact⟨st',F',g',h1,h2,h3⟩
  rw[zbq hi] at h1
  simp only[hi,if_false,cond_false] at h1 ⊢;exact⟨st',F',g',h1,h2,h3⟩
 | _=>exact⟨st',F',g',h1,h2,h3⟩
theorem Ok.cond{P lim n c x y st b}{Q:Exit->St->Prop}(hk:zd0 c=true)(hc:ev (getR st.vars) c=.bool b)(h1:b=true->Ok P lim n x st Q)(h2:b=false->Ok P lim n y st Q):Ok P lim n (.cond c x y) st Q:=by
 intro E F a w g hF hR
 have:=ya01 hR.rd c hk
 rw[hF.1,hc] at this
 simp only[rep] at this
 cases b
 exact wp_cond_false this (h2 rfl E F a w g hF hR)
 exact wp_cond_true this (h1 rfl E F a w g hF hR)
def zjl(n:Nat)(ops:Array Oper)(draw:Bool):Bool:=zyq n ops&&(!draw||zvd ops)
theorem zt6{α:Type}(V:List Nat)(l:List (Nat×α))(t:Nat)(d:α)(h:getL (keep V l) t=some d):getL l t=some d:=by
 induction l with
 |nil=>exact h
 |cons x l ih=>
  obtain⟨a,z⟩:=x
  simp only[keep] at h
  simp only[getL]
  cases hv:V.any (Nat.beq a)
  rw[hv] at h
  simp only[cond_false] at h
  have:=ih h
  cases hb:Nat.beq a t
  exact this
  exfalso
  have e:=nb hb
  subst e
  have:∀(l:List (Nat×α)),getL (keep V l) a=none:=by
   intro l
   induction l with
   |nil=>rfl
   |cons y l ih2=>
    obtain⟨b,w⟩:=y
    simp only[keep]
    cases hvb:V.any (Nat.beq b)
    exact ih2
    simp only[cond_true,getL]
    cases hba:Nat.beq b a
    exact ih2
    exfalso
    have e:=nb hba
    subst e
    rw[hv] at hvb;cases hvb
  rw[this l] at h;cases h
  rw[hv] at h
  simp only[cond_true,getL] at h
  cases hb:Nat.beq a t
  rw[hb] at h;simp only[cond_false] at h ⊢;exact ih h
  rw[hb] at h;exact h
theorem Ok.region{P tab own lim n id ops draw st}{Q:Exit->St->Prop}(hT:zhz P tab)(hm:P.follows .mixedOrders=true)(V:List Nat)(hok:zjl n ops draw=true)(h:RegA P tab own lim ops draw ⟨keep V st.vars,st.heap,st.nx⟩ (Q .normal)):Ok P lim n (.region id ops draw) st Q:=by
 simp only[zjl,za0,zau,Bool.not_eq_true'] at hok
 intro E F a w g hF hR
 obtain⟨F',hF',hR'⟩:=hR.sub hF (st':=⟨keep V st.vars,st.heap,st.nx⟩) ⟨fun t d h=>zt6 V _ t d h,fun _ _ h=>h,za4 _⟩
 refine zx0 hT hm hok.1 (fun hd=>?_) h hF' hR' fun st' F' a' w' g' h1 h2 h3=>⟨st',F',g',h1,h2,h3⟩
 rcases hok.2 with h|h
 rw[hd] at h;cases h
 exact h
theorem ya57{P:Program}{l:List (Nat×TI)}(h:(l.all fun x=>zd3 P x.1 x.2&&(!x.2.eqs||zuy P x.1 x.2))=true):zhz P fun t=>match getL l t with|some x=>x|none=>default:=by
 have key:∀t x,getL l t=some x->zd3 P t x=true/\(x.eqs=true->zuy P t x=true):=by
  intro t x hg
  have hm:(t,x)∈l:=by
   clear h
   induction l with
   |nil=>cases hg
   |cons y l ih=>
    obtain⟨a,z⟩:=y
    simp only[getL] at hg
    cases hb:Nat.beq a t
    rw[hb] at hg;exact zaw _ (ih hg)
    rw[hb] at hg;cases hg;rw[nb hb];simp
  have:=List.all_eq_true.1 h (t,x) hm
  simp only[za0,zau,Bool.not_eq_true'] at this
  refine⟨this.1,fun he=>this.2.resolve_left ?_⟩
  rw[he];simp
 refine⟨fun t hk=>?_,fun t hk=>?_⟩
 all_goals
  simp only at hk ⊢
  cases hg:getL l t with
  |none=>rw[hg] at hk;exact absurd hk (by simp[default,instInhabitedTI.default])
  |some x=>rw[hg] at hk;first|exact(key t x hg).1|exact(key t x hg).2 hk
def zfj:Nat->List D->List (Nat×D)
 | _,[]=>[]
 |k,d::ds=>(k,d)::zfj (k+1) ds
def resD(tab:Nat->TI)(st:St):ResultVar->Option (D×Bool)
 |.tmp t=>some (getR st.vars t,true)
 |.cell a t=>match zql (getL st.heap) ((tab t).kind==2) (tab t).size (getR st.vars a) with
  |some (d,p)=>some (d,p&&(!((tab t).kind==0)&&!((tab t).kind==4)))
  |none=>none
def resL(tab:Nat->TI)(st:St):List ResultVar->Option (List D×Bool)
 |[]=>some ([],true)
 |r::rs=>match resD tab st r,resL tab st rs with
  |some (d,p),some (ds,q)=>some (d::ds,p&&q)
  | _,_=>none
def resT:List D->D
 |[d]=>d
 |l=>.tuple l
section
variable {P : Program} {tab : Nat -> TI} {E : En} {n : Nat} {F : FrS} {a : Act} {w : World} {g : Gh}
def resV(tmps:Array Value):ResultVar->Sem Value
 |.tmp t=>pure (tmps.getD t undef)
 |.cell a t=>do loadVar t (<-asAddr (tmps.getD a undef))
theorem ya6v(hT:zhz P tab){st:St}(hR:Rel E n F a w g)(h1:F.rd=getR st.vars)(h2:F.hp=getL st.heap){r:ResultVar}{d:D}{p:Bool}(h:resD tab st r=some (d,p))(hp:p=true):
  ∃v,(resV a.tmps r).run P w=.ok v w/\rep (cx w g F.hp) d v:=by
 cases r with
 |tmp t=>
  simp only[resD,za5,zaa] at h
  obtain⟨rfl,_⟩:=h
  rw[<-h1]
  exact⟨_,rfl,hR.rd t⟩
 |cell x t=>
  simp only[resD] at h
  split at h
  rename_i d' p' hl
  cases h
  simp only[za0] at hp
  rw[<-h1,<-h2] at hl
  have hq:=ya6c (P:=P) (o:={dst:=none,op:=.load t (.tmp x),type:=0,pos:= "",after:=#[],guard:=none}) hR (t:=t) (ti:=tab t) (x:=.tmp x) rfl (hT.1 t (kd hp.2.1)) (by simpa using hp.2.2) (hR.rd x) hl hp.1
  obtain⟨v,h1,h2⟩:=hq
  refine⟨v,?_,h2⟩
  unfold resV
  have hev:a.eval (.tmp x)=a.tmps.getD x undef:=rfl
  simp only[execOp,Instr.loadAt,hev] at h1
  cases hv:a.tmps.getD x undef with
  |pointer ad=>
   cases ad with
   |none=>rw[hv] at h1;simp[Instr.sureAddr] at h1
   |some ad=>
    rw[hv] at h1
    simp only[Instr.sureAddr,pure_bind,Sem.run_bind] at h1
    have has:asAddr (a.tmps.getD x undef)=pure ad:=by rw[hv];rfl
    show(do loadVar t (<-asAddr (a.tmps.getD x undef)):Sem Value).run P w=.ok v w
    rw[has,pure_bind]
    cases hh:(loadVar t ad).run P w with
    |ok v' w'=>rw[hh] at h1;simpa using h1
    |halt x' w'=>rw[hh] at h1;simp at h1
  | _=>rw[hv] at h1;simp[Instr.sureAddr] at h1
  cases h
theorem ya35(hT:zhz P tab){st:St}(hR:Rel E n F a w g)(h1:F.rd=getR st.vars)(h2:F.hp=getL st.heap):∀(rs:List ResultVar) (ds:List D) (p:Bool),resL tab st rs=some (ds,p)->p=true->
  ∃vs:List Value,(rs.mapM (resV a.tmps)).run P w=.ok vs w/\reps (cx w g F.hp) ds vs
 |[],ds,p,h,_=>by
  simp only[resL,za5,zaa] at h
  obtain⟨rfl,_⟩:=h
  exact⟨[],by simp,by simp only[reps]⟩
 |r::rs,ds,p,h,hp=>by
  simp only[resL] at h
  split at h
  rename_i d p' ds' q e1 e2
  cases h
  simp only[za0] at hp
  obtain⟨v,g1,g2⟩:=ya6v hT hR h1 h2 e1 hp.1
  obtain⟨vs,g3,g4⟩:=ya35 hT hR h1 h2 rs ds' q e2 hp.2
  refine⟨v::vs,?_,?_⟩
  simp only[List.mapM_cons,Sem.run_bind,g1,g3,Result.andThen_ok,Sem.run_pure]
  simp only[reps]
  exact⟨v,vs,rfl,g2,g4⟩
  cases h
theorem zun(hT:zhz P tab){fn:Func}{st:St}(hR:Rel E n F a w g)(h1:F.rd=getR st.vars)(h2:F.hp=getL st.heap){ds:List D}(h:resL tab st fn.results.toList=some (ds,true)):
  ∃v,(results fn a.tmps).run P w=.ok v w/\rep (cx w g F.hp) (resT ds) v:=by
 obtain⟨rvs,g1,g2⟩:=ya35 hT hR h1 h2 _ _ _ h rfl
 have hm:(fn.results.mapM (resV a.tmps)).run P w=.ok rvs.toArray w:=by
  rw[Array.mapM_eq_mapM_toList]
  simp[g1]
 have hunf:results fn a.tmps=(do let vs<-fn.results.mapM (resV a.tmps);pure (if h:vs.size=1 then vs[0] else .tuple vs)):=rfl
 rw[hunf]
 simp only[Sem.run_bind,hm,Result.andThen_ok,Sem.run_pure]
 refine⟨_,rfl,?_⟩
 match ds,g2 with
 |[d],g2=>
  simp only[reps] at g2
  obtain⟨v,vs',rfl,hd,rfl⟩:=g2
  simpa[resT] using hd
 |[],g2=>
  simp only[reps] at g2
  subst g2
  simp only[resT,rep]
  exact⟨[],by simp,by simp only[reps]⟩
 |d1::d2::ds,g2=>
  have hl:=zdh _ _ g2
  have:rvs.toArray.size≠1:=by simp only[List.size_toArray,hl,zak];omega
  rw[dif_neg this]
  simp only[resT,rep]
  exact⟨rvs,rfl,g2⟩
theorem zt3:∀(ds:List D) (vs:List Value) (k t:Nat) {C:Cx},reps C ds vs->∀(tail:Array Value),(∀j v,vs[j]?=some v->tail[k+j]?=some v)->rep C (getR (zfj k ds) t) (tail.getD t undef)
 |[],vs,k,t,C,_,tail,_=>by simp only[zfj,getR,getL,rep]
 |d::ds,vs,k,t,C,h,tail,ht=>by
  simp only[reps] at h
  obtain⟨v,vs',rfl,hd,h⟩:=h
  simp only[zfj,getR,getL]
  cases hb:Nat.beq k t
  simp only[cond_false]
  have:=zt3 ds vs' (k+1) t h tail (fun j u hj=>by have:=ht (j+1) u (by simpa using hj);rwa [show k+(j+1)=k+1+j by omega] at this)
  simpa only[getR] using this
  have e:=nb hb
  subst e
  have:=ht 0 v rfl
  simp only[Nat.add_zero] at this
  simp only[cond_true,Array.getD_eq_getD_getElem?,this,Option.getD_some]
  exact hd
def ya87(tab:Nat->TI)(fn:Func)(H:List (Nat×Blk))(r:D)(eff:List (Nat×Option Blk))(st:St):Prop:=
 ∃ds,resL tab st fn.results.toList=some (ds,true)/\resT ds=r/\∃h2:List (Nat×Blk),(∀i x,getL h2 i=some x->getL st.heap i=some x)/\getL h2=effH (getL H) eff
theorem zrg(hT:zhz P tab){K:FuncId}{fn:Func}{c:Code}{args:List D}{H:List (Nat×Blk)}{r:D}{eff:List (Nat×Option Blk)}{nw:Nat×Nat}(hf:P.funcs[K]?=some fn)(hb:fn.body=some c)(hname:fn.name≠ "runtime.NumGoroutine")(hlen:args.length<=fn.ntmps)
  (hE:∀x∈eff,x.1∈H.map (·.1)\/nw.1<=x.1/\x.1<nw.2)
  (h0:∀(E:En) (F:FrS) (g:Gh) (w:World) (va:Array Value) (R:Ending->World->Prop),F.on nw.2 ⟨zfj 0 args,H,nw.1⟩->Rel E fn.ntmps F {tmps:=va++Array.replicate (fn.ntmps-va.size) undef,defers:=[]} w g->E.w0=w->
   (∀st' F' a' w' g',ya87 tab fn H r eff st'->F'.on nw.2 st'->Rel E fn.ntmps F' a' w' g'->∃v,(results fn a'.tmps).run P w'=.ok v w'/\R (.returned v) w')->Calls P K va w R):zbv P K args H r eff nw:=by
 refine⟨⟨fn,hf,hname,by rw[hb];rfl⟩,fun fr w g hp nu vs hM hH hnw hvs=>?_⟩
 have hsz:vs.length=args.length:=zdh _ _ hvs
 -- what is not the callee's
 let fo:Nat->Prop:=fun b=>∃id o,hp id≠none/\getL H id=none/\g.σ id=some (b,o)
 let gc:Gh:=⟨g.σ,fun b=>g.Z b/\¬fo b,fun m=>(g.zn m).map fun Z b=>Z b/\¬fo b⟩
 let nuc:Nat->Bool:=fun id=>decide (nw.1<=id)&&decide (id<nw.2)
 have hsub:∀id,getL H id≠none->hp id≠none:=by
  intro id h
  obtain⟨b,hb⟩:=Option.ne_none_iff_exists'.1 h
  rw[hH id b hb];simp
 have hfo:∀b,fo b->ownB g hp b:=fun b ⟨id,o,h1,_,h3⟩=>⟨id,o,h1,h3⟩
 have hMc:∀b,ownB gc (getL H) b->ownB g hp b:=fun b ⟨id,o,h1,h2⟩=>⟨id,o,hsub id h1,h2⟩
 have hzc:∀m Z',(cx w gc (getL H)).zone m=some Z'->∃Z,(cx w g hp).zone m=some Z/\∀b,Z' b↔Z b/\¬fo b:=by
  intro m Z' h
  unfold Cx.zone at h ⊢
  split at h
  cases h;simp only[*,if_true];exact⟨_,rfl,fun b=>Iff.rfl⟩
  rename_i hm
  simp only[hm,if_false]
  simp only[cx,gc,Option.map_eq_some_iff] at h ⊢
  obtain⟨Z,h1,rfl⟩:=h
  exact⟨Z,h1,fun b=>Iff.rfl⟩
 have hle:Cx.Le (cx w g hp) (cx w gc (getL H)):=by
  refine⟨fun m _ Z' hZ'=>?_,fun _ _=>rfl,id,id,fun _ _ _=>rfl⟩
  obtain⟨Z,h1,h2⟩:=hzc m Z' hZ'
  exact⟨Z,h1,fun b k1 k2 k3=>⟨fun h=>k1 (hMc b h),(h2 b).2 ⟨k2,fun h=>k1 (hfo b h)⟩,.refl k3⟩⟩
 have hnuc:∀id,nuc id=true->nu id=true:=by
  intro id h
  simp only[nuc,za0,decide_eq_true_eq] at h
  exact hnw id h.1 h.2
 have hmemc:Mem fr w gc (getL H) nuc:=by
  refine⟨fun id blk hb=>zmi (C:=cx w g hp) hle rfl rfl (fun _ _ _=>rfl) (hM.hd id blk (hH id blk hb)),fun id id' b o o' h1 h2=>hM.inj id id' b o o' (hsub id h1) (hsub id' h2),?_,?_,hM.fl⟩
  intro id hid
  obtain⟨h1,h2⟩:=hM.nw id (hnuc id hid)
  refine⟨h1,?_⟩
  cases hg:getL H id with
  |none=>rfl
  |some b=>rw[hH id b hg] at h2;cases h2
  ·obtain⟨Z1,k1,k2,k3⟩:=hM.zs.z1
   obtain⟨Z2,k4,k5⟩:=hM.zs.z2
   have hnf:∀b,w.heap.size<=b->¬fo b:=fun b hb h=>by have:=hM.own_lt (hfo b h);omega
   refine⟨fun b hb=>⟨hM.zs.z0 b hb,hnf b hb⟩,⟨fun b=>Z1 b/\¬fo b,by simp only[gc,k1,Option.map_some],fun b hb=>⟨(k2 b hb.1).1,(k2 b hb.1).2,hb.2⟩,fun b hb=>⟨k3 b hb,hnf b hb⟩⟩,⟨fun b=>Z2 b/\¬fo b,by simp only[gc,k4,Option.map_some],fun b hb=>⟨(k5 b hb.1).1,(k5 b hb.1).2,hb.2⟩⟩,?_,fun b hb=>?_⟩
   rotate_left
   obtain⟨c1,c2,Z,c3,c4⟩:=hM.zs.zo b (hMc b hb)
   have hnb:¬fo b:=by
    rintro⟨id2,o2,f1,f2,f3⟩
    obtain⟨id,o,f4,f5⟩:=hb
    have:=hM.inj id id2 b o o2 (hsub id f4) f1 f5 f3
    subst this
    exact f4 f2
   exact⟨c1,⟨c2,hnb⟩,fun b=>Z b/\¬fo b,by simp only[gc,c3,Option.map_some],c4,hnb⟩
   intro m Zm hm hZ b hb
   simp only[gc,Option.map_eq_some_iff] at hZ
   obtain⟨Z,hZ,rfl⟩:=hZ
   obtain⟨e1,e2,e3,e4,e5⟩:=hM.zs.zr m Z hm hZ b hb.1
   refine⟨e1,e2,⟨e3,hb.2⟩,fun h=>e4 (hMc b h),?_⟩
   intro m' Zm' hne hm' hZ' hb'
   simp only[gc,Option.map_eq_some_iff] at hZ'
   obtain⟨Z',hZ',rfl⟩:=hZ'
   exact e5 m' Z' hne hm' hZ' hb'.1
 have hrel:Rel ⟨w,fr,zty g hp (fun id=>getL H id≠none),gc,nuc⟩ fn.ntmps ⟨getR (zfj 0 args),getL H,nuc⟩ {tmps:=vs.toArray++Array.replicate (fn.ntmps-vs.toArray.size) undef,defers:=[]} w gc:=by
  refine⟨by simp;omega,rfl,fun t=>?_,hmemc,fun id b o h1 h2=>.inr ⟨id,o,h1,hsub id h1,h2⟩,Keep.refl _ _,⟨rfl,rfl⟩,fun _ _=>rfl,fun _ h=>h⟩
  exact zt3 args vs 0 t (zhr hle _ _ hvs) (vs.toArray++Array.replicate (fn.ntmps-vs.toArray.size) undef) (fun j v hj=>by
   rw[Nat.zero_add,Array.getElem?_append_left (by simpa using (List.getElem?_eq_some_iff.1 hj).1)]
   simpa using hj)
 refine h0 _ _ _ w vs.toArray _ ⟨rfl,rfl,fun id h1 h2=>by simp[nuc,h1,h2]⟩ hrel rfl ?_
 rintro st' F0 a' w' g' ⟨ds,hres,rfl,h2,hsub2,hheap⟩ hF0 hrel0
 obtain⟨v,hv1,hv0⟩:=zun hT hrel0 hF0.1 hF0.2.1 hres
 obtain⟨F',hF',hrel'⟩:=hrel0.sub hF0 (st':=⟨[],h2,st'.nx⟩) ⟨(fun t d h=>by cases h),hsub2,za4 _⟩
 have hv2:rep (cx w' g' F'.hp) (resT ds) v:=by
  refine zfv (C:=cx w' g' F0.hp) (C':=cx w' g' F'.hp) ⟨fun m _ Z' hZ'=>⟨Z',hZ',fun b k1 k2 k3=>⟨?_,k2,.refl k3⟩⟩,fun _ _=>rfl,id,id,fun _ _ _=>rfl⟩ _ _ hv0
  rintro⟨id,o,k3,k4⟩
  refine k1 ⟨id,o,?_,k4⟩
  obtain⟨bb,hbb⟩:=Option.ne_none_iff_exists'.1 k3
  rw[hF'.2.1] at hbb
  rw[hF0.2.1,hsub2 id bb hbb]
  simp
 have hFh:F'.hp=effH (getL H) eff:=hF'.2.1.trans hheap
 let g'':Gh:=⟨g'.σ,g.Z,g.zn⟩
 have hgs:∀id,nu id=false->g'.σ id=g.σ id:=by
  intro id h
  refine hrel'.gs id ?_
  cases hc:nuc id
  exact hc
  rw[hnuc id hc] at h;cases h
 have hlive:∀id,effH hp eff id≠none->F'.hp id≠none\/(hp id≠none/\getL H id=none/\getL eff id=none):=by
  intro id hid
  unfold effH at hid
  rw[hFh]
  unfold effH
  cases hg:getL eff id with
  |some ob=>rw[hg] at hid;exact .inl hid
  |none=>
   rw[hg] at hid
   cases hh:getL H id with
   |none=>exact .inr ⟨hid,rfl,rfl⟩
   |some b=>left;simp
 have hnotnu:∀id,hp id≠none->nu id=false:=by
  intro id h
  cases hb:nu id
  rfl
  exact absurd (hM.nw id hb).2 h
 have hown:∀b,ownB g'' (effH hp eff) b->w.heap.size<=b\/ownB g hp b:=by
  rintro b ⟨id,o,h1,h2⟩
  rcases hlive id h1 with h|⟨h3,h4,_⟩
  rcases hrel'.base id b o h h2 with h|⟨id2,o2,_,h5,h6⟩
  exact .inl h
  exact .inr ⟨id2,o2,h5,h6⟩
  exact .inr ⟨id,o,h3,by rw[<-hgs id (hnotnu id h3)];exact h2⟩
 have hle1:Cx.Le (cx w g hp) (cx w' g'' (effH hp eff)):=Mem.le (g':=g'') hrel'.keep rfl rfl (fun id h=>hgs id (by
  cases hb:nu id
  rfl
  exact absurd (hM.nw id hb).1 h)) hown
 have hle2:Cx.Le (cx w' g' F'.hp) (cx w' g'' (effH hp eff)):=by
  refine⟨fun m _ Z' hZ'=>?_,fun _ _=>rfl,id,id,fun _ _ _=>rfl⟩
  have:∃Z,(cx w' g' F'.hp).zone m=some Z/\∀b,Z b->Z' b/\¬fo b:=by
   unfold Cx.zone at hZ' ⊢
   split at hZ'
   cases hZ'
   simp only[*,if_true]
   refine⟨_,rfl,fun b hb=>?_⟩
   have:gc.Z b:=by rw[<-hrel'.gz.1];exact hb
   exact this
   rename_i hm
   simp only[hm,if_false]
   have hzz:g.zn m=some Z':=hZ'
   refine⟨fun b=>Z' b/\¬fo b,?_,fun b hb=>hb⟩
   show g'.zn m=_
   rw[hrel'.gz.2]
   simp only[gc,hzz,Option.map_some]
  obtain⟨Z,h1,h2⟩:=this
  refine⟨Z,h1,fun b k1 k2 k3=>⟨?_,(h2 b k2).1,.refl k3⟩⟩
  rintro⟨id,o,h3,h4⟩
  rcases hlive id h3 with h|⟨h5,h6,_⟩
  exact k1 ⟨id,o,h,h4⟩
  refine(h2 b k2).2 ⟨id,o,h5,h6,?_⟩
  rw[<-hgs id (hnotnu id h5)];exact h4
 have hmem:Mem fr w' g'' (effH hp eff) (effN nu nw):=by
  refine⟨fun id blk hb=>?_,fun id id' b o o' h1 h2 h3 h4=>?_,fun id hid=>?_,?_,hM.flK hrel'.keep⟩
  rcases hlive id (by rw[hb];simp) with h|⟨h1,h2,h3⟩
  have hFb:F'.hp id=some blk:=by
   rw[hFh] at h ⊢
   unfold effH at h hb ⊢
   cases hg:getL eff id with
   |some ob=>rw[hg] at hb;exact hb
   |none=>
    rw[hg] at hb h
    obtain⟨b',hb'⟩:=Option.ne_none_iff_exists'.1 h
    have hb2:getL H id=some b':=hb'
    have:=hH id b' hb2
    have hb3:hp id=some blk:=hb
    rw[this] at hb3
    cases hb3
    exact hb2
  exact zmi (C:=cx w' g' F'.hp) hle2 rfl rfl (fun _ _ _=>rfl) (hrel'.mem.hd id blk hFb)
  have hpb:hp id=some blk:=by
   unfold effH at hb
   rw[h3] at hb
   exact hb
  refine zmi (C:=cx w g hp) hle1 rfl (hgs id (hnotnu id h1)) ?_ (hM.hd id blk hpb)
  intro b o hσ
  refine hrel'.keep.block b (zw1 (C:=cx w g hp) (hM.hd id blk hpb) hσ).1 ?_
  rintro⟨id2,o2,k1,k2,k3⟩
  have:=hM.inj id id2 b o o2 h1 k2 hσ k3
  subst this
  exact k1 h2
  have mixed:∀id id' b o o',F'.hp id≠none->g'.σ id=some (b,o)->hp id'≠none->getL H id'=none->g.σ id'=some (b,o')->False:=by
   intro id id' b o o' k1 k2 k3 k4 k5
   have hlt:=hM.own_lt ⟨id',o',k3,k5⟩
   rcases hrel'.base id b o k1 k2 with h|⟨id2,o2,e1,e2,e3⟩
   have h':w.heap.size<=b:=h
   omega
   have:=hM.inj id' id2 b o' o2 k3 e2 k5 e3
   subst this
   exact e1 k4
  rcases hlive id h1 with k|⟨k1,k2,_⟩
  rcases hlive id' h2 with k'|⟨k1',k2',_⟩
  exact hrel'.mem.inj id id' b o o' k k' h3 h4
  exact(mixed id id' b o o' k h3 k1' k2' (by rw[<-hgs id' (hnotnu id' k1')];exact h4)).elim
  rcases hlive id' h2 with k'|⟨k1',k2',_⟩
  exact(mixed id' id b o' o k' h4 k1 k2 (by rw[<-hgs id (hnotnu id k1)];exact h3)).elim
  exact hM.inj id id' b o o' k1 k1' (by rw[<-hgs id (hnotnu id k1)];exact h3) (by rw[<-hgs id' (hnotnu id' k1')];exact h4)
  simp only[effN,za0,Bool.not_eq_true',Bool.and_eq_false_iff,decide_eq_false_iff_not] at hid
  obtain⟨k1,k2⟩:=hM.nw id hid.1
  refine⟨?_,?_⟩
  show g'.σ id=none
  rw[hrel'.gs id (by
   simp only[nuc,Bool.and_eq_false_iff,decide_eq_false_iff_not]
   exact hid.2)]
  exact k1
  rw[ztf]
  exact k2
  intro hmem
  obtain⟨x,hx,rfl⟩:=List.mem_map.1 hmem
  rcases hE x hx with h|h
  have:getL H x.1≠none:=by
   intro h0
   have hfind:∀(l:List (Nat×Blk)),getL l x.1=none->x.1∉l.map (·.1):=by
    intro l
    induction l with
    |nil=>intro _ h;cases h
    |cons y l ih=>
     obtain⟨q,z⟩:=y
     intro h h'
     simp only[getL] at h
     cases hbq:Nat.beq q x.1
     rw[hbq] at h
     simp only[zai,List.mem_cons] at h'
     rcases h' with h'|h'
     rw[h'] at hbq;simp at hbq
     exact ih h h'
     rw[hbq] at h;cases h
   exact hfind H h0 h
  exact hsub _ this k2
  rcases hid.2 with h'|h'
  exact h' h.1
  exact h' h.2
  ·obtain⟨Z1,k1,k2,k3⟩:=hM.zs.z1
   refine⟨fun b hb=>hM.zs.z0 b (zao hrel'.keep.size hb),⟨Z1,k1,k2,fun b hb=>k3 b (zao hrel'.keep.size hb)⟩,hM.zs.z2,?_,fun b hb=>?_⟩
   rotate_left
   rcases hown b hb with h|h
   exact⟨zao hM.fl.le h,hM.zs.z0 b h,Z1,k1,k3 b h⟩
   exact hM.zs.zo b h
   intro m Zm hm hZ b hb
   obtain⟨e1,e2,e3,e4,e5⟩:=hM.zs.zr m Zm hm hZ b hb
   refine⟨Nat.lt_of_lt_of_le e1 hrel'.keep.size,e2,e3,?_,e5⟩
   intro h
   rcases hown b h with h|h
   omega
   exact e4 h
 exact⟨v,hv1,v,g'',rfl,⟨rfl,rfl⟩,hgs,hrel'.keep,hmem,hown,zfv hle2 _ _ hv2⟩
theorem ztu(hT:zhz P tab){K:FuncId}{fn:Func}{c:Code}{args:List D}{H:List (Nat×Blk)}{r:D}{eff:List (Nat×Option Blk)}{nw:Nat×Nat}(hf:P.funcs[K]?=some fn)(hb:fn.body=some c)(hname:fn.name≠ "runtime.NumGoroutine")(hlen:args.length<=fn.ntmps)
  (hE:∀x∈eff,x.1∈H.map (·.1)\/nw.1<=x.1/\x.1<nw.2)
  (h:Ok P nw.2 fn.ntmps c ⟨zfj 0 args,H,nw.1⟩ fun e st=>(e=.normal\/e=.ret)/\ya87 tab fn H r eff st):zbv P K args H r eff nw:=by
 refine zrg hT hf hb hname hlen hE fun E F g w va R hF hR _ hk=>calls_of_wp hf hb (wp_mono (h E F _ w g hF hR) ?_)
 rintro e a' w' ⟨st',F',g',⟨he,hp⟩,hF',hR'⟩
 obtain⟨v,h1,h2⟩:=hk st' F' a' w' g' hp hF' hR'
 have fin:a'.defers=[]/\∃v,(results fn a'.tmps).run P w'=.ok v w'/\R (.returned v) w':=⟨hR'.df,v,h1,h2⟩
 rcases he with rfl|rfl<;>exact fin
end
end Go.Tm
