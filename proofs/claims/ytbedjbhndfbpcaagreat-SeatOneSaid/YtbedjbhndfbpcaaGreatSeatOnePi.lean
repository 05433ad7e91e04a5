/- Texts of the proof. -/
import Derived.Orders
import Derived.Test.YtbedjbhndfbpcaaGreatSeatOnePh
set_option linter.unusedVariables false
set_option linter.unusedSimpArgs false
namespace Go.Tm
open Go.RowKit Go.WideShapes
def cx0(w:World)(fr:Nat):Cx:=⟨w,fun _=>none,fun _=>False,fun _=>True,fun m=>if m=1 then some (fun b=>fr<=b) else if m=2 then some (fun b=>b<fr) else none,true,false⟩
def zrh(P:Program)(K:FuncId):Prop:=∃fn,P.funcs[K]?=some fn/\fn.name≠ "runtime.NumGoroutine"/\fn.body.isSome=true
def zbi(P:Program)(K:FuncId)(args:List D)(r:D):Prop:=
 zrh P K/\∀(w:World) (vs:List Value),Gw w.heap.size w->reps (cx0 w w.heap.size) args vs->Calls P K vs.toArray w fun e w'=>∃v,e=.returned v/\Keep (fun _=>False) w w'/\okM new1 r=true/\rep (cx0 w' w.heap.size) r v
structure After (fr:Nat) (w:World) (g:Gh) (hp:Nat->Option Blk) (nu:Nat->Bool) (H:Nat->Prop) (r:D) (v:Value) (E:List (Nat×Option Blk)) (nw:Nat×Nat) (w':World) (g':Gh):Prop where
 gz:g'.Z=g.Z/\g'.zn=g.zn
 gs:∀id,nu id=false->g'.σ id=g.σ id
 keep:Keep (zty g hp H) w w'
 mem:Mem fr w' g' (effH hp E) (effN nu nw)
 own:∀b,ownB g' (effH hp E) b->w.heap.size<=b\/ownB g hp b
 res:rep (cx w' g' (effH hp E)) r v
def zbv(P:Program)(K:FuncId)(args:List D)(H:List (Nat×Blk))(r:D)(E:List (Nat×Option Blk))(nw:Nat×Nat):Prop:=
 zrh P K/\∀(fr:Nat) (w:World) (g:Gh) (hp:Nat->Option Blk) (nu:Nat->Bool) (vs:List Value),Mem fr w g hp nu->(∀id b,getL H id=some b->hp id=some b)->(∀id,nw.1<=id->id<nw.2->nu id=true)->reps (cx w g hp) args vs->
  Calls P K vs.toArray w fun e w'=>∃v g',e=.returned v/\After fr w g hp nu (fun id=>getL H id≠none) r v E nw w' g'
mutual
def lend(hp:Nat->Option Blk):D->D×Bool
 |.ref id s off len _=>match hp id with
  |some (.arr _ s' p items)=>(.imm s (unfL ((items.drop off).take len)) 4,Nat.beq s s'&&Nat.ble (off+len) items.length&&p&&okML low3 ((items.drop off).take len)&&(D.idsL ((items.drop off).take len)).isEmpty)
  | _=>(.undef,false)
 |.imm s l c=>(.imm s l (unk c),Nat.blt (c/8) 3||l.isEmpty)
 |.agg l=>(.agg (zei hp l).1,(zei hp l).2)
 |.tuple l=>(.tuple (zei hp l).1,(zei hp l).2)
 |.fn f l=>(.fn f (zei hp l).1,(zei hp l).2)
 |.iface t d=>(.iface t (lend hp d).1,(lend hp d).2)
 |.ptr id off=>match hp id with
  |some (.box cells)=>(.iptr 0 (unfL (cells.drop off)),okML low3 (cells.drop off)&&(D.idsL (cells.drop off)).isEmpty)
  | _=>(.undef,false)
 |.eptr _ _ _ _=>(.undef,false)
 |.mref _=>(.undef,false)
 |.iptr m l=>(.iptr 0 l,Nat.blt m 3)
 |.when _ _=>(.undef,false)
 |d=>(d,true)
def zei(hp:Nat->Option Blk):List D->List D×Bool
 |[]=>([],true)
 |d::ds=>((lend hp d).1::(zei hp ds).1,(lend hp d).2&&(zei hp ds).2)
end
theorem zxv{w:World}{g:Gh}{hp:Nat->Option Blk}{Z:Nat->Prop}(fr:Nat):((cx w g hp).at Z).Le (cx0 w fr):=by
 refine⟨fun m hm Z' hZ'=>?_,fun _ _=>rfl,(fun h=>by cases h),(fun h=>by cases h),(fun h=>by cases h)⟩
 rcases hm with rfl|hm
 simp only[Cx.zone,cx0,if_true,za5] at hZ'
 subst hZ'
 exact⟨Z,by simp[Cx.zone,Cx.at],fun b _ _ h3=>⟨fun h=>h,trivial,.refl h3⟩⟩
 cases hm
section
variable {E : En} {n : Nat} {F : FrS} {a : Act} {w : World} {g : Gh}
theorem zlg{fr:Nat}{d:D}{v:Value}(hR:Rel E n F a w g)(h:rep (cx w g F.hp) d v)(hi:d.ids=[])(hk:okM low3 d=true):rep (cx0 w fr) (unf d) v:=
 zfv (zxv fr) _ _ (zpd hR.mem.low d v hk hi h)
theorem zqq{C:Cx}{q:Nat->Bool}{Zt:Nat->Prop}(hq:∀m,q m=true->∃Z,C.zone m=some Z/\∀b,¬C.M b->Z b->b<C.w.heap.size->Zt b):∀(l:List D) (b o s:Nat),okML q l=true->D.idsL l=[]->zcf C l b o s->zcf (C.at Zt) (unfL l) b o s
 |[],_,_,_,_,_,_=>by simp only[unfL,zcf]
 |d::ds,b,o,s,hk,hi,h=>by
  simp only[zcf,unfL,okML,za0,D.idsL,List.append_eq_nil_iff] at h hk hi ⊢
  obtain⟨⟨v,h1,h2,h3,h4⟩,h5⟩:=h
  exact⟨⟨v,zpd hq d v hk.1 hi.1 h1,h2,h3,h4⟩,zqq hq ds b (o+s) s hk.2 hi.2 h5⟩
theorem zn8{C:Cx}:∀(l:List D) (vs:List Value) (k:Nat),reps C l vs->reps C (l.drop k) (vs.drop k)
 |l,vs,0,h=>by simpa using h
 |[],vs,k+1,h=>by
  simp only[reps] at h
  subst h
  simp only[List.drop_nil,reps]
 |d::ds,vs,k+1,h=>by
  simp only[reps] at h
  obtain⟨v,vs',rfl,_,h⟩:=h
  simpa only[List.drop_succ_cons] using zn8 ds vs' k h
theorem zmm{C:Cx}:∀(l:List D) (vs:List Value) (b o:Nat),reps C l vs->(∀i u,vs[i]?=some u->C.w.cell? ⟨b,o+i,none⟩=some u)->cels C l b o
 |[],_,_,_,_,_=>by simp only[cels]
 |d::ds,vs,b,o,h,hc=>by
  simp only[reps] at h
  obtain⟨v,vs',rfl,h1,h2⟩:=h
  simp only[cels]
  refine⟨⟨v,h1,hc 0 v rfl⟩,zmm ds vs' b (o+1) h2 fun i u hu=>?_⟩
  have:=hc (i+1) u (by simpa using hu)
  rwa [show o+(i+1)=o+1+i by omega] at this
mutual
theorem zga(fr:Nat)(hR:Rel E n F a w g):∀(d:D) (v:Value),rep (cx w g F.hp) d v->(lend F.hp d).2=true->rep (cx0 w fr) (lend F.hp d).1 v
 |.ref id s off len oc,v,h,hp=>by
  simp only[lend] at hp ⊢
  split at hp
  rename_i e s' p items hb
  simp only[za0,List.isEmpty_iff] at hp ⊢
  obtain⟨⟨⟨⟨h1,hl⟩,rfl⟩,hk⟩,hi⟩:=hp
  obtain rfl:=nb h1
  have hl:=lb hl
  simp only[rep] at h
  obtain⟨_,ad,cap,rfl,h1,h2,h3,_,h4⟩:=h
  have hlen:(unfL ((items.drop off).take len)).length=len:=by rw[zm5];simp;omega
  simp only[rep]
  refine⟨ad,cap,by rw[hlen],by omega,h2,by simp,by simp,by simp,h3,by simp,?_⟩
  by_cases hz:len=0
  left;subst hz;simp[unfL]
  right
  rcases h4 with h4|⟨b,T,nn,hσ,rfl,hsh,hn⟩
  omega
  rcases hR.mem.hd id _ hb with⟨rfl,_⟩|⟨b',cs,hσ',hblk,hsz,hel⟩
  simp at hl;omega
  have e:=hσ'.symm.trans hσ
  simp only[za5,zaa] at e
  obtain⟨rfl,_⟩:=e
  intro Z' hZ'
  refine⟨_,rfl,rfl,fun h=>h,?_,⟨(Array.getElem?_eq_some_iff.1 hblk).1,fun h=>by simp at h⟩,?_⟩
  have:Z'=fun _=>True:=by simpa[Cx.zone,cx0] using hZ'.symm
  subst this;trivial
  have he:=zhl _ len _ _ _ (zjc _ off _ _ _ hel)
  have he2:=zqq (C:={cx w g F.hp with rf:=!true}) (Zt:=g.Z) hR.mem.low _ _ _ _ hk hi he
  have:Z'=fun _=>True:=by simpa[Cx.zone,cx0] using hZ'.symm
  subst this
  have:=zh2 (C:=(cx w g F.hp).at g.Z) (C':=cx0 w fr) (zxv fr) _ _ _ _ rfl he2
  rw[Nat.zero_add] at this
  exact zh2 (C:=(cx w g F.hp).at g.Z) (C':=(cx0 w fr).at fun _=>True) (Cx.Le.inner (C:=cx w g F.hp) (C':=cx0 w fr) (fun _ _=>rfl) fun b h1 h2 h3=>⟨fun h=>h,trivial,rfl⟩) _ _ _ _ rfl (by rw[Nat.zero_add] at he2;exact he2)
  cases hp
 |.agg l,v,h,hp=>by
  simp only[lend] at hp ⊢
  simp only[rep] at h ⊢
  obtain⟨cs,rfl,h⟩:=h
  exact⟨cs,rfl,znw fr hR l cs h hp⟩
 |.tuple l,v,h,hp=>by
  simp only[lend] at hp ⊢
  simp only[rep] at h ⊢
  obtain⟨cs,rfl,h⟩:=h
  exact⟨cs,rfl,znw fr hR l cs h hp⟩
 |.fn f l,v,h,hp=>by
  simp only[lend] at hp ⊢
  simp only[rep] at h ⊢
  obtain⟨cs,rfl,h⟩:=h
  exact⟨cs,rfl,znw fr hR l cs h hp⟩
 |.iface t d,v,h,hp=>by
  simp only[lend] at hp ⊢
  simp only[rep] at h ⊢
  obtain⟨x,rfl,h⟩:=h
  exact⟨x,rfl,zga fr hR d x h hp⟩
 |.ptr id off,v,h,hp=>by
  cases hb:F.hp id with
  |none=>simp only[lend,hb,zb0] at hp
  |some blk=>
   cases blk with
   |box cells=>
    simp only[lend,hb,za0,List.isEmpty_iff] at hp ⊢
    obtain⟨hk,hi⟩:=hp
    simp only[rep] at h
    obtain⟨_,b,o,hσ,rfl⟩:=h
    obtain⟨b',cs,T,hσ',hblk,hr,hone⟩:=hR.mem.hd id _ hb
    have e:=hσ'.symm.trans hσ
    simp only[za5,zaa] at e
    obtain⟨rfl,rfl⟩:=e
    have hblk:w.heap[b']?=some (.cells cs T (0,0)):=hblk
    simp only[rep]
    refine⟨_,rfl,rfl,by simp,.inr fun Z' hZ'=>?_⟩
    have:Z'=fun _=>True:=by simpa[Cx.zone,cx0] using hZ'.symm
    subst this
    refine⟨fun h=>h,trivial,(Array.getElem?_eq_some_iff.1 hblk).1,?_⟩
    have h2:=zkh (C:=cx w g F.hp) (Zt:=g.Z) hR.mem.low _ _ hk hi (zn8 cells cs.toList off hr)
    have h3:=zhr (C:=(cx w g F.hp).at g.Z) (C':=(cx0 w fr).at fun _=>True) (Cx.Le.inner (C:=cx w g F.hp) (C':=cx0 w fr) (fun _ _=>rfl) fun b h1 h2 h3=>⟨fun h=>h,trivial,rfl⟩) _ _ h2
    refine zmm _ _ b' _ h3 fun i u hu=>?_
    show w.cell? ⟨b',0+off+i,none⟩=some u
    rw[List.getElem?_drop] at hu
    simp only[World.cell?,hblk,Nat.zero_add]
    simpa using hu
   |arr e s p items=>simp only[lend,hb,zb0] at hp
   |map es=>simp only[lend,hb,zb0] at hp
 |.eptr _ _ _ _,v,h,hp=>by simp only[lend,zb0] at hp
 |.mref _,v,h,hp=>by simp only[lend,zb0] at hp
 |.when _ _,v,h,hp=>by simp only[lend,zb0] at hp
 |.bool b,v,h,_=>by simp only[lend];exact zlg (d:=.bool b) hR h rfl rfl
 |.int k m,v,h,_=>by simp only[lend];exact zlg (d:=.int k m) hR h rfl rfl
 |.str l,v,h,_=>by simp only[lend];exact zlg (d:=.str l) hR h rfl rfl
 |.imm s l c,v,h,hp=>by simp only[lend] at hp ⊢;exact zlg (d:=.imm s l c) hR h rfl (by simpa only[okM,low3] using hp)
 |.iptr m l,v,h,hp=>by simp only[lend] at hp ⊢;exact zlg (d:=.iptr m l) hR h rfl (by simpa only[okM,low3] using hp)
 |.nilptr,v,h,_=>by simp only[lend];exact zlg (d:=.nilptr) hR h rfl rfl
 |.nilfn,v,h,_=>by simp only[lend];exact zlg (d:=.nilfn) hR h rfl rfl
 |.nilIface,v,h,_=>by simp only[lend];exact zlg (d:=.nilIface) hR h rfl rfl
 |.nilmap,v,h,_=>by simp only[lend];exact zlg (d:=.nilmap) hR h rfl rfl
 |.sc,v,h,_=>by simp only[lend];exact zlg (d:=.sc) hR h rfl rfl
 |.undef,v,h,_=>by simp only[lend,rep]
theorem znw(fr:Nat)(hR:Rel E n F a w g):∀(l:List D) (vs:List Value),reps (cx w g F.hp) l vs->(zei F.hp l).2=true->reps (cx0 w fr) (zei F.hp l).1 vs
 |[],vs,h,_=>by simp only[reps,zei] at h ⊢;exact h
 |d::ds,vs,h,hp=>by
  simp only[zei,za0] at hp ⊢
  simp only[reps] at h ⊢
  obtain⟨v,vs',rfl,h1,h2⟩:=h
  exact⟨v,vs',rfl,zga fr hR d v h1 hp.1,znw fr hR ds vs' h2 hp.2⟩
end
mutual
theorem zqd{C C':Cx}{q:Nat->Bool}(hz:∀m,q m=true->∀Z',C'.zone m=some Z'->∃Z,C.zone m=some Z/\∀b,¬C.M b->Z b->b<C.w.heap.size->¬C'.M b/\Z' b/\C'.w.heap[b]?=C.w.heap[b]?)(hs:∀b,b<C.w.heap.size->C'.w.shape? b=C.w.shape? b)(hf:C'.fl=true)(hrf:C.rf=false):
  ∀(d:D) (v:Value),okM q d=true->rep C d v->rep C' d v
 |.bool b,v,_,hr=>by simpa only[rep] using hr
 |.int k n,v,_,hr=>by simpa only[rep] using hr
 |.str l,v,_,hr=>by simpa only[rep] using hr
 |.agg l,v,hk,hr=>by
  simp only[rep,okM] at hr hk ⊢
  obtain⟨cs,rfl,hc⟩:=hr
  exact⟨cs,rfl,zrr hz hs hf hrf l cs hk hc⟩
 |.imm s l c,v,hk,hr=>by
  simp only[rep,okM,zau,List.isEmpty_iff] at hr hk ⊢
  obtain⟨a,cap,rfl,h1,h2,h3,h4,h5,h6,hfl,h7⟩:=hr
  refine⟨a,cap,rfl,h1,h2,h3,h4,h5,h6,fun _=>hf,?_⟩
  rcases h7 with h7|h7
  exact .inl h7
  rcases hk with hk|hk
  right
  intro Z' hZ'
  obtain⟨Z,hZ,hzz⟩:=hz _ hk Z' hZ'
  obtain⟨a0,ha,hs',hM,hlo,hb,he⟩:=h7 Z hZ
  obtain⟨g1,g2,g3⟩:=hzz _ hM hlo hb.1
  exact⟨a0,ha,hs',g1,g2,hb.of_eq g3,zh2 (C:=C.at Z) (C':=C'.at Z') (Cx.Le.inner hs hzz) l _ _ _ g3 he⟩
  exact .inl hk
 |.ref id s off len oc,v,_,hr=>by simp only[rep] at hr;rw[hrf] at hr;cases hr.1
 |.ptr id off,v,_,hr=>by simp only[rep] at hr;rw[hrf] at hr;cases hr.1
 |.eptr id s i off,v,_,hr=>by simp only[rep] at hr;rw[hrf] at hr;cases hr.1
 |.iptr m l,v,hk,hr=>by
  simp only[rep,okM] at hr hk ⊢
  obtain⟨a0,rfl,hs',hfl,hr⟩:=hr
  refine⟨a0,rfl,hs',fun _=>hf,?_⟩
  rcases hr with hr|hr
  exact .inl hr
  right
  intro Z' hZ'
  obtain⟨Z,hZ,hzz⟩:=hz _ hk Z' hZ'
  obtain⟨hM,hlo,hb,he⟩:=hr Z hZ
  obtain⟨g1,g2,g3⟩:=hzz _ hM hlo hb
  exact⟨g1,g2,zxb g3 hb,ztp (C:=C.at Z) (C':=C'.at Z') (Cx.Le.inner hs hzz) l _ _ g3 he⟩
 |.nilptr,v,_,hr=>by simpa only[rep] using hr
 |.tuple l,v,hk,hr=>by
  simp only[rep,okM] at hr hk ⊢
  obtain⟨cs,rfl,hc⟩:=hr
  exact⟨cs,rfl,zrr hz hs hf hrf l cs hk hc⟩
 |.fn f l,v,hk,hr=>by
  simp only[rep,okM] at hr hk ⊢
  obtain⟨cs,rfl,hc⟩:=hr
  exact⟨cs,rfl,zrr hz hs hf hrf l cs hk hc⟩
 |.nilfn,v,_,hr=>by simpa only[rep] using hr
 |.iface t d,v,hk,hr=>by
  simp only[rep,okM] at hr hk ⊢
  obtain⟨x,rfl,hx⟩:=hr
  exact⟨x,rfl,zqd hz hs hf hrf d x hk hx⟩
 |.nilIface,v,_,hr=>by simpa only[rep] using hr
 |.mref id,v,_,hr=>by simp only[rep] at hr;rw[hrf] at hr;cases hr.1
 |.nilmap,v,_,hr=>by simpa only[rep] using hr
 |.sc,v,_,hr=>by simpa only[rep] using hr
 |.when c d,v,hk,hr=>by
  simp only[rep,okM] at hr hk ⊢
  exact⟨fun hc=>zqd hz hs hf hrf d v hk (hr.1 hc),hr.2⟩
 |.undef,v,_,_=>by simp only[rep]
theorem zrr{C C':Cx}{q:Nat->Bool}(hz:∀m,q m=true->∀Z',C'.zone m=some Z'->∃Z,C.zone m=some Z/\∀b,¬C.M b->Z b->b<C.w.heap.size->¬C'.M b/\Z' b/\C'.w.heap[b]?=C.w.heap[b]?)(hs:∀b,b<C.w.heap.size->C'.w.shape? b=C.w.shape? b)(hf:C'.fl=true)(hrf:C.rf=false):
  ∀(l:List D) (vs:List Value),okML q l=true->reps C l vs->reps C' l vs
 |[],vs,_,hr=>by simpa only[reps] using hr
 |d::ds,vs,hk,hr=>by
  simp only[reps,okML,za0] at hr hk ⊢
  obtain⟨v,vs',rfl,h1,h2⟩:=hr
  exact⟨v,vs',rfl,zqd hz hs hf hrf d v hk.1 h1,zrr hz hs hf hrf ds vs' hk.2 h2⟩
end
end
mutual
theorem zvm{C C':Cx}{q:Nat->Bool}(hz:∀m,q m=true->∀Z',C'.zone m=some Z'->∃Z,C.zone m=some Z/\∀b,¬C.M b->Z b->b<C.w.heap.size->¬C'.M b/\Z' b/\C'.w.heap[b]?=C.w.heap[b]?)(hs:∀b,b<C.w.heap.size->C'.w.shape? b=C.w.shape? b)(hf:C'.fl=true)(hrf:C'.rf=true):
  ∀(d:D) (v:Value),(∀i∈d.ids,C'.σ i=C.σ i)->okM q d=true->rep C d v->rep C' d v
 |.bool b,v,_,_,hr=>by simpa only[rep] using hr
 |.int k n,v,_,_,hr=>by simpa only[rep] using hr
 |.str l,v,_,_,hr=>by simpa only[rep] using hr
 |.agg l,v,hi,hk,hr=>by
  simp only[rep,okM,D.ids] at hr hk hi ⊢
  obtain⟨cs,rfl,hc⟩:=hr
  exact⟨cs,rfl,zrq hz hs hf hrf l cs hi hk hc⟩
 |.imm s l c,v,_,hk,hr=>by
  simp only[rep,okM,zau,List.isEmpty_iff] at hr hk ⊢
  obtain⟨a,cap,rfl,h1,h2,h3,h4,h5,h6,hfl,h7⟩:=hr
  refine⟨a,cap,rfl,h1,h2,h3,h4,h5,h6,fun _=>hf,?_⟩
  rcases h7 with h7|h7
  exact .inl h7
  rcases hk with hk|hk
  right
  intro Z' hZ'
  obtain⟨Z,hZ,hzz⟩:=hz _ hk Z' hZ'
  obtain⟨a0,ha,hs',hM,hlo,hb,he⟩:=h7 Z hZ
  obtain⟨g1,g2,g3⟩:=hzz _ hM hlo hb.1
  exact⟨a0,ha,hs',g1,g2,hb.of_eq g3,zh2 (C:=C.at Z) (C':=C'.at Z') (Cx.Le.inner hs hzz) l _ _ _ g3 he⟩
  exact .inl hk
 |.ref id s off len oc,v,hi,_,hr=>by
  simp only[rep,D.ids,List.mem_singleton,forall_eq] at hr hi ⊢
  obtain⟨_,a,cap,rfl,h1,h2,h3,hoc,h4⟩:=hr
  refine⟨hrf,a,cap,rfl,h1,h2,h3,⟨hoc.1,fun ho=>?_⟩,?_⟩
  obtain⟨b,T,n,k1,k2,k3⟩:=hoc.2 ho
  exact⟨b,T,n,by rw[hi];exact k1,by rw[hs _ (zp6 k2)];exact k2,k3⟩
  rcases h4 with h4|⟨b,T,n,k1,k2,k3,k4⟩
  exact .inl h4
  exact .inr ⟨b,T,n,by rw[hi];exact k1,k2,by rw[hs _ (zp6 k3)];exact k3,k4⟩
 |.ptr id off,v,hi,_,hr=>by
  simp only[rep,D.ids,List.mem_singleton,forall_eq] at hr hi ⊢
  obtain⟨_,b,o,hσ,rfl⟩:=hr
  exact⟨hrf,b,o,by rw[hi];exact hσ,rfl⟩
 |.eptr id s i off,v,hi,_,hr=>by
  simp only[rep,D.ids,List.mem_singleton,forall_eq] at hr hi ⊢
  obtain⟨_,hs0,b,o,hσ,rfl⟩:=hr
  exact⟨hrf,hs0,b,o,by rw[hi];exact hσ,rfl⟩
 |.iptr m l,v,_,hk,hr=>by
  simp only[rep,okM] at hr hk ⊢
  obtain⟨a0,rfl,hs',hfl,hr⟩:=hr
  refine⟨a0,rfl,hs',fun _=>hf,?_⟩
  rcases hr with hr|hr
  exact .inl hr
  right
  intro Z' hZ'
  obtain⟨Z,hZ,hzz⟩:=hz _ hk Z' hZ'
  obtain⟨hM,hlo,hb,he⟩:=hr Z hZ
  obtain⟨g1,g2,g3⟩:=hzz _ hM hlo hb
  exact⟨g1,g2,zxb g3 hb,ztp (C:=C.at Z) (C':=C'.at Z') (Cx.Le.inner hs hzz) l _ _ g3 he⟩
 |.nilptr,v,_,_,hr=>by simpa only[rep] using hr
 |.tuple l,v,hi,hk,hr=>by
  simp only[rep,okM,D.ids] at hr hk hi ⊢
  obtain⟨cs,rfl,hc⟩:=hr
  exact⟨cs,rfl,zrq hz hs hf hrf l cs hi hk hc⟩
 |.fn f l,v,hi,hk,hr=>by
  simp only[rep,okM,D.ids] at hr hk hi ⊢
  obtain⟨cs,rfl,hc⟩:=hr
  exact⟨cs,rfl,zrq hz hs hf hrf l cs hi hk hc⟩
 |.nilfn,v,_,_,hr=>by simpa only[rep] using hr
 |.iface t d,v,hi,hk,hr=>by
  simp only[rep,okM,D.ids] at hr hk hi ⊢
  obtain⟨x,rfl,hx⟩:=hr
  exact⟨x,rfl,zvm hz hs hf hrf d x hi hk hx⟩
 |.nilIface,v,_,_,hr=>by simpa only[rep] using hr
 |.mref id,v,hi,_,hr=>by
  simp only[rep,D.ids,List.mem_singleton,forall_eq] at hr hi ⊢
  obtain⟨_,b,o,hσ,rfl⟩:=hr
  exact⟨hrf,b,o,by rw[hi];exact hσ,rfl⟩
 |.nilmap,v,_,_,hr=>by simpa only[rep] using hr
 |.sc,v,_,_,hr=>by simpa only[rep] using hr
 |.when c d,v,hi,hk,hr=>by
  simp only[rep,okM,D.ids] at hr hk hi ⊢
  exact⟨fun hc=>zvm hz hs hf hrf d v hi hk (hr.1 hc),hr.2⟩
 |.undef,v,_,_,_=>by simp only[rep]
theorem zrq{C C':Cx}{q:Nat->Bool}(hz:∀m,q m=true->∀Z',C'.zone m=some Z'->∃Z,C.zone m=some Z/\∀b,¬C.M b->Z b->b<C.w.heap.size->¬C'.M b/\Z' b/\C'.w.heap[b]?=C.w.heap[b]?)(hs:∀b,b<C.w.heap.size->C'.w.shape? b=C.w.shape? b)(hf:C'.fl=true)(hrf:C'.rf=true):
  ∀(l:List D) (vs:List Value),(∀i∈D.idsL l,C'.σ i=C.σ i)->okML q l=true->reps C l vs->reps C' l vs
 |[],vs,_,_,hr=>by simpa only[reps] using hr
 |d::ds,vs,hi,hk,hr=>by
  simp only[reps,okML,za0,D.idsL,List.mem_append] at hr hk hi ⊢
  obtain⟨v,vs',rfl,h1,h2⟩:=hr
  exact⟨v,vs',rfl,zvm hz hs hf hrf d v (fun i h=>hi i (.inl h)) hk.1 h1,zrq hz hs hf hrf ds vs' (fun i h=>hi i (.inr h)) hk.2 h2⟩
end
theorem zxr{C C':Cx}{q:Nat->Bool}(hz:∀m,q m=true->∀Z',C'.zone m=some Z'->∃Z,C.zone m=some Z/\∀b,¬C.M b->Z b->b<C.w.heap.size->¬C'.M b/\Z' b/\C'.w.heap[b]?=C.w.heap[b]?)(hs:∀b,b<C.w.heap.size->C'.w.shape? b=C.w.shape? b)(hf:C'.fl=true)(hrf:C.rf=false):
  ∀(l:List D) (b o s:Nat),C'.w.heap[b]?=C.w.heap[b]?->okML q l=true->zcf C l b o s->zcf C' l b o s
 |[],_,_,_,_,_,_=>by simp only[zcf]
 |d::ds,b,o,s,hb,hk,h=>by
  simp only[zcf,okML,za0] at h hk ⊢
  obtain⟨⟨v,h1,h2,h3,h4⟩,h5⟩:=h
  exact⟨⟨v,zqd hz hs hf hrf d v hk.1 h1,h2,h3,zoe h4 hb⟩,zxr hz hs hf hrf ds b (o+s) s hb hk.2 h5⟩
mutual
theorem zuv{hp:Nat->Option Blk}:∀d:D,(lend hp d).2=true->unf (lend hp d).1=(lend hp d).1/\(lend hp d).1.ids=[]/\okM (fun m=>Nat.beq m 0) (lend hp d).1=true
 |.ref id s off len oc,h=>by
  simp only[lend] at h ⊢
  split at h
  simp[unf,D.ids,okM,show unk 4=4 from rfl]
  cases h
 |.agg l,h=>by
  simp only[lend] at h ⊢
  obtain⟨h1,h2,h3⟩:=zj9 l h
  exact⟨by simp only[unf,h1],by simp only[D.ids,h2],by simp only[okM,h3]⟩
 |.tuple l,h=>by
  simp only[lend] at h ⊢
  obtain⟨h1,h2,h3⟩:=zj9 l h
  exact⟨by simp only[unf,h1],by simp only[D.ids,h2],by simp only[okM,h3]⟩
 |.fn f l,h=>by
  simp only[lend] at h ⊢
  obtain⟨h1,h2,h3⟩:=zj9 l h
  exact⟨by simp only[unf,h1],by simp only[D.ids,h2],by simp only[okM,h3]⟩
 |.iface t d,h=>by
  simp only[lend] at h ⊢
  obtain⟨h1,h2,h3⟩:=zuv d h
  exact⟨by simp only[unf,h1],by simp only[D.ids,h2],by simp only[okM,h3]⟩
 |.ptr id off,h=>by
  simp only[lend] at h ⊢
  split at h
  simp[unf,D.ids,okM]
  cases h
 |.imm s l c,h=>by
  simp only[lend] at h ⊢
  have hu:=zwn c
  have e1:unk (unk c)=unk c:=by rw[ya89 (by omega)];omega
  have e2:unk c/8=0:=by omega
  simp[unf,D.ids,okM,e1,e2]
 |.iptr m l,_=>by simp[lend,unf,D.ids,okM]
 |.eptr _ _ _ _,h|.mref _,h|.when _ _,h=>by simp[lend] at h
 |.bool _,_|.int _ _,_|.str _,_|.nilptr,_|.nilfn,_|.nilIface,_|.nilmap,_|.sc,_|.undef,_=>by simp[lend,unf,D.ids,okM]
theorem zj9{hp:Nat->Option Blk}:∀l:List D,(zei hp l).2=true->unfL (zei hp l).1=(zei hp l).1/\D.idsL (zei hp l).1=[]/\okML (fun m=>Nat.beq m 0) (zei hp l).1=true
 |[],_=>by simp[zei,unfL,D.idsL,okML]
 |d::ds,h=>by
  simp only[zei,za0] at h
  obtain⟨h1,h2,h3⟩:=zuv d h.1
  obtain⟨k1,k2,k3⟩:=zj9 ds h.2
  exact⟨by simp only[zei,unfL,h1,k1],by simp only[zei,D.idsL,h2,k2,zag],by simp only[zei,okML,h3,k3,Bool.and_self]⟩
end
mutual
def zft(hp:Nat->Option Blk):D->D×Bool
 |.ptr id off=>match hp id with
  |some (.box cells)=>(.iptr 0 ((zei hp cells).1.drop off),(zei hp cells).2)
  | _=>(.undef,false)
 |.fn f l=>(.fn f (zex hp l).1,(zex hp l).2)
 |d=>lend hp d
def zex(hp:Nat->Option Blk):List D->List D×Bool
 |[]=>([],true)
 |d::ds=>((zft hp d).1::(zex hp ds).1,(zft hp d).2&&(zex hp ds).2)
end
mutual
def ids2(hp:Nat->Option Blk):D->List Nat
 |.ptr id _=>match hp id with
  |some (.box cells)=>D.idsL cells
  | _=>[]
 |.fn _ l=>zjf hp l
 | _=>[]
def zjf(hp:Nat->Option Blk):List D->List Nat
 |[]=>[]
 |d::ds=>ids2 hp d++zjf hp ds
end
section
variable {E : En} {n : Nat} {F : FrS} {a : Act} {w : World} {g : Gh}
mutual
theorem ya5s(fr:Nat)(hR:Rel E n F a w g):∀(d:D) (v:Value),rep (cx w g F.hp) d v->(zft F.hp d).2=true->rep (cx0 w fr) (zft F.hp d).1 v
 |.ptr id off,v,h,hp=>by
  cases hb:F.hp id with
  |none=>simp only[zft,hb,zb0] at hp
  |some blk=>
   cases blk with
   |box cells=>
    simp only[zft,hb] at hp ⊢
    simp only[rep] at h
    obtain⟨_,b,o,hσ,rfl⟩:=h
    obtain⟨b',cs,T,hσ',hblk,hr,hone⟩:=hR.mem.hd id _ hb
    have e:=hσ'.symm.trans hσ
    simp only[za5,zaa] at e
    obtain⟨rfl,rfl⟩:=e
    have hblk:w.heap[b']?=some (.cells cs T (0,0)):=hblk
    have h2:=znw fr hR cells cs.toList hr hp
    obtain⟨p1,p2,p3⟩:=zj9 cells hp
    have h3:=zkh (C:=cx0 w fr) (Zt:=fun _=>True) (q:=fun m=>Nat.beq m 0) (fun m hm=>⟨fun _=>True,by
     obtain rfl:=nb hm
     simp[Cx.zone,cx0],fun _ _ _ _=>trivial⟩) _ _ p3 p2 h2
    rw[p1] at h3
    simp only[rep]
    refine⟨_,rfl,rfl,by simp,.inr fun Z' hZ'=>?_⟩
    have:Z'=fun _=>True:=by simpa[Cx.zone,cx0] using hZ'.symm
    subst this
    refine⟨fun h=>h,trivial,(Array.getElem?_eq_some_iff.1 hblk).1,?_⟩
    refine zmm _ _ b' _ (zn8 _ _ off h3) fun i u hu=>?_
    show w.cell? ⟨b',0+off+i,none⟩=some u
    rw[List.getElem?_drop] at hu
    simp only[World.cell?,hblk,Nat.zero_add]
    simpa using hu
   |arr e s p items=>simp only[zft,hb,zb0] at hp
   |map es=>simp only[zft,hb,zb0] at hp
 |.fn f l,v,h,hp=>by
  simp only[zft] at hp ⊢
  simp only[rep] at h ⊢
  obtain⟨cs,rfl,h⟩:=h
  exact⟨cs,rfl,zpk fr hR l cs h hp⟩
 |.agg l,v,h,hp=>by simp only[zft] at hp ⊢;exact zga fr hR _ v h hp
 |.tuple l,v,h,hp=>by simp only[zft] at hp ⊢;exact zga fr hR _ v h hp
 |.iface t d,v,h,hp=>by simp only[zft] at hp ⊢;exact zga fr hR _ v h hp
 |.ref id s off len oc,v,h,hp=>by simp only[zft] at hp ⊢;exact zga fr hR _ v h hp
 |.imm s l c,v,h,hp=>by simp only[zft] at hp ⊢;exact zga fr hR _ v h hp
 |.iptr m l,v,h,hp=>by simp only[zft] at hp ⊢;exact zga fr hR _ v h hp
 |.eptr _ _ _ _,v,h,hp=>by simp only[zft] at hp ⊢;exact zga fr hR _ v h hp
 |.mref _,v,h,hp=>by simp only[zft] at hp ⊢;exact zga fr hR _ v h hp
 |.when _ _,v,h,hp=>by simp only[zft] at hp ⊢;exact zga fr hR _ v h hp
 |.bool _,v,h,hp=>by simp only[zft] at hp ⊢;exact zga fr hR _ v h hp
 |.int _ _,v,h,hp=>by simp only[zft] at hp ⊢;exact zga fr hR _ v h hp
 |.str _,v,h,hp=>by simp only[zft] at hp ⊢;exact zga fr hR _ v h hp
 |.nilptr,v,h,hp=>by simp only[zft] at hp ⊢;exact zga fr hR _ v h hp
 |.nilfn,v,h,hp=>by simp only[zft] at hp ⊢;exact zga fr hR _ v h hp
 |.nilIface,v,h,hp=>by simp only[zft] at hp ⊢;exact zga fr hR _ v h hp
 |.nilmap,v,h,hp=>by simp only[zft] at hp ⊢;exact zga fr hR _ v h hp
 |.sc,v,h,hp=>by simp only[zft] at hp ⊢;exact zga fr hR _ v h hp
 |.undef,v,h,hp=>by simp only[zft] at hp ⊢;exact zga fr hR _ v h hp
theorem zpk(fr:Nat)(hR:Rel E n F a w g):∀(l:List D) (vs:List Value),reps (cx w g F.hp) l vs->(zex F.hp l).2=true->reps (cx0 w fr) (zex F.hp l).1 vs
 |[],vs,h,_=>by simp only[reps,zex] at h ⊢;exact h
 |d::ds,vs,h,hp=>by
  simp only[zex,za0] at hp ⊢
  simp only[reps] at h ⊢
  obtain⟨v,vs',rfl,h1,h2⟩:=h
  exact⟨v,vs',rfl,ya5s fr hR d v h1 hp.1,zpk fr hR ds vs' h2 hp.2⟩
end
def newB:Option Blk->Bool
 |some (.arr _ _ p items)=>p&&okML new1 items
 |some _=>false
 |none=>true
def newE(nw:Nat×Nat):List (Nat×Option Blk)->Bool
 |[]=>true
 |(i,b)::r=>Nat.ble nw.1 i&&Nat.blt i nw.2&&newB b&&newE nw r
theorem zvv{nw:Nat×Nat}:∀{eff:List (Nat×Option Blk)} {id:Nat} {ob:Option Blk},newE nw eff=true->getL eff id=some ob->nw.1<=id/\id<nw.2/\newB ob=true
 |(i,b)::r,id,ob,h,hg=>by
  simp only[newE,za0] at h
  obtain⟨⟨⟨h1,h2⟩,h3⟩,h4⟩:=h
  simp only[getL] at hg
  cases hb:Nat.beq i id
  rw[hb] at hg;exact zvv h4 hg
  rw[hb] at hg
  cases hg
  obtain rfl:=nb hb
  exact⟨lb h1,lb h2,h3⟩
def gh0(w:World):Gh:=⟨fun _=>none,fun _=>True,fun m=>if m=1 then some (fun x=>w.heap.size<=x) else if m=2 then some (fun x=>x<w.heap.size) else none⟩
theorem mem0(w:World)(hG:Gw w.heap.size w):Mem w.heap.size w (gh0 w) (fun _=>none) (fun _=>true):=by
 refine⟨(fun id blk h=>by cases h),fun id id' b o o' h=>absurd rfl h,fun id _=>⟨rfl,rfl⟩,⟨fun _ _=>trivial,⟨_,rfl,fun x hx=>⟨hx,trivial⟩,fun x hx=>hx⟩,⟨_,rfl,fun x hx=>⟨hx,trivial⟩⟩,?_,fun b hb=>by obtain⟨id,o,h1,_⟩:=hb;exact absurd rfl h1⟩,⟨za4 _,hG⟩⟩
 intro m Zm hm hz
 have:(gh0 w).zn m=none:=by
  simp only[gh0]
  rw[if_neg (by omega),if_neg (by omega)]
 rw[this] at hz;cases hz
theorem ya7w(w:World):Cx.Le (cx0 w w.heap.size) (cx w (gh0 w) fun _=>none):=by
 refine⟨fun m _ Z' hZ'=>⟨Z',hZ',fun b _ k2 k3=>⟨?_,k2,.refl k3⟩⟩,fun _ _=>rfl,fun _=>rfl,(fun x=>by cases x),(fun x=>by cases x)⟩
 rintro⟨id,o,h1,_⟩
 exact h1 rfl
theorem Rel.adopt(hR:Rel E n F a w g){r:D}{v:Value}{eff:List (Nat×Option Blk)}{nw:Nat×Nat}{w':World}{g1:Gh}(hA:After w.heap.size w (gh0 w) (fun _=>none) (fun _=>true) (fun _=>False) r v eff nw w' g1)
  (hn:∀id,nw.1<=id->id<nw.2->F.nu id=true) (he:newE nw eff=true) (hi:∀i∈r.ids,nw.1<=i/\i<nw.2) (hk:okM new1 r=true):
  ∃g',rep (cx w' g' (effH F.hp eff)) r v/\Rel E n (F.eff eff nw) a w' g':=by
 let g':Gh:=⟨fun id=>if nw.1<=id/\id<nw.2 then g1.σ id else g.σ id,g.Z,g.zn⟩
 have hin:∀id,nw.1<=id/\id<nw.2->g'.σ id=g1.σ id:=fun id h=>if_pos h
 have hout:∀id,¬(nw.1<=id/\id<nw.2)->g'.σ id=g.σ id:=fun id h=>if_neg h
 have hfresh:∀id,nw.1<=id/\id<nw.2->g.σ id=none/\F.hp id=none:=fun id h=>hR.mem.nw id (hn id h.1 h.2)
 have hkeep:Keep (fun _=>False) w w':=hA.keep.mono (by rintro i _ ⟨id,o,h,_⟩;exact h)
 have hlive:∀id,effH F.hp eff id≠none->(nw.1<=id/\id<nw.2/\effH (fun _=>none) eff id≠none)\/(¬(nw.1<=id/\id<nw.2)/\F.hp id≠none):=by
  intro id hid
  unfold effH at hid
  cases hg:getL eff id with
  |some ob=>
   rw[hg] at hid
   obtain⟨h1,h2,_⟩:=zvv he hg
   exact .inl ⟨h1,h2,by unfold effH;rw[hg];exact hid⟩
  |none=>
   rw[hg] at hid
   exact .inr ⟨fun h=>hid (hfresh id h).2,hid⟩
 have hnewown:∀b,ownB g1 (effH (fun _=>none) eff) b->w.heap.size<=b:=by
  intro b hb
  rcases hA.own b hb with h|⟨id,o,h,_⟩
  exact h
  exact absurd rfl h
 have hown:∀b,ownB g' (effH F.hp eff) b->w.heap.size<=b/\ownB g1 (effH (fun _=>none) eff) b\/ownB g F.hp b:=by
  rintro b ⟨id,o,h1,h2⟩
  rcases hlive id h1 with⟨k1,k2,k3⟩|⟨k1,k2⟩
  have hb:ownB g1 (effH (fun _=>none) eff) b:=⟨id,o,k3,by rw[<-hin id ⟨k1,k2⟩];exact h2⟩
  exact .inl ⟨hnewown b hb,hb⟩
  exact .inr ⟨id,o,k2,by rw[<-hout id k1];exact h2⟩
 obtain⟨Z1,z1,z2,z3⟩:=hR.mem.zs.z1
 have hzz:∀(rf:Bool) m,new1 m=true->∀Z',({cx w' g' (effH F.hp eff) with rf:=rf}:Cx).zone m=some Z'->∃Z,({cx w' g1 (effH (fun _=>none) eff) with rf:=rf}:Cx).zone m=some Z/\∀b,¬(cx w' g1 (effH (fun _=>none) eff)).M b->Z b->b<w'.heap.size->¬(cx w' g' (effH F.hp eff)).M b/\Z' b/\w'.heap[b]?=w'.heap[b]?:=by
  intro rf m hm Z' hZ'
  obtain rfl:m=1:=nb hm
  have e1:Z1=Z':=by
   have:g.zn 1=some Z':=by simpa[Cx.zone,cx] using hZ'
   rw[z1] at this
   exact sj this
  subst e1
  refine⟨fun b=>w.heap.size<=b,?_,fun b k1 k2 _=>⟨fun hM=>?_,z3 b k2,rfl⟩⟩
  have:=hA.gz.2
  simp only[Cx.zone,cx,this]
  rfl
  rcases hown b hM with⟨_,h⟩|h
  exact k1 h
  have:=hR.mem.own_lt h
  omega
 have hchange:=hR.change (g':=g') (w':=w') (hp':=effH F.hp eff) (nu':=effN F.nu nw) (ch:=fun _=>False) (hkeep.mono fun _ _ h=>h.elim) rfl rfl
  (fun id h=>hout id fun hx=>by
   obtain⟨k1,k2⟩:=hfresh id hx
   rcases h with h|⟨h,_⟩
   exact h k1
   exact h k2)
  (fun b hb=>(hown b hb).imp_left (·.1))
  (fun id blk hb=>by
   unfold effH at hb
   cases hg:getL eff id with
   |none=>
    rw[hg] at hb
    exact .inl ⟨fun h=>h,hb⟩
   |some ob=>
    rw[hg] at hb
    right
    have hb:ob=some blk:=hb
    subst hb
    obtain⟨h1,h2,h3⟩:=zvv he hg
    have hhd:=hA.mem.hd id blk (by unfold effH;rw[hg])
    cases blk with
    |box cells=>cases h3
    |map es=>cases h3
    |arr e s p items=>
     simp only[newB,za0] at h3
     obtain⟨rfl,h3⟩:=h3
     rcases hhd with⟨k1,k2⟩|⟨b,cs,k1,k2,k3,k4⟩
     exact .inl ⟨k1,(hin id ⟨h1,h2⟩).trans k2⟩
     exact .inr ⟨b,cs,(hin id ⟨h1,h2⟩).trans k1,k2,k3,zxr (C:={cx w' g1 (effH (fun _=>none) eff) with rf:=!true}) (C':={cx w' g' (effH F.hp eff) with rf:=!true}) (q:=new1) (fun m hm Z' hZ'=>hzz _ m hm Z' hZ') (fun _ _=>rfl) rfl rfl _ _ _ _ rfl h3 k4⟩)
  (fun id id' b o o' k1 k2 k3 k4=>by
   rcases hlive id k1 with⟨m1,m2,m3⟩|⟨m1,m2⟩<;>rcases hlive id' k2 with⟨m1',m2',m3'⟩|⟨m1',m2'⟩
   rw[hin id ⟨m1,m2⟩] at k3
   rw[hin id' ⟨m1',m2'⟩] at k4
   exact hA.mem.inj id id' b o o' m3 m3' k3 k4
   rw[hin id ⟨m1,m2⟩] at k3
   rw[hout id' m1'] at k4
   have e1:=hnewown b ⟨id,o,m3,k3⟩
   have e2:=hR.mem.own_lt ⟨id',o',m2',k4⟩
   omega
   rw[hout id m1] at k3
   rw[hin id' ⟨m1',m2'⟩] at k4
   have e1:=hnewown b ⟨id',o',m3',k4⟩
   have e2:=hR.mem.own_lt ⟨id,o,m2,k3⟩
   omega
   rw[hout id m1] at k3
   rw[hout id' m1'] at k4
   exact hR.mem.inj id id' b o o' m2 m2' k3 k4)
  (fun id hid=>by
   simp only[effN,za0,Bool.not_eq_true',Bool.and_eq_false_iff,decide_eq_false_iff_not] at hid
   have hnot:¬(nw.1<=id/\id<nw.2):=fun h=>by rcases hid.2 with h1|h1<;>omega
   obtain⟨k1,k2⟩:=hR.mem.nw id hid.1
   refine⟨(hout id hnot).trans k1,?_⟩
   unfold effH
   cases hg:getL eff id with
   |none=>exact k2
   |some ob=>
    obtain⟨h1,h2,_⟩:=zvv he hg
    exact absurd ⟨h1,h2⟩ hnot)
  (fun id hid=>hout id fun h=>by rw[hn id h.1 h.2] at hid;cases hid)
  (fun id hid=>by
   simp only[effN,za0] at hid
   exact hid.1)
 refine⟨g',?_,hchange⟩
 exact zvm (C:=cx w' g1 (effH (fun _=>none) eff)) (C':=cx w' g' (effH F.hp eff)) (q:=new1) (fun m hm Z' hZ'=>hzz true m hm Z' hZ') (fun _ _=>rfl) rfl rfl r v (fun i h=>hin i (hi i h)) hk hA.res
end
def FrS.put(F:FrS)(dst:Option Nat)(d:D):FrS:=⟨fun t=>bif dst==some t then d else F.rd t,F.hp,F.nu⟩
def FrS.app(F:FrS)(o:Oper)(out:Out):FrS:=(F.eff out.eff out.nw).put o.dst out.d
def ya2e(P:Program)(K:FuncId):Prop:=∀(w:World) (x y:Addr) (la ca lb cb:Nat) (cx cy:Array Value) (Tx Ty:TypeId),x.block≠y.block->x.spot=none->w.heap[x.block]?=some (.cells cx Tx (0,0))->w.heap[y.block]?=some (.cells cy Ty (0,0))->cy.size≠0->
 (callFunc K #[.slice (some x) la ca,.slice (some y) lb cb]).run P w=.ok (.value (.bool false)) w
def ya6j(hp:Nat->Option Blk)(ds:List D)(i j:Nat):Prop:=∃s o n c s' o' n' c' e z p l e' z' p' l',ds=[.ref i s o (n+1) c,.ref j (s'+1) o' (n'+1) c']/\hp i=some (.arr e z p l)/\hp j=some (.arr e' z' p' l')/\i≠j
def Core(P:Program)(tab:Nat->TI)(own:Bool)(o:Oper)(F:FrS)(out:Out):Prop:=
 match o.op with
 |.call c=>match c.callee with
  |.value f=>(∃K caps p ds q r,opd true F.rd f=(.fn (.func K) caps,p)/\p=true/\opds true F.rd c.args.toList=(ds,q)/\q=true/\
    (((zei F.hp (ds++caps)).2=true/\zbi P K (zei F.hp (ds++caps)).1 r/\out={d:=r,vc:=true})\/
     (∃H eff nw,zbv P K (ds++caps) H r eff nw/\(∀id b,getL H id=some b->F.hp id=some b)/\(∀id,nw.1<=id->id<nw.2->F.nu id=true)/\(∀x∈eff,x.1∈H.map (·.1)\/nw.1<=x.1/\x.1<nw.2)/\
      out={d:=r,vc:=true,eff:=eff,nw:=nw,met:=H.map (·.1)})\/
     (∃i j,ya2e P K/\ya6j F.hp (ds++caps) i j/\out={d:=.bool false,vc:=true,met:=[i,j]})\/
     ∃eff nw,(zex F.hp (ds++caps)).2=true/\(zbi P K (zex F.hp (ds++caps)).1 r/\eff=[]/\nw=(0,0)\/
       zbv P K (zex F.hp (ds++caps)).1 [] r eff nw/\newE nw eff=true/\(∀i∈r.ids,nw.1<=i/\i<nw.2)/\okM new1 r=true/\∀id,nw.1<=id->id<nw.2->F.nu id=true)/\
      out={d:=r,vc:=true,eff:=eff,nw:=nw,met:=zjf F.hp (ds++caps)}))\/
    ∃K pre ds r H eff nw,opd true F.rd f=(.fn (.yield K) pre,true)/\opds true F.rd c.args.toList=(ds,true)/\zbv P K (pre++ds) H r eff nw/\(∀id b,getL H id=some b->F.hp id=some b)/\(∀id,nw.1<=id->id<nw.2->F.nu id=true)/\
     (∀x∈eff,x.1∈H.map (·.1)\/nw.1<=x.1/\x.1<nw.2)/\out={d:=r,vc:=true,eff:=eff,nw:=nw,met:=H.map (·.1)}
  | _=>∃nid,aop tab own o.op nid true F.rd F.hp=some out/\out.vc=true/\(out.nw=(nid,nid+1)->F.nu nid=true)
 | _=>∃nid,aop tab own o.op nid true F.rd F.hp=some out/\out.vc=true/\(out.nw=(nid,nid+1)->F.nu nid=true)
section
variable {P : Program} {tab : Nat -> TI} {own : Bool} {E : En} {n : Nat} {F : FrS} {a : Act} {w : World} {g : Gh}
theorem Rel.put(hR:Rel E n F a w g){dst:Option Nat}{d:D}{v:Value}(hd:∀t,dst=some t->t<n)(h:rep (cx w g F.hp) d v):Rel E n (F.put dst d) (a.put dst v) w g:=by
 refine⟨?_,?_,?_,hR.mem,hR.base,hR.keep,hR.gz,hR.gs,hR.nu⟩
 cases dst<;>simp[Act.put,hR.sz]
 cases dst<;>simp[Act.put,hR.df]
 intro t
 cases dst with
 |none=>simpa[FrS.put,Act.put] using hR.rd t
 |some t'=>
  by_cases e:t'=t
  subst e
  have:t'<a.tmps.size:=Nat.lt_of_lt_of_le (hd t' rfl) hR.sz
  simpa[FrS.put,Act.put,Act.eval,this] using h
  have:=hR.rd t
  have e':(t'==t)=false:=by simpa using e
  simpa[FrS.put,Act.put,Act.eval,e',Array.getElem?_setIfInBounds_ne e] using this
theorem zpb{ρ:Operand->Value}{c:Call}{ty:TypeId}{f:Operand}{K:FuncId}{caps:List Value}(hc:c.callee=.value f)(hf:ρ f=.func (.func K) #[] caps.toArray)(w:World):
  (do let d<-resolve ρ c ty;invoke d.target d.args:Sem Next).run P w=(callFunc K ((c.args.toList.map ρ++caps).toArray)).run P w:=by
 simp only[resolve,hc,hf,Deferred.ofValue,pure_bind,invoke]
 congr 2
 apply Array.ext';simp
theorem zyi{ρ:Operand->Value}{c:Call}{ty:TypeId}{f:Operand}{K:FuncId}{pre:List Value}(hc:c.callee=.value f)(hf:ρ f=.func (.func K) pre.toArray #[])(w:World):
  (do let d<-resolve ρ c ty;invoke d.target d.args:Sem Next).run P w=(callFunc K ((pre++c.args.toList.map ρ).toArray)).run P w:=by
 simp only[resolve,hc,hf,Deferred.ofValue,pure_bind,invoke]
 congr 2
 apply Array.ext';simp
theorem zsc{K:FuncId}(h:zrh P K)(args:Array Value)(w:World):(callFunc K args).run P w=.ok (.enter K args) w:=by
 obtain⟨fn,h1,h2,h3⟩:=h
 have h3':fn.body≠none:=by intro e;rw[e] at h3;cases h3
 simp[callFunc,h1,h2,h3']
theorem zv0(hT:zhz P tab){o:Oper}{out:Out}(hok:opOk o.op=true)(hd:∀t,o.dst=some t->t<n)(hR:Rel E n F a w g)(h:Core P tab own o F out){K:Act->World->Prop}{Q:Exit->Act->World->Prop}
  (hK:∀v w' g',Rel E n (F.app o out) (a.put o.dst v) w' g'->K (a.put o.dst v) w'):o.wp P a w K Q:=by
 have plain:(∃nid,aop tab own o.op nid true F.rd F.hp=some out/\out.vc=true/\(out.nw=(nid,nid+1)->F.nu nid=true))->o.wp P a w K Q:=by
  rintro⟨nid,h1,h2,h3⟩
  obtain⟨v,w',g',hrun,hrep,hrel⟩:=ya4u hT hok hR h3 h1 h2
  have:=hK v w' g' (Rel.put hrel hd hrep)
  unfold Oper.wp
  rcases hrun with hrun|⟨hrun,rfl⟩<;>rw[hrun]
  exact this
  exact this
 unfold Core at h
 split at h
 ·rename_i c hop
  split at h
  ·rename_i f hc
   rcases h with h|⟨k,pre,ds,r,H,eff,nw,h1,h2,hcall,hH,hnw,_,rfl⟩
   case inr=>
    have hx1:∀x∈o.op.operands.toList,zd0 x=true:=fun x hx=>List.all_eq_true.1 hok x hx
    have hmf:f∈o.op.operands.toList:=by rw[hop];simp[Op.operands,Call.operands,hc]
    have hma:∀x∈c.args.toList,x∈o.op.operands.toList:=by
     intro x hx
     rw[hop]
     simp only[Op.operands,Call.operands,hc,Array.toList_append,List.mem_append]
     exact .inr hx
    have hf:=zkk hR.rd (hx1 f hmf) h1 rfl rfl
    simp only[rep] at hf
    obtain⟨cv,hfv,hcv⟩:=hf
    have ha:=zki hR.rd _ _ _ h2 rfl (List.all_eq_true.2 fun x hx=>hx1 x (hma x hx))
    have hall:=zkj _ _ _ _ hcv ha
    have hrun:zrh P k->(execOp a.eval o).run P w=.ok (.enter k (cv++c.args.toList.map a.eval).toArray) w:=by
     intro he
     unfold execOp
     simp only[hop]
     rw[zyi hc hfv,zsc he]
    have hC:=hcall.2 E.fr w g F.hp F.nu _ hR.mem hH hnw hall
    unfold Oper.wp
    rw[hrun hcall.1]
    refine Calls.mono hC ?_
    rintro e w' ⟨v,g',rfl,hA⟩
    refine hK v w' g' ?_
    have hs:∀id,g.σ id≠none->g'.σ id=g.σ id:=by
     intro id h
     refine hA.gs id ?_
     cases hb:F.nu id
     rfl
     exact absurd (hR.mem.nw id hb).1 h
    have hle:Cx.Le (cx w g F.hp) (cx w' g' (effH F.hp eff)):=Mem.le hA.keep hA.gz.1 hA.gz.2 hs hA.own
    unfold FrS.app
    refine Rel.put ⟨hR.sz,hR.df,fun t=>zfv hle _ _ (hR.rd t),hA.mem,?_,?_,⟨hA.gz.1.trans hR.gz.1,hA.gz.2.trans hR.gz.2⟩,?_,?_⟩ hd hA.res
    intro id b o h1 h2
    rcases hA.own b ⟨id,o,h1,h2⟩ with h|⟨id',o',h3,h4⟩
    exact .inl (zao hR.keep.size h)
    exact hR.base id' b o' h3 h4
    refine hR.keep.trans (hA.keep.mono ?_)
    rintro b hb ⟨id,o,_,h1,h2⟩
    rcases hR.base id b o h1 h2 with h|h
    exact .inr h
    exact .inl h
    intro id h
    have hf:F.nu id=false:=by
     cases hb:F.nu id
     rfl
     rw[hR.nu id hb] at h;cases h
    rw[hA.gs id hf,hR.gs id h]
    intro id h
    simp only[FrS.eff,effN,za0] at h
    exact hR.nu id h.1
   obtain⟨k,caps,p,ds,q,r,h1,hp,h2,hq,hcall⟩:=h
   have hx1:∀x∈o.op.operands.toList,zd0 x=true:=fun x hx=>List.all_eq_true.1 hok x hx
   have hmf:f∈o.op.operands.toList:=by rw[hop];simp[Op.operands,Call.operands,hc]
   have hma:∀x∈c.args.toList,x∈o.op.operands.toList:=by
    intro x hx
    rw[hop]
    simp only[Op.operands,Call.operands,hc,Array.toList_append,List.mem_append]
    exact .inr hx
   have hf:=zkk hR.rd (hx1 f hmf) h1 hp rfl
   simp only[rep] at hf
   obtain⟨cv,hfv,hcv⟩:=hf
   have ha:=zki hR.rd _ _ _ h2 hq (List.all_eq_true.2 fun x hx=>hx1 x (hma x hx))
   have hall:=zkj _ _ _ _ ha hcv
   have hrun:zrh P k->(execOp a.eval o).run P w=.ok (.enter k (c.args.toList.map a.eval++cv).toArray) w:=by
    intro he
    unfold execOp
    simp only[hop]
    rw[zpb hc hfv,zsc he]
   have plainP:∀args,reps (cx0 w w.heap.size) args (c.args.toList.map a.eval++cv)->zbi P k args r->∀met,out={d:=r,vc:=true,met:=met}->o.wp P a w K Q:=by
    intro args hargs hc1 met hout
    subst hout
    have hC:=hc1.2 w _ hR.mem.fl.gw hargs
    unfold Oper.wp
    rw[hrun hc1.1]
    refine Calls.mono hC ?_
    rintro e w' ⟨v,rfl,hkeep,hnew,hrep⟩
    refine hK v w' g ?_
    have hrel:=Rel.ext hR hkeep
    unfold FrS.app
    simp only[zml]
    refine Rel.put hrel hd ?_
    refine zqd (C:=cx0 w' w.heap.size) (C':=cx w' g F.hp) (q:=new1) ?_ (fun _ _=>rfl) rfl rfl r v hnew hrep
    intro m hm Z' hZ'
    have hm:m=1:=nb hm
    subst hm
    obtain⟨Z1,k1,k2,k3⟩:=hR.mem.zs.z1
    have:Z'=Z1:=by
     have:g.zn 1=some Z':=by simpa[Cx.zone,cx] using hZ'
     rw[k1] at this
     exact(sj this).symm
    subst this
    refine⟨fun b=>w.heap.size<=b,by simp[Cx.zone,cx0],fun b _ hb _=>⟨?_,k3 b hb,rfl⟩⟩
    intro hM
    have:=hR.mem.own_lt hM
    omega
   rcases hcall with⟨hl,hcall,hout⟩|⟨H,eff,nw,hcall,hH,hnw,_,rfl⟩|⟨i,j,hov,hap,rfl⟩|⟨eff,nw,hl,hcall|⟨hcall,he,hi,hk,hnw⟩,hout⟩
   exact plainP _ (znw w.heap.size hR (ds++caps) _ hall hl) hcall _ hout
   have hC:=hcall.2 E.fr w g F.hp F.nu _ hR.mem hH hnw hall
   unfold Oper.wp
   rw[hrun hcall.1]
   refine Calls.mono hC ?_
   rintro e w' ⟨v,g',rfl,hA⟩
   refine hK v w' g' ?_
   have hs:∀id,g.σ id≠none->g'.σ id=g.σ id:=by
    intro id h
    refine hA.gs id ?_
    cases hb:F.nu id
    rfl
    exact absurd (hR.mem.nw id hb).1 h
   have hle:Cx.Le (cx w g F.hp) (cx w' g' (effH F.hp eff)):=Mem.le hA.keep hA.gz.1 hA.gz.2 hs hA.own
   unfold FrS.app
   refine Rel.put ⟨hR.sz,hR.df,fun t=>zfv hle _ _ (hR.rd t),hA.mem,?_,?_,⟨hA.gz.1.trans hR.gz.1,hA.gz.2.trans hR.gz.2⟩,?_,?_⟩ hd hA.res
   intro id b o h1 h2
   rcases hA.own b ⟨id,o,h1,h2⟩ with h|⟨id',o',h3,h4⟩
   exact .inl (zao hR.keep.size h)
   exact hR.base id' b o' h3 h4
   refine hR.keep.trans (hA.keep.mono ?_)
   rintro b hb ⟨id,o,_,h1,h2⟩
   rcases hR.base id b o h1 h2 with h|h
   exact .inr h
   exact .inl h
   intro id h
   have hf:F.nu id=false:=by
    cases hb:F.nu id
    rfl
    rw[hR.nu id hb] at h;cases h
   rw[hA.gs id hf,hR.gs id h]
   intro id h
   simp only[FrS.eff,effN,za0] at h
   exact hR.nu id h.1
   obtain⟨s,o',n',c',s',o2,n2,c2,e,z,pp,l,e',z',pp',l',hds,hb1,hb2,hij⟩:=hap
   rw[hds] at hall
   simp only[reps] at hall
   obtain⟨v1,_,hvs,h3,v2,_,rfl,h4,rfl⟩:=hall
   simp only[rep] at h3 h4
   obtain⟨_,ad1,cap1,rfl,m1,_,_,_,m4⟩:=h3
   obtain⟨_,ad2,cap2,rfl,k1,_,_,_,k4⟩:=h4
   rcases m4 with m4|⟨b1,T1,nn1,hσ1,rfl,hsh1,hnn1⟩
   omega
   rcases k4 with k4|⟨b2,T2,nn2,hσ2,rfl,hsh2,hnn2⟩
   omega
   have row:∀{i b e z pp l T nn},F.hp i=some (.arr e z pp l)->g.σ i=some (b,0)->w.shape? b=some (T,nn)->∃cs,w.heap[b]?=some (.cells cs e (0,0))/\cs.size=nn:=by
    intro i b e z pp l T nn hb hσ hsh
    rcases hR.mem.hd i _ hb with⟨_,h⟩|⟨b',cs,hσ',hblk,_,_⟩
    have h:g.σ i=none:=h
    rw[hσ] at h;cases h
    have e0:=hσ'.symm.trans hσ
    simp only[za5,zaa] at e0
    obtain⟨rfl,_⟩:=e0
    have hblk':w.heap[b']?=some (.cells cs e (0,0)):=hblk
    refine⟨cs,hblk',?_⟩
    have:w.shape? b'=some (e,cs.size):=by simp[World.shape?,hblk']
    rw[hsh] at this
    simp only[za5,zaa] at this
    exact this.2.symm
   obtain⟨cs1,q1,q2⟩:=row hb1 hσ1 hsh1
   obtain⟨cs2,q3,q4⟩:=row hb2 hσ2 hsh2
   have hne:b1≠b2:=by
    intro hbb
    subst hbb
    exact hij (hR.mem.inj i j b1 0 0 (by rw[hb1];simp) (by rw[hb2];simp) hσ1 hσ2)
   have hrun2:(execOp a.eval o).run P w=.ok (.value (.bool false)) w:=by
    unfold execOp
    simp only[hop]
    rw[zpb hc hfv,hvs]
    refine hov w ⟨b1,o'*s,none⟩ ⟨b2,o2*(s'+1),none⟩ _ _ _ _ cs1 cs2 e e' hne rfl q1 q3 ?_
    rw[q4]
    have:1*1<=cap2*(s'+1):=Nat.mul_le_mul (by omega) (by omega)
    omega
   have:=hK (.bool false) w g (by
    unfold FrS.app
    simp only[zml]
    exact Rel.put hR hd (by simp only[rep]))
   unfold Oper.wp
   rw[hrun2]
   exact this
   obtain⟨hcall,rfl,rfl⟩:=hcall
   exact plainP _ (zpk w.heap.size hR (ds++caps) _ hall hl) hcall _ hout
   subst hout
   have hargs:=zhr (ya7w w) _ _ (zpk w.heap.size hR (ds++caps) _ hall hl)
   have hC:=hcall.2 w.heap.size w (gh0 w) (fun _=>none) (fun _=>true) _ (mem0 w hR.mem.fl.gw) (fun id b h=>by cases h) (fun _ _ _=>rfl) hargs
   unfold Oper.wp
   rw[hrun hcall.1]
   refine Calls.mono hC ?_
   rintro e w' ⟨v,g1,rfl,hA⟩
   have hA':After w.heap.size w (gh0 w) (fun _=>none) (fun _=>true) (fun _=>False) r v eff nw w' g1:=by
    have e1:(fun id=>getL ([]:List (Nat×Blk)) id≠none)=fun _=>False:=by funext id;simp[getL]
    rw[e1] at hA
    exact hA
   obtain⟨g',hr',hrel⟩:=hR.adopt hA' hnw he hi hk
   refine hK v w' g' ?_
   unfold FrS.app
   exact Rel.put hrel hd hr'
  exact plain h
 exact plain h
def gval(want:Bool):D->Option Bool
 |.bool b=>some (b==want)
 |.when c (.bool b)=>some (c&&(b==want))
 |.when false _=>some false
 | _=>none
def zo9(ops:Array Oper)(j:Nat):Option Nat:=(ops[j]?).bind (·.dst)
def zm4(P:Program)(tab:Nat->TI)(own:Bool)(ops:Array Oper)(o:Oper)(F:FrS)(out:Out):Prop:=
 match o.guard with
 |none=>Core P tab own o F out
 |some (j,want)=>∃t g out0,zo9 ops j=some t/\gval want (F.rd t)=some g/\(g=true->Core P tab own o F out0)/\out={d:=.when g out0.d,vc:=true,eff:=bif g then out0.eff else [],nw:=bif g then out0.nw else(0,0),met:=out0.met}
theorem zs0{C:Cx}{ops:Array Oper}{o:Oper}{j t:Nat}{want g:Bool}{d:D}(hg:o.guard=some (j,want))(ht:zo9 ops j=some t)(hlt:t<a.tmps.size)(hr:rep C d (a.eval (.tmp t)))(hv:gval want d=some g):
  Region.wanted o (yielded ops a.tmps)=g:=by
 have hy:∀b,a.eval (.tmp t)=.bool b->yielded ops a.tmps j=some b:=by
  intro b hb
  simp only[Act.eval,Array.getD,hlt,dite_true] at hb
  unfold zo9 at ht
  simp only[yielded,ht,za1,Array.getElem?_eq_getElem hlt]
  rw[show a.tmps[t]=Value.bool b from hb]
 unfold Region.wanted
 simp only[hg]
 cases d<;>simp only[gval,za5,reduceCtorEq] at hv
 rename_i b
 simp only[rep] at hr
 rw[hy b hr,<-hv]
 cases b<;>cases want<;>rfl
 rename_i c d
 simp only[rep] at hr
 cases c with
 |true=>
  cases d<;>simp only[Bool.true_and,za5,reduceCtorEq] at hv
  rename_i b
  have hb:=hr.1 rfl
  simp only[rep] at hb
  rw[hy b hb,<-hv]
  cases b<;>cases want<;>rfl
 |false=>
  have hg0:g=false:=by
   cases d<;>simp only[Bool.false_and,za5] at hv<;>exact hv.symm
  have hu:=hr.2 rfl
  have:yielded ops a.tmps j=none:=by
   simp only[Act.eval,Array.getD,hlt,dite_true] at hu
   unfold zo9 at ht
   simp only[yielded,ht,za1,Array.getElem?_eq_getElem hlt]
   rw[show a.tmps[t]=undef from hu]
   rfl
  rw[this,hg0]
  rfl
theorem zot(hT:zhz P tab){ops:Array Oper}{i:Nat}{o:Oper}{out:Out}(hi:ops[i]?=some o)(hok:opOk o.op=true)(hd:∀t,o.dst=some t->t<n)(hg:∀j w t,o.guard=some (j,w)->zo9 ops j=some t->t<n)
  (hR:Rel E n F a w g) (h:zm4 P tab own ops o F out) {K:Act->World->Prop} {Q:Exit->Act->World->Prop}
  (hK:∀v w' g',Rel E n (F.app o out) (a.put o.dst v) w' g'->K (a.put o.dst v) w'):wpOp P ops Q i K a w:=by
 unfold wpOp
 simp only[hi]
 unfold zm4 at h
 split at h
 rename_i hgd
 have:Region.wanted o (yielded ops a.tmps)=true:=by simp[Region.wanted,hgd]
 rw[this]
 simp only[if_true]
 exact .inl (zv0 hT hok hd hR h hK)
 rename_i j want hgd
 obtain⟨t,gb,out0,ht,hv,hcore,rfl⟩:=h
 have hlt:t<a.tmps.size:=Nat.lt_of_lt_of_le (hg j want t hgd ht) hR.sz
 rw[zs0 hgd ht hlt (hR.rd t) hv]
 cases gb with
 |true=>
  simp only[if_true]
  refine .inl (zv0 hT hok hd hR (hcore rfl) ?_)
  intro v w' g' hrel
  refine hK v w' g' ?_
  simp only[cond_true]
  refine⟨hrel.sz,hrel.df,fun t'=>?_,hrel.mem,hrel.base,hrel.keep,hrel.gz,hrel.gs,hrel.nu⟩
  have:=hrel.rd t'
  simp only[FrS.app,FrS.put,FrS.eff] at this ⊢
  cases hh:o.dst==some t'
  simpa[hh] using this
  simp only[hh,cond_true] at this ⊢
  simp only[rep]
  exact⟨fun _=>this,fun h=>by cases h⟩
 |false=>
  simp only[zb0,if_false]
  refine hK undef w g ?_
  simp only[FrS.app,cond_false,zml]
  exact Rel.put hR hd (by simp only[rep];exact⟨(fun h=>by cases h),fun _=>trivial⟩)
def zyq(n:Nat)(ops:Array Oper):Bool:=
 ops.toList.all fun o=>opOk o.op&&(match o.dst with|some t=>decide (t<n)|none=>true)&&(match o.guard with|some (j,_)=>(match zo9 ops j with|some t=>decide (t<n)|none=>true)|none=>true)
theorem zvr{ops:Array Oper}(h:zyq n ops=true){i:Nat}{o:Oper}(hi:ops[i]?=some o):opOk o.op=true/\(∀t,o.dst=some t->t<n)/\∀j w t,o.guard=some (j,w)->zo9 ops j=some t->t<n:=by
 have hm:o∈ops.toList:=by
  have:ops.toList[i]?=some o:=by simpa using hi
  exact List.mem_of_getElem? this
 have:=List.all_eq_true.1 h o hm
 simp only[za0] at this
 obtain⟨⟨h1,h2⟩,h3⟩:=this
 refine⟨h1,fun t ht=>?_,fun j w t hg ht=>?_⟩
 rw[ht] at h2;simpa using h2
 rw[hg] at h3;simp only[ht] at h3;simpa using h3
end
end Go.Tm
